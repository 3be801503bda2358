/- Heaps: what 'made' makes of numbers; Check, handed and Verify as plain laws. Conditions: none. -/
import Derived.Test.YtfdeihnkoaihfaaBb
import Derived.Test.YtfdeihnkoaihfaaLz
namespace Go.Xm
set_option linter.unusedVariables false
set_option linter.unusedSimpArgs false
set_option maxRecDepth 20000

/-- A heap out of two numbers. -/
def mk1 (d e : Int) (p : Int × Int) : Int × Int := (e + p.1 % d, e + min (d - 1) (p.1 % d + p.2 % 4))
def bytesP (ys : List (Int × Int)) : Prop := ∀ p ∈ ys, 0 ≤ p.1 ∧ p.1 ≤ 255 ∧ 0 ≤ p.2 ∧ p.2 ≤ 255

theorem mk1_eq {d e : Int} {p : Int × Int} (hp : 0 ≤ p.1 ∧ p.1 ≤ 255 ∧ 0 ≤ p.2 ∧ p.2 ≤ 255) (hd : 1 ≤ d ∧ d ≤ 24) (he : 0 ≤ e ∧ e ≤ 24) :
    (w64 (e + (Int.tmod (w64 p.1) d)), w64 (e + (iMin (w64 (d - 1)) (w64 ((Int.tmod (w64 p.1) d) + (Int.tmod (w64 p.2) 4)))))) = mk1 d e p := by
  rw [w64i (x := p.1) (by omega) (by omega), w64i (x := p.2) (by omega) (by omega), tme (by omega), tme (by omega), iMin_eq]
  have h1 := Int.emod_nonneg p.1 (show d ≠ 0 by omega)
  have h2 := Int.emod_lt_of_pos p.1 (show 0 < d by omega)
  have h3 : 0 ≤ p.2 % 4 ∧ p.2 % 4 < 4 := by omega
  rw [w64i (x := d - 1) (by omega) (by omega), w64i (x := p.1 % d + p.2 % 4) (by omega) (by omega), w64i (by omega) (by omega), w64i (by omega) (by omega)]
  rfl

theorem f41_1_eq (m : Nat) (d e : Int) (ys : List (Int × Int)) (hy : bytesP ys) (hl : ys.length ≤ 100) (hd : 1 ≤ d ∧ d ≤ 24) (he : 0 ≤ e ∧ e ≤ 24) (k : Nat) (hk : k ≤ ys.length) :
    ∀ (r i fuel : Nat) (acc : List (Int × Int)), i + r = k → r < fuel → acc.length = i → f41_1 m fuel d e k (k : Int) (i : Int) acc ys = some (acc ++ ((ys.drop i).take r).map (mk1 d e))
  | 0, i, fuel + 1, acc, hr, hf, ha => by
    rw [f41_1, dcF (p := (i : Int) < (k : Int)) (by omega)]
    simp
  | r + 1, i, fuel + 1, acc, hr, hf, ha => by
    have hi : i < ys.length := by omega
    have hg : List.getD ys (Int.toNat (i : Int)) (0, 0) = ys[i] := by simp [hi]
    rw [f41_1, dcT (p := (i : Int) < (k : Int)) (by omega), inR (show i < k by omega), dcT (p := Int.toNat (i : Int) < ys.length) (by simpa using hi), hg, mk1_eq (hy _ (List.getElem_mem hi)) hd he, nat_succ i (by omega), fitsI (by omega) (by omega)]
    have hd0 : (d != 0) = true := by simp; omega
    rw [hd0]
    show f41_1 m fuel d e k (k : Int) ((i + 1 : Nat) : Int) (acc ++ [mk1 d e ys[i]]) ys = _
    rw [f41_1_eq m d e ys hy hl hd he k hk r (i + 1) fuel _ (by omega) (by omega) (by simp [ha])]
    rw [List.drop_eq_getElem_cons hi, List.take_succ_cons, List.map_cons, List.append_assoc]
    rfl

/-- The heaps that 'made' makes. -/
def heapsOf (ys : List (Int × Int)) (b c d e : Int) : List (Int × Int) := (ys.take (Int.toNat (min (b % (c + 1)) 8))).map (mk1 d e)

theorem f41_eq (m : Nat) (hm : 10 ≤ m) (a0 b0 a1 b1 a2 b2 a3 b3 a4 b4 a5 b5 a6 b6 a7 b7 b c d e : Int) (hy : bytesP [(a0, b0), (a1, b1), (a2, b2), (a3, b3), (a4, b4), (a5, b5), (a6, b6), (a7, b7)]) (hb : 0 ≤ b ∧ b ≤ 1000) (hc : 0 ≤ c ∧ c ≤ 1000) (hd : 1 ≤ d ∧ d ≤ 24) (he : 0 ≤ e ∧ e ≤ 24) :
    f41 m a0 b0 a1 b1 a2 b2 a3 b3 a4 b4 a5 b5 a6 b6 a7 b7 b c d e = some (heapsOf [(a0, b0), (a1, b1), (a2, b2), (a3, b3), (a4, b4), (a5, b5), (a6, b6), (a7, b7)] b c d e) := by
  unfold f41
  have h1 := Int.emod_nonneg b (show c + 1 ≠ 0 by omega)
  rw [w64i (x := c + 1) (by omega) (by omega), tme hb.1, iMin_eq]
  have hc0 : (c + 1 != 0) = true := by simp; omega
  have hk : cutOK 0 (min (b % (c + 1)) 8) ((8 : Nat) : Int) 8 = true := cutOK_iff.2 ⟨by omega, by omega, by omega, by omega⟩
  have hl : Int.toNat (min (b % (c + 1)) 8) ≤ 8 := by omega
  rw [hc0, hk]
  show (f41_1 m m d e _ _ ((0 : Nat) : Int) [] _).bind _ = _
  rw [f41_1_eq m d e _ hy (by simp) hd he _ (by simpa using hl) (Int.toNat (min (b % (c + 1)) 8)) 0 m [] (by omega) (by omega) rfl]
  rfl

theorem heapsOf_len (ys : List (Int × Int)) (b c d e : Int) : (heapsOf ys b c d e).length ≤ 8 := by
  unfold heapsOf
  rw [List.length_map, List.length_take]
  omega

/-- A heap within these hours. -/
def okHeap (lo hi : Int) (p : Int × Int) : Prop := lo ≤ p.1 ∧ p.1 ≤ p.2 ∧ p.2 ≤ hi

theorem heapsOf_ok {ys : List (Int × Int)} (hy : bytesP ys) {b c d e : Int} (hd : 1 ≤ d) : ∀ p ∈ heapsOf ys b c d e, okHeap e (e + d - 1) p := by
  intro p hp
  unfold heapsOf at hp
  obtain ⟨q, q1, rfl⟩ := List.mem_map.1 hp
  have hq := hy q (List.mem_of_mem_take q1)
  have h1 := Int.emod_nonneg q.1 (show d ≠ 0 by omega)
  have h2 := Int.emod_lt_of_pos q.1 (show 0 < d by omega)
  have h3 : 0 ≤ q.2 % 4 := by omega
  unfold okHeap mk1
  refine ⟨?_, ?_, ?_⟩ <;> simp only <;> omega

theorem f23_1_fine (m : Nat) (l : List (Int × Int)) (hl : ∀ p ∈ l, okHeap 0 23 p) (h10 : l.length ≤ 1000) :
    ∀ (r i fuel : Nat), i + r = l.length → r < fuel → f23_1 m fuel l ((l.length : Nat) : Int) (i : Int) = some .x0
  | 0, i, fuel + 1, hr, hf => by
    rw [f23_1, dcF (p := (i : Int) < ((l.length : Nat) : Int)) (by omega)]
    rfl
  | r + 1, i, fuel + 1, hr, hf => by
    have hi : i < l.length := by omega
    have hg : List.getD l (Int.toNat (i : Int)) (0, 0) = l[i] := by simp [hi]
    obtain ⟨q1, q2, q3⟩ := hl _ (List.getElem_mem hi)
    rw [f23_1, dcT (p := (i : Int) < ((l.length : Nat) : Int)) (by omega), inR hi, hg, f64_eq, f64_eq, dcT (p := 0 ≤ (l[i]).1 ∧ (l[i]).1 ≤ 23) (by omega), dcT (p := 0 ≤ (l[i]).2 ∧ (l[i]).2 ≤ 23) (by omega), dcF (p := (l[i]).1 > (l[i]).2) (by omega), nat_succ i (by omega)]
    exact f23_1_fine m l hl h10 r (i + 1) fuel (by omega) (by omega)

theorem f23_ok0 (m : Nat) (hm : 11 ≤ m) (l : List (Int × Int)) (hl : ∀ p ∈ l, okHeap 0 23 p) (h10 : l.length ≤ 10) : f23 m l = some 0 := by
  unfold f23
  rw [dcF (p := ((l.length : Nat) : Int) > 10) (by omega)]
  show (f23_1 m m l _ ((0 : Nat) : Int)).bind _ = _
  rw [f23_1_fine m l hl (by omega) l.length 0 m (by omega) (by omega)]
  rfl

theorem f57_ok0 (m : Nat) (hm : 11 ≤ m) (l : List (Int × Int)) (hl : ∀ p ∈ l, okHeap 0 23 p) (h10 : l.length ≤ 10) (b : Int) (hb : 1 ≤ b ∧ b ≤ 10) : f57 m l b = some 0 := by
  unfold f57
  rw [f23_ok0 m hm l hl h10, f64_eq, dcT (p := 1 ≤ b ∧ b ≤ 10) hb]
  rfl

/-! ### Verify -/
/-- What Verify says of heaps and hours, where these hours came before. -/
def ver (k : Int) : List (Int × Int) → List Int → List Int → Int
  | h :: l, x :: p, prev => if h.1 ≤ x ∧ x ≤ h.2 then (if ((prev.count x : Nat) : Int) ≥ k then 15 else ver k l p (prev ++ [x])) else 1
  | _, _, _ => 0

theorem ver_append (k : Int) (h : Int × Int) (x : Int) : ∀ (l : List (Int × Int)) (p prev : List Int), l.length = p.length →
    ver k (l ++ [h]) (p ++ [x]) prev = if ver k l p prev = 0 then (if h.1 ≤ x ∧ x ≤ h.2 then (if (((prev ++ p).count x : Nat) : Int) ≥ k then 15 else 0) else 1) else ver k l p prev
  | [], [], prev, _ => by simp [ver]
  | [], _ :: _, _, hl => by cases hl
  | _ :: _, [], _, hl => by cases hl
  | g :: l, y :: p, prev, hl => by
    have ih := ver_append k h x l p (prev ++ [y]) (by simpa using hl)
    simp only [List.cons_append, ver]
    split
    · split
      · simp
      · rw [ih]
        simp only [List.append_assoc, List.singleton_append]
    · simp

theorem getD_set_eq {l : List Int} {i : Nat} (hi : i < l.length) (v : Int) (j : Nat) : List.getD (List.set l i v) j 0 = if i = j then v else List.getD l j 0 := by
  simp only [List.getD_eq_getElem?_getD, List.getElem?_set]
  by_cases h : i = j
  · subst h; simp [hi]
  · simp [h]

def verR (v : Int) : Of21_1 := if v = 0 then .x1 else .r v

theorem f21_1_eq (m : Nat) (a : List (Int × Int)) (b : Int) (c : List Int) (ha : ∀ p ∈ a, okHeap 0 23 p) (hc : c.length = a.length) (h10 : c.length ≤ 1000) :
    ∀ (r i fuel : Nat) (busy : List Int), i + r = c.length → r < fuel → busy.length = 24 → (∀ y : Nat, y < 24 → List.getD busy y 0 = (((c.take i).count (y : Int) : Nat) : Int)) →
      f21_1 m fuel a b c ((c.length : Nat) : Int) (i : Int) busy = some (verR (ver b (a.drop i) (c.drop i) (c.take i)))
  | 0, i, fuel + 1, busy, hr, hf, hb, hbu => by
    rw [f21_1, dcF (p := (i : Int) < ((c.length : Nat) : Int)) (by omega)]
    rw [List.drop_eq_nil_of_le (show c.length ≤ i by omega)]
    cases a.drop i <;> rfl
  | r + 1, i, fuel + 1, busy, hr, hf, hb, hbu => by
    have hi : i < c.length := by omega
    have hia : i < a.length := by omega
    have hg : List.getD a (Int.toNat (i : Int)) (0, 0) = a[i] := by simp [hia]
    have hgc : List.getD c (Int.toNat (i : Int)) 0 = c[i] := by simp [hi]
    obtain ⟨q1, q2, q3⟩ := ha _ (List.getElem_mem hia)
    rw [f21_1, dcT (p := (i : Int) < ((c.length : Nat) : Int)) (by omega), inR hi, inR hia, hg, hgc, f64_eq, List.drop_eq_getElem_cons hi, List.drop_eq_getElem_cons hia]
    simp only [ver]
    by_cases hin : (a[i]).1 ≤ c[i] ∧ c[i] ≤ (a[i]).2
    · rw [dcT hin, if_pos hin]
      obtain ⟨y, hy⟩ : ∃ y : Nat, c[i] = (y : Int) := ⟨(c[i]).toNat, by omega⟩
      have hy24 : y < 24 := by omega
      rw [hy, inR hy24]
      have hbl : y < busy.length := by omega
      have hcnt : (c.take i).count (y : Int) ≤ 1000 := by have := List.count_le_length (a := (y : Int)) (l := c.take i); rw [List.length_take] at this; omega
      have hw : w64 (List.getD busy y 0 + 1) = (((c.take i).count (y : Int) : Nat) : Int) + 1 := by rw [hbu y hy24, w64i (by omega) (by omega)]
      simp only [Int.toNat_natCast, hw, getD_set_eq hbl, if_true, dcT hbl]
      have htk : c.take (i + 1) = c.take i ++ [(y : Int)] := by rw [List.take_succ_eq_append_getElem hi, hy]
      by_cases hk : (((c.take i).count (y : Int) : Nat) : Int) ≥ b
      · have hk' : (((c.take i).count (y : Int) : Nat) : Int) + 1 > b := by omega
        simp only [dcT hk', if_pos hk]
        rfl
      · have hk' : ¬ (((c.take i).count (y : Int) : Nat) : Int) + 1 > b := by omega
        simp only [dcF hk', if_neg hk, nat_succ i (show i ≤ 1000000 by omega)]
        show f21_1 m fuel a b c _ ((i + 1 : Nat) : Int) _ = _
        rw [f21_1_eq m a b c ha hc h10 r (i + 1) fuel _ (by omega) (by omega) (by simp [hb]) ?_, htk]
        intro z hz
        rw [getD_set_eq hbl, htk, List.count_append]
        by_cases e : y = z
        · subst e; rw [if_pos rfl]; simp
        · rw [if_neg e, hbu z hz]
          have : List.count (z : Int) [(y : Int)] = 0 := List.count_eq_zero.2 (by simp; omega)
          rw [this]; simp
    · rw [dcF hin, if_neg hin]
      rfl

theorem ver_ne (k : Int) : ∀ (l : List (Int × Int)) (p prev : List Int), ver k l p prev = 0 ∨ ver k l p prev = 1 ∨ ver k l p prev = 15
  | [], p, prev => .inl (by cases p <;> rfl)
  | _ :: _, [], prev => .inl rfl
  | h :: l, x :: p, prev => by
    simp only [ver]
    split
    · split
      · exact .inr (.inr rfl)
      · exact ver_ne k l p _
    · exact .inr (.inl rfl)

theorem f21_eq (m : Nat) (hm : 12 ≤ m) (a : List (Int × Int)) (b : Int) (c : List Int) (ha : ∀ p ∈ a, okHeap 0 23 p) (h10 : a.length ≤ 10) (hb : 1 ≤ b ∧ b ≤ 10) :
    f21 m a b c = some (if c.length = a.length then ver b a c [] else 5) := by
  unfold f21
  rw [f57_ok0 m (by omega) a ha h10 b hb]
  by_cases hc : c.length = a.length
  · have e : (((c.length : Nat) : Int) != ((a.length : Nat) : Int)) = false := by simp; omega
    rw [e, if_pos hc]
    show (f21_1 m m a b c _ ((0 : Nat) : Int) _).bind _ = _
    rw [f21_1_eq m a b c ha hc (by omega) c.length 0 m _ (by omega) (by omega) rfl ?_]
    · simp only [List.drop_zero, List.take_zero]
      unfold verR
      split
      · rename_i h; rw [h]; rfl
      · rfl
    · intro y hy
      have : List.getD [(0 : Int), 0, 0, 0, 0, 0, 0, 0, 0, 0, 0, 0, 0, 0, 0, 0, 0, 0, 0, 0, 0, 0, 0, 0] y 0 = 0 := by
        have : ∀ y : Fin 24, List.getD [(0 : Int), 0, 0, 0, 0, 0, 0, 0, 0, 0, 0, 0, 0, 0, 0, 0, 0, 0, 0, 0, 0, 0, 0, 0] y.val 0 = 0 := by decide
        exact this ⟨y, hy⟩
      rw [this]
      simp
  · have e : (((c.length : Nat) : Int) != ((a.length : Nat) : Int)) = true := by simp; omega
    rw [e, if_neg hc]
    rfl
end Go.Xm
