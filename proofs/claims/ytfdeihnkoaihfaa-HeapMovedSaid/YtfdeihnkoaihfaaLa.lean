/- Heaps: what 'made' makes of numbers; Check, handed and Verify as plain laws. Conditions: none. -/
import Derived.Test.YtfdeihnkoaihfaaBb
import Derived.Test.YtfdeihnkoaihfaaLz
namespace Go.Xm
set_option linter.unusedVariables false
set_option linter.unusedSimpArgs false
set_option maxRecDepth 20000
def mk1 (d e : Int) (p : Int × Int) : Int × Int := (e + p.1 % d, e + min (d - 1) (p.1 % d + p.2 % 4))
def bytesP (ys : List (Int × Int)) : Prop := ∀ p ∈ ys, 0 ≤ p.1 ∧ p.1 ≤ 255 ∧ 0 ≤ p.2 ∧ p.2 ≤ 255
theorem mk1_eq {d e : Int} {p : Int × Int} (hp : 0 ≤ p.1 ∧ p.1 ≤ 255 ∧ 0 ≤ p.2 ∧ p.2 ≤ 255) (hd : 1 ≤ d ∧ d ≤ 24) (he : 0 ≤ e ∧ e ≤ 24) :
  (w64 (e + (Int.tmod (w64 p.1) d)), w64 (e + (iMin (w64 (d - 1)) (w64 ((Int.tmod (w64 p.1) d) + (Int.tmod (w64 p.2) 4)))))) = mk1 d e p := by
 rw [w64i (x := p.1) (by omega) (by omega), w64i (x := p.2) (by omega) (by omega), tme (by omega), tme (by omega), iMin_eq]
 have h1 := Int.emod_nonneg p.1 (show d ≠ 0 by omega)
 have h2 := Int.emod_lt_of_pos p.1 (show 0 < d by omega)
 have h3 : 0 ≤ p.2 % 4 ∧ p.2 % 4 < 4 := by omega
 rw [w64i (x := d - 1) (by omega) (by omega), w64i (x := p.1 % d + p.2 % 4) (by omega) (by omega), w64i (by omega) (by omega), w64i (by omega) (by omega)]
 rfl
theorem f41_1_eq (m : Nat) (d e : Int) (ys : List (Int × Int)) (hy : bytesP ys) (hl : ys.length ≤ 100) (hd : 1 ≤ d ∧ d ≤ 24) (he : 0 ≤ e ∧ e ≤ 24) (k : Nat) (hk : k ≤ ys.length) :
  ∀ (r i fuel : Nat) (acc : List (Int × Int)), i + r = k → r < fuel → acc.length = i → f41_1 m fuel d e k (k : Int) (i : Int) acc ys = some (acc ++ ((ys.drop i).take r).map (mk1 d e))
 | 0, i, fuel + 1, acc, hr, hf, ha => by
  rw [f41_1, dcF (p := (i : Int) < (k : Int)) (by omega)]
  simp
 | r + 1, i, fuel + 1, acc, hr, hf, ha => by
  have hi : i < ys.length := by omega
  have hg : List.getD ys (Int.toNat (i : Int)) (0, 0) = ys[i] := by simp [hi]
  rw [f41_1, dcT (p := (i : Int) < (k : Int)) (by omega), inR (show i < k by omega), dcT (p := Int.toNat (i : Int) < ys.length) (by simpa using hi), hg, mk1_eq (hy _ (List.getElem_mem hi)) hd he, nat_succ i (by omega), fitsI (by omega) (by omega)]
  have hd0 : (d != 0) = true := by simp; omega
  rw [hd0]
  show f41_1 m fuel d e k (k : Int) ((i + 1 : Nat) : Int) (acc ++ [mk1 d e ys[i]]) ys = _
  rw [f41_1_eq m d e ys hy hl hd he k hk r (i + 1) fuel _ (by omega) (by omega) (by simp [ha])]
  rw [List.drop_eq_getElem_cons hi, List.take_succ_cons, List.map_cons, List.append_assoc]
  rfl
def heapsOf (ys : List (Int × Int)) (b c d e : Int) : List (Int × Int) := (ys.take (Int.toNat (min (b % (c + 1)) 8))).map (mk1 d e)
theorem f41_eq (m : Nat) (hm : 10 ≤ m) (a0 b0 a1 b1 a2 b2 a3 b3 a4 b4 a5 b5 a6 b6 a7 b7 b c d e : Int) (hy : bytesP [(a0, b0), (a1, b1), (a2, b2), (a3, b3), (a4, b4), (a5, b5), (a6, b6), (a7, b7)]) (hb : 0 ≤ b ∧ b ≤ 1000) (hc : 0 ≤ c ∧ c ≤ 1000) (hd : 1 ≤ d ∧ d ≤ 24) (he : 0 ≤ e ∧ e ≤ 24) :
  f41 m a0 b0 a1 b1 a2 b2 a3 b3 a4 b4 a5 b5 a6 b6 a7 b7 b c d e = some (heapsOf [(a0, b0), (a1, b1), (a2, b2), (a3, b3), (a4, b4), (a5, b5), (a6, b6), (a7, b7)] b c d e) := by
 unfold f41
 have h1 := Int.emod_nonneg b (show c + 1 ≠ 0 by omega)
 rw [w64i (x := c + 1) (by omega) (by omega), tme hb.1, iMin_eq]
 have hc0 : (c + 1 != 0) = true := by simp; omega
 have hk : cutOK 0 (min (b % (c + 1)) 8) ((8 : Nat) : Int) 8 = true := cutOK_iff.2 ⟨by omega, by omega, by omega, by omega⟩
 have hl : Int.toNat (min (b % (c + 1)) 8) ≤ 8 := by omega
 rw [hc0, hk]
 show (f41_1 m m d e _ _ ((0 : Nat) : Int) [] _).bind _ = _
 rw [f41_1_eq m d e _ hy (by simp) hd he _ (by simpa using hl) (Int.toNat (min (b % (c + 1)) 8)) 0 m [] (by omega) (by omega) rfl]
 rfl
theorem heapsOf_len (ys : List (Int × Int)) (b c d e : Int) : (heapsOf ys b c d e).length ≤ 8 := by
 unfold heapsOf
 rw [List.length_map, List.length_take]
 omega
def okHeap (lo hi : Int) (p : Int × Int) : Prop := lo ≤ p.1 ∧ p.1 ≤ p.2 ∧ p.2 ≤ hi
theorem heapsOf_ok {ys : List (Int × Int)} (hy : bytesP ys) {b c d e : Int} (hd : 1 ≤ d) : ∀ p ∈ heapsOf ys b c d e, okHeap e (e + d - 1) p := by
 intro p hp
 unfold heapsOf at hp
 obtain ⟨q, q1, rfl⟩ := List.mem_map.1 hp
 have hq := hy q (List.mem_of_mem_take q1)
 have h1 := Int.emod_nonneg q.1 (show d ≠ 0 by omega)
 have h2 := Int.emod_lt_of_pos q.1 (show 0 < d by omega)
 have h3 : 0 ≤ q.2 % 4 := by omega
 unfold okHeap mk1
 refine ⟨?_, ?_, ?_⟩ <;> simp only <;> omega
theorem f23_1_fine (m : Nat) (l : List (Int × Int)) (hl : ∀ p ∈ l, okHeap 0 23 p) (h10 : l.length ≤ 1000) :
  ∀ (r i fuel : Nat), i + r = l.length → r < fuel → f23_1 m fuel l ((l.length : Nat) : Int) (i : Int) = some .x0
 | 0, i, fuel + 1, hr, hf => by
  rw [f23_1, dcF (p := (i : Int) < ((l.length : Nat) : Int)) (by omega)]
  rfl
 | r + 1, i, fuel + 1, hr, hf => by
  have hi : i < l.length := by omega
  have hg : List.getD l (Int.toNat (i : Int)) (0, 0) = l[i] := by simp [hi]
  obtain ⟨q1, q2, q3⟩ := hl _ (List.getElem_mem hi)
  rw [f23_1, dcT (p := (i : Int) < ((l.length : Nat) : Int)) (by omega), inR hi, hg, f64_eq, f64_eq, dcT (p := 0 ≤ (l[i]).1 ∧ (l[i]).1 ≤ 23) (by omega), dcT (p := 0 ≤ (l[i]).2 ∧ (l[i]).2 ≤ 23) (by omega), dcF (p := (l[i]).1 > (l[i]).2) (by omega), nat_succ i (by omega)]
  exact f23_1_fine m l hl h10 r (i + 1) fuel (by omega) (by omega)
theorem f23_ok0 (m : Nat) (hm : 11 ≤ m) (l : List (Int × Int)) (hl : ∀ p ∈ l, okHeap 0 23 p) (h10 : l.length ≤ 10) : f23 m l = some 0 := by
 unfold f23
 rw [dcF (p := ((l.length : Nat) : Int) > 10) (by omega)]
 show (f23_1 m m l _ ((0 : Nat) : Int)).bind _ = _
 rw [f23_1_fine m l hl (by omega) l.length 0 m (by omega) (by omega)]
 rfl
theorem f57_ok0 (m : Nat) (hm : 11 ≤ m) (l : List (Int × Int)) (hl : ∀ p ∈ l, okHeap 0 23 p) (h10 : l.length ≤ 10) (b : Int) (hb : 1 ≤ b ∧ b ≤ 10) : f57 m l b = some 0 := by
 unfold f57
 rw [f23_ok0 m hm l hl h10, f64_eq, dcT (p := 1 ≤ b ∧ b ≤ 10) hb]
 rfl
end Go.Xm
