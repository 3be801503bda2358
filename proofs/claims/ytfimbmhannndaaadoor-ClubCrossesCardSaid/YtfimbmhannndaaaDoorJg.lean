/- The room that club opens: a bit for each two at a table. Plain Lean. Conditions: none. -/
import Derived.Test.YtfimbmhannndaaaDoorJa
import Derived.Test.YtfimbmhannndaaaDoorCd
namespace Go.Xm
set_option linter.unusedVariables false
set_option linter.unusedSimpArgs false
set_option maxRecDepth 20000

theorem tabX : ((List.range 256).all fun x => (List.range 8).all fun b => (xorV .u64 (x : Int) (shV true .u64 1 (b : Int)) == ((x ^^^ 2 ^ b : Nat) : Int)) && (((andV .u64 (shV false .u64 (x : Int) (b : Int)) 1 == 1) == x.testBit b) && Nat.ble (x ^^^ 2 ^ b) 255)) = true := by kernel_rfl

theorem tabX_ok {x b : Nat} (hx : x < 256) (hb : b < 8) : xorV .u64 (x : Int) (shV true .u64 1 (b : Int)) = ((x ^^^ 2 ^ b : Nat) : Int) ∧ (andV .u64 (shV false .u64 (x : Int) (b : Int)) 1 == 1) = x.testBit b ∧ x ^^^ 2 ^ b < 256 := by
  have h := List.all_eq_true.1 (List.all_eq_true.1 tabX x (List.mem_range.2 hx)) b (List.mem_range.2 hb)
  rw [Bool.and_eq_true, Bool.and_eq_true, Nat.ble_eq] at h
  exact ⟨eq_of_beq h.1, eq_of_beq h.2.1, by have := h.2.2; omega⟩

def flip (r : List Nat) (a b : Nat) : List Nat := r.set a (r.getD a 0 ^^^ 2 ^ b)

theorem getD_toI (r : List Nat) (a : Nat) : List.getD (toI r) a 0 = ((r.getD a 0 : Nat) : Int) := by
  unfold toI
  rw [List.getD_eq_getElem?_getD, List.getD_eq_getElem?_getD, List.getElem?_map]
  cases r[a]? <;> rfl
theorem getD_lt {r : List Nat} (h : ∀ x ∈ r, x < 256) (a : Nat) : r.getD a 0 < 256 := by
  rw [List.getD_eq_getElem?_getD]
  cases e : r[a]? with
  | none => show 0 < 256; omega
  | some x => exact h x (List.mem_of_getElem? e)

theorem set_flip {r : List Nat} (h : ∀ x ∈ r, x < 256) {a b : Nat} (hb : b < 8) : List.set (toI r) a (xorV .u64 (List.getD (toI r) a 0) (shV true .u64 1 (b : Int))) = toI (flip r a b) := by
  rw [getD_toI, (tabX_ok (getD_lt h a) hb).1]
  unfold flip toI
  rw [List.map_set]; rfl

theorem flip_len (r : List Nat) (a b : Nat) : (flip r a b).length = r.length := List.length_set ..
theorem flip_lt {r : List Nat} (h : ∀ x ∈ r, x < 256) {a b : Nat} (hb : b < 8) : ∀ x ∈ flip r a b, x < 256 := by
  intro x hx
  rcases List.mem_or_eq_of_mem_set hx with q | q
  · exact h x q
  · rw [q]; exact (tabX_ok (getD_lt h a) hb).2.2
theorem flip_get {r : List Nat} {a : Nat} (ha : a < r.length) (b k : Nat) : (flip r a b).getD k 0 = if k = a then r.getD a 0 ^^^ 2 ^ b else r.getD k 0 := by
  unfold flip
  by_cases h : k = a
  · subst h
    rw [if_pos rfl]
    generalize r.getD k 0 ^^^ 2 ^ b = v
    rw [List.getD_eq_getElem?_getD, List.getElem?_set_self ha]; rfl
  · rw [if_neg h]
    generalize r.getD a 0 ^^^ 2 ^ b = v
    rw [List.getD_eq_getElem?_getD, List.getD_eq_getElem?_getD, List.getElem?_set_ne (Ne.symm h)]

structure Room (n : Nat) (r : List Nat) (P : List (Int × Int)) : Prop where
  len : r.length = n
  lt : ∀ x ∈ r, x < 256
  bit : ∀ a, a < n → ∀ b : Nat, (r.getD a 0).testBit b = hasB (a : Int) (b : Int) P

theorem beqN (a b : Nat) : ((a : Int) == (b : Int)) = decide (a = b) := by
  by_cases h : a = b
  · subst h; simp
  · rw [beq_eq_false_iff_ne.2 (by omega), dcF h]

theorem Room.add {n : Nat} (h8 : n ≤ 8) {r : List Nat} {P : List (Int × Int)} (R : Room n r P) {a b : Nat} (ha : a < n) (hb : b < n) (hab : a ≠ b) (hh : hasB (a : Int) (b : Int) P = false) : Room n (flip (flip r a b) b a) (P ++ [((a : Int), (b : Int))]) := by
  have l1 : a < r.length := by rw [R.len]; exact ha
  have l2 : b < (flip r a b).length := by rw [flip_len, R.len]; exact hb
  refine ⟨by rw [flip_len, flip_len]; exact R.len, flip_lt (flip_lt R.lt (by omega)) (by omega), fun k hk j => ?_⟩
  rw [flip_get l2, flip_get l1, flip_get l1, hasB_append]
  have e : hasB (k : Int) (j : Int) [((a : Int), (b : Int))] = ((decide (a = k) && decide (b = j)) || (decide (a = j) && decide (b = k))) := by
    show (((a : Int) == (k : Int) && (b : Int) == (j : Int)) || (((a : Int) == (j : Int) && (b : Int) == (k : Int)) || false)) = _
    rw [beqN, beqN, beqN, beqN, Bool.or_false]
  rw [e]
  by_cases hkb : k = b
  · subst hkb
    rw [if_pos rfl, if_neg (Ne.symm hab), Nat.testBit_xor, R.bit k hk j, Nat.testBit_two_pow]
    by_cases hj : a = j
    · subst hj
      rw [hasB_comm, hh]; simp [hab]
    · simp [hj, hab]
  · rw [if_neg hkb]
    by_cases hka : k = a
    · subst hka
      rw [if_pos rfl, Nat.testBit_xor, R.bit k hk j, Nat.testBit_two_pow]
      by_cases hj : b = j
      · subst hj
        rw [hh]; simp
      · simp [hj, Ne.symm hkb]
    · rw [if_neg hka, R.bit k hk j]
      simp [Ne.symm hkb, Ne.symm hka]

end Go.Xm
namespace Go.Xm
set_option linter.unusedVariables false
set_option linter.unusedSimpArgs false
set_option maxRecDepth 20000

theorem f74_1_eq (m : Nat) (n : Nat) (h1 : 1 ≤ n) (h8 : n ≤ 8) (T : List (Int × Int)) (hl : T.length ≤ 1000) : ∀ (R P : List (Int × Int)) (r : List Nat) (fuel : Nat), T = P ++ R → R.length < fuel → Room n r P →
    (ckT (n : Int) P R ≠ 0 ∧ f74_1 m fuel (n : Int) T ((T.length : Nat) : Int) ((P.length : Nat) : Int) (toI r) = some (.r (ckT (n : Int) P R))) ∨
    (ckT (n : Int) P R = 0 ∧ ∃ r', Room n r' T ∧ f74_1 m fuel (n : Int) T ((T.length : Nat) : Int) ((P.length : Nat) : Int) (toI r) = some (.x1 (toI r')))
  | [], P, r, fuel + 1, hT, _, hR => by
    refine .inr ⟨rfl, r, ?_, ?_⟩
    · rw [hT, List.append_nil]; exact hR
    · rw [f74_1, dcF (p := ((P.length : Nat) : Int) < ((T.length : Nat) : Int)) (by rw [hT]; simp)]
      rfl
  | t :: R, P, r, fuel + 1, hT, hf, hR => by
    have hlen : T.length = P.length + R.length + 1 := by rw [hT]; simp; omega
    have hg : List.getD T (Int.toNat ((P.length : Nat) : Int)) (0, 0) = t := by rw [hT]; exact getD_mid _ _ _ _ rfl
    have ec : ckT (n : Int) P (t :: R) = if ¬ (0 ≤ t.1 ∧ t.1 ≤ (n : Int) - 1) then 2 else if ¬ (0 ≤ t.2 ∧ t.2 ≤ (n : Int) - 1) then 2 else if t.1 = t.2 then 13 else if hasB t.1 t.2 P = true then 6 else ckT (n : Int) (P ++ [t]) R := rfl
    have e1 : (((P ++ [t]).length : Nat) : Int) = ((P.length + 1 : Nat) : Int) := by simp
    rw [f74_1, dcT (p := ((P.length : Nat) : Int) < ((T.length : Nat) : Int)) (by omega), inR (show P.length < T.length by omega), hg, in65, in65, nat_succ _ (by omega), w64i (by omega) (by omega), ec]
    by_cases c1 : 0 ≤ t.1 ∧ t.1 ≤ (n : Int) - 1
    · rw [if_neg (by simp [c1]), dcT c1]
      by_cases c2 : 0 ≤ t.2 ∧ t.2 ≤ (n : Int) - 1
      · rw [if_neg (by simp [c2]), dcT c2]
        obtain ⟨a, b, rfl⟩ : ∃ a b : Nat, t = ((a : Int), (b : Int)) := ⟨t.1.toNat, t.2.toNat, by
          obtain ⟨x, y⟩ := t
          have c1 : 0 ≤ x ∧ x ≤ (n : Int) - 1 := c1
          have c2 : 0 ≤ y ∧ y ≤ (n : Int) - 1 := c2
          show (x, y) = (((x.toNat : Nat) : Int), ((y.toNat : Nat) : Int))
          rw [Int.toNat_of_nonneg c1.1, Int.toNat_of_nonneg c2.1]⟩
        have c1 : 0 ≤ (a : Int) ∧ (a : Int) ≤ (n : Int) - 1 := c1
        have c2 : 0 ≤ (b : Int) ∧ (b : Int) ≤ (n : Int) - 1 := c2
        have ha : a < n := by omega
        have hb : b < n := by omega
        by_cases c3 : a = b
        · have c3' : ((a : Int) == (b : Int)) = true := by rw [beqN, dcT c3]
          rw [if_pos (show (a : Int) = (b : Int) by omega)]
          refine .inl ⟨by omega, ?_⟩
          show cond ((a : Int) == (b : Int)) _ _ = _
          rw [c3']; rfl
        · have c3' : ((a : Int) == (b : Int)) = false := by rw [beqN, dcF c3]
          rw [if_neg (show ¬ (a : Int) = (b : Int) by omega)]
          have hlr : (toI r).length = n := by rw [toI_len]; exact hR.len
          have hbit : (andV .u64 (shV false .u64 (List.getD (toI r) a 0) (b : Int)) 1 == 1) = hasB (a : Int) (b : Int) P := by
            rw [getD_toI, (tabX_ok (getD_lt hR.lt a) (show b < 8 by omega)).2.1, hR.bit a ha b]
          have hset : List.set (List.set (toI r) a (xorV .u64 (List.getD (toI r) a 0) (shV true .u64 1 (b : Int)))) b (xorV .u64 (List.getD (List.set (toI r) a (xorV .u64 (List.getD (toI r) a 0) (shV true .u64 1 (b : Int)))) b 0) (shV true .u64 1 (a : Int))) = toI (flip (flip r a b) b a) := by
            rw [set_flip hR.lt (show b < 8 by omega), set_flip (flip_lt hR.lt (show b < 8 by omega)) (show a < 8 by omega)]
          cases c4 : hasB (a : Int) (b : Int) P with
          | true =>
            rw [c4] at hbit
            rw [if_pos rfl]
            refine .inl ⟨by omega, ?_⟩
            show cond ((a : Int) == (b : Int)) _ (cond (inRow (a : Int) (toI r).length) (cond (decide (0 ≤ (b : Int))) (cond (andV .u64 (shV false .u64 (List.getD (toI r) a 0) (b : Int)) 1 == 1) _ _) _) _) = _
            rw [c3', hlr, inR ha, dcT c2.1, hbit]; rfl
          | false =>
            rw [c4] at hbit
            rw [if_neg (by simp)]
            have ih := f74_1_eq m n h1 h8 T hl R (P ++ [((a : Int), (b : Int))]) (flip (flip r a b) b a) fuel (by rw [hT]; simp) (by simp at hf; omega) (hR.add h8 ha hb c3 c4)
            rw [e1] at ih
            have step : (cond ((a : Int) == (b : Int)) (some (Of74_1.r 13)) (cond (inRow (a : Int) (toI r).length) (cond (decide (0 ≤ (b : Int))) (cond (andV .u64 (shV false .u64 (List.getD (toI r) a 0) (b : Int)) 1 == 1) (some (Of74_1.r 6)) (cond (inRow (b : Int) (toI r).length) (cond (decide (0 ≤ (a : Int))) (f74_1 m fuel (n : Int) T ((T.length : Nat) : Int) ((P.length + 1 : Nat) : Int) (List.set (List.set (toI r) a (xorV .u64 (List.getD (toI r) a 0) (shV true .u64 1 (b : Int)))) b (xorV .u64 (List.getD (List.set (toI r) a (xorV .u64 (List.getD (toI r) a 0) (shV true .u64 1 (b : Int)))) b 0) (shV true .u64 1 (a : Int))))) none) none)) none) none))
                = f74_1 m fuel (n : Int) T ((T.length : Nat) : Int) ((P.length + 1 : Nat) : Int) (toI (flip (flip r a b) b a)) := by
              rw [hset, c3', hlr, inR ha, inR hb, dcT c2.1, dcT c1.1, hbit]; rfl
            rcases ih with ⟨q1, q2⟩ | ⟨q1, r', q2, q3⟩
            · exact .inl ⟨q1, by rw [← q2]; exact step⟩
            · exact .inr ⟨q1, r', q2, by rw [← q3]; exact step⟩
      · rw [if_pos c2, dcF c2]
        exact .inl ⟨by omega, rfl⟩
    · rw [if_pos c1, dcF c1]
      exact .inl ⟨by omega, rfl⟩

theorem room0 (n : Nat) : Room n (List.replicate n 0) [] := by
  refine ⟨List.length_replicate, fun x hx => ?_, fun a ha b => ?_⟩
  · rw [(List.mem_replicate.1 hx).2]; omega
  · have e : (List.replicate n 0).getD a 0 = 0 := by
      rw [List.getD_eq_getElem?_getD, List.getElem?_replicate]; split <;> rfl
    rw [e, Nat.zero_testBit]; rfl

/-- The room of a plan, or its error. -/
theorem f74_eq (m : Nat) (hm : 1001 ≤ m) (n : Int) (T : List (Int × Int)) (hl : T.length ≤ 1000) :
    (cpR n T ≠ 0 ∧ f74 m n T = some ([], cpR n T)) ∨ (cpR n T = 0 ∧ ∃ (k : Nat) (r : List Nat), n = (k : Int) ∧ 1 ≤ k ∧ k ≤ 8 ∧ Room k r T ∧ f74 m n T = some (toI r, 0)) := by
  unfold f74 cpR
  rw [in65]
  by_cases hn : 1 ≤ n ∧ n ≤ 8
  · rw [dcT hn, if_neg (by simp [hn])]
    by_cases h28 : 28 < T.length
    · rw [dcT (p := ((T.length : Nat) : Int) > 28) (by omega), if_pos h28]
      exact .inl ⟨by omega, rfl⟩
    · rw [dcF (p := ((T.length : Nat) : Int) > 28) (by omega), if_neg h28]
      obtain ⟨k, rfl⟩ : ∃ k : Nat, n = (k : Int) := ⟨n.toNat, by omega⟩
      have hmk : mkOK (k : Int) (k : Int) 8 = true := by
        have : k = 1 ∨ k = 2 ∨ k = 3 ∨ k = 4 ∨ k = 5 ∨ k = 6 ∨ k = 7 ∨ k = 8 := by omega
        rcases this with rfl | rfl | rfl | rfl | rfl | rfl | rfl | rfl <;> rfl
      have h := f74_1_eq m k (by omega) (by omega) T hl T [] (List.replicate k 0) m rfl (by omega) (room0 k)
      have er : toI (List.replicate k 0) = List.replicate (Int.toNat (k : Int)) (0 : Int) := by unfold toI; rw [List.map_replicate]; rfl
      rw [er] at h
      rw [hmk]
      rcases h with ⟨q1, q2⟩ | ⟨q1, r, q2, q3⟩
      · refine .inl ⟨q1, ?_⟩
        have q2' : f74_1 m m (k : Int) T ((T.length : Nat) : Int) 0 (List.replicate (Int.toNat (k : Int)) 0) = _ := q2
        show ((f74_1 m m (k : Int) T ((T.length : Nat) : Int) 0 (List.replicate (Int.toNat (k : Int)) 0)).bind _) = _
        rw [q2']; rfl
      · refine .inr ⟨q1, k, r, rfl, by omega, by omega, q2, ?_⟩
        have q3' : f74_1 m m (k : Int) T ((T.length : Nat) : Int) 0 (List.replicate (Int.toNat (k : Int)) 0) = _ := q3
        show ((f74_1 m m (k : Int) T ((T.length : Nat) : Int) 0 (List.replicate (Int.toNat (k : Int)) 0)).bind _) = _
        rw [q3']; rfl
  · rw [dcF hn, if_pos hn]
    exact .inl ⟨by omega, rfl⟩

end Go.Xm
namespace Go.Xm
set_option linter.unusedVariables false
set_option linter.unusedSimpArgs false
set_option maxRecDepth 20000

def rowP (p : Nat → Nat → Bool) (x : Nat) : Nat → Nat → List (Int × Int)
  | 0, _ => []
  | r + 1, y => (match p x y with | true => [((x : Int), (y : Int))] | false => []) ++ rowP p x r (y + 1)
def allP (p : Nat → Nat → Bool) (k : Nat) : Nat → Nat → List (Int × Int)
  | 0, _ => []
  | r + 1, x => rowP p x (k - (x + 1)) (x + 1) ++ allP p k r (x + 1)

theorem rowP_len (p : Nat → Nat → Bool) (x : Nat) : ∀ r y, (rowP p x r y).length ≤ r
  | 0, _ => Nat.le_refl _
  | r + 1, y => by
    have ih := rowP_len p x r (y + 1)
    unfold rowP
    rw [List.length_append]
    cases p x y with
    | true => show 1 + _ ≤ _; omega
    | false => show 0 + _ ≤ _; omega

theorem rowP_congr {p q : Nat → Nat → Bool} {x k : Nat} (h : ∀ y, x < y → y < k → p x y = q x y) : ∀ r y, x < y → y + r ≤ k → rowP p x r y = rowP q x r y
  | 0, _, _, _ => rfl
  | r + 1, y, h1, h2 => by
    unfold rowP
    rw [h y h1 (by omega), rowP_congr h r (y + 1) (by omega) (by omega)]
theorem allP_congr {p q : Nat → Nat → Bool} {k : Nat} (h : ∀ x y, x < y → y < k → p x y = q x y) : ∀ r x, x + r ≤ k → allP p k r x = allP q k r x
  | 0, _, _ => rfl
  | r + 1, x, h1 => by
    unfold allP
    rw [rowP_congr (h x) (k - (x + 1)) (x + 1) (by omega) (by omega), allP_congr h r (x + 1) (by omega)]

def bitP (r : List Nat) (x y : Nat) : Bool := (r.getD x 0).testBit y

theorem f78_2_eq (m : Nat) (rr : List Nat) (h8 : rr.length ≤ 8) (hlt : ∀ x ∈ rr, x < 256) (A B : Int) (x : Nat) (hx : x < rr.length) : ∀ (r y fuel : Nat) (lh : List (Int × Int)), y + r = rr.length → r < fuel → lh.length + r ≤ 200 →
    f78_2 m fuel (toI rr) A (x : Int) B (y : Int) lh = some (lh ++ rowP (bitP rr) x r y)
  | 0, y, fuel + 1, lh, hy, _, _ => by
    rw [f78_2, dcF (p := (y : Int) < (((toI rr).length : Nat) : Int)) (by rw [toI_len]; omega)]
    unfold rowP
    rw [List.append_nil]; rfl
  | r + 1, y, fuel + 1, lh, hy, hf, hb => by
    have ih := fun lh' h' => f78_2_eq m rr h8 hlt A B x hx r (y + 1) fuel lh' (by omega) (by omega) h'
    have hbit : (andV .u64 (shV false .u64 (List.getD (toI rr) (Int.toNat (x : Int)) 0) (y : Int)) 1 == 1) = bitP rr x y := by
      show (andV .u64 (shV false .u64 (List.getD (toI rr) x 0) (y : Int)) 1 == 1) = _
      rw [getD_toI]
      exact (tabX_ok (getD_lt hlt x) (show y < 8 by omega)).2.1
    rw [f78_2, dcT (p := (y : Int) < (((toI rr).length : Nat) : Int)) (by rw [toI_len]; omega), toI_len, inR hx, dcT (p := 0 ≤ (y : Int)) (by omega), hbit, nat_succ _ (by omega), fitsI (show lh.length + 1 ≤ 1000 by omega) (by omega)]
    unfold rowP
    cases bitP rr x y with
    | true =>
      have h := ih (lh ++ [((x : Int), (y : Int))]) (by simp; omega)
      rw [List.append_assoc] at h
      exact h
    | false => exact ih lh (by omega)

theorem f78_1_eq (m : Nat) (hm : 1001 ≤ m) (rr : List Nat) (h8 : rr.length ≤ 8) (hlt : ∀ x ∈ rr, x < 256) (B : Int) : ∀ (r x fuel : Nat) (lh : List (Int × Int)), x + r = rr.length → r < fuel → lh.length + 8 * r ≤ 100 →
    f78_1 m fuel (toI rr) ((rr.length : Nat) : Int) (x : Int) B lh = some (B, lh ++ allP (bitP rr) rr.length r x)
  | 0, x, fuel + 1, lh, hx, _, _ => by
    rw [f78_1, dcF (p := (x : Int) < ((rr.length : Nat) : Int)) (by omega)]
    unfold allP
    rw [List.append_nil]; rfl
  | r + 1, x, fuel + 1, lh, hx, hf, hb => by
    have hl := rowP_len (bitP rr) x (rr.length - (x + 1)) (x + 1)
    have h2 := f78_2_eq m rr h8 hlt ((rr.length : Nat) : Int) B x (by omega) (rr.length - (x + 1)) (x + 1) m lh (by omega) (by omega) (by omega)
    have ih := f78_1_eq m hm rr h8 hlt B r (x + 1) fuel (lh ++ rowP (bitP rr) x (rr.length - (x + 1)) (x + 1)) (by omega) (by omega) (by rw [List.length_append]; omega)
    rw [f78_1, dcT (p := (x : Int) < ((rr.length : Nat) : Int)) (by omega), nat_succ _ (by omega), h2]
    show f78_1 m fuel (toI rr) ((rr.length : Nat) : Int) ((x + 1 : Nat) : Int) B (lh ++ rowP (bitP rr) x (rr.length - (x + 1)) (x + 1)) = _
    rw [ih, List.append_assoc]; rfl

theorem f78_eq (m : Nat) (hm : 1001 ≤ m) (rr : List Nat) (h8 : rr.length ≤ 8) (hlt : ∀ x ∈ rr, x < 256) : f78 m (toI rr) = some (((rr.length : Nat) : Int), allP (bitP rr) rr.length rr.length 0) := by
  unfold f78
  have h := f78_1_eq m hm rr h8 hlt ((rr.length : Nat) : Int) rr.length 0 m [] (by omega) (by omega) (by simp; omega)
  rw [toI_len]
  have h' : f78_1 m m (toI rr) ((rr.length : Nat) : Int) 0 ((rr.length : Nat) : Int) [] = _ := h
  rw [h']
  simp

def hasP (L : List (Int × Int)) (x y : Nat) : Bool := hasB (x : Int) (y : Int) L

theorem f31_3_eq (m : Nat) (hm : 1001 ≤ m) (k : Nat) (h8 : k ≤ 8) (T L : List (Int × Int)) (hL : L.length ≤ 1000) (x : Nat) : ∀ (r y fuel : Nat) (lh : List (Int × Int)), y + r = k → r < fuel → lh.length + r ≤ 200 →
    f31_3 m fuel (k : Int) T L (x : Int) (y : Int) lh = some (lh ++ rowP (hasP L) x r y)
  | 0, y, fuel + 1, lh, hy, _, _ => by
    rw [f31_3, dcF (p := (y : Int) < (k : Int)) (by omega)]
    unfold rowP
    rw [List.append_nil]; rfl
  | r + 1, y, fuel + 1, lh, hy, hf, hb => by
    have ih := fun lh' h' => f31_3_eq m hm k h8 T L hL x r (y + 1) fuel lh' (by omega) (by omega) h'
    rw [f31_3, dcT (p := (y : Int) < (k : Int)) (by omega), f79_eq m hm L _ _ hL, nat_succ _ (by omega), fitsI (show lh.length + 1 ≤ 1000 by omega) (by omega)]
    unfold rowP
    have e : hasB (x : Int) (y : Int) L = hasP L x y := rfl
    rw [e]
    cases hasP L x y with
    | true =>
      have h := ih (lh ++ [((x : Int), (y : Int))]) (by simp; omega)
      rw [List.append_assoc] at h
      exact h
    | false => exact ih lh (by omega)

theorem f31_2_eq (m : Nat) (hm : 1001 ≤ m) (k : Nat) (h8 : k ≤ 8) (T L : List (Int × Int)) (hL : L.length ≤ 1000) : ∀ (r x fuel : Nat) (lh : List (Int × Int)), x + r = k → r < fuel → lh.length + 8 * r ≤ 100 →
    f31_2 m fuel (k : Int) T L (x : Int) lh = some (lh ++ allP (hasP L) k r x)
  | 0, x, fuel + 1, lh, hx, _, _ => by
    rw [f31_2, dcF (p := (x : Int) < (k : Int)) (by omega)]
    unfold allP
    rw [List.append_nil]; rfl
  | r + 1, x, fuel + 1, lh, hx, hf, hb => by
    have hl := rowP_len (hasP L) x (k - (x + 1)) (x + 1)
    have h2 := f31_3_eq m hm k h8 T L hL x (k - (x + 1)) (x + 1) m lh (by omega) (by omega) (by omega)
    have ih := f31_2_eq m hm k h8 T L hL r (x + 1) fuel (lh ++ rowP (hasP L) x (k - (x + 1)) (x + 1)) (by omega) (by omega) (by rw [List.length_append]; omega)
    rw [f31_2, dcT (p := (x : Int) < (k : Int)) (by omega), nat_succ _ (by omega), h2]
    show f31_2 m fuel (k : Int) T L ((x + 1 : Nat) : Int) (lh ++ rowP (hasP L) x (k - (x + 1)) (x + 1)) = _
    rw [ih, List.append_assoc]; rfl

end Go.Xm
namespace Go.Xm
set_option linter.unusedVariables false
set_option linter.unusedSimpArgs false
set_option maxRecDepth 20000

/-- Is that the table of these two. -/
def eqP (t : Int × Int) (x y : Int) : Bool := (t.1 == x && t.2 == y) || (t.1 == y && t.2 == x)

theorem hasB_cons (x y : Int) (t : Int × Int) (T : List (Int × Int)) : hasB x y (t :: T) = (eqP t x y || hasB x y T) := by
  show ((t.1 == x && t.2 == y) || ((t.1 == y && t.2 == x) || hasB x y T)) = _
  unfold eqP
  rw [Bool.or_assoc]

theorem eqP_iff {t : Int × Int} {x y : Int} : eqP t x y = true ↔ (t.1 = x ∧ t.2 = y) ∨ (t.1 = y ∧ t.2 = x) := by
  unfold eqP
  simp only [Bool.or_eq_true, Bool.and_eq_true, beq_iff_eq]

theorem hasB_iff (x y : Int) : ∀ T : List (Int × Int), hasB x y T = true ↔ ∃ (j : Nat) (t : Int × Int), T[j]? = some t ∧ eqP t x y = true
  | [] => by
    constructor
    · intro h; cases h
    · rintro ⟨j, t, h, _⟩; simp at h
  | t :: T => by
    rw [hasB_cons, Bool.or_eq_true, hasB_iff x y T]
    constructor
    · rintro (h | ⟨j, u, h1, h2⟩)
      · exact ⟨0, t, rfl, h⟩
      · exact ⟨j + 1, u, by simpa using h1, h2⟩
    · rintro ⟨j, u, h1, h2⟩
      cases j with
      | zero =>
        have e : t = u := by simpa using h1
        subst e
        exact .inl h2
      | succ j => exact .inr ⟨j, u, by simpa using h1, h2⟩

/-- The tables but two. -/
def rmv (b c : Nat) : Nat → List (Int × Int) → List (Int × Int)
  | _, [] => []
  | i, t :: R => if i ≠ b ∧ i ≠ c then t :: rmv b c (i + 1) R else rmv b c (i + 1) R

theorem rmv_iff (b c : Nat) (x y : Int) : ∀ (R : List (Int × Int)) (i : Nat), hasB x y (rmv b c i R) = true ↔ ∃ (j : Nat) (t : Int × Int), R[j]? = some t ∧ i + j ≠ b ∧ i + j ≠ c ∧ eqP t x y = true
  | [], i => by
    constructor
    · intro h; cases h
    · rintro ⟨j, t, h, _⟩; simp at h
  | t :: R, i => by
    have ih := rmv_iff b c x y R (i + 1)
    unfold rmv
    by_cases hi : i ≠ b ∧ i ≠ c
    · rw [if_pos hi, hasB_cons, Bool.or_eq_true, ih]
      constructor
      · rintro (h | ⟨j, u, h1, h2, h3, h4⟩)
        · exact ⟨0, t, rfl, by simpa using hi.1, by simpa using hi.2, h⟩
        · exact ⟨j + 1, u, by simpa using h1, by omega, by omega, h4⟩
      · rintro ⟨j, u, h1, h2, h3, h4⟩
        cases j with
        | zero =>
          have e : t = u := by simpa using h1
          subst e
          exact .inl h4
        | succ j => exact .inr ⟨j, u, by simpa using h1, by omega, by omega, h4⟩
    · rw [if_neg hi, ih]
      constructor
      · rintro ⟨j, u, h1, h2, h3, h4⟩
        exact ⟨j + 1, u, by simpa using h1, by omega, by omega, h4⟩
      · rintro ⟨j, u, h1, h2, h3, h4⟩
        cases j with
        | zero => exact absurd ⟨by simpa using h2, by simpa using h3⟩ hi
        | succ j => exact ⟨j, u, by simpa using h1, by omega, by omega, h4⟩

theorem f31_1_eq (m : Nat) (n : Int) (T : List (Int × Int)) (hl : T.length ≤ 100) (b c : Nat) : ∀ (R P : List (Int × Int)) (fuel : Nat) (lh : List (Int × Int)), T = P ++ R → R.length < fuel → lh.length + R.length ≤ 200 →
    f31_1 m fuel n T (b : Int) (c : Int) ((P.length : Nat) : Int) lh = some (lh ++ rmv b c P.length R)
  | [], P, fuel + 1, lh, hT, _, _ => by
    rw [f31_1, dcF (p := ((P.length : Nat) : Int) < ((T.length : Nat) : Int)) (by rw [hT]; simp)]
    unfold rmv
    rw [List.append_nil]; rfl
  | t :: R, P, fuel + 1, lh, hT, hf, hb => by
    have hlen : T.length = P.length + R.length + 1 := by rw [hT]; simp; omega
    have hg : List.getD T (Int.toNat ((P.length : Nat) : Int)) (0, 0) = t := by rw [hT]; exact getD_mid _ _ _ _ rfl
    simp only [List.length_cons] at hf hb
    have e1 : (P ++ [t]).length = P.length + 1 := by simp
    have ih := fun lh' h' => f31_1_eq m n T hl b c R (P ++ [t]) fuel lh' (by rw [hT]; simp) (by omega) h'
    rw [e1] at ih
    have bn : ∀ d : Nat, (((P.length : Nat) : Int) != (d : Int)) = !decide (P.length = d) := fun d => by
      show (!(((P.length : Nat) : Int) == (d : Int))) = _
      rw [beqN]
    rw [f31_1, dcT (p := ((P.length : Nat) : Int) < ((T.length : Nat) : Int)) (by omega), inR (show P.length < T.length by omega), hg, nat_succ _ (by omega), fitsI (show lh.length + 1 ≤ 1000 by omega) (by omega), bn, bn]
    unfold rmv
    by_cases h1 : P.length = b
    · rw [dcT h1, if_neg (by simp [h1])]
      exact ih lh (by omega)
    · rw [dcF h1]
      by_cases h2 : P.length = c
      · rw [dcT h2, if_neg (by simp [h2])]
        exact ih lh (by omega)
      · rw [dcF h2, if_pos ⟨h1, h2⟩]
        have h := ih (lh ++ [t]) (by simp; omega)
        rw [List.append_assoc] at h
        exact h

/-- What holds of each table of a plan that may be. -/
theorem ck_fine (n : Int) : ∀ (R P : List (Int × Int)), ckT n P R = 0 → ∀ (A : List (Int × Int)) (t : Int × Int) (B : List (Int × Int)), R = A ++ t :: B →
    (0 ≤ t.1 ∧ t.1 ≤ n - 1) ∧ (0 ≤ t.2 ∧ t.2 ≤ n - 1) ∧ t.1 ≠ t.2 ∧ hasB t.1 t.2 (P ++ A) = false
  | [], P, _, A, t, B, h => by cases A <;> cases h
  | t0 :: R, P, hc, A, t, B, h => by
    have ec : ckT n P (t0 :: R) = if ¬ (0 ≤ t0.1 ∧ t0.1 ≤ n - 1) then 2 else if ¬ (0 ≤ t0.2 ∧ t0.2 ≤ n - 1) then 2 else if t0.1 = t0.2 then 13 else if hasB t0.1 t0.2 P = true then 6 else ckT n (P ++ [t0]) R := rfl
    rw [ec] at hc
    by_cases c1 : 0 ≤ t0.1 ∧ t0.1 ≤ n - 1
    · rw [if_neg (by simp [c1])] at hc
      by_cases c2 : 0 ≤ t0.2 ∧ t0.2 ≤ n - 1
      · rw [if_neg (by simp [c2])] at hc
        by_cases c3 : t0.1 = t0.2
        · rw [if_pos c3] at hc; omega
        · rw [if_neg c3] at hc
          by_cases c4 : hasB t0.1 t0.2 P = true
          · rw [if_pos c4] at hc; omega
          · rw [if_neg c4] at hc
            cases A with
            | nil =>
              have e : t0 = t := (List.cons.inj h).1
              subst e
              exact ⟨c1, c2, c3, by rw [List.append_nil]; simpa using c4⟩
            | cons a A =>
              obtain ⟨e1, e2⟩ := List.cons.inj h
              subst e1
              have := ck_fine n R (P ++ [t0]) hc A t B e2
              rw [List.append_assoc] at this
              exact this
      · rw [if_pos c2] at hc; omega
    · rw [if_pos c1] at hc; omega

theorem ck_uniq {n : Int} {T : List (Int × Int)} (hc : ckT n [] T = 0) {x y : Int} : ∀ {i j : Nat} {t u : Int × Int}, T[i]? = some t → T[j]? = some u → eqP t x y = true → eqP u x y = true → i = j := by
  have key : ∀ {i j : Nat} {t u : Int × Int}, T[i]? = some t → T[j]? = some u → eqP t x y = true → eqP u x y = true → ¬ i < j := by
    intro i j t u h1 h2 h3 h4 hij
    obtain ⟨hj, hu⟩ := List.getElem?_eq_some_iff.1 h2
    have hd : T = T.take j ++ u :: T.drop (j + 1) := by
      rw [← hu, ← List.drop_eq_getElem_cons hj, List.take_append_drop]
    have hf := (ck_fine n T [] hc (T.take j) u (T.drop (j + 1)) hd).2.2.2
    rw [List.nil_append] at hf
    have : hasB u.1 u.2 (T.take j) = true := (hasB_iff _ _ _).2 ⟨i, t, by rw [List.getElem?_take, if_pos hij]; exact h1, by
      rw [eqP_iff] at h3 h4 ⊢
      rcases h3 with h3 | h3 <;> rcases h4 with h4 | h4
      · exact .inl ⟨h3.1.trans h4.1.symm, h3.2.trans h4.2.symm⟩
      · exact .inr ⟨h3.1.trans h4.2.symm, h3.2.trans h4.1.symm⟩
      · exact .inr ⟨h3.1.trans h4.2.symm, h3.2.trans h4.1.symm⟩
      · exact .inl ⟨h3.1.trans h4.1.symm, h3.2.trans h4.2.symm⟩⟩
    rw [hf] at this; cases this
  intro i j t u h1 h2 h3 h4
  have a := key h1 h2 h3 h4
  have b := key h2 h1 h4 h3
  omega

end Go.Xm
namespace Go.Xm
set_option linter.unusedVariables false
set_option linter.unusedSimpArgs false
set_option maxRecDepth 20000

/-- Two are seated at a table, or taken from it. -/
def fl (r : List Nat) (a b : Nat) : List Nat := flip (flip r a b) b a
theorem fl_len (r : List Nat) (a b : Nat) : (fl r a b).length = r.length := by unfold fl; rw [flip_len, flip_len]
theorem fl_lt {r : List Nat} (h : ∀ x ∈ r, x < 256) {a b : Nat} (ha : a < 8) (hb : b < 8) : ∀ x ∈ fl r a b, x < 256 := flip_lt (flip_lt h hb) ha

theorem fl_bit {r : List Nat} {a b : Nat} (ha : a < r.length) (hb : b < r.length) (hab : a ≠ b) (x y : Nat) : bitP (fl r a b) x y = (bitP r x y ^^ eqP ((a : Int), (b : Int)) (x : Int) (y : Int)) := by
  have l2 : b < (flip r a b).length := by rw [flip_len]; exact hb
  have e : eqP ((a : Int), (b : Int)) (x : Int) (y : Int) = ((decide (a = x) && decide (b = y)) || (decide (a = y) && decide (b = x))) := by
    show (((a : Int) == (x : Int) && (b : Int) == (y : Int)) || ((a : Int) == (y : Int) && (b : Int) == (x : Int))) = _
    rw [beqN, beqN, beqN, beqN]
  rw [e]
  unfold bitP fl
  rw [flip_get l2, flip_get ha, flip_get ha]
  by_cases hxb : x = b
  · subst hxb
    rw [if_pos rfl, if_neg (Ne.symm hab), Nat.testBit_xor, Nat.testBit_two_pow]
    simp [hab]
  · rw [if_neg hxb]
    by_cases hxa : x = a
    · subst hxa
      rw [if_pos rfl, Nat.testBit_xor, Nat.testBit_two_pow]
      simp [Ne.symm hxb]
    · rw [if_neg hxa]
      simp [Ne.symm hxb, Ne.symm hxa]

theorem eqP_false {t : Int × Int} {x y : Int} (h : ¬ ((t.1 = x ∧ t.2 = y) ∨ (t.1 = y ∧ t.2 = x))) : eqP t x y = false := by
  rw [Bool.eq_false_iff, Ne, eqP_iff]; exact h

theorem exch {k : Nat} {r : List Nat} {T : List (Int × Int)} (R : Room k r T) (hc : ckT (k : Int) [] T = 0) {b c : Nat} {s : Int × Int} {a d u v : Nat} (hb : T[b]? = some ((a : Int), (d : Int))) (hs : T[c]? = some s) (hsu : s = ((u : Int), (v : Int)) ∨ s = ((v : Int), (u : Int)))
    (ka : a < k) (kd : d < k) (ku : u < k) (kv : v < k) (n1 : a ≠ d) (n2 : u ≠ v) (n3 : a ≠ u) (n4 : a ≠ v) (n5 : d ≠ u) (n6 : d ≠ v) (h1 : hasB (a : Int) (u : Int) T = false) (h2 : hasB (d : Int) (v : Int) T = false) :
    ∀ x y, x < y → y < k → bitP (fl (fl (fl (fl r a u) d v) a d) u v) x y = hasP (((a : Int), (u : Int)) :: ((d : Int), (v : Int)) :: rmv b c 0 T) x y := by
  intro x y hxy hyk
  have es : ∀ X Y : Int, eqP s X Y = eqP ((u : Int), (v : Int)) X Y := by
    intro X Y
    rcases hsu with e | e
    · rw [e]
    · rw [e, Bool.eq_iff_iff, eqP_iff, eqP_iff]
      show ((v : Int) = X ∧ (u : Int) = Y ∨ (v : Int) = Y ∧ (u : Int) = X) ↔ ((u : Int) = X ∧ (v : Int) = Y ∨ (u : Int) = Y ∧ (v : Int) = X)
      constructor
      · rintro (h | h)
        · exact .inr ⟨h.2, h.1⟩
        · exact .inl ⟨h.2, h.1⟩
      · rintro (h | h)
        · exact .inr ⟨h.2, h.1⟩
        · exact .inl ⟨h.2, h.1⟩
  have hl := R.len
  rw [fl_bit (by rw [fl_len, fl_len, fl_len]; omega) (by rw [fl_len, fl_len, fl_len]; omega) n2, fl_bit (by rw [fl_len, fl_len]; omega) (by rw [fl_len, fl_len]; omega) n1, fl_bit (by rw [fl_len]; omega) (by rw [fl_len]; omega) n6, fl_bit (by omega) (by omega) n3]
  have hbit : bitP r x y = hasB (x : Int) (y : Int) T := R.bit x (by omega) y
  unfold hasP
  rw [hasB_cons, hasB_cons, hbit]
  have sym : ∀ {p q : Nat}, hasB (p : Int) (q : Int) T = false → (((p : Int) = (x : Int) ∧ (q : Int) = (y : Int)) ∨ ((p : Int) = (y : Int) ∧ (q : Int) = (x : Int))) → hasB (x : Int) (y : Int) T = false := by
    intro p q h hh
    rcases hh with ⟨e1, e2⟩ | ⟨e1, e2⟩
    · rw [← e1, ← e2]; exact h
    · rw [← e1, ← e2, hasB_comm]; exact h
  cases q1 : eqP ((a : Int), (u : Int)) (x : Int) (y : Int) with
  | true =>
    have w := eqP_iff.1 q1
    have w : (((a : Int) = (x : Int) ∧ (u : Int) = (y : Int)) ∨ ((a : Int) = (y : Int) ∧ (u : Int) = (x : Int))) := w
    rw [sym h1 w, eqP_false (t := ((d : Int), (v : Int))) (by show ¬ (((d : Int) = (x : Int) ∧ (v : Int) = (y : Int)) ∨ ((d : Int) = (y : Int) ∧ (v : Int) = (x : Int))); omega),
      eqP_false (t := ((a : Int), (d : Int))) (by show ¬ (((a : Int) = (x : Int) ∧ (d : Int) = (y : Int)) ∨ ((a : Int) = (y : Int) ∧ (d : Int) = (x : Int))); omega),
      eqP_false (t := ((u : Int), (v : Int))) (by show ¬ (((u : Int) = (x : Int) ∧ (v : Int) = (y : Int)) ∨ ((u : Int) = (y : Int) ∧ (v : Int) = (x : Int))); omega)]
    rfl
  | false =>
    cases q2 : eqP ((d : Int), (v : Int)) (x : Int) (y : Int) with
    | true =>
      have w := eqP_iff.1 q2
      have w : (((d : Int) = (x : Int) ∧ (v : Int) = (y : Int)) ∨ ((d : Int) = (y : Int) ∧ (v : Int) = (x : Int))) := w
      rw [sym h2 w, eqP_false (t := ((a : Int), (d : Int))) (by show ¬ (((a : Int) = (x : Int) ∧ (d : Int) = (y : Int)) ∨ ((a : Int) = (y : Int) ∧ (d : Int) = (x : Int))); omega),
        eqP_false (t := ((u : Int), (v : Int))) (by show ¬ (((u : Int) = (x : Int) ∧ (v : Int) = (y : Int)) ∨ ((u : Int) = (y : Int) ∧ (v : Int) = (x : Int))); omega)]
      rfl
    | false =>
      have rmF : ∀ {i : Nat} {t : Int × Int}, T[i]? = some t → eqP t (x : Int) (y : Int) = true → (i = b ∨ i = c) → hasB (x : Int) (y : Int) (rmv b c 0 T) = false := by
        intro i t p1 p2 p3
        rw [Bool.eq_false_iff, Ne, rmv_iff]
        rintro ⟨j, t', g1, g2, g3, g4⟩
        have := ck_uniq hc p1 g1 p2 g4
        omega
      cases q3 : eqP ((a : Int), (d : Int)) (x : Int) (y : Int) with
      | true =>
        have w := eqP_iff.1 q3
        have w : (((a : Int) = (x : Int) ∧ (d : Int) = (y : Int)) ∨ ((a : Int) = (y : Int) ∧ (d : Int) = (x : Int))) := w
        rw [(hasB_iff _ _ _).2 ⟨b, _, hb, q3⟩, rmF hb q3 (.inl rfl), eqP_false (t := ((u : Int), (v : Int))) (by show ¬ (((u : Int) = (x : Int) ∧ (v : Int) = (y : Int)) ∨ ((u : Int) = (y : Int) ∧ (v : Int) = (x : Int))); omega)]
        rfl
      | false =>
        cases q4 : eqP ((u : Int), (v : Int)) (x : Int) (y : Int) with
        | true =>
          have q4' : eqP s (x : Int) (y : Int) = true := by rw [es]; exact q4
          rw [(hasB_iff _ _ _).2 ⟨c, _, hs, q4'⟩, rmF hs q4' (.inr rfl)]
          rfl
        | false =>
          have e : hasB (x : Int) (y : Int) T = hasB (x : Int) (y : Int) (rmv b c 0 T) := by
            rw [Bool.eq_iff_iff, hasB_iff, rmv_iff]
            constructor
            · rintro ⟨j, t, g1, g2⟩
              refine ⟨j, t, g1, ?_, ?_, g2⟩
              · intro ej
                have ej : j = b := by omega
                subst ej
                rw [g1] at hb
                cases hb
                rw [q3] at g2; cases g2
              · intro ej
                have ej : j = c := by omega
                subst ej
                rw [g1] at hs
                cases hs
                rw [es, q4] at g2; cases g2
            · rintro ⟨j, t, g1, _, _, g4⟩
              exact ⟨j, t, g1, g4⟩
          rw [e]
          cases hasB (x : Int) (y : Int) (rmv b c 0 T) <;> rfl

end Go.Xm
namespace Go.Xm
set_option linter.unusedVariables false
set_option linter.unusedSimpArgs false
set_option maxRecDepth 20000

theorem f75_two (m : Nat) (hm : 1001 ≤ m) (p q x : Int) : f75 m [p, q] x = some ((x == p) || (x == q)) := by
  obtain ⟨f, rfl⟩ : ∃ f, m = f + 3 := ⟨m - 3, by omega⟩
  unfold f75
  have e3 : f75_1 (f + 3) (f + 1) [p, q] x 2 2 = some .x0 := by rw [f75_1]; rfl
  have e2 : f75_1 (f + 3) (f + 2) [p, q] x 2 1 = cond (x == q) (some (.r 1)) (some .x0) := by
    rw [f75_1]
    show cond (x == q) (some (Of75_1.r 1)) (f75_1 (f + 3) (f + 1) [p, q] x 2 2) = _
    rw [e3]
  have e1 : f75_1 (f + 3) (f + 3) [p, q] x 2 0 = cond (x == p) (some (.r 0)) (cond (x == q) (some (.r 1)) (some .x0)) := by
    rw [f75_1]
    show cond (x == p) (some (Of75_1.r 0)) (f75_1 (f + 3) (f + 2) [p, q] x 2 1) = _
    rw [e2]
  show ((f75_1 (f + 3) (f + 3) [p, q] x 2 0).bind _) = _
  rw [e1]
  cases (x == p) with
  | true => rfl
  | false => cases (x == q) <;> rfl

/-- Where the plan is wrong, so are both. -/
theorem f31_bad (m : Nat) (hm : 1001 ≤ m) (n : Int) (T : List (Int × Int)) (hl : T.length ≤ 60) (b c : Int) (d : Bool) (h : cpR n T ≠ 0) : f31 m n T b c d = some (0, [], cpR n T) := by
  unfold f31
  rw [f48_eq m hm n T (by omega)]
  show cond (cpR n T == 0) _ (cond (cpR n T != 0) (some (0, [], cpR n T)) _) = _
  rw [beq_eq_false_iff_ne.2 h, bne_iff_ne.2 h]; rfl

/-- Where one of both numbers is none of the plan. -/
theorem f31_none (m : Nat) (hm : 1001 ≤ m) (n : Int) (T : List (Int × Int)) (hl : T.length ≤ 60) (b c : Int) (d : Bool) (h : cpR n T = 0) (hbc : ¬ ((0 ≤ b ∧ b ≤ (T.length : Int) - 1) ∧ (0 ≤ c ∧ c ≤ (T.length : Int) - 1))) : f31 m n T b c d = some (0, [], 2) := by
  unfold f31
  rw [f48_eq m hm n T (by omega), h, in66, in66, w64i (by omega) (by omega)]
  by_cases hb : 0 ≤ b ∧ b ≤ (T.length : Int) - 1
  · have hc : ¬ (0 ≤ c ∧ c ≤ (T.length : Int) - 1) := fun q => hbc ⟨hb, q⟩
    rw [dcT hb, dcF hc]; rfl
  · rw [dcF hb]; rfl

/-- What both answer where the plan and the numbers are fine: t and s are the tables, (u, v) is s or s turned. -/
def crossR (k : Nat) (T : List (Int × Int)) (b c : Nat) (t s : Int × Int) (u v : Int) : Int × List (Int × Int) × Int :=
  cond (t.1 == s.1) (0, [], 5) (cond (t.1 == s.2) (0, [], 5) (cond (t.2 == s.1) (0, [], 5) (cond (t.2 == s.2) (0, [], 5)
    (cond (hasB t.1 u T) (0, [], 6) (cond (hasB t.2 v T) (0, [], 6) ((k : Int), allP (hasP ((t.1, u) :: (t.2, v) :: rmv b c 0 T)) k k 0, 0))))))

theorem rmv_len (b c : Nat) : ∀ (R : List (Int × Int)) (i : Nat), (rmv b c i R).length ≤ R.length
  | [], _ => Nat.le_refl _
  | t :: R, i => by
    have ih := rmv_len b c R (i + 1)
    unfold rmv
    split
    · simp only [List.length_cons]; omega
    · simp only [List.length_cons]; omega

theorem f31_fine (m : Nat) (hm : 1001 ≤ m) (k : Nat) (h8 : k ≤ 8) (T : List (Int × Int)) (hl : T.length ≤ 60) (b c : Nat) (d : Bool) (h : cpR (k : Int) T = 0) (hb : b < T.length) (hc : c < T.length) :
    f31 m (k : Int) T (b : Int) (c : Int) d = some (crossR k T b c (T.getD b (0, 0)) (T.getD c (0, 0)) (cond d (T.getD c (0, 0)).2 (T.getD c (0, 0)).1) (cond d (T.getD c (0, 0)).1 (T.getD c (0, 0)).2)) := by
  have hb1 : 0 ≤ (b : Int) ∧ (b : Int) ≤ (T.length : Int) - 1 := by omega
  have hc1 : 0 ≤ (c : Int) ∧ (c : Int) ≤ (T.length : Int) - 1 := by omega
  have tb : Int.toNat (b : Int) = b := rfl
  have tc : Int.toNat (c : Int) = c := rfl
  unfold f31
  rw [f48_eq m hm _ T (by omega), h, in66, in66, w64i (by omega) (by omega), dcT hb1, dcT hc1, inR hb, inR hc, tb, tc]
  generalize T.getD b (0, 0) = t
  generalize T.getD c (0, 0) = s
  unfold crossR
  show cond (t.1 == s.1) _ _ = _
  cases (t.1 == s.1) with
  | true => rfl
  | false =>
    show cond (t.1 == s.2) _ _ = _
    cases (t.1 == s.2) with
    | true => rfl
    | false =>
      show cond (t.2 == s.1) _ _ = _
      cases (t.2 == s.1) with
      | true => rfl
      | false =>
        show cond (t.2 == s.2) _ _ = _
        cases (t.2 == s.2) with
        | true => rfl
        | false =>
          generalize cond d s.2 s.1 = u
          generalize cond d s.1 s.2 = v
          show ((f79 m T t.1 u).bind _) = _
          rw [f79_eq m hm T _ _ (by omega)]
          show cond (hasB t.1 u T) _ ((f79 m T t.2 v).bind _) = _
          rw [f79_eq m hm T _ _ (by omega)]
          cases hasB t.1 u T with
          | true => rfl
          | false =>
            show cond (hasB t.2 v T) _ _ = _
            cases hasB t.2 v T with
            | true => rfl
            | false =>
              have h1 := f31_1_eq m (k : Int) T (by omega) b c T [] m [(t.1, u), (t.2, v)] rfl (by omega) (by simp; omega)
              have h1' : f31_1 m m (k : Int) T (b : Int) (c : Int) 0 [(t.1, u), (t.2, v)] = some ((t.1, u) :: (t.2, v) :: rmv b c 0 T) := h1
              have hr := rmv_len b c T 0
              have h2 := f31_2_eq m hm k h8 T ((t.1, u) :: (t.2, v) :: rmv b c 0 T) (by simp; omega) k 0 m [] (by omega) (by omega) (by simp; omega)
              have h2' : f31_2 m m (k : Int) T ((t.1, u) :: (t.2, v) :: rmv b c 0 T) 0 [] = some (allP (hasP ((t.1, u) :: (t.2, v) :: rmv b c 0 T)) k k 0) := h2
              show ((f31_1 m m (k : Int) T (b : Int) (c : Int) 0 [(t.1, u), (t.2, v)]).bind _) = _
              rw [h1']
              show ((f31_2 m m (k : Int) T ((t.1, u) :: (t.2, v) :: rmv b c 0 T) 0 []).bind _) = _
              rw [h2']
              rfl

end Go.Xm
