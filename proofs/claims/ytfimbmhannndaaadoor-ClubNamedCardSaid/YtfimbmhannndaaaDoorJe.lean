/- The room that club opens: a bit for each two at a table. Plain Lean. Conditions: none. -/
import Derived.Test.YtfimbmhannndaaaDoorJa
import Derived.Test.YtfimbmhannndaaaDoorCd
namespace Go.Xm
set_option linter.unusedVariables false
set_option linter.unusedSimpArgs false
set_option maxRecDepth 20000
theorem tabX : ((List.range 256).all fun x => (List.range 8).all fun b => (xorV .u64 (x : Int) (shV true .u64 1 (b : Int)) == ((x ^^^ 2 ^ b : Nat) : Int)) && (((andV .u64 (shV false .u64 (x : Int) (b : Int)) 1 == 1) == x.testBit b) && Nat.ble (x ^^^ 2 ^ b) 255)) = true := by kernel_rfl
theorem tabX_ok {x b : Nat} (hx : x < 256) (hb : b < 8) : xorV .u64 (x : Int) (shV true .u64 1 (b : Int)) = ((x ^^^ 2 ^ b : Nat) : Int) ∧ (andV .u64 (shV false .u64 (x : Int) (b : Int)) 1 == 1) = x.testBit b ∧ x ^^^ 2 ^ b < 256 := by
  have h := List.all_eq_true.1 (List.all_eq_true.1 tabX x (List.mem_range.2 hx)) b (List.mem_range.2 hb)
  rw [Bool.and_eq_true, Bool.and_eq_true, Nat.ble_eq] at h
  exact ⟨eq_of_beq h.1, eq_of_beq h.2.1, by have := h.2.2; omega⟩
def flip (r : List Nat) (a b : Nat) : List Nat := r.set a (r.getD a 0 ^^^ 2 ^ b)
theorem getD_toI (r : List Nat) (a : Nat) : List.getD (toI r) a 0 = ((r.getD a 0 : Nat) : Int) := by
  unfold toI
  rw [List.getD_eq_getElem?_getD, List.getD_eq_getElem?_getD, List.getElem?_map]
  cases r[a]? <;> rfl
theorem getD_lt {r : List Nat} (h : ∀ x ∈ r, x < 256) (a : Nat) : r.getD a 0 < 256 := by
  rw [List.getD_eq_getElem?_getD]
  cases e : r[a]? with
  | none => show 0 < 256; omega
  | some x => exact h x (List.mem_of_getElem? e)
theorem set_flip {r : List Nat} (h : ∀ x ∈ r, x < 256) {a b : Nat} (hb : b < 8) : List.set (toI r) a (xorV .u64 (List.getD (toI r) a 0) (shV true .u64 1 (b : Int))) = toI (flip r a b) := by
  rw [getD_toI, (tabX_ok (getD_lt h a) hb).1]
  unfold flip toI
  rw [List.map_set]; rfl
theorem flip_len (r : List Nat) (a b : Nat) : (flip r a b).length = r.length := List.length_set ..
theorem flip_lt {r : List Nat} (h : ∀ x ∈ r, x < 256) {a b : Nat} (hb : b < 8) : ∀ x ∈ flip r a b, x < 256 := by
  intro x hx
  rcases List.mem_or_eq_of_mem_set hx with q | q
  · exact h x q
  · rw [q]; exact (tabX_ok (getD_lt h a) hb).2.2
theorem flip_get {r : List Nat} {a : Nat} (ha : a < r.length) (b k : Nat) : (flip r a b).getD k 0 = if k = a then r.getD a 0 ^^^ 2 ^ b else r.getD k 0 := by
  unfold flip
  by_cases h : k = a
  · subst h
    rw [if_pos rfl]
    generalize r.getD k 0 ^^^ 2 ^ b = v
    rw [List.getD_eq_getElem?_getD, List.getElem?_set_self ha]; rfl
  · rw [if_neg h]
    generalize r.getD a 0 ^^^ 2 ^ b = v
    rw [List.getD_eq_getElem?_getD, List.getD_eq_getElem?_getD, List.getElem?_set_ne (Ne.symm h)]
structure Room (n : Nat) (r : List Nat) (P : List (Int × Int)) : Prop where
  len : r.length = n
  lt : ∀ x ∈ r, x < 256
  bit : ∀ a, a < n → ∀ b : Nat, (r.getD a 0).testBit b = hasB (a : Int) (b : Int) P
theorem beqN (a b : Nat) : ((a : Int) == (b : Int)) = decide (a = b) := by
  by_cases h : a = b
  · subst h; simp
  · rw [beq_eq_false_iff_ne.2 (by omega), dcF h]
theorem Room.add {n : Nat} (h8 : n ≤ 8) {r : List Nat} {P : List (Int × Int)} (R : Room n r P) {a b : Nat} (ha : a < n) (hb : b < n) (hab : a ≠ b) (hh : hasB (a : Int) (b : Int) P = false) : Room n (flip (flip r a b) b a) (P ++ [((a : Int), (b : Int))]) := by
  have l1 : a < r.length := by rw [R.len]; exact ha
  have l2 : b < (flip r a b).length := by rw [flip_len, R.len]; exact hb
  refine ⟨by rw [flip_len, flip_len]; exact R.len, flip_lt (flip_lt R.lt (by omega)) (by omega), fun k hk j => ?_⟩
  rw [flip_get l2, flip_get l1, flip_get l1, hasB_append]
  have e : hasB (k : Int) (j : Int) [((a : Int), (b : Int))] = ((decide (a = k) && decide (b = j)) || (decide (a = j) && decide (b = k))) := by
    show (((a : Int) == (k : Int) && (b : Int) == (j : Int)) || (((a : Int) == (j : Int) && (b : Int) == (k : Int)) || false)) = _
    rw [beqN, beqN, beqN, beqN, Bool.or_false]
  rw [e]
  by_cases hkb : k = b
  · subst hkb
    rw [if_pos rfl, if_neg (Ne.symm hab), Nat.testBit_xor, R.bit k hk j, Nat.testBit_two_pow]
    by_cases hj : a = j
    · subst hj
      rw [hasB_comm, hh]; simp [hab]
    · simp [hj, hab]
  · rw [if_neg hkb]
    by_cases hka : k = a
    · subst hka
      rw [if_pos rfl, Nat.testBit_xor, R.bit k hk j, Nat.testBit_two_pow]
      by_cases hj : b = j
      · subst hj
        rw [hh]; simp
      · simp [hj, Ne.symm hkb]
    · rw [if_neg hka, R.bit k hk j]
      simp [Ne.symm hkb, Ne.symm hka]
end Go.Xm
namespace Go.Xm
set_option linter.unusedVariables false
set_option linter.unusedSimpArgs false
set_option maxRecDepth 20000
theorem f74_1_eq (m : Nat) (n : Nat) (h1 : 1 ≤ n) (h8 : n ≤ 8) (T : List (Int × Int)) (hl : T.length ≤ 1000) : ∀ (R P : List (Int × Int)) (r : List Nat) (fuel : Nat), T = P ++ R → R.length < fuel → Room n r P →
    (ckT (n : Int) P R ≠ 0 ∧ f74_1 m fuel (n : Int) T ((T.length : Nat) : Int) ((P.length : Nat) : Int) (toI r) = some (.r (ckT (n : Int) P R))) ∨
    (ckT (n : Int) P R = 0 ∧ ∃ r', Room n r' T ∧ f74_1 m fuel (n : Int) T ((T.length : Nat) : Int) ((P.length : Nat) : Int) (toI r) = some (.x1 (toI r')))
  | [], P, r, fuel + 1, hT, _, hR => by
    refine .inr ⟨rfl, r, ?_, ?_⟩
    · rw [hT, List.append_nil]; exact hR
    · rw [f74_1, dcF (p := ((P.length : Nat) : Int) < ((T.length : Nat) : Int)) (by rw [hT]; simp)]
      rfl
  | t :: R, P, r, fuel + 1, hT, hf, hR => by
    have hlen : T.length = P.length + R.length + 1 := by rw [hT]; simp; omega
    have hg : List.getD T (Int.toNat ((P.length : Nat) : Int)) (0, 0) = t := by rw [hT]; exact getD_mid _ _ _ _ rfl
    have ec : ckT (n : Int) P (t :: R) = if ¬ (0 ≤ t.1 ∧ t.1 ≤ (n : Int) - 1) then 2 else if ¬ (0 ≤ t.2 ∧ t.2 ≤ (n : Int) - 1) then 2 else if t.1 = t.2 then 13 else if hasB t.1 t.2 P = true then 6 else ckT (n : Int) (P ++ [t]) R := rfl
    have e1 : (((P ++ [t]).length : Nat) : Int) = ((P.length + 1 : Nat) : Int) := by simp
    rw [f74_1, dcT (p := ((P.length : Nat) : Int) < ((T.length : Nat) : Int)) (by omega), inR (show P.length < T.length by omega), hg, in65, in65, nat_succ _ (by omega), w64i (by omega) (by omega), ec]
    by_cases c1 : 0 ≤ t.1 ∧ t.1 ≤ (n : Int) - 1
    · rw [if_neg (by simp [c1]), dcT c1]
      by_cases c2 : 0 ≤ t.2 ∧ t.2 ≤ (n : Int) - 1
      · rw [if_neg (by simp [c2]), dcT c2]
        obtain ⟨a, b, rfl⟩ : ∃ a b : Nat, t = ((a : Int), (b : Int)) := ⟨t.1.toNat, t.2.toNat, by
          obtain ⟨x, y⟩ := t
          have c1 : 0 ≤ x ∧ x ≤ (n : Int) - 1 := c1
          have c2 : 0 ≤ y ∧ y ≤ (n : Int) - 1 := c2
          show (x, y) = (((x.toNat : Nat) : Int), ((y.toNat : Nat) : Int))
          rw [Int.toNat_of_nonneg c1.1, Int.toNat_of_nonneg c2.1]⟩
        have c1 : 0 ≤ (a : Int) ∧ (a : Int) ≤ (n : Int) - 1 := c1
        have c2 : 0 ≤ (b : Int) ∧ (b : Int) ≤ (n : Int) - 1 := c2
        have ha : a < n := by omega
        have hb : b < n := by omega
        by_cases c3 : a = b
        · have c3' : ((a : Int) == (b : Int)) = true := by rw [beqN, dcT c3]
          rw [if_pos (show (a : Int) = (b : Int) by omega)]
          refine .inl ⟨by omega, ?_⟩
          show cond ((a : Int) == (b : Int)) _ _ = _
          rw [c3']; rfl
        · have c3' : ((a : Int) == (b : Int)) = false := by rw [beqN, dcF c3]
          rw [if_neg (show ¬ (a : Int) = (b : Int) by omega)]
          have hlr : (toI r).length = n := by rw [toI_len]; exact hR.len
          have hbit : (andV .u64 (shV false .u64 (List.getD (toI r) a 0) (b : Int)) 1 == 1) = hasB (a : Int) (b : Int) P := by
            rw [getD_toI, (tabX_ok (getD_lt hR.lt a) (show b < 8 by omega)).2.1, hR.bit a ha b]
          have hset : List.set (List.set (toI r) a (xorV .u64 (List.getD (toI r) a 0) (shV true .u64 1 (b : Int)))) b (xorV .u64 (List.getD (List.set (toI r) a (xorV .u64 (List.getD (toI r) a 0) (shV true .u64 1 (b : Int)))) b 0) (shV true .u64 1 (a : Int))) = toI (flip (flip r a b) b a) := by
            rw [set_flip hR.lt (show b < 8 by omega), set_flip (flip_lt hR.lt (show b < 8 by omega)) (show a < 8 by omega)]
          cases c4 : hasB (a : Int) (b : Int) P with
          | true =>
            rw [c4] at hbit
            rw [if_pos rfl]
            refine .inl ⟨by omega, ?_⟩
            show cond ((a : Int) == (b : Int)) _ (cond (inRow (a : Int) (toI r).length) (cond (decide (0 ≤ (b : Int))) (cond (andV .u64 (shV false .u64 (List.getD (toI r) a 0) (b : Int)) 1 == 1) _ _) _) _) = _
            rw [c3', hlr, inR ha, dcT c2.1, hbit]; rfl
          | false =>
            rw [c4] at hbit
            rw [if_neg (by simp)]
            have ih := f74_1_eq m n h1 h8 T hl R (P ++ [((a : Int), (b : Int))]) (flip (flip r a b) b a) fuel (by rw [hT]; simp) (by simp at hf; omega) (hR.add h8 ha hb c3 c4)
            rw [e1] at ih
            have step : (cond ((a : Int) == (b : Int)) (some (Of74_1.r 13)) (cond (inRow (a : Int) (toI r).length) (cond (decide (0 ≤ (b : Int))) (cond (andV .u64 (shV false .u64 (List.getD (toI r) a 0) (b : Int)) 1 == 1) (some (Of74_1.r 6)) (cond (inRow (b : Int) (toI r).length) (cond (decide (0 ≤ (a : Int))) (f74_1 m fuel (n : Int) T ((T.length : Nat) : Int) ((P.length + 1 : Nat) : Int) (List.set (List.set (toI r) a (xorV .u64 (List.getD (toI r) a 0) (shV true .u64 1 (b : Int)))) b (xorV .u64 (List.getD (List.set (toI r) a (xorV .u64 (List.getD (toI r) a 0) (shV true .u64 1 (b : Int)))) b 0) (shV true .u64 1 (a : Int))))) none) none)) none) none))
                = f74_1 m fuel (n : Int) T ((T.length : Nat) : Int) ((P.length + 1 : Nat) : Int) (toI (flip (flip r a b) b a)) := by
              rw [hset, c3', hlr, inR ha, inR hb, dcT c2.1, dcT c1.1, hbit]; rfl
            rcases ih with ⟨q1, q2⟩ | ⟨q1, r', q2, q3⟩
            · exact .inl ⟨q1, by rw [← q2]; exact step⟩
            · exact .inr ⟨q1, r', q2, by rw [← q3]; exact step⟩
      · rw [if_pos c2, dcF c2]
        exact .inl ⟨by omega, rfl⟩
    · rw [if_pos c1, dcF c1]
      exact .inl ⟨by omega, rfl⟩
theorem room0 (n : Nat) : Room n (List.replicate n 0) [] := by
  refine ⟨List.length_replicate, fun x hx => ?_, fun a ha b => ?_⟩
  · rw [(List.mem_replicate.1 hx).2]; omega
  · have e : (List.replicate n 0).getD a 0 = 0 := by
      rw [List.getD_eq_getElem?_getD, List.getElem?_replicate]; split <;> rfl
    rw [e, Nat.zero_testBit]; rfl
theorem f74_eq (m : Nat) (hm : 1001 ≤ m) (n : Int) (T : List (Int × Int)) (hl : T.length ≤ 1000) :
    (cpR n T ≠ 0 ∧ f74 m n T = some ([], cpR n T)) ∨ (cpR n T = 0 ∧ ∃ (k : Nat) (r : List Nat), n = (k : Int) ∧ 1 ≤ k ∧ k ≤ 8 ∧ Room k r T ∧ f74 m n T = some (toI r, 0)) := by
  unfold f74 cpR
  rw [in65]
  by_cases hn : 1 ≤ n ∧ n ≤ 8
  · rw [dcT hn, if_neg (by simp [hn])]
    by_cases h28 : 28 < T.length
    · rw [dcT (p := ((T.length : Nat) : Int) > 28) (by omega), if_pos h28]
      exact .inl ⟨by omega, rfl⟩
    · rw [dcF (p := ((T.length : Nat) : Int) > 28) (by omega), if_neg h28]
      obtain ⟨k, rfl⟩ : ∃ k : Nat, n = (k : Int) := ⟨n.toNat, by omega⟩
      have hmk : mkOK (k : Int) (k : Int) 8 = true := by
        have : k = 1 ∨ k = 2 ∨ k = 3 ∨ k = 4 ∨ k = 5 ∨ k = 6 ∨ k = 7 ∨ k = 8 := by omega
        rcases this with rfl | rfl | rfl | rfl | rfl | rfl | rfl | rfl <;> rfl
      have h := f74_1_eq m k (by omega) (by omega) T hl T [] (List.replicate k 0) m rfl (by omega) (room0 k)
      have er : toI (List.replicate k 0) = List.replicate (Int.toNat (k : Int)) (0 : Int) := by unfold toI; rw [List.map_replicate]; rfl
      rw [er] at h
      rw [hmk]
      rcases h with ⟨q1, q2⟩ | ⟨q1, r, q2, q3⟩
      · refine .inl ⟨q1, ?_⟩
        have q2' : f74_1 m m (k : Int) T ((T.length : Nat) : Int) 0 (List.replicate (Int.toNat (k : Int)) 0) = _ := q2
        show ((f74_1 m m (k : Int) T ((T.length : Nat) : Int) 0 (List.replicate (Int.toNat (k : Int)) 0)).bind _) = _
        rw [q2']; rfl
      · refine .inr ⟨q1, k, r, rfl, by omega, by omega, q2, ?_⟩
        have q3' : f74_1 m m (k : Int) T ((T.length : Nat) : Int) 0 (List.replicate (Int.toNat (k : Int)) 0) = _ := q3
        show ((f74_1 m m (k : Int) T ((T.length : Nat) : Int) 0 (List.replicate (Int.toNat (k : Int)) 0)).bind _) = _
        rw [q3']; rfl
  · rw [dcF hn, if_pos hn]
    exact .inl ⟨by omega, rfl⟩
end Go.Xm
namespace Go.Xm
set_option linter.unusedVariables false
set_option linter.unusedSimpArgs false
set_option maxRecDepth 20000
def rowP (p : Nat → Nat → Bool) (x : Nat) : Nat → Nat → List (Int × Int)
  | 0, _ => []
  | r + 1, y => (match p x y with | true => [((x : Int), (y : Int))] | false => []) ++ rowP p x r (y + 1)
def allP (p : Nat → Nat → Bool) (k : Nat) : Nat → Nat → List (Int × Int)
  | 0, _ => []
  | r + 1, x => rowP p x (k - (x + 1)) (x + 1) ++ allP p k r (x + 1)
theorem rowP_len (p : Nat → Nat → Bool) (x : Nat) : ∀ r y, (rowP p x r y).length ≤ r
  | 0, _ => Nat.le_refl _
  | r + 1, y => by
    have ih := rowP_len p x r (y + 1)
    unfold rowP
    rw [List.length_append]
    cases p x y with
    | true => show 1 + _ ≤ _; omega
    | false => show 0 + _ ≤ _; omega
def hasP (L : List (Int × Int)) (x y : Nat) : Bool := hasB (x : Int) (y : Int) L
end Go.Xm
namespace Go.Xm
set_option linter.unusedVariables false
set_option linter.unusedSimpArgs false
set_option maxRecDepth 20000
def eqP (t : Int × Int) (x y : Int) : Bool := (t.1 == x && t.2 == y) || (t.1 == y && t.2 == x)
theorem hasB_cons (x y : Int) (t : Int × Int) (T : List (Int × Int)) : hasB x y (t :: T) = (eqP t x y || hasB x y T) := by
  show ((t.1 == x && t.2 == y) || ((t.1 == y && t.2 == x) || hasB x y T)) = _
  unfold eqP
  rw [Bool.or_assoc]
theorem eqP_iff {t : Int × Int} {x y : Int} : eqP t x y = true ↔ (t.1 = x ∧ t.2 = y) ∨ (t.1 = y ∧ t.2 = x) := by
  unfold eqP
  simp only [Bool.or_eq_true, Bool.and_eq_true, beq_iff_eq]
theorem hasB_iff (x y : Int) : ∀ T : List (Int × Int), hasB x y T = true ↔ ∃ (j : Nat) (t : Int × Int), T[j]? = some t ∧ eqP t x y = true
  | [] => by
    constructor
    · intro h; cases h
    · rintro ⟨j, t, h, _⟩; simp at h
  | t :: T => by
    rw [hasB_cons, Bool.or_eq_true, hasB_iff x y T]
    constructor
    · rintro (h | ⟨j, u, h1, h2⟩)
      · exact ⟨0, t, rfl, h⟩
      · exact ⟨j + 1, u, by simpa using h1, h2⟩
    · rintro ⟨j, u, h1, h2⟩
      cases j with
      | zero =>
        have e : t = u := by simpa using h1
        subst e
        exact .inl h2
      | succ j => exact .inr ⟨j, u, by simpa using h1, h2⟩
theorem ck_fine (n : Int) : ∀ (R P : List (Int × Int)), ckT n P R = 0 → ∀ (A : List (Int × Int)) (t : Int × Int) (B : List (Int × Int)), R = A ++ t :: B →
    (0 ≤ t.1 ∧ t.1 ≤ n - 1) ∧ (0 ≤ t.2 ∧ t.2 ≤ n - 1) ∧ t.1 ≠ t.2 ∧ hasB t.1 t.2 (P ++ A) = false
  | [], P, _, A, t, B, h => by cases A <;> cases h
  | t0 :: R, P, hc, A, t, B, h => by
    have ec : ckT n P (t0 :: R) = if ¬ (0 ≤ t0.1 ∧ t0.1 ≤ n - 1) then 2 else if ¬ (0 ≤ t0.2 ∧ t0.2 ≤ n - 1) then 2 else if t0.1 = t0.2 then 13 else if hasB t0.1 t0.2 P = true then 6 else ckT n (P ++ [t0]) R := rfl
    rw [ec] at hc
    by_cases c1 : 0 ≤ t0.1 ∧ t0.1 ≤ n - 1
    · rw [if_neg (by simp [c1])] at hc
      by_cases c2 : 0 ≤ t0.2 ∧ t0.2 ≤ n - 1
      · rw [if_neg (by simp [c2])] at hc
        by_cases c3 : t0.1 = t0.2
        · rw [if_pos c3] at hc; omega
        · rw [if_neg c3] at hc
          by_cases c4 : hasB t0.1 t0.2 P = true
          · rw [if_pos c4] at hc; omega
          · rw [if_neg c4] at hc
            cases A with
            | nil =>
              have e : t0 = t := (List.cons.inj h).1
              subst e
              exact ⟨c1, c2, c3, by rw [List.append_nil]; simpa using c4⟩
            | cons a A =>
              obtain ⟨e1, e2⟩ := List.cons.inj h
              subst e1
              have := ck_fine n R (P ++ [t0]) hc A t B e2
              rw [List.append_assoc] at this
              exact this
      · rw [if_pos c2] at hc; omega
    · rw [if_pos c1] at hc; omega
end Go.Xm
