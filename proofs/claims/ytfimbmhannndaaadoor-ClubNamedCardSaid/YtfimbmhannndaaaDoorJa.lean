/- Plans are checked alike: CheckPlan of the reference, and the room that club opens. Plain Lean. Conditions: none. -/
import Derived.Test.YtfimbmhannndaaaDoorIb
import Derived.Test.YtfimbmhannndaaaDoorCd
namespace Go.Xm
set_option linter.unusedVariables false
set_option linter.unusedSimpArgs false
set_option maxRecDepth 20000
theorem in65 (m : Nat) (a b c : Int) : f65 m a b c = some (decide (b ≤ a ∧ a ≤ c)) := by
  unfold f65
  by_cases h : b ≤ a
  · rw [dcT h]; simp [h]
  · rw [dcF h]; simp [h]
theorem in66 (m : Nat) (a b c : Int) : f66 m a b c = some (decide (b ≤ a ∧ a ≤ c)) := by
  unfold f66
  by_cases h : b ≤ a
  · rw [dcT (p := a ≥ b) h]; simp [h]
  · rw [dcF (p := a ≥ b) h]; simp [h]
def hasB (x y : Int) : List (Int × Int) → Bool
  | [] => false
  | t :: T => (t.1 == x && t.2 == y) || ((t.1 == y && t.2 == x) || hasB x y T)
theorem hasB_append (x y : Int) : ∀ A B : List (Int × Int), hasB x y (A ++ B) = (hasB x y A || hasB x y B)
  | [], B => rfl
  | t :: A, B => by
    show ((t.1 == x && t.2 == y) || ((t.1 == y && t.2 == x) || hasB x y (A ++ B))) = (((t.1 == x && t.2 == y) || ((t.1 == y && t.2 == x) || hasB x y A)) || hasB x y B)
    rw [hasB_append x y A B]
    simp only [Bool.or_assoc]
theorem hasB_comm (x y : Int) : ∀ A : List (Int × Int), hasB x y A = hasB y x A
  | [] => rfl
  | t :: A => by
    show ((t.1 == x && t.2 == y) || ((t.1 == y && t.2 == x) || hasB x y A)) = ((t.1 == y && t.2 == x) || ((t.1 == x && t.2 == y) || hasB y x A))
    rw [hasB_comm x y A, ← Bool.or_assoc, ← Bool.or_assoc, Bool.or_comm (t.1 == x && t.2 == y)]
theorem drop_getD2 {l : List (Int × Int)} {i : Nat} (h : i < l.length) : l.drop i = l.getD i (0, 0) :: l.drop (i + 1) := by
  rw [List.drop_eq_getElem_cons h, List.getD_eq_getElem?_getD, List.getElem?_eq_getElem h]; rfl
theorem f79_1_eq (m : Nat) (a : List (Int × Int)) (b c : Int) (hl : a.length ≤ 1000) : ∀ (r i fuel : Nat), i + r = a.length → r < fuel →
    f79_1 m fuel a b c (i : Int) = some (match hasB b c (a.drop i) with | true => .r | false => .x0)
  | 0, i, fuel + 1, hi, _ => by
    rw [f79_1, dcF (p := (i : Int) < ((a.length : Nat) : Int)) (by omega), List.drop_eq_nil_of_le (by omega)]
    rfl
  | r + 1, i, fuel + 1, hi, hf => by
    have hil : i < a.length := by omega
    have ih := f79_1_eq m a b c hl r (i + 1) fuel (by omega) (by omega)
    rw [f79_1, dcT (p := (i : Int) < ((a.length : Nat) : Int)) (by omega), inR hil, nat_succ _ (by omega), drop_getD2 hil]
    have t : Int.toNat (i : Int) = i := rfl
    rw [t, ih]
    show cond ((a.getD i (0, 0)).1 == b && (a.getD i (0, 0)).2 == c) _ _ = some (match ((a.getD i (0, 0)).1 == b && (a.getD i (0, 0)).2 == c) || (((a.getD i (0, 0)).1 == c && (a.getD i (0, 0)).2 == b) || hasB b c (a.drop (i + 1))) with | true => Of79_1.r | false => Of79_1.x0)
    cases ((a.getD i (0, 0)).1 == b && (a.getD i (0, 0)).2 == c) with
    | true => rfl
    | false => cases ((a.getD i (0, 0)).1 == c && (a.getD i (0, 0)).2 == b) <;> rfl
theorem f79_eq (m : Nat) (hm : 1001 ≤ m) (a : List (Int × Int)) (b c : Int) (hl : a.length ≤ 1000) : f79 m a b c = some (hasB b c a) := by
  unfold f79
  have h := f79_1_eq m a b c hl a.length 0 m (by omega) (by omega)
  have h' : f79_1 m m a b c 0 = _ := h
  rw [h', List.drop_zero]
  cases hasB b c a <;> rfl
def ckT (n : Int) : List (Int × Int) → List (Int × Int) → Int
  | _, [] => 0
  | P, t :: R => if ¬ (0 ≤ t.1 ∧ t.1 ≤ n - 1) then 2 else if ¬ (0 ≤ t.2 ∧ t.2 ≤ n - 1) then 2 else if t.1 = t.2 then 13 else if hasB t.1 t.2 P = true then 6 else ckT n (P ++ [t]) R
theorem f48_1_eq (m : Nat) (hm : 1001 ≤ m) (n : Int) (hn : 1 ≤ n ∧ n ≤ 8) (T : List (Int × Int)) (hl : T.length ≤ 1000) : ∀ (R P : List (Int × Int)) (fuel : Nat), T = P ++ R → R.length < fuel →
    f48_1 m fuel n T (P.length : Int) = some (if ckT n P R = 0 then .x0 else .r (ckT n P R))
  | [], P, fuel + 1, hT, _ => by
    rw [f48_1, dcF (p := ((P.length : Nat) : Int) < ((T.length : Nat) : Int)) (by rw [hT]; simp)]
    rfl
  | t :: R, P, fuel + 1, hT, hf => by
    have hlen : T.length = P.length + R.length + 1 := by rw [hT]; simp; omega
    have hg : List.getD T (Int.toNat ((P.length : Nat) : Int)) (0, 0) = t := by rw [hT]; exact getD_mid _ _ _ _ rfl
    have htk : List.take (Int.toNat ((P.length : Nat) : Int)) T = P := by rw [hT]; exact List.take_left' rfl
    have ih := f48_1_eq m hm n hn T hl R (P ++ [t]) fuel (by rw [hT]; simp) (by simp at hf; omega)
    have e1 : (((P ++ [t]).length : Nat) : Int) = ((P.length + 1 : Nat) : Int) := by simp
    rw [e1] at ih
    have hb : Nat.ble (Int.toNat ((P.length : Nat) : Int)) T.length = true := Nat.ble_eq_true_of_le (by rw [hlen]; show P.length ≤ _; omega)
    rw [f48_1, dcT (p := ((P.length : Nat) : Int) < ((T.length : Nat) : Int)) (by omega), inR (show P.length < T.length by omega), hg, hb, htk, in66, in66, f79_eq m hm P _ _ (by omega), nat_succ _ (by omega), ih, w64i (by omega) (by omega),
      cutOK_iff.2 (show (0 : Int) ≤ 0 ∧ (0 : Int) ≤ ((P.length : Nat) : Int) ∧ ((P.length : Nat) : Int) ≤ ((T.length : Nat) : Int) ∧ ((T.length : Nat) : Int) ≤ ((T.length : Nat) : Int) by omega)]
    have ec : ckT n P (t :: R) = if ¬ (0 ≤ t.1 ∧ t.1 ≤ n - 1) then 2 else if ¬ (0 ≤ t.2 ∧ t.2 ≤ n - 1) then 2 else if t.1 = t.2 then 13 else if hasB t.1 t.2 P = true then 6 else ckT n (P ++ [t]) R := rfl
    rw [ec]
    by_cases h1 : 0 ≤ t.1 ∧ t.1 ≤ n - 1
    · by_cases h2 : 0 ≤ t.2 ∧ t.2 ≤ n - 1
      · by_cases h3 : t.1 = t.2
        · have h3' : (t.1 == t.2) = true := beq_iff_eq.2 h3
          simp [h1, h2, h3, h3']
        · have h3' : (t.1 == t.2) = false := beq_eq_false_iff_ne.2 h3
          cases h4 : hasB t.1 t.2 P with
          | true => simp [h1, h2, h3, h3']
          | false => simp [h1, h2, h3, h3']
      · simp [h1, h2]
    · simp [h1]
def cpR (n : Int) (T : List (Int × Int)) : Int := if ¬ (1 ≤ n ∧ n ≤ 8) then 1 else if 28 < T.length then 3 else ckT n [] T
theorem f48_eq (m : Nat) (hm : 1001 ≤ m) (n : Int) (T : List (Int × Int)) (hl : T.length ≤ 1000) : f48 m n T = some (cpR n T) := by
  unfold f48 cpR
  rw [in66]
  by_cases hn : 1 ≤ n ∧ n ≤ 8
  · rw [dcT hn, if_neg (by simp [hn])]
    by_cases h28 : 28 < T.length
    · rw [dcT (p := ((T.length : Nat) : Int) > 28) (by omega), if_pos h28]; rfl
    · rw [dcF (p := ((T.length : Nat) : Int) > 28) (by omega), if_neg h28]
      have h := f48_1_eq m hm n hn T hl T [] m rfl (by omega)
      have h' : f48_1 m m n T 0 = _ := h
      show ((f48_1 m m n T 0).bind _) = _
      rw [h']
      by_cases hc : ckT n [] T = 0
      · rw [if_pos hc, hc]; rfl
      · rw [if_neg hc]; rfl
  · rw [dcF hn, if_pos hn]; rfl
end Go.Xm
