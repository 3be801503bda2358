/- The counts in descending order, on both sides. Plain Lean. Conditions: lists of at most 1000 ints. -/
import Derived.Test.YtfimbmhannndaaaDoorLz
import Derived.Test.YtfimbmhannndaaaDoorDc
namespace Go.Xm
set_option linter.unusedVariables false
set_option linter.unusedSimpArgs false
set_option maxRecDepth 20000

/-! ### Turned round -/
theorem split_ends : ∀ {l : List Int} {n : Nat}, l.length = n + 2 → ∃ x M y, l = x :: (M ++ [y]) ∧ M.length = n
  | x :: l, n, h => by
    simp only [List.length_cons] at h
    have hne : l ≠ [] := by intro q; subst q; simp at h
    refine ⟨x, l.dropLast, l.getLast hne, by rw [List.dropLast_concat_getLast hne], by rw [List.length_dropLast]; omega⟩

theorem f61_1_eq (m : Nat) (a : List Int) : ∀ (fuel n : Nat) (A M B : List Int), n < fuel → M.length ≤ n → A.length + M.length + B.length ≤ 1000 →
    f61_1 m fuel a (A.length : Int) (((A.length + M.length : Nat) : Int) - 1) (A ++ M ++ B) = some (A ++ M.reverse ++ B)
  | 0, _, _, _, _, h, _, _ => by omega
  | fuel + 1, n, A, M, B, hf, hn, hl => by
    by_cases hs : M.length ≤ 1
    · rw [f61_1, dcF (p := ((A.length : Nat) : Int) < ((A.length + M.length : Nat) : Int) - 1) (by omega)]
      match M, hs with
      | [], _ => rfl
      | [x], _ => rfl
    · obtain ⟨k, hk⟩ : ∃ k, M.length = k + 2 := ⟨M.length - 2, by omega⟩
      obtain ⟨x, M', y, rfl, hM'⟩ := split_ends hk
      have e1 : A ++ x :: (M' ++ [y]) ++ B = A ++ x :: (M' ++ y :: B) := by simp
      have e2 : A ++ x :: (M' ++ [y]) ++ B = (A ++ x :: M') ++ y :: B := by simp
      have i2 : ((A.length + (x :: (M' ++ [y])).length : Nat) : Int) - 1 = ((A.length + 1 + M'.length : Nat) : Int) := by simp only [List.length_cons, List.length_append, List.length_nil]; omega
      simp only [List.length_cons, List.length_append, List.length_nil] at hl hn
      rw [i2, f61_1, dcT (p := ((A.length : Nat) : Int) < ((A.length + 1 + M'.length : Nat) : Int)) (by omega)]
      rw [inR (show A.length + 1 + M'.length < (A ++ x :: (M' ++ [y]) ++ B).length by simp; omega), inR (show A.length < (A ++ x :: (M' ++ [y]) ++ B).length by simp)]
      have t1 : Int.toNat ((A.length + 1 + M'.length : Nat) : Int) = (A ++ x :: M').length := by simp; omega
      have t2 : Int.toNat ((A.length : Nat) : Int) = A.length := rfl
      have g1 : List.getD (A ++ x :: (M' ++ [y]) ++ B) (Int.toNat ((A.length + 1 + M'.length : Nat) : Int)) 0 = y := by rw [e2]; exact getD_mid _ _ _ _ t1
      have g2 : List.getD (A ++ x :: (M' ++ [y]) ++ B) (Int.toNat ((A.length : Nat) : Int)) 0 = x := by rw [e1]; exact getD_mid _ _ _ _ t2
      have s1 : List.set (List.set (A ++ x :: (M' ++ [y]) ++ B) (Int.toNat ((A.length : Nat) : Int)) y) (Int.toNat ((A.length + 1 + M'.length : Nat) : Int)) x = (A ++ [y]) ++ M' ++ (x :: B) := by
        rw [e1, set_mid _ _ _ _ t2]
        have e3 : A ++ y :: (M' ++ y :: B) = (A ++ y :: M') ++ y :: B := by simp
        rw [e3, set_mid _ _ _ _ (by rw [t1]; simp)]
        simp
      rw [g1, g2]
      show f61_1 m fuel a _ _ _ = _
      rw [s1, nat_succ _ (by omega), w64i (by omega) (by omega)]
      have j1 : ((A.length + 1 : Nat) : Int) = (((A ++ [y]).length : Nat) : Int) := by simp
      have j2 : ((A.length + 1 + M'.length : Nat) : Int) - 1 = (((A ++ [y]).length + M'.length : Nat) : Int) - 1 := by simp
      rw [j1, j2, f61_1_eq m a fuel (n - 2) (A ++ [y]) M' (x :: B) (by omega) (by omega) (by simp only [List.length_append, List.length_cons, List.length_nil]; omega)]
      simp

theorem f61_eq (m : Nat) (hm : 1001 ≤ m) (a : List Int) (hl : a.length ≤ 1000) : f61 m a = some (dsc a) := by
  unfold f61
  have h1 : Nat.ble a.length 1000000 = true := Nat.ble_eq_true_of_le (by omega)
  rw [h1]
  have h := f61_1_eq m a m a.length [] (sortI a) [] (by omega) (by rw [sortI_len]; exact Nat.le_refl _) (by rw [sortI_len]; simpa using hl)
  simp only [List.length_nil, Nat.zero_add, List.nil_append, List.append_nil] at h
  have e0 : w64 ((((sortI a).length : Nat) : Int) - 1) = (((sortI a).length : Nat) : Int) - 1 := w64i (by omega) (by rw [sortI_len]; omega)
  show ((f61_1 m m a 0 (w64 ((((sortI a).length : Nat) : Int) - 1)) (sortI a)).bind _) = _
  rw [e0]
  have h' : f61_1 m m a 0 ((((sortI a).length : Nat) : Int) - 1) (sortI a) = some (dsc a) := h
  rw [h']
  show cond (decide ((sortI a).length = (dsc a).length)) _ _ = _
  rw [dcT (by rw [dsc_len, sortI_len])]
  rfl

/-! ### What the code before does not look at -/
theorem f59_2_a (m : Nat) (a b : List Int) (n c : Nat) (x : Int) : ∀ (fuel : Nat) (i : Int) (l : List Int), f59_2 m fuel a n c x i l = f59_2 m fuel b n c x i l
  | 0, _, _ => rfl
  | fuel + 1, i, l => by
    rw [f59_2, f59_2]
    simp only [f59_2_a m a b n c x fuel]

theorem f59_3_eq (m : Nat) (a b : List Int) (n c : Nat) (l' : List Int) : ∀ (fuel : Nat) (i j : Int) (l : List Int), f59_3 m fuel a n c l' i j l = f61_1 m fuel b i j l
  | 0, _, _, _ => rfl
  | fuel + 1, i, j, l => by
    rw [f59_3, f61_1]
    simp only [f59_3_eq m a b n c l' fuel]

theorem f59_1_a (m : Nat) (a b : List Int) : ∀ (fuel : Nat) (l : List Int), f59_1 m fuel a l = f59_1 m fuel b l
  | 0, _ => rfl
  | fuel + 1, l => by
    rw [f59_1, f59_1]
    simp only [f59_1_a m a b fuel, f59_2_a m a b, f59_3_eq m a [], f59_3_eq m b []]

theorem f59_dsc (m : Nat) (hm : 1001 ≤ m) (a : List Int) (hl : a.length ≤ 1000) : f59 m a = f59 m (dsc a) := by
  unfold f59
  rw [f61_eq m hm a hl, f61_eq m hm (dsc a) (by rw [dsc_len]; exact hl), dsc_dsc]
  show ((f59_1 m m a (dsc a)).bind _) = ((f59_1 m m (dsc a) (dsc a)).bind _)
  rw [f59_1_a m a (dsc a)]

end Go.Xm
