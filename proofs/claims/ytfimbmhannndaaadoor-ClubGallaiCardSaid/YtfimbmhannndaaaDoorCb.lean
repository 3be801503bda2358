/- The counts in descending order, as the reference has them. Plain Lean. Conditions: lists of at most 900 ints. -/
import Derived.Test.YtfimbmhannndaaaDoorLz
import Derived.Test.YtfimbmhannndaaaDoorDb
namespace Go.Xm
set_option linter.unusedVariables false
set_option linter.unusedSimpArgs false
set_option maxRecDepth 20000

def gd : List Int → Int → List Int
  | [], x => [x]
  | y :: Q, x => if x > y then gd Q x ++ [y] else Q.reverse ++ [y, x]

theorem gd_perm : ∀ (Q : List Int) (x : Int), (gd Q x).Perm (Q.reverse ++ [x])
  | [], x => List.Perm.refl _
  | y :: Q, x => by
    unfold gd
    split
    · rw [List.reverse_cons, List.append_assoc]
      refine ((gd_perm Q x).append_right [y]).trans ?_
      rw [List.append_assoc]
      exact List.Perm.append_left _ (List.Perm.swap y x [])
    · rw [List.reverse_cons, List.append_assoc]
      exact List.Perm.refl _

theorem gd_mem {Q : List Int} {x z : Int} (h : z ∈ gd Q x) : z = x ∨ z ∈ Q := by
  have := (gd_perm Q x).mem_iff.1 h
  simp only [List.mem_append, List.mem_reverse, List.mem_singleton] at this
  exact this.symm

theorem gd_sorted : ∀ (Q : List Int) (x : Int), Q.reverse.Pairwise (· ≥ ·) → (gd Q x).Pairwise (· ≥ ·)
  | [], x, _ => List.pairwise_singleton _ _
  | y :: Q, x, h => by
    rw [List.reverse_cons] at h
    obtain ⟨h1, h2, h3⟩ := List.pairwise_append.1 h
    unfold gd
    split
    · rename_i e
      refine List.pairwise_append.2 ⟨gd_sorted Q x h1, List.pairwise_singleton _ _, fun z hz u hu => ?_⟩
      rw [List.mem_singleton.1 hu]
      rcases gd_mem hz with rfl | hz
      · omega
      · exact h3 z (List.mem_reverse.2 hz) y (List.mem_singleton.2 rfl)
    · rename_i e
      refine List.pairwise_append.2 ⟨h1, ?_, fun z hz u hu => ?_⟩
      · refine List.pairwise_cons.2 ⟨fun u hu => ?_, List.pairwise_singleton _ _⟩
        rw [List.mem_singleton.1 hu]; omega
      · have h4 := h3 z hz y (List.mem_singleton.2 rfl)
        rcases List.mem_cons.1 hu with rfl | hu
        · exact h4
        · rw [List.mem_singleton.1 hu]; omega

def dsort : List Int → List Int → List Int
  | S, [] => S
  | S, x :: R => dsort (gd S.reverse x) R

theorem dsort_perm : ∀ (R S : List Int), (dsort S R).Perm (S ++ R)
  | [], S => by simp [dsort]
  | x :: R, S => by
    unfold dsort
    refine (dsort_perm R _).trans ?_
    refine ((gd_perm S.reverse x).append_right R).trans ?_
    rw [List.reverse_reverse, List.append_assoc]
    exact List.Perm.refl _

theorem dsort_sorted : ∀ (R S : List Int), S.Pairwise (· ≥ ·) → (dsort S R).Pairwise (· ≥ ·)
  | [], S, h => h
  | x :: R, S, h => dsort_sorted R _ (gd_sorted _ x (by rw [List.reverse_reverse]; exact h))

theorem f92_2_eq (m : Nat) (a : List Int) (c1 : Int) : ∀ (Q : List Int) (x : Int) (R : List Int) (fuel : Nat), Q.length < fuel → Q.length + 1 + R.length ≤ 1000 →
    f92_2 m fuel a c1 (Q.length : Int) (Q.reverse ++ x :: R) = some (gd Q x ++ R)
  | [], x, R, fuel + 1, _, _ => by
    rw [f92_2, dcF (p := ((([] : List Int).length : Nat) : Int) > 0) (by simp)]
    rfl
  | y :: Q, x, R, fuel + 1, hf, hl => by
    have e1 : (y :: Q).reverse ++ x :: R = Q.reverse ++ y :: x :: R := by simp
    have e2 : (y :: Q).reverse ++ x :: R = (Q.reverse ++ [y]) ++ x :: R := by simp
    have hj : Int.toNat (((y :: Q).length : Nat) : Int) = (Q.reverse ++ [y]).length := by simp
    have hw : w64 ((((y :: Q).length : Nat) : Int) - 1) = ((Q.length : Nat) : Int) := by
      simp only [List.length_cons] at hl ⊢
      rw [w64i (by omega) (by omega)]; omega
    rw [f92_2, dcT (p := (((y :: Q).length : Nat) : Int) > 0) (by simp only [List.length_cons]; omega)]
    rw [inR (show (y :: Q).length < ((y :: Q).reverse ++ x :: R).length by simp), hw, inR (show Q.length < ((y :: Q).reverse ++ x :: R).length by simp)]
    have g1 : List.getD ((y :: Q).reverse ++ x :: R) (Int.toNat (((y :: Q).length : Nat) : Int)) 0 = x := by rw [e2]; exact getD_mid _ _ _ _ (by simp)
    have g2 : List.getD ((y :: Q).reverse ++ x :: R) (Int.toNat ((Q.length : Nat) : Int)) 0 = y := by rw [e1]; exact getD_mid _ _ _ _ (by simp)
    rw [g1, g2]
    unfold gd
    by_cases e : x > y
    · rw [dcT (p := x > y) e, if_pos e]
      have s1 : List.set (List.set ((y :: Q).reverse ++ x :: R) (Int.toNat (((y :: Q).length : Nat) : Int)) y) (Int.toNat ((Q.length : Nat) : Int)) x = Q.reverse ++ x :: y :: R := by
        rw [e2, set_mid _ _ _ _ (by simp), List.append_assoc]
        exact set_mid _ _ _ _ (by simp)
      show f92_2 m fuel a c1 _ _ = _
      rw [s1, f92_2_eq m a c1 Q x (y :: R) fuel (by simp only [List.length_cons] at hf; omega) (by simp only [List.length_cons] at hl ⊢; omega)]
      simp
    · rw [dcF (p := x > y) e, if_neg e]
      simp

theorem f92_1_eq (m : Nat) (a : List Int) : ∀ (R S : List Int) (fuel n : Nat), R.length < fuel → S.length + R.length = n → n ≤ 1000 → n < m →
    f92_1 m fuel a (S.length : Int) (S ++ R) = some (dsort S R)
  | [], S, fuel + 1, n, _, hn, _, _ => by
    rw [f92_1, dcF (p := ((S.length : Nat) : Int) < (((S ++ ([] : List Int)).length : Nat) : Int)) (by simp)]
    simp [dsort]
  | x :: R, S, fuel + 1, n, hf, hn, h1, hm => by
    simp only [List.length_cons] at hf hn
    rw [f92_1, dcT (p := ((S.length : Nat) : Int) < (((S ++ x :: R).length : Nat) : Int)) (by simp only [List.length_append, List.length_cons]; omega)]
    have e : S ++ x :: R = S.reverse.reverse ++ x :: R := by rw [List.reverse_reverse]
    have h3 := f92_2_eq m a (S.length : Int) S.reverse x R m (by rw [List.length_reverse]; omega) (by rw [List.length_reverse]; omega)
    rw [← e, List.length_reverse] at h3
    show ((f92_2 m m a (S.length : Int) (S.length : Int) (S ++ x :: R)).bind fun o3 => f92_1 m fuel a (w64 ((S.length : Int) + 1)) o3) = _
    rw [h3]
    have hl : (gd S.reverse x).length = S.length + 1 := by
      have := (gd_perm S.reverse x).length_eq
      simpa using this
    show f92_1 m fuel a (w64 ((S.length : Int) + 1)) (gd S.reverse x ++ R) = _
    rw [nat_succ _ (by omega), ← hl]
    rw [f92_1_eq m a R (gd S.reverse x) fuel n (by omega) (by omega) h1 hm]
    rfl

theorem f92_eq (m : Nat) (hm : 1001 ≤ m) (a : List Int) (hl : a.length ≤ 900) : f92 m a = some (dsc a) := by
  unfold f92
  rw [fitsI (by omega) (by decide)]
  have h := f92_1_eq m a a [] m a.length (by omega) (by simp) (by omega) (by omega)
  have h' : f92_1 m m a 0 a = some (dsort [] a) := h
  show ((f92_1 m m a 0 a).bind _) = _
  rw [h']
  have hp := dsort_perm a []
  exact congrArg some (dsc_uniq hp (dsort_sorted a [] List.Pairwise.nil))

end Go.Xm
