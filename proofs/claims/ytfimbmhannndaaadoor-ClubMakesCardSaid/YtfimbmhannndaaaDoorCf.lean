/- Small words for plain laws about decompiled functions. Conditions: none. -/
import Derived.Test.YtfimbmhannndaaaDoorTe
import Derived.Test.YtfimbmhannndaaaDoorMy
import Derived.Test.YtfimbmhannndaaaDoorDd
namespace Go.Xm
set_option linter.unusedVariables false
set_option linter.unusedSimpArgs false
set_option maxRecDepth 20000
theorem w64_id {x : Int} (h1 : -9223372036854775808 ≤ x) (h2 : x ≤ 9223372036854775807) : w64 x = x := IntWalk.i64_in _ ⟨h1, h2⟩
theorem w64i {x : Int} (h1 : -1000000000000 ≤ x) (h2 : x ≤ 1000000000000) : w64 x = x := w64_id (by omega) (by omega)
theorem inR {i n : Nat} (h : i < n) : inRow (i : Int) n = true := inRow_iff.2 ⟨by omega, by omega⟩
theorem fitsI {n b : Nat} (h : n ≤ 1000) (hb : b ≤ 1000) : fitsB n b = true := by
  have : n * b ≤ 1000 * 1000 := Nat.mul_le_mul h hb
  simp only [fitsB, Bool.and_eq_true, Nat.ble_eq]; omega
theorem nat_succ (i : Nat) (h : i ≤ 1000000) : w64 ((i : Int) + 1) = ((i + 1 : Nat) : Int) := by rw [w64i (by omega) (by omega)]; omega
theorem dcT {p : Prop} [Decidable p] (h : p) : decide p = true := decide_eq_true h
theorem dcF {p : Prop} [Decidable p] (h : ¬ p) : decide p = false := decide_eq_false h
theorem iMin_eq (x y : Int) : iMin x y = min x y := by unfold iMin; split <;> omega
theorem getD_mid {α : Type} (A : List α) (x : α) (R : List α) (d : α) {n : Nat} (h : n = A.length) : List.getD (A ++ x :: R) n d = x := by
  subst h
  simp [List.getD_eq_getElem?_getD]
theorem set_mid {α : Type} (A : List α) (x y : α) (R : List α) {n : Nat} (h : n = A.length) : List.set (A ++ x :: R) n y = A ++ y :: R := by
  subst h
  simp
theorem drop_getD {l : List Int} {i : Nat} (h : i < l.length) : l.drop i = l.getD i 0 :: l.drop (i + 1) := by
  rw [List.drop_eq_getElem_cons h]; simp [List.getD_eq_getElem?_getD, h]
def dsc (a : List Int) : List Int := (sortI a).reverse
theorem dsc_len (a : List Int) : (dsc a).length = a.length := by unfold dsc; rw [List.length_reverse, sortI_len]
theorem dsc_perm (a : List Int) : (dsc a).Perm a := (List.reverse_perm _).trans (sortI_perm a)
theorem dsc_pw (a : List Int) : (dsc a).Pairwise (· ≥ ·) := List.pairwise_reverse.2 ((sortI_asc a).imp fun h => h)
theorem dsc_uniq {a r : List Int} (h : r.Perm a) (hp : r.Pairwise (· ≥ ·)) : r = dsc a :=
  (h.trans (dsc_perm a).symm).eq_of_pairwise (le := (· ≥ ·)) (fun x y _ _ h1 h2 => by omega) hp (dsc_pw a)
end Go.Xm
namespace Go.Xm
set_option linter.unusedVariables false
set_option linter.unusedSimpArgs false
set_option maxRecDepth 20000
theorem split_ends : ∀ {l : List Int} {n : Nat}, l.length = n + 2 → ∃ x M y, l = x :: (M ++ [y]) ∧ M.length = n
  | x :: l, n, h => by
    simp only [List.length_cons] at h
    have hne : l ≠ [] := by intro q; subst q; simp at h
    refine ⟨x, l.dropLast, l.getLast hne, by rw [List.dropLast_concat_getLast hne], by rw [List.length_dropLast]; omega⟩
theorem f61_1_eq (m : Nat) (a : List Int) : ∀ (fuel n : Nat) (A M B : List Int), n < fuel → M.length ≤ n → A.length + M.length + B.length ≤ 1000 →
    f61_1 m fuel a (A.length : Int) (((A.length + M.length : Nat) : Int) - 1) (A ++ M ++ B) = some (A ++ M.reverse ++ B)
  | 0, _, _, _, _, h, _, _ => by omega
  | fuel + 1, n, A, M, B, hf, hn, hl => by
    by_cases hs : M.length ≤ 1
    · rw [f61_1, dcF (p := ((A.length : Nat) : Int) < ((A.length + M.length : Nat) : Int) - 1) (by omega)]
      match M, hs with
      | [], _ => rfl
      | [x], _ => rfl
    · obtain ⟨k, hk⟩ : ∃ k, M.length = k + 2 := ⟨M.length - 2, by omega⟩
      obtain ⟨x, M', y, rfl, hM'⟩ := split_ends hk
      have e1 : A ++ x :: (M' ++ [y]) ++ B = A ++ x :: (M' ++ y :: B) := by simp
      have e2 : A ++ x :: (M' ++ [y]) ++ B = (A ++ x :: M') ++ y :: B := by simp
      have i2 : ((A.length + (x :: (M' ++ [y])).length : Nat) : Int) - 1 = ((A.length + 1 + M'.length : Nat) : Int) := by simp only [List.length_cons, List.length_append, List.length_nil]; omega
      simp only [List.length_cons, List.length_append, List.length_nil] at hl hn
      rw [i2, f61_1, dcT (p := ((A.length : Nat) : Int) < ((A.length + 1 + M'.length : Nat) : Int)) (by omega)]
      rw [inR (show A.length + 1 + M'.length < (A ++ x :: (M' ++ [y]) ++ B).length by simp; omega), inR (show A.length < (A ++ x :: (M' ++ [y]) ++ B).length by simp)]
      have t1 : Int.toNat ((A.length + 1 + M'.length : Nat) : Int) = (A ++ x :: M').length := by simp; omega
      have t2 : Int.toNat ((A.length : Nat) : Int) = A.length := rfl
      have g1 : List.getD (A ++ x :: (M' ++ [y]) ++ B) (Int.toNat ((A.length + 1 + M'.length : Nat) : Int)) 0 = y := by rw [e2]; exact getD_mid _ _ _ _ t1
      have g2 : List.getD (A ++ x :: (M' ++ [y]) ++ B) (Int.toNat ((A.length : Nat) : Int)) 0 = x := by rw [e1]; exact getD_mid _ _ _ _ t2
      have s1 : List.set (List.set (A ++ x :: (M' ++ [y]) ++ B) (Int.toNat ((A.length : Nat) : Int)) y) (Int.toNat ((A.length + 1 + M'.length : Nat) : Int)) x = (A ++ [y]) ++ M' ++ (x :: B) := by
        rw [e1, set_mid _ _ _ _ t2]
        have e3 : A ++ y :: (M' ++ y :: B) = (A ++ y :: M') ++ y :: B := by simp
        rw [e3, set_mid _ _ _ _ (by rw [t1]; simp)]
        simp
      rw [g1, g2]
      show f61_1 m fuel a _ _ _ = _
      rw [s1, nat_succ _ (by omega), w64i (by omega) (by omega)]
      have j1 : ((A.length + 1 : Nat) : Int) = (((A ++ [y]).length : Nat) : Int) := by simp
      have j2 : ((A.length + 1 + M'.length : Nat) : Int) - 1 = (((A ++ [y]).length + M'.length : Nat) : Int) - 1 := by simp
      rw [j1, j2, f61_1_eq m a fuel (n - 2) (A ++ [y]) M' (x :: B) (by omega) (by omega) (by simp only [List.length_append, List.length_cons, List.length_nil]; omega)]
      simp
theorem f61_eq (m : Nat) (hm : 1001 ≤ m) (a : List Int) (hl : a.length ≤ 1000) : f61 m a = some (dsc a) := by
  unfold f61
  have h1 : Nat.ble a.length 1000000 = true := Nat.ble_eq_true_of_le (by omega)
  rw [h1]
  have h := f61_1_eq m a m a.length [] (sortI a) [] (by omega) (by rw [sortI_len]; exact Nat.le_refl _) (by rw [sortI_len]; simpa using hl)
  simp only [List.length_nil, Nat.zero_add, List.nil_append, List.append_nil] at h
  have e0 : w64 ((((sortI a).length : Nat) : Int) - 1) = (((sortI a).length : Nat) : Int) - 1 := w64i (by omega) (by rw [sortI_len]; omega)
  show ((f61_1 m m a 0 (w64 ((((sortI a).length : Nat) : Int) - 1)) (sortI a)).bind _) = _
  rw [e0]
  have h' : f61_1 m m a 0 ((((sortI a).length : Nat) : Int) - 1) (sortI a) = some (dsc a) := h
  rw [h']
  show cond (decide ((sortI a).length = (dsc a).length)) _ _ = _
  rw [dcT (by rw [dsc_len, sortI_len])]
  rfl
theorem f59_3_eq (m : Nat) (a b : List Int) (n c : Nat) (l' : List Int) : ∀ (fuel : Nat) (i j : Int) (l : List Int), f59_3 m fuel a n c l' i j l = f61_1 m fuel b i j l
  | 0, _, _, _ => rfl
  | fuel + 1, i, j, l => by
    rw [f59_3, f61_1]
    simp only [f59_3_eq m a b n c l' fuel]
end Go.Xm
namespace Go.Xm
set_option linter.unusedVariables false
set_option linter.unusedSimpArgs false
set_option maxRecDepth 20000
def gd : List Int → Int → List Int
  | [], x => [x]
  | y :: Q, x => if x > y then gd Q x ++ [y] else Q.reverse ++ [y, x]
theorem gd_perm : ∀ (Q : List Int) (x : Int), (gd Q x).Perm (Q.reverse ++ [x])
  | [], x => List.Perm.refl _
  | y :: Q, x => by
    unfold gd
    split
    · rw [List.reverse_cons, List.append_assoc]
      refine ((gd_perm Q x).append_right [y]).trans ?_
      rw [List.append_assoc]
      exact List.Perm.append_left _ (List.Perm.swap y x [])
    · rw [List.reverse_cons, List.append_assoc]
      exact List.Perm.refl _
theorem gd_mem {Q : List Int} {x z : Int} (h : z ∈ gd Q x) : z = x ∨ z ∈ Q := by
  have := (gd_perm Q x).mem_iff.1 h
  simp only [List.mem_append, List.mem_reverse, List.mem_singleton] at this
  exact this.symm
theorem gd_sorted : ∀ (Q : List Int) (x : Int), Q.reverse.Pairwise (· ≥ ·) → (gd Q x).Pairwise (· ≥ ·)
  | [], x, _ => List.pairwise_singleton _ _
  | y :: Q, x, h => by
    rw [List.reverse_cons] at h
    obtain ⟨h1, h2, h3⟩ := List.pairwise_append.1 h
    unfold gd
    split
    · rename_i e
      refine List.pairwise_append.2 ⟨gd_sorted Q x h1, List.pairwise_singleton _ _, fun z hz u hu => ?_⟩
      rw [List.mem_singleton.1 hu]
      rcases gd_mem hz with rfl | hz
      · omega
      · exact h3 z (List.mem_reverse.2 hz) y (List.mem_singleton.2 rfl)
    · rename_i e
      refine List.pairwise_append.2 ⟨h1, ?_, fun z hz u hu => ?_⟩
      · refine List.pairwise_cons.2 ⟨fun u hu => ?_, List.pairwise_singleton _ _⟩
        rw [List.mem_singleton.1 hu]; omega
      · have h4 := h3 z hz y (List.mem_singleton.2 rfl)
        rcases List.mem_cons.1 hu with rfl | hu
        · exact h4
        · rw [List.mem_singleton.1 hu]; omega
def dsort : List Int → List Int → List Int
  | S, [] => S
  | S, x :: R => dsort (gd S.reverse x) R
theorem dsort_perm : ∀ (R S : List Int), (dsort S R).Perm (S ++ R)
  | [], S => by simp [dsort]
  | x :: R, S => by
    unfold dsort
    refine (dsort_perm R _).trans ?_
    refine ((gd_perm S.reverse x).append_right R).trans ?_
    rw [List.reverse_reverse, List.append_assoc]
    exact List.Perm.refl _
theorem dsort_sorted : ∀ (R S : List Int), S.Pairwise (· ≥ ·) → (dsort S R).Pairwise (· ≥ ·)
  | [], S, h => h
  | x :: R, S, h => dsort_sorted R _ (gd_sorted _ x (by rw [List.reverse_reverse]; exact h))
theorem f92_2_eq (m : Nat) (a : List Int) (c1 : Int) : ∀ (Q : List Int) (x : Int) (R : List Int) (fuel : Nat), Q.length < fuel → Q.length + 1 + R.length ≤ 1000 →
    f92_2 m fuel a c1 (Q.length : Int) (Q.reverse ++ x :: R) = some (gd Q x ++ R)
  | [], x, R, fuel + 1, _, _ => by
    rw [f92_2, dcF (p := ((([] : List Int).length : Nat) : Int) > 0) (by simp)]
    rfl
  | y :: Q, x, R, fuel + 1, hf, hl => by
    have e1 : (y :: Q).reverse ++ x :: R = Q.reverse ++ y :: x :: R := by simp
    have e2 : (y :: Q).reverse ++ x :: R = (Q.reverse ++ [y]) ++ x :: R := by simp
    have hj : Int.toNat (((y :: Q).length : Nat) : Int) = (Q.reverse ++ [y]).length := by simp
    have hw : w64 ((((y :: Q).length : Nat) : Int) - 1) = ((Q.length : Nat) : Int) := by
      simp only [List.length_cons] at hl ⊢
      rw [w64i (by omega) (by omega)]; omega
    rw [f92_2, dcT (p := (((y :: Q).length : Nat) : Int) > 0) (by simp only [List.length_cons]; omega)]
    rw [inR (show (y :: Q).length < ((y :: Q).reverse ++ x :: R).length by simp), hw, inR (show Q.length < ((y :: Q).reverse ++ x :: R).length by simp)]
    have g1 : List.getD ((y :: Q).reverse ++ x :: R) (Int.toNat (((y :: Q).length : Nat) : Int)) 0 = x := by rw [e2]; exact getD_mid _ _ _ _ (by simp)
    have g2 : List.getD ((y :: Q).reverse ++ x :: R) (Int.toNat ((Q.length : Nat) : Int)) 0 = y := by rw [e1]; exact getD_mid _ _ _ _ (by simp)
    rw [g1, g2]
    unfold gd
    by_cases e : x > y
    · rw [dcT (p := x > y) e, if_pos e]
      have s1 : List.set (List.set ((y :: Q).reverse ++ x :: R) (Int.toNat (((y :: Q).length : Nat) : Int)) y) (Int.toNat ((Q.length : Nat) : Int)) x = Q.reverse ++ x :: y :: R := by
        rw [e2, set_mid _ _ _ _ (by simp), List.append_assoc]
        exact set_mid _ _ _ _ (by simp)
      show f92_2 m fuel a c1 _ _ = _
      rw [s1, f92_2_eq m a c1 Q x (y :: R) fuel (by simp only [List.length_cons] at hf; omega) (by simp only [List.length_cons] at hl ⊢; omega)]
      simp
    · rw [dcF (p := x > y) e, if_neg e]
      simp
theorem f92_1_eq (m : Nat) (a : List Int) : ∀ (R S : List Int) (fuel n : Nat), R.length < fuel → S.length + R.length = n → n ≤ 1000 → n < m →
    f92_1 m fuel a (S.length : Int) (S ++ R) = some (dsort S R)
  | [], S, fuel + 1, n, _, hn, _, _ => by
    rw [f92_1, dcF (p := ((S.length : Nat) : Int) < (((S ++ ([] : List Int)).length : Nat) : Int)) (by simp)]
    simp [dsort]
  | x :: R, S, fuel + 1, n, hf, hn, h1, hm => by
    simp only [List.length_cons] at hf hn
    rw [f92_1, dcT (p := ((S.length : Nat) : Int) < (((S ++ x :: R).length : Nat) : Int)) (by simp only [List.length_append, List.length_cons]; omega)]
    have e : S ++ x :: R = S.reverse.reverse ++ x :: R := by rw [List.reverse_reverse]
    have h3 := f92_2_eq m a (S.length : Int) S.reverse x R m (by rw [List.length_reverse]; omega) (by rw [List.length_reverse]; omega)
    rw [← e, List.length_reverse] at h3
    show ((f92_2 m m a (S.length : Int) (S.length : Int) (S ++ x :: R)).bind fun o3 => f92_1 m fuel a (w64 ((S.length : Int) + 1)) o3) = _
    rw [h3]
    have hl : (gd S.reverse x).length = S.length + 1 := by
      have := (gd_perm S.reverse x).length_eq
      simpa using this
    show f92_1 m fuel a (w64 ((S.length : Int) + 1)) (gd S.reverse x ++ R) = _
    rw [nat_succ _ (by omega), ← hl]
    rw [f92_1_eq m a R (gd S.reverse x) fuel n (by omega) (by omega) h1 hm]
    rfl
theorem f92_eq (m : Nat) (hm : 1001 ≤ m) (a : List Int) (hl : a.length ≤ 900) : f92 m a = some (dsc a) := by
  unfold f92
  rw [fitsI (by omega) (by decide)]
  have h := f92_1_eq m a a [] m a.length (by omega) (by simp) (by omega) (by omega)
  have h' : f92_1 m m a 0 a = some (dsort [] a) := h
  show ((f92_1 m m a 0 a).bind _) = _
  rw [h']
  have hp := dsort_perm a []
  exact congrArg some (dsc_uniq hp (dsort_sorted a [] List.Pairwise.nil))
end Go.Xm
namespace Go.Xm
set_option linter.unusedVariables false
set_option linter.unusedSimpArgs false
set_option maxRecDepth 20000
def Cts (l : List Int) : Prop := l.length ≤ 8 ∧ ∀ x ∈ l, 0 ≤ x ∧ x ≤ 7
theorem Cts.dsc {l : List Int} (h : Cts l) : Cts (dsc l) := ⟨by rw [dsc_len]; exact h.1, fun x hx => h.2 x ((dsc_perm l).mem_iff.1 hx)⟩
theorem Cts.get {l : List Int} (h : Cts l) (i : Nat) : 0 ≤ l.getD i 0 ∧ l.getD i 0 ≤ 7 := by
  by_cases hi : i < l.length
  · have e : l.getD i 0 = l[i] := by simp [List.getD_eq_getElem?_getD, hi]
    rw [e]; exact h.2 _ (List.getElem_mem hi)
  · have e : l.getD i 0 = 0 := by simp [List.getD_eq_getElem?_getD, List.getElem?_eq_none (Nat.le_of_not_lt hi)]
    rw [e]; omega
def ovr (k : Int) : List Int → Int → Int
  | [], _ => 0
  | x :: l, i => (if i < k then x else -(min x k)) + ovr k l (i + 1)
def stB (k : Int) (d : List Int) : Bool := decide (k * (k - 1) < ovr k d 0)
theorem sq_bound {k : Int} (hk : 0 ≤ k ∧ k ≤ 8) : 0 - k = -k ∧ -100 ≤ -k * (k - 1) ∧ -k * (k - 1) ≤ 8 ∧ k * (k - 1) ≤ 56 ∧ 0 ≤ k * (k - 1) ∧ -k * (k - 1) = -(k * (k - 1)) := by
  have : ∀ n : Fin 9, (-100 : Int) ≤ -((n.val : Int)) * ((n.val : Int) - 1) ∧ -((n.val : Int)) * ((n.val : Int) - 1) ≤ 8 ∧ ((n.val : Int)) * ((n.val : Int) - 1) ≤ 56 ∧ 0 ≤ ((n.val : Int)) * ((n.val : Int) - 1) := by decide
  have h := this ⟨k.toNat, by omega⟩
  have e : ((k.toNat : Nat) : Int) = k := by omega
  simp only [e] at h
  exact ⟨by omega, h.1, h.2.1, h.2.2.1, h.2.2.2, Int.neg_mul _ _⟩
def mnS (k : Int) (l : List Int) : Int := (l.map fun x => min x k).sum
theorem f67_1_eq (m : Nat) (a : List Int) (k : Int) (hk : 0 ≤ k ∧ k ≤ 8) (d : List Int) (hd : Cts d) : ∀ (r i fuel : Nat) (x : Int), i + r = d.length → r < fuel → -100 - 10 * (i : Int) ≤ x → x ≤ 100 + 10 * (i : Int) →
    f67_1 m fuel a k x (i : Int) d = some (x + mnS k (d.drop i), d)
  | 0, i, fuel + 1, x, hi, _, _, _ => by
    rw [f67_1, dcF (p := (i : Int) < ((d.length : Nat) : Int)) (by omega), List.drop_eq_nil_of_le (by omega)]
    simp [mnS]
  | r + 1, i, fuel + 1, x, hi, hf, h1, h2 => by
    have hil : i < d.length := by omega
    have hg := hd.get i
    have hd8 := hd.1
    rw [f67_1, dcT (p := (i : Int) < ((d.length : Nat) : Int)) (by omega), inR hil]
    have t : Int.toNat (i : Int) = i := rfl
    rw [t, iMin_eq, drop_getD hil, nat_succ _ (by omega)]
    show f67_1 m fuel a k (w64 (x + min (d.getD i 0) k)) _ _ = _
    rw [w64i (by omega) (by omega), f67_1_eq m a k hk d hd r (i + 1) fuel _ (by omega) (by omega) (by omega) (by omega)]
    have : mnS k (d.getD i 0 :: d.drop (i + 1)) = min (d.getD i 0) k + mnS k (d.drop (i + 1)) := by simp [mnS]
    rw [this]
    exact congrArg (fun z => some (z, d)) (by omega)
theorem f67_2_eq (m : Nat) (a : List Int) (n : Nat) (x0 : Int) (d : List Int) (hd : Cts d) (hn : n ≤ d.length) : ∀ (r i fuel : Nat) (x : Int), i + r = n → r < fuel → -100 - 10 * (i : Int) ≤ x → x ≤ 100 + 10 * (i : Int) →
    f67_2 m fuel a n x (i : Int) d = some (x + ((d.take n).drop i).sum, d)
  | 0, i, fuel + 1, x, hi, _, _, _ => by
    rw [f67_2, dcF (p := (i : Int) < ((n : Nat) : Int)) (by omega), List.drop_eq_nil_of_le (by rw [List.length_take]; omega)]
    simp
  | r + 1, i, fuel + 1, x, hi, hf, h1, h2 => by
    have hil : i < d.length := by omega
    have hg := hd.get i
    have hd8 := hd.1
    rw [f67_2, dcT (p := (i : Int) < ((n : Nat) : Int)) (by omega), inR (show i < n by omega)]
    have t : Int.toNat (i : Int) = i := rfl
    rw [t, dcT hil, nat_succ _ (by omega)]
    show f67_2 m fuel a n (w64 (x + d.getD i 0)) _ _ = _
    have hil2 : i < (d.take n).length := by rw [List.length_take]; omega
    have e : (d.take n).getD i 0 = d.getD i 0 := by simp [List.getD_eq_getElem?_getD, List.getElem?_take, show i < n by omega]
    rw [w64i (by omega) (by omega), f67_2_eq m a n x0 d hd hn r (i + 1) fuel _ (by omega) (by omega) (by omega) (by omega), drop_getD hil2, e, List.sum_cons]
    exact congrArg (fun z => some (z, d)) (by omega)
theorem ovr_eq (k : Int) : ∀ (l : List Int) (i : Int), i ≤ k → ovr k l i = (l.take (k - i).toNat).sum - mnS k (l.drop (k - i).toNat)
  | [], i, _ => by simp [ovr, mnS]
  | x :: l, i, h => by
    unfold ovr
    by_cases e : i < k
    · rw [if_pos e, ovr_eq k l (i + 1) (by omega)]
      obtain ⟨n, hn⟩ : ∃ n : Nat, (k - i).toNat = n + 1 := ⟨(k - i).toNat - 1, by omega⟩
      have hn2 : (k - (i + 1)).toNat = n := by omega
      rw [hn, hn2, List.take_succ_cons, List.drop_succ_cons, List.sum_cons]
      omega
    · have hik : i = k := by omega
      subst hik
      rw [if_neg e]
      have h0 : (i - i).toNat = 0 := by omega
      rw [h0, List.take_zero, List.drop_zero]
      have : ∀ (l : List Int) (j : Int), i < j → ovr i l j = - mnS i l := by
        intro l
        induction l with
        | nil => intro j _; simp [ovr, mnS]
        | cons y l ih =>
          intro j hj
          unfold ovr
          rw [if_neg (by omega), ih (j + 1) (by omega)]
          simp only [mnS, List.map_cons, List.sum_cons]
          omega
      rw [this l (i + 1) (by omega)]
      simp only [mnS, List.map_cons, List.sum_cons, List.sum_nil]
      omega
theorem f67_eq (m : Nat) (hm : 1001 ≤ m) (a : List Int) (ha : Cts a) (k : Nat) (hk : k ≤ a.length) : f67 m a (k : Int) = some (stB k (dsc a)) := by
  have ha8 := ha.1
  have hd := ha.dsc
  have hdl := dsc_len a
  have hk2 : (0 : Int) ≤ (k : Int) ∧ (k : Int) ≤ 8 := by omega
  obtain ⟨q0, q1, q2, q3, q4, q5⟩ := sq_bound hk2
  unfold f67
  rw [f92_eq m hm a (by omega)]
  have e : w64 ((k : Int) * (w64 ((k : Int) - 1))) = (k : Int) * ((k : Int) - 1) := by rw [w64i (x := (k : Int) - 1) (by omega) (by omega), w64i (by omega) (by omega)]
  show ((f67_1 m m a (k : Int) (w64 ((k : Int) * (w64 ((k : Int) - 1)))) (k : Int) (dsc a)).bind _) = _
  rw [e, f67_1_eq m a (k : Int) hk2 (dsc a) hd ((dsc a).length - k) k m _ (by omega) (by omega) (by omega) (by omega)]
  show cond (cutOK 0 (k : Int) (((dsc a).length : Nat) : Int) (dsc a).length) _ _ = _
  have hc : cutOK 0 (k : Int) (((dsc a).length : Nat) : Int) (dsc a).length = true := cutOK_iff.2 (by omega)
  rw [hc]
  show ((f67_2 m m a (Int.toNat (k : Int)) 0 0 (dsc a)).bind _) = _
  have t : Int.toNat (k : Int) = k := rfl
  have h2 := f67_2_eq m a k 0 (dsc a) hd (by omega) k 0 m 0 (by omega) (by omega) (by omega) (by omega)
  have h2' : f67_2 m m a (Int.toNat (k : Int)) 0 0 (dsc a) = some (0 + (((dsc a).take k).drop 0).sum, dsc a) := h2
  rw [h2']
  show some (decide (0 + (((dsc a).take k).drop 0).sum > (k : Int) * ((k : Int) - 1) + mnS (k : Int) ((dsc a).drop k))) = _
  unfold stB
  rw [ovr_eq (k : Int) (dsc a) 0 (by omega), List.drop_zero]
  have t2 : ((k : Int) - 0).toNat = k := by omega
  rw [t2]
  by_cases e : (k : Int) * ((k : Int) - 1) < ((dsc a).take k).sum - mnS (k : Int) ((dsc a).drop k)
  · rw [dcT e, dcT (by omega)]
  · rw [dcF e, dcF (by omega)]
theorem sum_perm' {a b : List Int} (h : a.Perm b) : a.sum = b.sum := by
  induction h with
  | nil => rfl
  | cons x _ ih => simp only [List.sum_cons, ih]
  | swap x y l => simp only [List.sum_cons]; omega
  | trans _ _ h1 h2 => exact h1.trans h2
theorem f63_1_eq (m : Nat) (a : List Int) (ha : Cts a) : ∀ (r i fuel : Nat) (x : Int), i + r = a.length → r < fuel → -100 - 10 * (i : Int) ≤ x → x ≤ 100 + 10 * (i : Int) →
    f63_1 m fuel a x (i : Int) = some (x + (a.drop i).sum)
  | 0, i, fuel + 1, x, hi, _, _, _ => by
    rw [f63_1, dcF (p := (i : Int) < ((a.length : Nat) : Int)) (by omega), List.drop_eq_nil_of_le (by omega)]
    simp
  | r + 1, i, fuel + 1, x, hi, hf, h1, h2 => by
    have hil : i < a.length := by omega
    have hg := ha.get i
    have ha8 := ha.1
    rw [f63_1, dcT (p := (i : Int) < ((a.length : Nat) : Int)) (by omega), inR hil]
    have t : Int.toNat (i : Int) = i := rfl
    rw [t, nat_succ _ (by omega)]
    show f63_1 m fuel a (w64 (x + a.getD i 0)) _ = _
    rw [w64i (by omega) (by omega), f63_1_eq m a ha r (i + 1) fuel _ (by omega) (by omega) (by omega) (by omega), drop_getD hil, List.sum_cons]
    exact congrArg some (by omega)
theorem f63_eq (m : Nat) (hm : 1001 ≤ m) (a : List Int) (ha : Cts a) : f63 m a = some (dsc a).sum := by
  have ha8 := ha.1
  have h := f63_1_eq m a ha a.length 0 m 0 (by omega) (by omega) (by omega) (by omega)
  have h' : f63_1 m m a 0 0 = some (0 + (a.drop 0).sum) := h
  unfold f63
  rw [h', sum_perm' (dsc_perm a)]
  simp
def fst1 (p : Int → Bool) : Nat → Int → Option Int
  | 0, _ => none
  | n + 1, k => if p k then some k else fst1 p n (k + 1)
theorem f64_1_eq (m : Nat) (hm : 1001 ≤ m) (a : List Int) (ha : Cts a) : ∀ (r k fuel : Nat), k + r = a.length + 1 → r < fuel → f64_1 m fuel a (k : Int) = some (match fst1 (fun k => stB k (dsc a)) r (k : Int) with | some x => .r x | none => .x0)
  | 0, k, fuel + 1, hk, _ => by
    rw [f64_1, dcF (p := (k : Int) ≤ ((a.length : Nat) : Int)) (by omega)]
    rfl
  | r + 1, k, fuel + 1, hk, hf => by
    have ha8 := ha.1
    rw [f64_1, dcT (p := (k : Int) ≤ ((a.length : Nat) : Int)) (by omega), f67_eq m hm a ha k (by omega), nat_succ _ (by omega)]
    unfold fst1
    show cond (stB (k : Int) (dsc a)) _ _ = _
    cases e : stB (k : Int) (dsc a) with
    | true => rfl
    | false =>
      show f64_1 m fuel a ((k + 1 : Nat) : Int) = _
      rw [f64_1_eq m hm a ha r (k + 1) fuel (by omega) (by omega)]
      have : ((k + 1 : Nat) : Int) = (k : Int) + 1 := by omega
      rw [this]
      simp
def whyD (d : List Int) : Int := (fst1 (fun k => stB k d) d.length 1).getD 0
theorem f64_eq (m : Nat) (hm : 1001 ≤ m) (a : List Int) (ha : Cts a) : f64 m a = some (whyD (dsc a)) := by
  have ha8 := ha.1
  unfold f64 whyD
  have h := f64_1_eq m hm a ha a.length 1 m (by omega) (by omega)
  have h' : f64_1 m m a 1 = _ := h
  rw [h', dsc_len]
  have e1 : ((1 : Nat) : Int) = 1 := rfl
  rw [e1]
  cases fst1 (fun k => stB k (dsc a)) a.length 1 <;> rfl
end Go.Xm
namespace Go.Xm
set_option linter.unusedVariables false
set_option linter.unusedSimpArgs false
set_option maxRecDepth 100000
def dls : Nat → Nat → List (List Nat)
  | 0, _ => [[]]
  | k + 1, b => (List.range b).flatMap fun x => (dls k (x + 1)).map fun l => x :: l
theorem mem_dls : ∀ {k b : Nat} {d : List Nat}, d.length = k → d.Pairwise (· ≥ ·) → (∀ x ∈ d, x < b) → d ∈ dls k b
  | 0, b, [], _, _, _ => List.mem_singleton.2 rfl
  | k + 1, b, x :: d, h, hp, hx => by
    have h1 := hx x (List.mem_cons_self ..)
    obtain ⟨p1, p2⟩ := List.pairwise_cons.1 hp
    exact List.mem_flatMap.2 ⟨x, List.mem_range.2 h1, List.mem_map.2 ⟨d, mem_dls (by simpa using h) p2 (fun y hy => by have := p1 y hy; omega), rfl⟩⟩
def toI (l : List Nat) : List Int := l.map Int.ofNat
theorem toI_len (l : List Nat) : (toI l).length = l.length := List.length_map ..
theorem toI_append (a b : List Nat) : toI (a ++ b) = toI a ++ toI b := List.map_append ..
theorem toI_cons (a : Nat) (b : List Nat) : toI (a :: b) = (a : Int) :: toI b := rfl
theorem toI_reverse (a : List Nat) : toI a.reverse = (toI a).reverse := List.map_reverse ..
def insN (x : Nat) : List Nat → List Nat
  | [] => [x]
  | y :: l => match Nat.ble x y with
    | true => x :: y :: l
    | false => y :: insN x l
def sortN : List Nat → List Nat
  | [] => []
  | x :: l => insN x (sortN l)
theorem insN_eq (x : Nat) : ∀ l : List Nat, toI (insN x l) = insI (x : Int) (toI l)
  | [] => rfl
  | y :: l => by
    unfold insN
    rw [toI_cons, insI]
    cases h : Nat.ble x y with
    | true => rw [if_pos (by have := Nat.le_of_ble_eq_true h; omega)]; rfl
    | false => rw [if_neg (by intro q; have := Nat.ble_eq_true_of_le (show x ≤ y by omega); rw [h] at this; cases this), toI_cons, insN_eq x l]
theorem sortN_eq : ∀ l : List Nat, toI (sortN l) = sortI (toI l)
  | [] => rfl
  | x :: l => by
    show toI (insN x (sortN l)) = insI (x : Int) (sortI (toI l))
    rw [insN_eq, sortN_eq l]
theorem sortN_len (l : List Nat) : (sortN l).length = l.length := by
  have := congrArg List.length (sortN_eq l)
  rwa [toI_len, sortI_len, toI_len] at this
def decN : Nat → List Nat → Option (List Nat)
  | 0, t => some t
  | _ + 1, [] => none
  | c + 1, y :: t => match y with
    | 0 => none
    | z + 1 => match decN c t with
      | some l => some (z :: l)
      | none => none
theorem decN_len : ∀ {c : Nat} {t l : List Nat}, decN c t = some l → l.length = t.length
  | 0, t, l, h => by cases h; rfl
  | c + 1, [], l, h => by cases h
  | c + 1, 0 :: t, l, h => by cases h
  | c + 1, (z + 1) :: t, l, h => by
    unfold decN at h
    cases h1 : decN c t with
    | none => simp only [h1] at h; cases h
    | some l1 =>
      simp only [h1] at h
      cases h
      have := decN_len h1
      simp [this]
theorem decN_small : ∀ {c : Nat} {t l : List Nat}, decN c t = some l → (∀ x ∈ t, x ≤ 7) → ∀ x ∈ l, x ≤ 7
  | 0, t, l, h, hx => by cases h; exact hx
  | c + 1, [], l, h, _ => by cases h
  | c + 1, 0 :: t, l, h, _ => by cases h
  | c + 1, (z + 1) :: t, l, h, hx => by
    unfold decN at h
    cases h1 : decN c t with
    | none => simp only [h1] at h; cases h
    | some l1 =>
      simp only [h1] at h
      cases h
      intro x hm
      rcases List.mem_cons.1 hm with rfl | hm
      · have := hx (x + 1) (List.mem_cons_self ..); omega
      · exact decN_small h1 (fun y hy => hx y (List.mem_cons_of_mem _ hy)) x hm
theorem decN_succ (c z : Nat) (t : List Nat) : decN (c + 1) ((z + 1) :: t) = (match decN c t with | some l => some (z :: l) | none => none) := rfl
theorem f59_2_eq (m : Nat) (a : List Int) (n cap : Nat) : ∀ (c i fuel : Nat) (P t : List Nat), P.length = 1 + i → c ≤ t.length → i + c ≤ n → n ≤ 100 → c < fuel → (∀ x ∈ t, x ≤ 7) →
    f59_2 m fuel a n cap ((i + c : Nat) : Int) (i : Int) (toI (P ++ t)) = some (match decN c t with | none => .r | some t' => .x2 n cap (toI (P ++ t')))
  | 0, i, fuel + 1, P, t, _, _, _, _, _, _ => by
    rw [f59_2, dcF (p := (i : Int) < ((i + 0 : Nat) : Int)) (by omega)]
    rfl
  | c + 1, i, fuel + 1, P, [], _, h, _, _, _, _ => by simp at h
  | c + 1, i, fuel + 1, P, y :: t, hP, hc, hn, h100, hf, hs => by
    have hy := hs y (List.mem_cons_self ..)
    simp only [List.length_cons] at hc
    have e1 : toI (P ++ y :: t) = toI P ++ (y : Int) :: toI t := toI_append ..
    have t1 : 1 + Int.toNat (i : Int) = (toI P).length := by rw [toI_len]; omega
    have hl : 1 + Int.toNat (i : Int) < (toI (P ++ y :: t)).length := by rw [t1, toI_len, toI_len]; simp
    rw [f59_2, dcT (p := (i : Int) < ((i + (c + 1) : Nat) : Int)) (by omega), inR (show i < n by omega), dcT hl, e1, getD_mid _ _ _ _ t1, set_mid _ _ _ _ t1, getD_mid _ _ _ _ t1, w64i (by omega) (by omega), nat_succ _ (by omega)]
    show cond (decide ((y : Int) - 1 < 0)) _ _ = _
    cases y with
    | zero => rfl
    | succ z =>
      rw [dcF (p := ((z + 1 : Nat) : Int) - 1 < 0) (by omega)]
      have e2 : ((z + 1 : Nat) : Int) - 1 = (z : Int) := by omega
      have e3 : toI P ++ (z : Int) :: toI t = toI ((P ++ [z]) ++ t) := by rw [toI_append, toI_append]; simp [toI]
      rw [e2, e3]
      show f59_2 m fuel a n cap ((i + (c + 1) : Nat) : Int) ((i + 1 : Nat) : Int) _ = _
      have e4 : ((i + (c + 1) : Nat) : Int) = ((i + 1 + c : Nat) : Int) := by omega
      rw [e4, f59_2_eq m a n cap c (i + 1) fuel (P ++ [z]) t (by simp; omega) (by omega) (by omega) h100 (by omega) (fun x hx => hs x (List.mem_cons_of_mem _ hx))]
      rw [decN_succ]
      cases decN c t with
      | none => rfl
      | some l => simp
def canN : Nat → List Nat → Bool
  | 0, _ => true
  | _ + 1, [] => true
  | n + 1, x :: t => match Nat.ble x t.length with
    | false => false
    | true => match decN x t with
      | none => false
      | some l => canN n (sortN l).reverse
theorem sortN_small {l : List Nat} (h : ∀ x ∈ l, x ≤ 7) : ∀ x ∈ (sortN l).reverse, x ≤ 7 := fun x hx => by
  have h1 : (x : Int) ∈ toI (sortN l) := List.mem_map.2 ⟨x, List.mem_reverse.1 hx, rfl⟩
  rw [sortN_eq] at h1
  obtain ⟨y, hy, e⟩ := List.mem_map.1 ((sortI_perm _).mem_iff.1 h1)
  have := h y hy
  have e : (y : Int) = (x : Int) := e
  omega
theorem f59_1_eq (m : Nat) (hm : 1001 ≤ m) (a : List Int) : ∀ (n fuel : Nat) (d : List Nat), d.length ≤ n → n < fuel → d.length ≤ 50 → (∀ x ∈ d, x ≤ 7) → f59_1 m fuel a (toI d) = some (match canN n d with | true => .x0 | false => .r)
  | 0, fuel + 1, [], _, _, _, _ => rfl
  | 0, fuel + 1, x :: t, h, _, _, _ => by simp at h
  | n + 1, fuel + 1, [], _, _, _, _ => rfl
  | n + 1, fuel + 1, x :: t, h, hf, h50, hs => by
    simp only [List.length_cons] at h h50
    have hx := hs x (List.mem_cons_self ..)
    have hl : (toI (x :: t)).length = t.length + 1 := by rw [toI_len]; rfl
    have g0 : List.getD (toI (x :: t)) 0 0 = (x : Int) := rfl
    rw [f59_1, hl, g0, dcT (p := (((t.length + 1 : Nat)) : Int) > 0) (by omega), inRow_iff.2 (show (0 : Int) ≤ 0 ∧ (0 : Int) < ((t.length + 1 : Nat) : Int) by omega), cutOK_iff.2 (show (0 : Int) ≤ 1 ∧ (1 : Int) ≤ ((t.length + 1 : Nat) : Int) ∧ ((t.length + 1 : Nat) : Int) ≤ ((t.length + 1 : Nat) : Int) ∧ ((t.length + 1 : Nat) : Int) ≤ ((t.length + 1 : Nat) : Int) by omega)]
    have l1 : t.length + 1 - 1 = t.length := rfl
    rw [l1]
    show cond (decide ((x : Int) > ((t.length : Nat) : Int))) _ _ = _
    unfold canN
    cases hb : Nat.ble x t.length with
    | false =>
      rw [dcT (p := (x : Int) > ((t.length : Nat) : Int)) (by
        have : ¬ x ≤ t.length := fun q => by rw [Nat.ble_eq_true_of_le q] at hb; cases hb
        omega)]
      rfl
    | true =>
      have hxt := Nat.le_of_ble_eq_true hb
      rw [dcF (p := (x : Int) > ((t.length : Nat) : Int)) (by omega), cutOK_iff.2 (show (0 : Int) ≤ 0 ∧ (0 : Int) ≤ (x : Int) ∧ (x : Int) ≤ ((t.length : Nat) : Int) ∧ ((t.length : Nat) : Int) ≤ ((t.length : Nat) : Int) by omega)]
      have h2 := f59_2_eq m a t.length t.length x 0 m [x] t rfl hxt (by omega) (by omega) (by omega) (fun y hy => hs y (List.mem_cons_of_mem _ hy))
      have h2' : f59_2 m m a t.length t.length ((Int.toNat (x : Int) : Nat) : Int) 0 (toI (x :: t)) = some (match decN x t with | none => .r | some t' => .x2 t.length t.length (toI ([x] ++ t'))) := by
        have e : ((Int.toNat (x : Int) : Nat) : Int) = ((0 + x : Nat) : Int) := by omega
        rw [e]; exact h2
      show ((f59_2 m m a t.length t.length ((Int.toNat (x : Int) : Nat) : Int) 0 (toI (x :: t))).bind _) = _
      rw [h2']
      cases hd : decN x t with
      | none => rfl
      | some l =>
        have hll := decN_len hd
        have hls := decN_small hd (fun y hy => hs y (List.mem_cons_of_mem _ hy))
        have e5 : List.take t.length (List.drop 1 (toI ([x] ++ l))) = toI l := by
          show List.take t.length (toI l) = toI l
          exact List.take_of_length_le (by rw [toI_len]; omega)
        show cond (decide (t.length ≤ t.length)) _ _ = _
        rw [dcT (Nat.le_refl _)]
        show cond (decide (1 + t.length ≤ (toI ([x] ++ l)).length)) _ _ = _
        rw [dcT (by rw [toI_len]; simp; omega), e5]
        show cond (Nat.ble (toI l).length 1000000) _ _ = _
        rw [Nat.ble_eq_true_of_le (by rw [toI_len]; omega)]
        show ((f59_3 m m a t.length t.length (toI ([x] ++ l)) 0 (w64 ((((sortI (toI l)).length : Nat) : Int) - 1)) (sortI (toI l))).bind _) = _
        have h3 := f61_1_eq m a m l.length [] (sortI (toI l)) [] (by omega) (by rw [sortI_len, toI_len]; exact Nat.le_refl _) (by rw [sortI_len, toI_len]; simp; omega)
        simp only [List.length_nil, Nat.zero_add, List.nil_append, List.append_nil] at h3
        rw [f59_3_eq m a a, w64i (by omega) (by rw [sortI_len, toI_len]; omega)]
        have h3' : f61_1 m m a 0 ((((sortI (toI l)).length : Nat) : Int) - 1) (sortI (toI l)) = some (toI (sortN l).reverse) := by
          rw [toI_reverse, sortN_eq]; exact h3
        rw [h3']
        show cond (decide ((sortI (toI l)).length = (toI (sortN l).reverse).length)) _ _ = _
        rw [dcT (by rw [sortI_len, toI_len, toI_len, List.length_reverse, sortN_len])]
        exact f59_1_eq m hm a n fuel (sortN l).reverse (by rw [List.length_reverse, sortN_len]; omega) (by omega) (by rw [List.length_reverse, sortN_len]; omega) (sortN_small hls)
theorem nats_of {d : List Int} (h : ∀ x ∈ d, 0 ≤ x) : ∃ l : List Nat, d = toI l := by
  refine ⟨d.map Int.toNat, ?_⟩
  unfold toI
  rw [List.map_map]
  conv => lhs; rw [← List.map_id d]
  refine List.map_congr_left (fun x hx => ?_)
  have := h x hx
  show x = ((x.toNat : Nat) : Int)
  omega
theorem f59_eq (m : Nat) (hm : 1001 ≤ m) (a : List Int) (l : List Nat) (hl : dsc a = toI l) (h8 : l.length ≤ 8) (hs : ∀ x ∈ l, x ≤ 7) : f59 m a = some (canN 8 l) := by
  have hal : a.length ≤ 8 := by rw [← dsc_len, hl, toI_len]; exact h8
  unfold f59
  rw [f61_eq m hm a (by omega), hl]
  show ((f59_1 m m a (toI l)).bind _) = _
  rw [f59_1_eq m hm a 8 m l h8 (by omega) (by omega) hs]
  cases canN 8 l <;> rfl
def mnN (k : Nat) : List Nat → Nat
  | [] => 0
  | x :: l => (match Nat.ble x k with | true => x | false => k) + mnN k l
def smN : List Nat → Nat
  | [] => 0
  | x :: l => x + smN l
def stN (k : Nat) (l : List Nat) : Bool := Nat.blt (k * (k - 1) + mnN k (l.drop k)) (smN (l.take k))
theorem mnN_eq (k : Nat) : ∀ l : List Nat, mnS (k : Int) (toI l) = ((mnN k l : Nat) : Int)
  | [] => rfl
  | x :: l => by
    have ih := mnN_eq k l
    unfold mnS at ih ⊢
    unfold mnN
    rw [toI_cons, List.map_cons, List.sum_cons, ih]
    cases h : Nat.ble x k with
    | true => have := Nat.le_of_ble_eq_true h; simp only; omega
    | false =>
      have : ¬ x ≤ k := fun q => by rw [Nat.ble_eq_true_of_le q] at h; cases h
      simp only; omega
theorem smN_eq : ∀ l : List Nat, (toI l).sum = ((smN l : Nat) : Int)
  | [] => rfl
  | x :: l => by
    have ih := smN_eq l
    unfold smN
    rw [toI_cons, List.sum_cons, ih]; omega
theorem stN_eq (k : Nat) (l : List Nat) : stB (k : Int) (toI l) = stN k l := by
  unfold stB stN
  rw [ovr_eq (k : Int) (toI l) 0 (by omega)]
  have t2 : ((k : Int) - 0).toNat = k := by omega
  have e1 : (toI l).take k = toI (l.take k) := by unfold toI; rw [List.map_take]
  have e2 : (toI l).drop k = toI (l.drop k) := by unfold toI; rw [List.map_drop]
  rw [t2, e1, e2, mnN_eq, smN_eq]
  have e3 : (k : Int) * ((k : Int) - 1) = ((k * (k - 1) : Nat) : Int) := by
    cases k with
    | zero => rfl
    | succ n => simp
  rw [e3]
  cases h : Nat.blt (k * (k - 1) + mnN k (l.drop k)) (smN (l.take k)) with
  | true =>
    have : k * (k - 1) + mnN k (l.drop k) < smN (l.take k) := by simpa [Nat.blt_eq] using h
    exact dcT (by omega)
  | false =>
    have : ¬ k * (k - 1) + mnN k (l.drop k) < smN (l.take k) := fun q => by
      have : Nat.blt (k * (k - 1) + mnN k (l.drop k)) (smN (l.take k)) = true := by simpa [Nat.blt_eq] using q
      rw [h] at this; cases this
    exact dcF (by omega)
def fstN (l : List Nat) : Nat → Nat → Nat → Nat
  | 0, _, z => z
  | n + 1, k, z => match stN k l with
    | true => k
    | false => fstN l n (k + 1) z
theorem fstN_eq (l : List Nat) (z : Nat) : ∀ (n k : Nat), (fst1 (fun k => stB k (toI l)) n (k : Int)).getD (z : Int) = ((fstN l n k z : Nat) : Int)
  | 0, k => rfl
  | n + 1, k => by
    unfold fst1 fstN
    rw [stN_eq]
    cases stN k l with
    | true => rfl
    | false =>
      have : (k : Int) + 1 = ((k + 1 : Nat) : Int) := by omega
      rw [this]
      exact fstN_eq l z n (k + 1)
def chk (l : List Nat) : Bool :=
  match (Nat.beq (smN l % 2) 0 && Nat.beq (fstN l l.length 1 0) 0) with
  | true => canN 8 l
  | false => !canN 8 l && (Nat.beq (smN l % 2) 1 || Nat.beq (fstN l (l.length - 1) 1 l.length) (fstN l l.length 1 0))
end Go.Xm
namespace Go.Xm
set_option maxRecDepth 100000
theorem tab1 : (dls 1 1).all chk = true := by kernel_rfl
theorem tab2 : (dls 2 2).all chk = true := by kernel_rfl
theorem tab3 : (dls 3 3).all chk = true := by kernel_rfl
theorem tab4 : (dls 4 4).all chk = true := by kernel_rfl
theorem tab5 : (dls 5 5).all chk = true := by kernel_rfl
theorem tab6 : (dls 6 6).all chk = true := by kernel_rfl
theorem tab7 : (dls 7 7).all chk = true := by kernel_rfl
end Go.Xm
namespace Go.Xm
set_option maxRecDepth 100000
theorem tab8a : (((List.range 7).flatMap fun x => (dls 7 (x + 1)).map fun l => x :: l).all chk) = true := by kernel_rfl
theorem tab8b : (((dls 7 8).map fun l => 7 :: l).all chk) = true := by kernel_rfl
theorem tab8 : (dls 8 8).all chk = true := by
  refine List.all_eq_true.2 (fun l hl => ?_)
  obtain ⟨x, hx, hm⟩ := List.mem_flatMap.1 hl
  have hx8 := List.mem_range.1 hx
  by_cases e : x = 7
  · subst e
    exact List.all_eq_true.1 tab8b l hm
  · exact List.all_eq_true.1 tab8a l (List.mem_flatMap.2 ⟨x, List.mem_range.2 (by omega), hm⟩)
end Go.Xm
