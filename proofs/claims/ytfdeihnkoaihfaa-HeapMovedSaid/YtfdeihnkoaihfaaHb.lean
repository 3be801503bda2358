/- HeapDual: Hours, Apart, Meets, on the program's side, for heaps that are fine. Conditions: none. -/
import Derived.Test.YtfdeihnkoaihfaaBt
import Derived.Test.YtfdeihnkoaihfaaBu
import Derived.Test.YtfdeihnkoaihfaaBv
import Derived.Test.YtfdeihnkoaihfaaLa
import Derived.Test.YtfdeihnkoaihfaaFa
namespace Go.Xm
set_option linter.unusedVariables false
set_option linter.unusedSimpArgs false
set_option maxRecDepth 20000
theorem getDiA (l : List Hp) {i : Nat} (hi : i < l.length) : List.getD l (Int.toNat (i : Int)) (0, 0) = l[i] := by simp [hi]
theorem idx_gen {Out : Type} (L : List Hp) (P : Hp → Bool) (g : Nat → Int → Option Out) (x0 : Out) (r : Int → Out) (h0 : ∀ fuel, g (fuel + 1) ((L.length : Nat) : Int) = some x0)
  (hs : ∀ (fuel i : Nat) (hi : i < L.length), g (fuel + 1) (i : Int) = cond (P L[i]) (some (r (i : Int))) (g fuel ((i + 1 : Nat) : Int))) :
  ∀ (rr i fuel : Nat), i + rr = L.length → rr < fuel → (∃ (k : Nat) (hk : k < L.length), i ≤ k ∧ P L[k] = true ∧ (∀ (j : Nat) (hj : j < L.length), i ≤ j → j < k → P L[j] = false) ∧ g fuel (i : Int) = some (r (k : Int))) ∨
   ((∀ (j : Nat) (hj : j < L.length), i ≤ j → P L[j] = false) ∧ g fuel (i : Int) = some x0)
 | 0, i, fuel + 1, hr, hf => by
  have e : i = L.length := by omega
  subst e
  exact .inr ⟨fun j hj h => by omega, h0 fuel⟩
 | rr + 1, i, fuel + 1, hr, hf => by
  have hi : i < L.length := by omega
  rw [hs fuel i hi]
  cases hp : P L[i] with
  | true => exact .inl ⟨i, hi, Nat.le_refl _, hp, fun j hj h1 h2 => by omega, rfl⟩
  | false =>
   rcases idx_gen L P g x0 r h0 hs rr (i + 1) fuel (by omega) (by omega) with ⟨k, hk, k1, k2, k3, k4⟩ | ⟨k3, k4⟩
   ·refine .inl ⟨k, hk, by omega, k2, fun j hj h1 h2 => ?_, k4⟩
    by_cases ej : j = i
    ·subst ej; exact hp
    ·exact k3 j hj (by omega) h2
   ·refine .inr ⟨fun j hj h1 => ?_, k4⟩
    by_cases ej : j = i
    ·subst ej; exact hp
    ·exact k3 j hj (by omega)
theorem getE_mid {α : Type} (A : List α) (x : α) (R : List α) {n : Nat} (h : n = A.length) (hn : n < (A ++ x :: R).length) : (A ++ x :: R)[n] = x := by
 subst h; simp
theorem shift_gen (P : Hp → Bool) (N : Nat) (g : Nat → Int → Int → List Hp → Option (Int × List Hp)) (h0 : ∀ fuel x lh, lh.length = N → g (fuel + 1) x ((N : Nat) : Int) lh = some (x, lh))
  (hs : ∀ (fuel i k : Nat) (lh : List Hp) (hk : k < lh.length), lh.length = N → i < k → g (fuel + 1) (i : Int) (k : Int) lh = cond (!P lh[k]) (g fuel ((i + 1 : Nat) : Int) ((k + 1 : Nat) : Int) (lh.set i lh[k])) (g fuel (i : Int) ((k + 1 : Nat) : Int) lh)) :
  ∀ (R K M : List Hp) (fuel : Nat), R.length < fuel → K.length + M.length + R.length = N → 0 < M.length →
  ∃ arr, g fuel (K.length : Int) ((K.length + M.length : Nat) : Int) (K ++ M ++ R) = some ((((K ++ R.filter fun h => !P h).length : Nat) : Int), arr) ∧ arr.take (K ++ R.filter fun h => !P h).length = (K ++ R.filter fun h => !P h) ∧ arr.length = N
 | [], K, M, fuel + 1, _, hn, hM => by
  have e : K.length + M.length = N := by simpa using hn
  refine ⟨K ++ M ++ [], ?_, ?_, by simp; omega⟩
  ·rw [e, h0 _ _ _ (by simp; omega)]
   simp
  ·simp
 | h :: R, K, M, fuel + 1, hf, hn, hM => by
  simp only [List.length_cons] at hf hn
  have hlen : (K ++ M ++ (h :: R)).length = N := by simp only [List.length_append, List.length_cons]; omega
  have hk : K.length + M.length < (K ++ M ++ (h :: R)).length := by rw [hlen]; omega
  have hg : (K ++ M ++ (h :: R))[K.length + M.length] = h := getE_mid _ _ _ (by simp) hk
  rw [hs fuel K.length (K.length + M.length) _ hk hlen (by omega), hg]
  obtain ⟨x, M', rfl⟩ : ∃ x M', M = x :: M' := by
   cases M with
   | nil => simp at hM
   | cons x M' => exact ⟨x, M', rfl⟩
  cases hp : P h with
  | true =>
   have e1 : K ++ (x :: M') ++ (h :: R) = K ++ (x :: M' ++ [h]) ++ R := by simp
   obtain ⟨arr, a1, a2, a3⟩ := shift_gen P N g h0 hs R K (x :: M' ++ [h]) fuel (by omega) (by simp only [List.length_append, List.length_cons, List.length_nil] at hn ⊢; omega) (by simp)
   have e3 : K.length + (x :: M' ++ [h]).length = K.length + (x :: M').length + 1 := by simp only [List.length_append, List.length_cons, List.length_nil]; omega
   rw [e3, ← e1] at a1
   have e4 : (h :: R).filter (fun h => !P h) = R.filter fun h => !P h := by rw [List.filter_cons, hp]; rfl
   rw [e4]
   exact ⟨arr, a1, a2, a3⟩
  | false =>
   have e1 : (K ++ (x :: M') ++ (h :: R)).set K.length h = (K ++ [h]) ++ (M' ++ [h]) ++ R := by
    have : K ++ (x :: M') ++ (h :: R) = K ++ x :: (M' ++ (h :: R)) := by simp
    rw [this, set_mid _ _ _ _ rfl]
    simp
   obtain ⟨arr, a1, a2, a3⟩ := shift_gen P N g h0 hs R (K ++ [h]) (M' ++ [h]) fuel (by omega) (by simp only [List.length_append, List.length_cons, List.length_nil] at hn ⊢; omega) (by simp)
   have e2 : (K ++ [h]).length = K.length + 1 := by simp
   have e3 : (K ++ [h]).length + (M' ++ [h]).length = K.length + (x :: M').length + 1 := by simp only [List.length_append, List.length_cons, List.length_nil]; omega
   have e4 : (h :: R).filter (fun h => !P h) = h :: R.filter fun h => !P h := by rw [List.filter_cons, hp]; rfl
   have e5 : K ++ [h] ++ (R.filter fun h => !P h) = K ++ h :: R.filter fun h => !P h := by simp
   rw [e3, e2, e5] at a1
   rw [e5] at a2
   rw [e1, e4]
   exact ⟨arr, a1, a2, a3⟩
theorem clearL_len (z : Hp) (xs : List Hp) (a n : Nat) (h : a + n ≤ xs.length) : (clearL z xs a n).length = xs.length := by
 unfold clearL
 simp only [List.length_append, List.length_take, List.length_drop, List.length_replicate]
 omega
theorem del_tail {kk arr : List Hp} (h : arr.take kk.length = kk) (hl : arr.length ≤ 1000) (hk : kk.length ≤ arr.length) :
  (cond (cutOK ((kk.length : Nat) : Int) ((arr.length : Nat) : Int) ((arr.length : Nat) : Int) arr.length) (
   cond (decide ((Int.toNat ((kk.length : Nat) : Int)) + (arr.length - (Int.toNat ((kk.length : Nat) : Int))) ≤ arr.length)) (
    cond (cutOK 0 ((kk.length : Nat) : Int) ((arr.length : Nat) : Int) arr.length) (
     cond (decide (Int.toNat ((kk.length : Nat) : Int) ≤ (clearL (0, 0) arr (Int.toNat ((kk.length : Nat) : Int)) (arr.length - (Int.toNat ((kk.length : Nat) : Int)))).length)) (
      cond (decide (Int.toNat ((kk.length : Nat) : Int) ≤ arr.length)) (
       some (List.take (Int.toNat ((kk.length : Nat) : Int)) (clearL (0, 0) arr (Int.toNat ((kk.length : Nat) : Int)) (arr.length - (Int.toNat ((kk.length : Nat) : Int)))))) none) none) none) none) none) = some kk := by
 rw [Int.toNat_natCast, cutOK_iff.2 ⟨by omega, by omega, by omega, by omega⟩, dcT (p := kk.length + (arr.length - kk.length) ≤ arr.length) (by omega), cutOK_iff.2 ⟨by omega, by omega, by omega, by omega⟩,
  dcT (p := kk.length ≤ (clearL (0, 0) arr kk.length (arr.length - kk.length)).length) (by rw [clearL_len _ _ _ _ (by omega)]; exact hk), dcT (p := kk.length ≤ arr.length) hk]
 simp only [cond_true]
 congr 1
 unfold clearL
 rw [List.append_assoc, List.take_append_of_le_length (by rw [List.length_take]; omega), List.take_take, Nat.min_self, h]
theorem split_at {α : Type} (L : List α) {k : Nat} (hk : k < L.length) : L = L.take k ++ L[k] :: L.drop (k + 1) := by
 rw [← List.drop_eq_getElem_cons hk, List.take_append_drop]
theorem filter_split (P : Hp → Bool) (L : List Hp) {k : Nat} (hk : k < L.length) (h1 : P L[k] = true) (h2 : ∀ (j : Nat) (hj : j < L.length), j < k → P L[j] = false) :
  L.filter (fun h => !P h) = L.take k ++ (L.drop (k + 1)).filter fun h => !P h := by
 conv => lhs; rw [split_at L hk]
 rw [List.filter_append, List.filter_cons, h1]
 simp only [Bool.not_true, Bool.false_eq_true, if_false]
 congr 1
 refine List.filter_eq_self.2 (fun x hx => ?_)
 obtain ⟨j, j1, j2⟩ := List.getElem_of_mem hx
 rw [List.length_take] at j1
 rw [List.getElem_take] at j2
 rw [← j2, h2 j (by omega) (by omega)]
 rfl
theorem filter_all (P : Hp → Bool) (L : List Hp) (h : ∀ (j : Nat) (hj : j < L.length), P L[j] = false) : L.filter (fun h => !P h) = L := by
 refine List.filter_eq_self.2 (fun x hx => ?_)
 obtain ⟨j, j1, rfl⟩ := List.getElem_of_mem hx
 rw [h j j1]
 rfl
theorem del_gen {Out : Type} (L : List Hp) (hL : L.length ≤ 1000) (P : Hp → Bool) (m : Nat) (hm : 1001 ≤ m) (g : Nat → Int → Option Out) (x0 : Out) (r : Int → Out) (h0 : ∀ fuel, g (fuel + 1) ((L.length : Nat) : Int) = some x0)
  (hs : ∀ (fuel i : Nat) (hi : i < L.length), g (fuel + 1) (i : Int) = cond (P L[i]) (some (r (i : Int))) (g fuel ((i + 1 : Nat) : Int)))
  (g2 : Nat → Int → Int → List Hp → Option (Int × List Hp)) (h20 : ∀ fuel x lh, lh.length = L.length → g2 (fuel + 1) x ((L.length : Nat) : Int) lh = some (x, lh))
  (h2s : ∀ (fuel i k : Nat) (lh : List Hp) (hk : k < lh.length), lh.length = L.length → i < k → g2 (fuel + 1) (i : Int) (k : Int) lh = cond (!P lh[k]) (g2 fuel ((i + 1 : Nat) : Int) ((k + 1 : Nat) : Int) (lh.set i lh[k])) (g2 fuel (i : Int) ((k + 1 : Nat) : Int) lh)) :
  (g m 0 = some x0 ∧ L.filter (fun h => !P h) = L) ∨ ∃ k : Nat, k < L.length ∧ g m 0 = some (r (k : Int)) ∧ ∃ arr, g2 m (k : Int) (w64 ((k : Int) + 1)) L = some ((((L.filter fun h => !P h).length : Nat) : Int), arr) ∧ arr.take (L.filter fun h => !P h).length = (L.filter fun h => !P h) ∧ arr.length = L.length := by
 rcases idx_gen L P g x0 r h0 hs L.length 0 m (by omega) (by omega) with ⟨k, hk, k1, k2, k3, k4⟩ | ⟨k3, k4⟩
 ·right
  refine ⟨k, hk, k4, ?_⟩
  have hf := filter_split P L hk k2 (fun j hj h => k3 j hj (Nat.zero_le _) h)
  obtain ⟨arr, a1, a2, a3⟩ := shift_gen P L.length g2 h20 h2s (L.drop (k + 1)) (L.take k) [L[k]] m (by rw [List.length_drop]; omega) (by simp only [List.length_take, List.length_drop, List.length_cons, List.length_nil]; omega) (by simp)
  have e1 : (L.take k).length = k := by rw [List.length_take]; omega
  have e2 : L.take k ++ [L[k]] ++ L.drop (k + 1) = L := by
   conv => rhs; rw [split_at L hk]
   simp
  rw [e1, e2, ← hf] at a1
  rw [← hf] at a2
  refine ⟨arr, ?_, a2, a3⟩
  rw [nat_succ k (by omega)]
  exact a1
 ·exact .inl ⟨k4, filter_all P L (fun j hj => k3 j hj (Nat.zero_le _))⟩
theorem f62_has (m : Nat) (a b t : Int) : f62 m a b t = some (hasB t (a, b)) := by
 unfold f62
 rw [f64_eq]
 rfl
theorem f75_2_eq (m : Nat) (a : List Hp) (x4 : Int) (L : List Hp) (hL : L.length ≤ 1000) : ∀ (r i fuel : Nat) (c : Int), i + r = L.length → r < fuel → f75_2 m fuel a x4 L ((L.length : Nat) : Int) (i : Int) c = some (mnT (L.drop i) c)
 | 0, i, fuel + 1, c, hr, hf => by
  rw [f75_2, dcF (p := (i : Int) < ((L.length : Nat) : Int)) (by omega), List.drop_eq_nil_of_le (by omega)]
  rfl
 | r + 1, i, fuel + 1, c, hr, hf => by
  have hi : i < L.length := by omega
  rw [f75_2, dcT (p := (i : Int) < ((L.length : Nat) : Int)) (by omega), inR hi, getDiA L hi, nat_succ i (by omega), iMin_eq, List.drop_eq_getElem_cons hi]
  exact f75_2_eq m a x4 L hL r (i + 1) fuel _ (by omega) (by omega)
theorem f75_3_eq (m : Nat) (hm : 1001 ≤ m) (a L : List Hp) (hL : L.length ≤ 1000) (t : Int) : f75_3 m a L t = some (rem t L) := by
 have key := del_gen L hL (hasB t) m hm (fun fuel i => f75_4 m fuel a L t ((L.length : Nat) : Int) i) .x0 .r
  (fun fuel => by
   show f75_4 m (fuel + 1) a L t ((L.length : Nat) : Int) ((L.length : Nat) : Int) = _
   rw [f75_4, dcF (by omega)]; rfl)
  (fun fuel i hi => by
   show f75_4 m (fuel + 1) a L t ((L.length : Nat) : Int) (i : Int) = _
   rw [f75_4, dcT (p := (i : Int) < ((L.length : Nat) : Int)) (by omega), inR hi, getDiA L hi, f62_has, nat_succ i (by omega)]
   rfl)
  (fun fuel i k lh => f75_5 m fuel a t i k lh)
  (fun fuel x lh hl => by
   show f75_5 m (fuel + 1) a t x ((L.length : Nat) : Int) lh = _
   rw [f75_5, dcF (p := ((L.length : Nat) : Int) < ((lh.length : Nat) : Int)) (by omega)]; rfl)
  (fun fuel i k lh hk hl hik => by
   show f75_5 m (fuel + 1) a t (i : Int) (k : Int) lh = _
   rw [f75_5, dcT (p := (k : Int) < ((lh.length : Nat) : Int)) (by omega), inR hk, getDiA lh hk, f62_has, nat_succ i (by omega), nat_succ k (by omega), inR (show i < lh.length by omega), Int.toNat_natCast]
   rfl)
 unfold f75_3
 rcases key with ⟨k1, k2⟩ | ⟨k, hk, k1, arr, k2, k3, k4⟩
 ·have k1 : f75_4 m m a L t ((L.length : Nat) : Int) 0 = _ := k1
  rw [k1]
  show some (List.take L.length L) = some (rem t L)
  rw [List.take_length, show rem t L = L from k2]
 ·have k1 : f75_4 m m a L t ((L.length : Nat) : Int) 0 = _ := k1
  rw [k1]
  have e : (((k : Int)) == (-1)) = false := by rw [beq_eq_false_iff_ne]; omega
  show cond ((k : Int) == (-1)) (some (List.take L.length L)) ((f75_5 m m a t (k : Int) (w64 ((k : Int) + 1)) L).bind _) = some (rem t L)
  rw [e, k2]
  refine Eq.trans ?_ (del_tail (kk := rem t L) (arr := arr) k3 (by omega) (by rw [k4]; exact List.length_filter_le _ _))
  rfl
theorem rem_len (t : Int) (L : List Hp) : (rem t L).length ≤ L.length := List.length_filter_le _ _
theorem f75_1_eq (m : Nat) (hm : 1001 ≤ m) (a : List Hp) : ∀ (n fuel c : Nat) (L : List Hp), OkL L → L.length ≤ n → c + n ≤ 900 → n < fuel → f75_1 m fuel a (c : Int) L = some (((c + mt L : Nat) : Int))
 | n, fuel + 1, c, [], ho, hl, hn, hf => by
  rw [f75_1]
  rfl
 | 0, fuel + 1, c, h :: L, ho, hl, hn, hf => by simp at hl
 | n + 1, fuel + 1, c, h :: L, ho, hl, hn, hf => by
  have hlt := rem_lt (l := h :: L) (by simp) ho
  rw [f75_1, dcT (p := (((h :: L).length : Nat) : Int) > 0) (by simp only [List.length_cons]; omega)]
  show cond (inRow ((0 : Nat) : Int) (h :: L).length) ((f75_2 m m a (c : Int) (h :: L) (((h :: L).length : Nat) : Int) ((0 : Nat) : Int) h.2).bind _) none = _
  rw [inR (show 0 < (h :: L).length by simp), f75_2_eq m a _ (h :: L) (by omega) (h :: L).length 0 m _ (by omega) (by omega), List.drop_zero]
  show (f75_3 m a (h :: L) (lastT (h :: L))).bind _ = _
  rw [f75_3_eq m hm a _ (by omega)]
  show f75_1 m fuel a (w64 ((c : Int) + 1)) (rem (lastT (h :: L)) (h :: L)) = _
  rw [nat_succ c (by omega)]
  rw [f75_1_eq m hm a n fuel (c + 1) _ (ho.rem _) (by omega) (by omega) (by omega), mt_cons ho]
  congr 2; omega
theorem f75_eq (m : Nat) (hm : 1001 ≤ m) (L : List Hp) (ho : OkL L) (hl : L.length ≤ 400) : f75 m L = some ((mt L : Nat) : Int) := by
 unfold f75
 rw [fitsI (by omega) (by omega)]
 show (f75_1 m m L ((0 : Nat) : Int) L).bind _ = _
 rw [f75_1_eq m hm L L.length m 0 L ho (Nat.le_refl _) (by omega) (by omega), Nat.zero_add]
 rfl
theorem f35_2_eq (m : Nat) (hm : 1001 ≤ m) (a : List Hp) (acc : List Int) (L : List Hp) (hL : L.length ≤ 1000) (t : Int) : f35_2 m a acc L t = some (rem t L) := by
 have key := del_gen L hL (hasB t) m hm (fun fuel i => f35_3 m fuel a acc L t ((L.length : Nat) : Int) i) .x0 .r
  (fun fuel => by
   show f35_3 m (fuel + 1) a acc L t ((L.length : Nat) : Int) ((L.length : Nat) : Int) = _
   rw [f35_3, dcF (by omega)]; rfl)
  (fun fuel i hi => by
   show f35_3 m (fuel + 1) a acc L t ((L.length : Nat) : Int) (i : Int) = _
   rw [f35_3, dcT (p := (i : Int) < ((L.length : Nat) : Int)) (by omega), inR hi, getDiA L hi, f62_has, nat_succ i (by omega)]
   rfl)
  (fun fuel i k lh => f35_4 m fuel a acc L t i k lh)
  (fun fuel x lh hl => by
   show f35_4 m (fuel + 1) a acc L t x ((L.length : Nat) : Int) lh = _
   rw [f35_4, dcF (p := ((L.length : Nat) : Int) < ((lh.length : Nat) : Int)) (by omega)]; rfl)
  (fun fuel i k lh hk hl hik => by
   show f35_4 m (fuel + 1) a acc L t (i : Int) (k : Int) lh = _
   rw [f35_4, dcT (p := (k : Int) < ((lh.length : Nat) : Int)) (by omega), inR hk, getDiA lh hk, f62_has, nat_succ i (by omega), nat_succ k (by omega), inR (show i < lh.length by omega), Int.toNat_natCast]
   rfl)
 unfold f35_2
 rcases key with ⟨k1, k2⟩ | ⟨k, hk, k1, arr, k2, k3, k4⟩
 ·have k1 : f35_3 m m a acc L t ((L.length : Nat) : Int) 0 = _ := k1
  rw [k1]
  show some (List.take L.length L) = some (rem t L)
  rw [List.take_length, show rem t L = L from k2]
 ·have k1 : f35_3 m m a acc L t ((L.length : Nat) : Int) 0 = _ := k1
  rw [k1]
  have e : (((k : Int)) == (-1)) = false := by rw [beq_eq_false_iff_ne]; omega
  show cond ((k : Int) == (-1)) (some (List.take L.length L)) ((f35_4 m m a acc L t (k : Int) (w64 ((k : Int) + 1)) L).bind _) = some (rem t L)
  rw [e, k2]
  refine Eq.trans ?_ (del_tail (kk := rem t L) (arr := arr) k3 (by omega) (by rw [k4]; exact List.length_filter_le _ _))
  rfl
theorem f35_5_eq (m : Nat) (a : List Hp) (acc : List Int) (L0 : List Hp) (t : Int) (L : List Hp) (hL : L.length ≤ 1000) (h : ∀ x ∈ L, t ≤ x.2) : ∀ (r i fuel : Nat), i + r = L.length → r < fuel → f35_5 m fuel a acc L0 t L ((L.length : Nat) : Int) (i : Int) = some .x0
 | 0, i, fuel + 1, hr, hf => by
  rw [f35_5, dcF (p := (i : Int) < ((L.length : Nat) : Int)) (by omega)]
  rfl
 | r + 1, i, fuel + 1, hr, hf => by
  have hi : i < L.length := by omega
  have := h _ (List.getElem_mem hi)
  rw [f35_5, dcT (p := (i : Int) < ((L.length : Nat) : Int)) (by omega), inR hi, getDiA L hi, dcF (p := (L[i]).2 < t) (by omega), nat_succ i (by omega)]
  exact f35_5_eq m a acc L0 t L hL h r (i + 1) fuel (by omega) (by omega)
theorem f35_1_eq (m : Nat) (hm : 1001 ≤ m) (a : List Hp) : ∀ (d fuel : Nat) (t : Int) (S : List Hp) (acc : List Int), OkL S → S.length ≤ 100 → (∀ x ∈ S, t ≤ x.2) → 0 ≤ t → t + d = 24 → d < fuel → acc.length + d ≤ 100 →
  f35_1 m fuel a acc S t = some (acc ++ hrL d t S)
 | 0, fuel + 1, t, S, acc, ho, hS, h, h0, hd, hf, ha => by
  rw [f35_1, dcF (p := t ≤ 23) (by omega)]
  simp [hrL]
 | d + 1, fuel + 1, t, [], acc, ho, hS, h, h0, hd, hf, ha => by
  rw [f35_1, dcT (p := t ≤ 23) (by omega)]
  show some acc = some (acc ++ [])
  rw [List.append_nil]
 | d + 1, fuel + 1, t, y :: l, acc, ho, hS, h, h0, hd, hf, ha => by
  have hrl := rem_len t (y :: l)
  have h1 := mt_rem ho t
  have h2 := mt_mono (l := rem t (y :: l)) ho (fun x hx => (mem_rem.1 hx).1)
  have hlater := rem_later h
  rw [f35_1, dcT (p := t ≤ 23) (by omega), dcT (p := (((y :: l).length : Nat) : Int) > 0) (by simp only [List.length_cons]; omega), fitsI (by omega) (by omega), f35_2_eq m hm a acc _ (by omega)]
  show (f75 m (rem t (y :: l))).bind _ = _
  rw [f75_eq m hm _ (ho.rem t) (by omega)]
  show (f75 m (y :: l)).bind _ = _
  rw [f75_eq m hm _ ho (by omega), hrL_cons]
  show cond (decide (((mt (rem t (y :: l)) : Nat) : Int) < ((mt (y :: l) : Nat) : Int))) ((f35_5 m m a acc (y :: l) t (rem t (y :: l)) (((rem t (y :: l)).length : Nat) : Int) ((0 : Nat) : Int)).bind _) (f35_1 m fuel a acc (y :: l) (w64 (t + 1))) = _
  rw [w64i (x := t + 1) (by omega) (by omega)]
  by_cases e : mt (rem t (y :: l)) + 1 = mt (y :: l)
  ·rw [if_pos e, dcT (p := ((mt (rem t (y :: l)) : Nat) : Int) < ((mt (y :: l) : Nat) : Int)) (by omega), f35_5_eq m a acc _ t _ (by omega) (fun x hx => by
    have := hlater x hx
    have := ho x (mem_rem.1 hx).1
    omega) (rem t (y :: l)).length 0 m (by omega) (by omega)]
   show cond (fitsB (acc.length + 1) 8) (f35_1 m fuel a (acc ++ [t]) (rem t (y :: l)) (t + 1)) none = _
   rw [fitsI (n := acc.length + 1) (by omega) (by omega)]
   show f35_1 m fuel a (acc ++ [t]) (rem t (y :: l)) (t + 1) = _
   rw [f35_1_eq m hm a d fuel (t + 1) _ _ (ho.rem t) (by omega) (fun x hx => by
    have := hlater x hx
    have := ho x (mem_rem.1 hx).1
    omega) (by omega) (by omega) (by omega) (by simp; omega), List.append_assoc]
   rfl
  ·rw [if_neg e, dcF (p := ((mt (rem t (y :: l)) : Nat) : Int) < ((mt (y :: l) : Nat) : Int)) (by unfold rem at h2 e h1 ⊢; omega)]
   exact f35_1_eq m hm a d fuel (t + 1) _ _ ho hS (not_taken ho h (by simp) e) (by omega) (by omega) (by omega) (by omega)
theorem f95_79 (m : Nat) (hm : 1001 ≤ m) (L : List Hp) (hL : L.length ≤ 1000) (h : Hp) : f79 m L h.1 h.2 = some (decide (h ∈ L)) := by
 have key := idx_gen L (fun x => h.1 == x.1 && h.2 == x.2) (fun fuel i => f95_1 m fuel L h.1 h.2 ((L.length : Nat) : Int) i) .x0 .r
  (fun fuel => by
   show f95_1 m (fuel + 1) L h.1 h.2 ((L.length : Nat) : Int) ((L.length : Nat) : Int) = _
   rw [f95_1, dcF (by omega)]; rfl)
  (fun fuel i hi => by
   show f95_1 m (fuel + 1) L h.1 h.2 ((L.length : Nat) : Int) (i : Int) = _
   rw [f95_1, dcT (p := (i : Int) < ((L.length : Nat) : Int)) (by omega), inR hi, getDiA L hi, nat_succ i (by omega)]
   rfl) L.length 0 m (by omega) (by omega)
 unfold f79 f95
 rcases key with ⟨k, hk, _, k2, _, k4⟩ | ⟨k3, k4⟩
 ·have k4 : f95_1 m m L h.1 h.2 ((L.length : Nat) : Int) 0 = some (.r (k : Int)) := k4
  rw [k4]
  show some (decide ((k : Int) ≥ 0)) = _
  simp only [Bool.and_eq_true, beq_iff_eq] at k2
  have : h ∈ L := by
   have e : h = L[k] := by rw [Prod.ext_iff]; exact k2
   rw [e]; exact List.getElem_mem hk
  rw [dcT (by omega), dcT this]
 ·have k4 : f95_1 m m L h.1 h.2 ((L.length : Nat) : Int) 0 = some .x0 := k4
  rw [k4]
  show some (decide ((-1 : Int) ≥ 0)) = _
  have : ¬ h ∈ L := fun hh => by
   obtain ⟨j, hj, e⟩ := List.getElem_of_mem hh
   have := k3 j hj (Nat.zero_le _)
   rw [e] at this
   simp at this
  rw [dcF (by omega), dcF this]
def goP (h : Hp) (left : List Hp) (o : Hp) : Bool := shrd h o || !decide (o ∈ left)
theorem goP_1 {h o : Hp} {left : List Hp} (h1 : o.1 ≤ h.2) (h2 : h.1 ≤ o.2) : goP h left o = true := by
 unfold goP shrd
 rw [dcT ⟨h2, h1⟩]; rfl
theorem goP_2 {h o : Hp} {left : List Hp} (h1 : ¬ (h.1 ≤ o.2 ∧ o.1 ≤ h.2)) : goP h left o = !decide (o ∈ left) := by
 unfold goP shrd
 rw [dcF h1]; rfl
theorem f37_3_step (m : Nat) (hm : 1001 ≤ m) (fuel : Nat) (a : List Hp) (acc : List Int) (left : List Hp) (hl : left.length ≤ 1000) (h : Hp) (L : List Hp) (hL : L.length ≤ 1000) (i : Nat) (hi : i < L.length) :
  f37_3 m (fuel + 1) a acc left h.1 h.2 L ((L.length : Nat) : Int) (i : Int) = cond (goP h left L[i]) (some (.r (i : Int))) (f37_3 m fuel a acc left h.1 h.2 L ((L.length : Nat) : Int) ((i + 1 : Nat) : Int)) := by
 rw [f37_3, dcT (p := (i : Int) < ((L.length : Nat) : Int)) (by omega), inR hi, getDiA L hi, nat_succ i (by omega), f95_79 m hm left hl (L[i])]
 by_cases e1 : (L[i]).1 ≤ h.2
 ·rw [dcT e1]
  by_cases e2 : h.1 ≤ (L[i]).2
  ·rw [dcT e2, goP_1 e1 e2]; rfl
  ·rw [dcF e2, goP_2 (fun q => e2 q.1)]; rfl
 ·rw [dcF e1, goP_2 (fun q => e1 q.2)]; rfl
theorem f37_4_step (m : Nat) (hm : 1001 ≤ m) (fuel : Nat) (a : List Hp) (acc : List Int) (left : List Hp) (hl : left.length ≤ 1000) (h : Hp) (i k : Nat) (lh : List Hp) (hk : k < lh.length) (hlh : lh.length ≤ 1000) (hik : i < k) :
  f37_4 m (fuel + 1) a acc left h.1 h.2 (i : Int) (k : Int) lh = cond (!goP h left lh[k]) (f37_4 m fuel a acc left h.1 h.2 ((i + 1 : Nat) : Int) ((k + 1 : Nat) : Int) (lh.set i lh[k])) (f37_4 m fuel a acc left h.1 h.2 (i : Int) ((k + 1 : Nat) : Int) lh) := by
 rw [f37_4, dcT (p := (k : Int) < ((lh.length : Nat) : Int)) (by omega), inR hk, getDiA lh hk, nat_succ i (by omega), nat_succ k (by omega), inR (show i < lh.length by omega), Int.toNat_natCast, f95_79 m hm left hl (lh[k])]
 by_cases e1 : (lh[k]).1 ≤ h.2
 ·rw [dcT e1]
  by_cases e2 : h.1 ≤ (lh[k]).2
  ·rw [dcT e2, goP_1 e1 e2]; rfl
  ·rw [dcF e2, goP_2 (fun q => e2 q.1)]; rfl
 ·rw [dcF e1, goP_2 (fun q => e1 q.2)]; rfl
theorem f37_2_eq (m : Nat) (hm : 1001 ≤ m) (a : List Hp) (acc : List Int) (left : List Hp) (hl : left.length ≤ 1000) (h : Hp) (L : List Hp) (hL : L.length ≤ 1000) : f37_2 m a acc left h.1 h.2 L = some (L.filter fun o => !goP h left o) := by
 have key := del_gen L hL (goP h left) m hm (fun fuel i => f37_3 m fuel a acc left h.1 h.2 L ((L.length : Nat) : Int) i) .x0 .r
  (fun fuel => by
   show f37_3 m (fuel + 1) a acc left h.1 h.2 L ((L.length : Nat) : Int) ((L.length : Nat) : Int) = _
   rw [f37_3, dcF (by omega)]; rfl)
  (fun fuel i hi => f37_3_step m hm fuel a acc left hl h L hL i hi)
  (fun fuel i k lh => f37_4 m fuel a acc left h.1 h.2 i k lh)
  (fun fuel x lh hlh => by
   show f37_4 m (fuel + 1) a acc left h.1 h.2 x ((L.length : Nat) : Int) lh = _
   rw [f37_4, dcF (p := ((L.length : Nat) : Int) < ((lh.length : Nat) : Int)) (by omega)]; rfl)
  (fun fuel i k lh hk hlh hik => f37_4_step m hm fuel a acc left hl h i k lh hk (by omega) hik)
 unfold f37_2
 rcases key with ⟨k1, k2⟩ | ⟨k, hk, k1, arr, k2, k3, k4⟩
 ·have k1 : f37_3 m m a acc left h.1 h.2 L ((L.length : Nat) : Int) 0 = _ := k1
  rw [k1]
  show some (List.take L.length L) = _
  rw [List.take_length, k2]
 ·have k1 : f37_3 m m a acc left h.1 h.2 L ((L.length : Nat) : Int) 0 = _ := k1
  rw [k1]
  have e : (((k : Int)) == (-1)) = false := by rw [beq_eq_false_iff_ne]; omega
  show cond ((k : Int) == (-1)) (some (List.take L.length L)) ((f37_4 m m a acc left h.1 h.2 (k : Int) (w64 ((k : Int) + 1)) L).bind _) = _
  rw [e, k2]
  refine Eq.trans ?_ (del_tail (kk := L.filter fun o => !goP h left o) (arr := arr) k3 (by omega) (by rw [k4]; exact List.length_filter_le _ _))
  rfl
theorem f37_1_eq (m : Nat) (hm : 1001 ≤ m) (a : List Hp) (ho : OkL a) (h10 : a.length ≤ 100) : ∀ (r i fuel : Nat) (ch left : List Hp) (acc : List Int), i + r = a.length → r < fuel → left.length ≤ 100 → (∀ h ∈ a.drop i, h ∈ left ↔ cmp ch h = true) → acc.length ≤ i →
  f37_1 m fuel a ((mt (comp2 ch (a.drop i)) : Nat) : Int) ((a.length : Nat) : Int) (i : Int) acc left = some (apL (a.drop i) i ch acc)
 | 0, i, fuel + 1, ch, left, acc, hr, hf, hl, hi, ha => by
  rw [f37_1, dcF (p := (i : Int) < ((a.length : Nat) : Int)) (by omega), List.drop_eq_nil_of_le (by omega)]
  rfl
 | r + 1, i, fuel + 1, ch, left, acc, hr, hf, hl, hi, ha => by
  have hlt : i < a.length := by omega
  have hd := List.drop_eq_getElem_cons hlt
  have hod : OkL (a[i] :: a.drop (i + 1)) := fun x hx => ho x (List.mem_of_mem_drop (i := i) (by rw [hd]; exact hx))
  rw [f37_1, dcT (p := (i : Int) < ((a.length : Nat) : Int)) (by omega), inR hlt, getDiA a hlt, f95_79 m hm left (by omega), nat_succ i (by omega), Int.toNat_natCast]
  have hin : decide (a[i] ∈ left) = cmp ch a[i] := by
   have := hi a[i] (by rw [hd]; exact List.mem_cons_self ..)
   cases hc : cmp ch a[i] with
   | true => rw [hc] at this; rw [dcT (this.2 rfl)]
   | false => rw [hc] at this; rw [dcF (fun q => by have := this.1 q; cases this)]
  have hnext : ∀ h ∈ a.drop (i + 1), h ∈ left ↔ cmp ch h = true := fun h hh => hi h (by rw [hd]; exact List.mem_cons_of_mem _ hh)
  rw [hd]
  show cond (!decide (a[i] ∈ left)) _ _ = _
  rw [hin]
  unfold apL
  cases hc : cmp ch a[i] with
  | false =>
   rw [if_neg (fun q => by cases q.1)]
   have hs := mt_skip (ch := ch) hod (fun q => by rw [hc] at q; cases q.1)
   show f37_1 m fuel a ((mt (comp2 ch (a[i] :: a.drop (i + 1))) : Nat) : Int) ((a.length : Nat) : Int) ((i + 1 : Nat) : Int) acc left = _
   rw [← hs]
   exact f37_1_eq m hm a ho h10 r (i + 1) fuel ch left acc (by omega) (by omega) hl hnext (by omega)
  | true =>
   have hrest : (a.drop (i + 1)).filter (fun o => !goP a[i] left o) = comp2 (ch ++ [a[i]]) (a.drop (i + 1)) := by
    rw [comp2_snoc]
    unfold comp2
    rw [List.filter_filter]
    refine List.filter_congr (fun x hx => ?_)
    have := hnext x hx
    unfold goP
    cases hcx : cmp ch x with
    | true => rw [hcx] at this; rw [dcT (this.2 rfl)]; simp
    | false => rw [hcx] at this; rw [dcF (fun q => by have := this.1 q; cases this)]; simp
   have hcut : cutOK ((i + 1 : Nat) : Int) ((a.length : Nat) : Int) ((a.length : Nat) : Int) a.length = true := cutOK_iff.2 ⟨by omega, by omega, by omega, by omega⟩
   have htake : List.take (a.length - (i + 1)) (List.drop (i + 1) a) = a.drop (i + 1) := List.take_of_length_le (by rw [List.length_drop]; omega)
   have hol : OkL (comp2 (ch ++ [a[i]]) (a.drop (i + 1))) := comp2_ok hod.tail _
   have hll : (comp2 (ch ++ [a[i]]) (a.drop (i + 1))).length ≤ 100 := by
    have := List.length_filter_le (cmp (ch ++ [a[i]])) (a.drop (i + 1))
    unfold comp2
    rw [List.length_drop] at this
    omega
   simp only [Bool.not_true, cond_false]
   rw [hcut, dcT (p := i + 1 + (a.length - (i + 1)) ≤ a.length) (by omega), dcT (p := a.length - (i + 1) ≤ a.length - (i + 1)) (Nat.le_refl _), fitsI (n := a.length - (i + 1)) (by omega) (by omega), htake, f37_2_eq m hm a acc left (by omega) a[i] _ (by rw [List.length_drop]; omega), hrest]
   simp only [cond_true, Option.bind_some]
   rw [f75_eq m hm _ hol (by omega)]
   have hml := mt_len (comp2_ok hod ch)
   have hlc := List.length_filter_le (cmp ch) (a[i] :: a.drop (i + 1))
   have hb : mt (comp2 ch (a[i] :: a.drop (i + 1))) ≤ 100 := by
    unfold comp2 at hml ⊢
    simp only [List.length_cons, List.length_drop] at hlc
    omega
   rw [w64i (by omega) (by omega)]
   simp only [Option.bind_some]
   by_cases e : 1 + mt (comp2 (ch ++ [a[i]]) (a.drop (i + 1))) = mt (comp2 ch (a[i] :: a.drop (i + 1)))
   ·rw [if_pos (by first | exact ⟨rfl, e⟩ | exact ⟨trivial, e⟩)]
    have e2 : (((mt (comp2 (ch ++ [a[i]]) (a.drop (i + 1))) : Nat) : Int) == ((mt (comp2 ch (a[i] :: a.drop (i + 1))) : Nat) : Int) - 1) = true := by rw [beq_iff_eq]; omega
    rw [e2, fitsI (n := acc.length + 1) (by omega) (by omega)]
    have e3 : ((mt (comp2 ch (a[i] :: a.drop (i + 1))) : Nat) : Int) - 1 = ((mt (comp2 (ch ++ [a[i]]) (a.drop (i + 1))) : Nat) : Int) := by omega
    rw [e3]
    refine f37_1_eq m hm a ho h10 r (i + 1) fuel (ch ++ [a[i]]) _ _ (by omega) (by omega) hll (fun h hh => ?_) (by simp; omega)
    unfold comp2
    rw [List.mem_filter]
    exact ⟨fun q => q.2, fun q => ⟨hh, q⟩⟩
   ·rw [if_neg (fun q => e q.2)]
    have e2 : (((mt (comp2 (ch ++ [a[i]]) (a.drop (i + 1))) : Nat) : Int) == ((mt (comp2 ch (a[i] :: a.drop (i + 1))) : Nat) : Int) - 1) = false := by rw [beq_eq_false_iff_ne]; omega
    rw [e2]
    have hs := mt_skip (ch := ch) hod (fun q => e q.2)
    show f37_1 m fuel a ((mt (comp2 ch (a[i] :: a.drop (i + 1))) : Nat) : Int) ((a.length : Nat) : Int) ((i + 1 : Nat) : Int) acc left = _
    rw [← hs]
    exact f37_1_eq m hm a ho h10 r (i + 1) fuel ch left acc (by omega) (by omega) hl hnext (by omega)
theorem f35_ok1 (m : Nat) (hm : 1001 ≤ m) (l : List Hp) (ho : OkL l) (h10 : l.length ≤ 10) : f35 m l = some (hrL 24 0 l, 0) := by
 unfold f35
 rw [f23_ok0 m (by omega) l ho h10, fitsI (by omega) (by omega)]
 show (f35_1 m m l [] l 0).bind _ = _
 rw [f35_1_eq m hm l 24 m 0 l [] ho (by omega) (fun x hx => by have := ho x hx; omega) (by omega) (by omega) (by omega) (by simp)]
 rfl
theorem f37_ok1 (m : Nat) (hm : 1001 ≤ m) (l : List Hp) (ho : OkL l) (h10 : l.length ≤ 10) : f37 m l = some (apL l 0 [] [], 0) := by
 unfold f37
 rw [f23_ok0 m (by omega) l ho h10, fitsI (by omega) (by omega), f75_eq m hm l ho (by omega)]
 have h := f37_1_eq m hm l ho (by omega) l.length 0 m [] l [] (by omega) (by omega) (by omega) (fun h hh => ⟨fun _ => rfl, fun _ => hh⟩) (by simp)
 rw [List.drop_zero, comp2_nil] at h
 show (f37_1 m m l ((mt l : Nat) : Int) ((l.length : Nat) : Int) ((0 : Nat) : Int) [] l).bind _ = _
 rw [h]
 rfl
end Go.Xm
namespace Go.Xm
set_option linter.unusedVariables false
set_option linter.unusedSimpArgs false
theorem hr_ok : ∀ (d : Nat) (t : Int) (S : List Hp), OkL S → (∀ x ∈ S, t ≤ x.2) → t + d = 24 → (hrL d t S).Pairwise (· < ·) ∧ (∀ z ∈ hrL d t S, t ≤ z ∧ ∃ x ∈ S, z ≤ x.2) ∧ Stb S (hrL d t S)
 | 0, t, S, ho, h, hd => by
  cases S with
  | nil => exact ⟨List.Pairwise.nil, (fun z hz => by cases hz), fun x hx => by cases hx⟩
  | cons y l =>
   have := h y (List.mem_cons_self ..)
   have := ho y (List.mem_cons_self ..)
   omega
 | d + 1, t, [], _, _, _ => ⟨List.Pairwise.nil, (fun z hz => by cases hz), fun x hx => by cases hx⟩
 | d + 1, t, y :: l, ho, h, hd => by
  rw [hrL_cons]
  by_cases e : mt (rem t (y :: l)) + 1 = mt (y :: l)
  ·rw [if_pos e]
   obtain ⟨q1, q2, q3⟩ := hr_ok d (t + 1) _ (ho.rem t) (fun x hx => by
    have := rem_later h x hx
    have := ho x (mem_rem.1 hx).1
    omega) (by omega)
   refine ⟨List.pairwise_cons.2 ⟨fun z hz => ?_, q1⟩, fun z hz => ?_, fun x hx => ?_⟩
   ·have := (q2 z hz).1; omega
   ·rcases List.mem_cons.1 hz with rfl | hz
    ·exact ⟨Int.le_refl _, y, List.mem_cons_self .., h y (List.mem_cons_self ..)⟩
    ·obtain ⟨z1, x, z2, z3⟩ := q2 z hz
     exact ⟨by omega, x, (mem_rem.1 z2).1, z3⟩
   ·by_cases e2 : x.1 ≤ t ∧ t ≤ x.2
    ·exact ⟨t, List.mem_cons_self .., e2⟩
    ·obtain ⟨z, z1, z2⟩ := q3 x (mem_rem.2 ⟨hx, e2⟩)
     exact ⟨z, List.mem_cons_of_mem _ z1, z2⟩
  ·rw [if_neg e]
   obtain ⟨q1, q2, q3⟩ := hr_ok d (t + 1) _ ho (not_taken ho h (by simp) e) (by omega)
   exact ⟨q1, fun z hz => ⟨by have := (q2 z hz).1; omega, (q2 z hz).2⟩, q3⟩
theorem ap_len0 (l : List Hp) (ho : OkL l) : (apL l 0 [] []).length = mt l := by
 rw [apL_len l 0 [] [] ho, comp2_nil]; simp
end Go.Xm
