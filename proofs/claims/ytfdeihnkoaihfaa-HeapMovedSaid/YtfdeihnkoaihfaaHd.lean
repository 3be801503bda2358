/- HeapHall: spans that are crowded, on the program's side. Conditions: none. -/
import Derived.Test.YtfdeihnkoaihfaaCf
import Derived.Test.YtfdeihnkoaihfaaGp
namespace Go.Xm
set_option linter.unusedVariables false
set_option linter.unusedSimpArgs false
set_option maxRecDepth 20000
theorem getDz (l : List Int) {i : Nat} (hi : i < l.length) : List.getD l (Int.toNat (i : Int)) 0 = l[i] := by simp [hi]
theorem crw_cons (h : Hp) (l : List Hp) (a b : Int) : crw (h :: l) a b = crw l a b + (if a ≤ h.1 ∧ h.2 ≤ b then 1 else 0) := by
 unfold crw
 rw [List.countP_cons]
 congr 1
 by_cases e : a ≤ h.1 ∧ h.2 ≤ b
 ·rw [if_pos e, if_pos (by simp [e])]
 ·rw [if_neg e, if_neg (by simpa using e)]
def Crd (k : Int) (l : List Hp) (f t : Int) : Prop := ((crw l f t : Nat) : Int) > k * (t - f + 1)
instance (k : Int) (l : List Hp) (f t : Int) : Decidable (Crd k l f t) := by unfold Crd; infer_instance
def whyT (k : Int) (l : List Hp) (f : Int) : Nat → Int → Option Int
 | 0, _ => none
 | d + 1, t => if Crd k l f t then some t else whyT k l f d (t + 1)
def whyF (k : Int) (l : List Hp) : Nat → Int → Option (Int × Int)
 | 0, _ => none
 | d + 1, f => match whyT k l f (d + 1) f with
  | some t => some (f, t)
  | none => whyF k l d (f + 1)
theorem whyT_none {k : Int} {l : List Hp} {f : Int} : ∀ {d : Nat} {t : Int}, whyT k l f d t = none ↔ ∀ u, t ≤ u → u < t + d → ¬ Crd k l f u
 | 0, t => ⟨fun _ u h1 h2 => by omega, fun _ => rfl⟩
 | d + 1, t => by
  unfold whyT
  split
  ·rename_i e
   simp only [reduceCtorEq, false_iff]
   intro h
   exact h t (by omega) (by omega) e
  ·rename_i e
   rw [whyT_none]
   constructor
   ·intro h u h1 h2
    by_cases eu : u = t
    ·subst eu; exact e
    ·exact h u (by omega) (by omega)
   ·intro h u h1 h2
    exact h u (by omega) (by omega)
theorem whyT_some {k : Int} {l : List Hp} {f : Int} : ∀ {d : Nat} {t r : Int}, whyT k l f d t = some r → t ≤ r ∧ r < t + d ∧ Crd k l f r ∧ ∀ u, t ≤ u → u < r → ¬ Crd k l f u
 | 0, t, r, h => by cases h
 | d + 1, t, r, h => by
  unfold whyT at h
  split at h
  ·rename_i e
   cases h
   exact ⟨by omega, by omega, e, fun u h1 h2 => by omega⟩
  ·rename_i e
   obtain ⟨h1, h2, h3, h4⟩ := whyT_some h
   refine ⟨by omega, by omega, h3, fun u u1 u2 => ?_⟩
   by_cases eu : u = t
   ·subst eu; exact e
   ·exact h4 u (by omega) u2
theorem whyF_none {k : Int} {l : List Hp} : ∀ {d : Nat} {f : Int}, (f + d = 24) → (whyF k l d f = none ↔ ∀ g u, f ≤ g → g ≤ u → u ≤ 23 → ¬ Crd k l g u)
 | 0, f, hd => ⟨fun _ g u h1 h2 h3 => by omega, fun _ => rfl⟩
 | d + 1, f, hd => by
  unfold whyF
  split
  ·rename_i t ht
   simp only [reduceCtorEq, false_iff]
   intro h
   obtain ⟨h1, h2, h3, _⟩ := whyT_some ht
   exact h f t (by omega) (by omega) (by omega) h3
  ·rename_i ht
   rw [whyF_none (by omega)]
   rw [whyT_none] at ht
   constructor
   ·intro h g u h1 h2 h3
    by_cases eg : g = f
    ·subst eg; exact ht u (by omega) (by omega)
    ·exact h g u (by omega) h2 h3
   ·intro h g u h1 h2 h3
    exact h g u (by omega) h2 h3
theorem whyF_some {k : Int} {l : List Hp} : ∀ {d : Nat} {f a b : Int}, (f + d = 24) → whyF k l d f = some (a, b) → f ≤ a ∧ a ≤ b ∧ b ≤ 23 ∧ Crd k l a b ∧ (∀ u, a ≤ u → u < b → ¬ Crd k l a u) ∧ ∀ g u, f ≤ g → g < a → g ≤ u → u ≤ 23 → ¬ Crd k l g u
 | 0, f, a, b, _, h => by cases h
 | d + 1, f, a, b, hd, h => by
  unfold whyF at h
  split at h
  ·rename_i t ht
   cases h
   obtain ⟨h1, h2, h3, h4⟩ := whyT_some ht
   exact ⟨by omega, by omega, by omega, h3, h4, fun g u g1 g2 => by omega⟩
  ·rename_i ht
   rw [whyT_none] at ht
   obtain ⟨h1, h2, h3, h4, h5, h6⟩ := whyF_some (by omega) h
   refine ⟨by omega, h2, h3, h4, h5, fun g u g1 g2 g3 g4 => ?_⟩
   by_cases eg : g = f
   ·subst eg; exact ht u (by omega) (by omega)
   ·exact h6 g u (by omega) g2 g3 g4
theorem fits_crd {k : Nat} {l : List Hp} : Fits k l ↔ ∀ g u : Int, 0 ≤ g → g ≤ u → u ≤ 23 → ¬ Crd k l g u := by
 unfold Fits Crd
 constructor
 ·intro h g u h1 h2 h3
  have := h g u h1 h2 h3
  omega
 ·intro h g u h1 h2 h3
  have := h g u h1 h2 h3
  omega
theorem whyF_fits {k : Nat} {l : List Hp} : whyF k l 24 0 = none ↔ Fits k l := by rw [whyF_none (by rfl), fits_crd]
theorem mulB {k x : Int} (h1 : 0 ≤ k) (h2 : k ≤ 1000) (h3 : 0 ≤ x) (h4 : x ≤ 1000) : 0 ≤ k * x ∧ k * x ≤ 1000000 := by
 refine ⟨Int.mul_nonneg h1 h3, ?_⟩
 exact Int.le_trans (Int.mul_le_mul h2 h4 h3 (by omega)) (by omega)
theorem crd_w {k : Int} (h1 : 0 ≤ k) (h2 : k ≤ 1000) {f t : Int} (hf : 0 ≤ f) (hft : f ≤ t) (ht : t ≤ 23) : w64 (k * (w64 ((w64 (t - f)) + 1))) = k * (t - f + 1) := by
 have := mulB h1 h2 (x := t - f + 1) (by omega) (by omega)
 rw [w64i (x := t - f) (by omega) (by omega), w64i (x := t - f + 1) (by omega) (by omega), w64i (by omega) (by omega)]
theorem f91_eq (m : Nat) (a b c d : Int) : f91 m a b c d = some (decide (c ≤ a ∧ b ≤ d)) := by
 unfold f91
 by_cases h : c ≤ a
 ·rw [dcT h]; simp [h]
 ·rw [dcF h]; simp [h]
theorem f65_1_eq (m : Nat) (l : List Hp) (h10 : l.length ≤ 1000) (b c : Int) :
  ∀ (r i fuel n : Nat), i + r = l.length → r < fuel → n ≤ i → f65_1 m fuel l b c (n : Int) ((l.length : Nat) : Int) (i : Int) = some (((n + crw (l.drop i) b c : Nat) : Int))
 | 0, i, fuel + 1, n, hr, hf, hn => by
  rw [f65_1, dcF (p := (i : Int) < ((l.length : Nat) : Int)) (by omega), List.drop_eq_nil_of_le (by omega)]
  rfl
 | r + 1, i, fuel + 1, n, hr, hf, hn => by
  have hi : i < l.length := by omega
  rw [f65_1, dcT (p := (i : Int) < ((l.length : Nat) : Int)) (by omega), inR hi, getDi l hi, f91_eq, nat_succ i (by omega), nat_succ n (by omega), List.drop_eq_getElem_cons hi, crw_cons]
  by_cases e : b ≤ (l[i]).1 ∧ (l[i]).2 ≤ c
  ·rw [dcT e, if_pos e]
   show f65_1 m fuel l b c ((n + 1 : Nat) : Int) _ ((i + 1 : Nat) : Int) = _
   rw [f65_1_eq m l h10 b c r (i + 1) fuel (n + 1) (by omega) (by omega) (by omega)]
   congr 2; omega
  ·rw [dcF e, if_neg e]
   exact f65_1_eq m l h10 b c r (i + 1) fuel n (by omega) (by omega) (by omega)
theorem f65_eq (m : Nat) (hm : 1001 ≤ m) (l : List Hp) (hl : l.length ≤ 1000) (b c : Int) : f65 m l b c = some ((crw l b c : Nat) : Int) := by
 unfold f65
 show (f65_1 m m l b c ((0 : Nat) : Int) _ ((0 : Nat) : Int)).bind _ = _
 rw [f65_1_eq m l hl b c l.length 0 m 0 (by omega) (by omega) (by omega), List.drop_zero, Nat.zero_add]
 rfl
def gj : List Int → Int → List Int
 | [], x => [x]
 | y :: Q, x => if x < y then gj Q x ++ [y] else Q.reverse ++ [y, x]
theorem gj_perm : ∀ (Q : List Int) (x : Int), (gj Q x).Perm (Q.reverse ++ [x])
 | [], x => List.Perm.refl _
 | y :: Q, x => by
  unfold gj
  split
  ·rw [List.reverse_cons, List.append_assoc]
   refine ((gj_perm Q x).append_right [y]).trans ?_
   rw [List.append_assoc]
   exact List.Perm.append_left _ (List.Perm.swap y x [])
  ·rw [List.reverse_cons, List.append_assoc]
   exact List.Perm.refl _
theorem gj_mem {Q : List Int} {x z : Int} (h : z ∈ gj Q x) : z = x ∨ z ∈ Q := by
 have := (gj_perm Q x).mem_iff.1 h
 simp only [List.mem_append, List.mem_reverse, List.mem_singleton] at this
 exact this.symm
theorem gj_sorted : ∀ (Q : List Int) (x : Int), Q.reverse.Pairwise (· ≤ ·) → (gj Q x).Pairwise (· ≤ ·)
 | [], x, _ => List.pairwise_singleton _ _
 | y :: Q, x, h => by
  rw [List.reverse_cons] at h
  obtain ⟨h1, h2, h3⟩ := List.pairwise_append.1 h
  unfold gj
  split
  ·rename_i e
   refine List.pairwise_append.2 ⟨gj_sorted Q x h1, List.pairwise_singleton _ _, fun z hz u hu => ?_⟩
   rw [List.mem_singleton.1 hu]
   rcases gj_mem hz with rfl | hz
   ·omega
   ·exact h3 z (List.mem_reverse.2 hz) y (List.mem_singleton.2 rfl)
  ·rename_i e
   refine List.pairwise_append.2 ⟨h1, ?_, fun z hz u hu => ?_⟩
   ·refine List.pairwise_cons.2 ⟨fun u hu => ?_, List.pairwise_singleton _ _⟩
    rw [List.mem_singleton.1 hu]; omega
   ·have h4 := h3 z hz y (List.mem_singleton.2 rfl)
    rcases List.mem_cons.1 hu with rfl | hu
    ·exact h4
    ·rw [List.mem_singleton.1 hu]; omega
def jsort : List Int → List Int → List Int
 | S, [] => S
 | S, x :: R => jsort (gj S.reverse x) R
theorem jsort_perm : ∀ (R S : List Int), (jsort S R).Perm (S ++ R)
 | [], S => by simp [jsort]
 | x :: R, S => by
  unfold jsort
  refine (jsort_perm R _).trans ?_
  refine ((gj_perm S.reverse x).append_right R).trans ?_
  rw [List.reverse_reverse, List.append_assoc]
  exact List.Perm.refl _
theorem jsort_sorted : ∀ (R S : List Int), S.Pairwise (· ≤ ·) → (jsort S R).Pairwise (· ≤ ·)
 | [], S, h => h
 | x :: R, S, h => jsort_sorted R _ (gj_sorted _ x (by rw [List.reverse_reverse]; exact h))
theorem f116_eq (m : Nat) (a b : Int) : f116 m a b = some (decide (a < b)) := by
 unfold f116 f96
 have : (a != a) = false := by simp
 rw [this]
 rfl
theorem f67_4_eq (m : Nat) (a : List Hp) (c1 c2 : Int) : ∀ (Q : List Int) (x : Int) (R : List Int) (fuel : Nat), Q.length < fuel → Q.length + 1 + R.length ≤ 1000 →
  f67_4 m fuel a c1 c2 (Q.length : Int) (Q.reverse ++ x :: R) = some (gj Q x ++ R)
 | [], x, R, fuel + 1, _, _ => by
  rw [f67_4, dcF (p := ((([] : List Int).length : Nat) : Int) > 0) (by simp)]
  rfl
 | y :: Q, x, R, fuel + 1, hf, hl => by
  have e1 : (y :: Q).reverse ++ x :: R = Q.reverse ++ y :: x :: R := by simp
  have e2 : (y :: Q).reverse ++ x :: R = (Q.reverse ++ [y]) ++ x :: R := by simp
  have hw : w64 ((((y :: Q).length : Nat) : Int) - 1) = ((Q.length : Nat) : Int) := by
   simp only [List.length_cons] at hl ⊢
   rw [w64i (by omega) (by omega)]; omega
  rw [f67_4, dcT (p := (((y :: Q).length : Nat) : Int) > 0) (by simp only [List.length_cons]; omega)]
  rw [inR (show (y :: Q).length < ((y :: Q).reverse ++ x :: R).length by simp), hw, inR (show Q.length < ((y :: Q).reverse ++ x :: R).length by simp)]
  have g1 : List.getD ((y :: Q).reverse ++ x :: R) (Int.toNat (((y :: Q).length : Nat) : Int)) 0 = x := by rw [e2]; exact getD_mid _ _ _ _ (by simp)
  have g2 : List.getD ((y :: Q).reverse ++ x :: R) (Int.toNat ((Q.length : Nat) : Int)) 0 = y := by rw [e1]; exact getD_mid _ _ _ _ (by simp)
  rw [g1, g2, f116_eq]
  show cond (decide (x < y)) _ _ = _
  unfold gj
  by_cases e : x < y
  ·rw [dcT e, if_pos e]
   have s1 : List.set (List.set ((y :: Q).reverse ++ x :: R) (Int.toNat (((y :: Q).length : Nat) : Int)) y) (Int.toNat ((Q.length : Nat) : Int)) x = Q.reverse ++ x :: y :: R := by
    rw [e2, set_mid _ _ _ _ (by simp), List.append_assoc]
    exact set_mid _ _ _ _ (by simp)
   show f67_4 m fuel a c1 c2 _ _ = _
   rw [s1, f67_4_eq m a c1 c2 Q x (y :: R) fuel (by simp only [List.length_cons] at hf; omega) (by simp only [List.length_cons] at hl ⊢; omega)]
   simp
  ·rw [dcF e, if_neg e]
   simp
theorem f67_3_eq (m : Nat) (a : List Hp) : ∀ (R S : List Int) (fuel n : Nat), R.length < fuel → S.length + R.length = n → n ≤ 1000 → n ≤ m → 0 < S.length →
  f67_3 m fuel a (n : Int) (S.length : Int) (S ++ R) = some (jsort S R)
 | [], S, fuel + 1, n, _, hn, _, _, _ => by
  rw [f67_3, dcF (p := ((S.length : Nat) : Int) < (n : Int)) (by simp at hn; omega)]
  simp [jsort]
 | x :: R, S, fuel + 1, n, hf, hn, h1, hm, hS => by
  simp only [List.length_cons] at hf hn
  rw [f67_3, dcT (p := ((S.length : Nat) : Int) < (n : Int)) (by omega)]
  have e : S ++ x :: R = S.reverse.reverse ++ x :: R := by rw [List.reverse_reverse]
  have h3 := f67_4_eq m a (n : Int) (S.length : Int) S.reverse x R m (by rw [List.length_reverse]; omega) (by rw [List.length_reverse]; omega)
  rw [← e, List.length_reverse] at h3
  show ((f67_4 m m a (n : Int) (S.length : Int) (S.length : Int) (S ++ x :: R)).bind fun o3 => f67_3 m fuel a (n : Int) (w64 ((S.length : Int) + 1)) o3) = _
  rw [h3]
  have hl : (gj S.reverse x).length = S.length + 1 := by
   have := (gj_perm S.reverse x).length_eq
   simpa using this
  show f67_3 m fuel a (n : Int) (w64 ((S.length : Int) + 1)) (gj S.reverse x ++ R) = _
  rw [nat_succ _ (by omega), ← hl]
  rw [f67_3_eq m a R (gj S.reverse x) fuel n (by omega) (by omega) h1 hm (by omega)]
  rfl
theorem f67_2_eq (m : Nat) (hm : 13 ≤ m) (a : List Hp) (L : List Int) (r : Int) (hl : L.length ≤ 12) : ∃ s, f67_2 m m a L ((L.length : Nat) : Int) r = some s ∧ s.Perm L ∧ s.Pairwise (· ≤ ·) := by
 obtain ⟨f, rfl⟩ : ∃ f, m = f + 1 := ⟨m - 1, by omega⟩
 rw [f67_2, w64i (by omega) (by omega), dcT (p := ((L.length : Nat) : Int) - 0 ≤ 12) (by omega)]
 show ∃ s, ((f67_3 (f + 1) (f + 1) a ((L.length : Nat) : Int) 1 L).bind fun o2 => some o2) = some s ∧ _
 cases L with
 | nil => exact ⟨[], rfl, List.Perm.refl _, List.Pairwise.nil⟩
 | cons x R =>
  have h2 := f67_3_eq (f + 1) a R [x] (f + 1) (x :: R).length (by simp only [List.length_cons] at hl; omega) (by simp; omega) (by omega) (by omega) (by simp)
  have h2 : f67_3 (f + 1) (f + 1) a (((x :: R).length : Nat) : Int) 1 (x :: R) = some (jsort [x] R) := h2
  rw [h2]
  exact ⟨jsort [x] R, rfl, jsort_perm R [x], jsort_sorted R [x] (List.pairwise_singleton _ _)⟩
theorem f67_1_eq (m : Nat) (l : List Hp) (h10 : l.length ≤ 900) (b : Int) : ∀ (r i fuel : Nat), i + r = l.length → r < fuel → f67_1 m fuel l b ((l.length : Nat) : Int) (i : Int) ((l.take i).map Prod.snd) = some (l.map Prod.snd)
 | 0, i, fuel + 1, hr, hf => by
  rw [f67_1, dcF (p := (i : Int) < ((l.length : Nat) : Int)) (by omega), List.take_of_length_le (by omega)]
  rfl
 | r + 1, i, fuel + 1, hr, hf => by
  have hi : i < l.length := by omega
  rw [f67_1, dcT (p := (i : Int) < ((l.length : Nat) : Int)) (by omega), inR hi, getDi l hi, nat_succ i (by omega), fitsI (n := ((l.take i).map Prod.snd).length + 1) (by rw [List.length_map, List.length_take]; omega) (by omega)]
  have : (l.take i).map Prod.snd ++ [(l[i]).2] = (l.take (i + 1)).map Prod.snd := by rw [List.take_succ_eq_append_getElem hi, List.map_append]; rfl
  show f67_1 m fuel l b _ ((i + 1 : Nat) : Int) ((l.take i).map Prod.snd ++ [(l[i]).2]) = _
  rw [this]
  exact f67_1_eq m l h10 b r (i + 1) fuel (by omega) (by omega)
def endT (k : Int) (l : List Hp) (f : Int) : List Int → Option Int
 | [] => none
 | t :: ts => if f ≤ t ∧ Crd k l f t then some t else endT k l f ts
theorem endT_none {k : Int} {l : List Hp} {f : Int} : ∀ {L : List Int}, (∀ t ∈ L, ¬ (f ≤ t ∧ Crd k l f t)) → endT k l f L = none
 | [], _ => rfl
 | t :: ts, h => by
  unfold endT
  rw [if_neg (h t (List.mem_cons_self ..)), endT_none (fun u hu => h u (List.mem_cons_of_mem _ hu))]
theorem endT_some {k : Int} {l : List Hp} {f r : Int} : ∀ {L : List Int}, L.Pairwise (· ≤ ·) → r ∈ L → f ≤ r → Crd k l f r → (∀ t, f ≤ t → t < r → ¬ Crd k l f t) → endT k l f L = some r
 | t :: ts, hs, hr, h1, h2, h3 => by
  unfold endT
  have hs' := List.pairwise_cons.1 hs
  by_cases e : f ≤ t ∧ Crd k l f t
  ·rw [if_pos e]
   have h4 : ¬ t < r := fun q => h3 t e.1 q e.2
   rcases List.mem_cons.1 hr with rfl | hr
   ·rfl
   ·have := hs'.1 r hr
    congr 1; omega
  ·rw [if_neg e]
   rcases List.mem_cons.1 hr with rfl | hr
   ·exact absurd ⟨h1, h2⟩ e
   ·exact endT_some hs'.2 hr h1 h2 h3
theorem first_end {k : Int} (hk : 0 ≤ k) {l : List Hp} (ho : OkL l) {f r : Int} (hfr : f ≤ r) (h2 : Crd k l f r) (h3 : ∀ t, f ≤ t → t < r → ¬ Crd k l f t) : r ∈ l.map Prod.snd := by
 by_cases e : r ∈ l.map Prod.snd
 ·exact e
 ·exfalso
  have hne : ∀ h ∈ l, h.2 ≠ r := fun h hh q => e (List.mem_map.2 ⟨h, hh, q⟩)
  have hc : crw l f r ≤ crw l f (r - 1) := by
   refine countP_le (fun x hx => ?_)
   have := hne x hx
   simp only [Bool.and_eq_true, decide_eq_true_eq]
   omega
  by_cases er : f = r
  ·subst er
   have h0 : crw l f (f - 1) = 0 := by
    refine countP_none (fun x hx => ?_)
    have := ho x hx
    by_cases q : f ≤ x.1
    ·rw [Bool.and_eq_false_iff]; right; simp only [decide_eq_false_iff_not]; omega
    ·rw [Bool.and_eq_false_iff]; left; simp only [decide_eq_false_iff_not]; omega
   unfold Crd at h2
   have e1 : k * (f - f + 1) = k := by rw [Int.sub_self, Int.zero_add, Int.mul_one]
   rw [e1] at h2
   omega
  ·have h4 := h3 (r - 1) (by omega) (by omega)
   unfold Crd at h2 h4
   have e1 : k * (r - f + 1) = k * (r - 1 - f + 1) + k := by
    have : r - f + 1 = (r - 1 - f + 1) + 1 := by omega
    rw [this, Int.mul_add, Int.mul_one]
   omega
theorem endT_eq {k : Int} (hk : 0 ≤ k) {l : List Hp} (ho : OkL l) {L : List Int} (hp : L.Perm (l.map Prod.snd)) (hs : L.Pairwise (· ≤ ·)) {f : Int} {d : Nat} (hd : f + d = 24) : endT k l f L = whyT k l f d f := by
 cases hw : whyT k l f d f with
 | none =>
  rw [whyT_none] at hw
  refine endT_none (fun t ht q => ?_)
  obtain ⟨h, hh, rfl⟩ := List.mem_map.1 (hp.mem_iff.1 ht)
  have := ho h hh
  exact hw _ q.1 (by omega) q.2
 | some r =>
  obtain ⟨h1, h2, h3, h4⟩ := whyT_some hw
  exact endT_some hs (hp.mem_iff.2 (first_end hk ho h1 h3 h4)) h1 h3 h4
theorem f67_6_eq (m : Nat) (hm : 1001 ≤ m) (l : List Hp) (hl : l.length ≤ 1000) (k : Int) (h1 : 0 ≤ k) (h2 : k ≤ 1000) (L : List Int) (hL : L.length ≤ 1000) (hb : ∀ t ∈ L, t ≤ 23) (f : Int) (hf : 0 ≤ f) : ∀ (r i fuel : Nat), i + r = L.length → r < fuel →
  f67_6 m fuel l k L f ((L.length : Nat) : Int) (i : Int) = some (match endT k l f (L.drop i) with | some t => .r t | none => .x4)
 | 0, i, fuel + 1, hr, hfu => by
  rw [f67_6, dcF (p := (i : Int) < ((L.length : Nat) : Int)) (by omega), List.drop_eq_nil_of_le (by omega)]
  rfl
 | r + 1, i, fuel + 1, hr, hfu => by
  have hi : i < L.length := by omega
  rw [f67_6, dcT (p := (i : Int) < ((L.length : Nat) : Int)) (by omega), inR hi, getDz L hi, nat_succ i (by omega), List.drop_eq_getElem_cons hi, f65_eq m hm l hl]
  unfold endT
  by_cases e : f ≤ L[i]
  ·rw [dcT e, crd_w h1 h2 hf e (hb _ (List.getElem_mem hi))]
   show cond (decide (Crd k l f L[i])) _ _ = _
   by_cases e2 : Crd k l f L[i]
   ·rw [dcT e2, if_pos ⟨e, e2⟩]; rfl
   ·rw [dcF e2, if_neg (fun q => e2 q.2)]
    exact f67_6_eq m hm l hl k h1 h2 L hL hb f hf r (i + 1) fuel (by omega) (by omega)
  ·rw [dcF e, if_neg (fun q => e q.1)]
   exact f67_6_eq m hm l hl k h1 h2 L hL hb f hf r (i + 1) fuel (by omega) (by omega)
theorem f67_5_eq (m : Nat) (hm : 1001 ≤ m) (l : List Hp) (hl : l.length ≤ 1000) (ho : OkL l) (k : Int) (h1 : 0 ≤ k) (h2 : k ≤ 1000) (L : List Int) (hp : L.Perm (l.map Prod.snd)) (hs : L.Pairwise (· ≤ ·)) : ∀ (d fuel : Nat) (f : Int), 0 ≤ f → f + d = 24 → d < fuel →
  f67_5 m fuel l k L f = some (match whyF k l d f with | some u => .r u.1 u.2 | none => .x2)
 | 0, fuel + 1, f, hf, hd, hfu => by
  rw [f67_5, dcF (p := f < 24) (by omega)]
  rfl
 | d + 1, fuel + 1, f, hf, hd, hfu => by
  have hL : L.length ≤ 1000 := by rw [hp.length_eq, List.length_map]; exact hl
  have hb : ∀ t ∈ L, t ≤ 23 := fun t ht => by
   obtain ⟨h, hh, rfl⟩ := List.mem_map.1 (hp.mem_iff.1 ht)
   exact (ho h hh).2.2
  rw [f67_5, dcT (p := f < 24) (by omega)]
  show (f67_6 m m l k L f ((L.length : Nat) : Int) ((0 : Nat) : Int)).bind _ = _
  rw [f67_6_eq m hm l hl k h1 h2 L hL hb f hf L.length 0 m (by omega) (by omega), List.drop_zero, endT_eq h1 ho hp hs (d := d + 1) hd, w64i (x := f + 1) (by omega) (by omega)]
  unfold whyF
  cases hq : whyT k l f (d + 1) f with
  | some t => rfl
  | none => exact f67_5_eq m hm l hl ho k h1 h2 L hp hs d fuel (f + 1) (by omega) (by omega) (by omega)
theorem f67_eq (m : Nat) (hm : 1001 ≤ m) (l : List Hp) (hl : l.length ≤ 10) (ho : OkL l) (k : Int) (h1 : 0 ≤ k) (h2 : k ≤ 1000) : f67 m l k = some (match whyF k l 24 0 with | some u => u | none => (-1, -1)) := by
 unfold f67
 show (f67_1 m m l k _ ((0 : Nat) : Int) ((l.take 0).map Prod.snd)).bind _ = _
 rw [f67_1_eq m l (by omega) k l.length 0 m (by omega) (by omega)]
 have hlen : (l.map Prod.snd).length ≤ 12 := by rw [List.length_map]; omega
 obtain ⟨r, hr⟩ := f98_eq m (l.map Prod.snd).length hlen
 obtain ⟨s, s1, s2, s3⟩ := f67_2_eq m (by omega) l (l.map Prod.snd) r hlen
 simp only [Option.bind_some, hr, s1, f67_5_eq m hm l (by omega) ho k h1 h2 s s2 s3 24 m 0 (by omega) (by omega) (by omega)]
 rw [dcT s2.length_eq.symm]
 cases whyF k l 24 0 <;> rfl
theorem f27_ok1 (m : Nat) (hm : 1001 ≤ m) (l : List Hp) (ho : OkL l) (h10 : l.length ≤ 10) (b : Int) (hb : 1 ≤ b ∧ b ≤ 10) : f27 m l b = some (match whyF b l 24 0 with | some u => (u.1, u.2, 0) | none => (0, 0, 13)) := by
 unfold f27
 rw [f57_ok0 m (by omega) l ho h10 b hb, f67_eq m hm l h10 ho b (by omega) (by omega)]
 show cond (decide _ && decide _) _ _ = _
 cases hw : whyF b l 24 0 with
 | none => rfl
 | some u =>
  obtain ⟨h1, _⟩ := whyF_some (d := 24) (f := 0) (by rfl) (show whyF b l 24 0 = some (u.1, u.2) from hw)
  have : (u.1 == -1) = false := by rw [beq_eq_false_iff_ne]; omega
  show cond ((u.1 == -1) && (u.2 == -1)) _ _ = _
  rw [this]
  rfl
end Go.Xm
