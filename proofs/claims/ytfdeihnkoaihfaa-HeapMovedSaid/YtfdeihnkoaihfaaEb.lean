/- What 'possible' answers: no span is crowded. Plain laws about its Lean function. Conditions: none. -/
import Derived.Test.YtfdeihnkoaihfaaBd
import Derived.Test.YtfdeihnkoaihfaaLa
import Derived.Test.YtfdeihnkoaihfaaEa
namespace Go.Xm
set_option linter.unusedVariables false
set_option linter.unusedSimpArgs false
set_option maxRecDepth 20000
def gi : List Hp → Hp → List Hp
 | [], x => [x]
 | y :: Q, x => if x.2 < y.2 then gi Q x ++ [y] else Q.reverse ++ [y, x]
theorem gi_perm : ∀ (Q : List Hp) (x : Hp), (gi Q x).Perm (Q.reverse ++ [x])
 | [], x => List.Perm.refl _
 | y :: Q, x => by
  unfold gi
  split
  ·rw [List.reverse_cons, List.append_assoc]
   refine ((gi_perm Q x).append_right [y]).trans ?_
   rw [List.append_assoc]
   exact List.Perm.append_left _ (List.Perm.swap y x [])
  ·rw [List.reverse_cons, List.append_assoc]
   exact List.Perm.refl _
theorem gi_mem {Q : List Hp} {x z : Hp} (h : z ∈ gi Q x) : z = x ∨ z ∈ Q := by
 have := (gi_perm Q x).mem_iff.1 h
 simp only [List.mem_append, List.mem_reverse, List.mem_singleton] at this
 exact this.symm
theorem gi_sorted : ∀ (Q : List Hp) (x : Hp), SortedTo Q.reverse → SortedTo (gi Q x)
 | [], x, _ => List.pairwise_singleton _ _
 | y :: Q, x, h => by
  rw [List.reverse_cons] at h
  obtain ⟨h1, h2, h3⟩ := List.pairwise_append.1 h
  unfold gi
  split
  ·rename_i e
   refine List.pairwise_append.2 ⟨gi_sorted Q x h1, List.pairwise_singleton _ _, fun z hz u hu => ?_⟩
   rw [List.mem_singleton.1 hu]
   rcases gi_mem hz with rfl | hz
   ·omega
   ·exact h3 z (List.mem_reverse.2 hz) y (List.mem_singleton.2 rfl)
  ·rename_i e
   refine List.pairwise_append.2 ⟨h1, ?_, fun z hz u hu => ?_⟩
   ·refine List.pairwise_cons.2 ⟨fun u hu => ?_, List.pairwise_singleton _ _⟩
    rw [List.mem_singleton.1 hu]; omega
   ·have h4 := h3 z hz y (List.mem_singleton.2 rfl)
    rcases List.mem_cons.1 hu with rfl | hu
    ·exact h4
    ·rw [List.mem_singleton.1 hu]; omega
def isort : List Hp → List Hp → List Hp
 | S, [] => S
 | S, x :: R => isort (gi S.reverse x) R
theorem isort_perm : ∀ (R S : List Hp), (isort S R).Perm (S ++ R)
 | [], S => by simp [isort]
 | x :: R, S => by
  unfold isort
  refine (isort_perm R _).trans ?_
  refine ((gi_perm S.reverse x).append_right R).trans ?_
  rw [List.reverse_reverse, List.append_assoc]
  exact List.Perm.refl _
theorem isort_sorted : ∀ (R S : List Hp), SortedTo S → SortedTo (isort S R)
 | [], S, h => h
 | x :: R, S, h => isort_sorted R _ (gi_sorted _ x (by rw [List.reverse_reverse]; exact h))
def smallL (l : List Hp) : Prop := ∀ h ∈ l, -1000 ≤ h.1 ∧ h.1 ≤ 1000 ∧ -1000 ≤ h.2 ∧ h.2 ≤ 1000
theorem f58_3_eq (m : Nat) (a : List Hp) (b c1 c2 : Int) : ∀ (Q : List Hp) (x : Hp) (R : List Hp) (fuel : Nat), Q.length < fuel → Q.length + 1 + R.length ≤ 1000 → smallL (Q.reverse ++ x :: R) →
  f58_3 m fuel a b c1 c2 (Q.length : Int) (Q.reverse ++ x :: R) = some (gi Q x ++ R)
 | [], x, R, fuel + 1, _, _, _ => by
  rw [f58_3, dcF (p := ((([] : List Hp).length : Nat) : Int) > 0) (by simp)]
  rfl
 | y :: Q, x, R, fuel + 1, hf, hl, hs => by
  have e1 : (y :: Q).reverse ++ x :: R = Q.reverse ++ y :: x :: R := by simp
  have e2 : (y :: Q).reverse ++ x :: R = (Q.reverse ++ [y]) ++ x :: R := by simp
  have hj : Int.toNat (((y :: Q).length : Nat) : Int) = (Q.reverse ++ [y]).length := by simp
  have hw : w64 ((((y :: Q).length : Nat) : Int) - 1) = ((Q.length : Nat) : Int) := by
   simp only [List.length_cons] at hl ⊢
   rw [w64i (by omega) (by omega)]; omega
  have hx := hs x (by simp)
  have hy := hs y (by simp)
  rw [f58_3, dcT (p := (((y :: Q).length : Nat) : Int) > 0) (by simp only [List.length_cons]; omega)]
  rw [inR (show (y :: Q).length < ((y :: Q).reverse ++ x :: R).length by simp), hw, inR (show Q.length < ((y :: Q).reverse ++ x :: R).length by simp)]
  have g1 : List.getD ((y :: Q).reverse ++ x :: R) (Int.toNat (((y :: Q).length : Nat) : Int)) (0, 0) = x := by rw [e2]; exact getD_mid _ _ _ _ (by simp)
  have g2 : List.getD ((y :: Q).reverse ++ x :: R) (Int.toNat ((Q.length : Nat) : Int)) (0, 0) = y := by rw [e1]; exact getD_mid _ _ _ _ (by simp)
  rw [g1, g2, f89]
  show cond (decide (w64 (x.2 - y.2) < 0)) _ _ = _
  rw [w64i (by omega) (by omega)]
  unfold gi
  by_cases e : x.2 < y.2
  ·rw [dcT (p := x.2 - y.2 < 0) (by omega), if_pos e]
   have s1 : List.set (List.set ((y :: Q).reverse ++ x :: R) (Int.toNat (((y :: Q).length : Nat) : Int)) (y.1, y.2)) (Int.toNat ((Q.length : Nat) : Int)) (x.1, x.2) = Q.reverse ++ x :: y :: R := by
    rw [e2, set_mid _ _ _ _ (by simp), List.append_assoc]
    exact set_mid _ _ _ _ (by simp)
   show f58_3 m fuel a b c1 c2 _ _ = _
   rw [s1, f58_3_eq m a b c1 c2 Q x (y :: R) fuel (by simp only [List.length_cons] at hf; omega) (by simp only [List.length_cons] at hl ⊢; omega) (fun h hh => hs h (by simp only [List.mem_append, List.mem_reverse, List.mem_cons] at hh ⊢; rcases hh with hh | hh | hh | hh <;> simp [hh]))]
   simp
  ·rw [dcF (p := x.2 - y.2 < 0) (by omega), if_neg e]
   simp
theorem f58_2_eq (m : Nat) (a : List Hp) (b : Int) : ∀ (R S : List Hp) (fuel n : Nat), R.length < fuel → S.length + R.length = n → n ≤ 1000 → n ≤ m → smallL (S ++ R) → 0 < S.length →
  f58_2 m fuel a b (n : Int) (S.length : Int) (S ++ R) = some (isort S R)
 | [], S, fuel + 1, n, _, hn, _, _, _, _ => by
  rw [f58_2, dcF (p := ((S.length : Nat) : Int) < (n : Int)) (by simp at hn; omega)]
  simp [isort]
 | x :: R, S, fuel + 1, n, hf, hn, h1, hm, hs, hS => by
  simp only [List.length_cons] at hf hn
  rw [f58_2, dcT (p := ((S.length : Nat) : Int) < (n : Int)) (by omega)]
  have e : S ++ x :: R = S.reverse.reverse ++ x :: R := by rw [List.reverse_reverse]
  have h3 := f58_3_eq m a b (n : Int) (S.length : Int) S.reverse x R m (by rw [List.length_reverse]; omega) (by rw [List.length_reverse]; omega) (by rw [← e]; exact hs)
  rw [← e, List.length_reverse] at h3
  show ((f58_3 m m a b (n : Int) (S.length : Int) (S.length : Int) (S ++ x :: R)).bind fun o3 => f58_2 m fuel a b (n : Int) (w64 ((S.length : Int) + 1)) o3) = _
  rw [h3]
  have hl : (gi S.reverse x).length = S.length + 1 := by
   have := (gi_perm S.reverse x).length_eq
   simpa using this
  show f58_2 m fuel a b (n : Int) (w64 ((S.length : Int) + 1)) (gi S.reverse x ++ R) = _
  rw [nat_succ _ (by omega), ← hl]
  rw [f58_2_eq m a b R (gi S.reverse x) fuel n (by omega) (by omega) h1 hm (fun h hh => ?_) (by omega)]
  ·rfl
  ·refine hs h ?_
   rcases List.mem_append.1 hh with hh | hh
   ·rcases gi_mem hh with rfl | hh
    ·simp
    ·simp [List.mem_reverse.1 hh]
   ·simp [hh]
theorem f58_1_eq (m : Nat) (a : List Hp) (b r : Int) (hm : 13 ≤ m) (hl : a.length ≤ 12) (hs : smallL a) : ∃ s, f58_1 m m a b ((a.length : Nat) : Int) r = some s ∧ s.Perm a ∧ SortedTo s := by
 obtain ⟨f, rfl⟩ : ∃ f, m = f + 1 := ⟨m - 1, by omega⟩
 rw [f58_1, w64i (by omega) (by omega), dcT (p := ((a.length : Nat) : Int) - 0 ≤ 12) (by omega)]
 show ∃ s, ((f58_2 (f + 1) (f + 1) a b ((a.length : Nat) : Int) 1 a).bind fun o2 => some o2) = some s ∧ _
 cases a with
 | nil => exact ⟨[], rfl, List.Perm.refl _, List.Pairwise.nil⟩
 | cons x R =>
  have h2 := f58_2_eq (f + 1) (x :: R) b R [x] (f + 1) (x :: R).length (by simp only [List.length_cons] at hl; omega) (by simp; omega) (by omega) (by omega) hs (by simp)
  have h2 : f58_2 (f + 1) (f + 1) (x :: R) b (((x :: R).length : Nat) : Int) 1 (x :: R) = some (isort [x] R) := h2
  rw [h2]
  exact ⟨isort [x] R, rfl, isort_perm R [x], isort_sorted R [x] (List.pairwise_singleton _ _)⟩
theorem f98_eq (m n : Nat) (h : n ≤ 12) : ∃ r, f98 m (IntKind.wrap .u64 ((n : Nat) : Int)) = some r := by
 have : n = 0 ∨ n = 1 ∨ n = 2 ∨ n = 3 ∨ n = 4 ∨ n = 5 ∨ n = 6 ∨ n = 7 ∨ n = 8 ∨ n = 9 ∨ n = 10 ∨ n = 11 ∨ n = 12 := by omega
 rcases this with rfl | rfl | rfl | rfl | rfl | rfl | rfl | rfl | rfl | rfl | rfl | rfl | rfl
 ·exact ⟨0, by kernel_rfl⟩
 ·exact ⟨1, by kernel_rfl⟩
 ·exact ⟨2, by kernel_rfl⟩
 ·exact ⟨2, by kernel_rfl⟩
 ·exact ⟨3, by kernel_rfl⟩
 ·exact ⟨3, by kernel_rfl⟩
 ·exact ⟨3, by kernel_rfl⟩
 ·exact ⟨3, by kernel_rfl⟩
 ·exact ⟨4, by kernel_rfl⟩
 ·exact ⟨4, by kernel_rfl⟩
 ·exact ⟨4, by kernel_rfl⟩
 ·exact ⟨4, by kernel_rfl⟩
 ·exact ⟨4, by kernel_rfl⟩
theorem estep_none {t : Int} : ∀ {l : List Hp} {k : Nat}, (∀ h ∈ l, t < h.1) → estep t l k = l
 | [], k, _ => by unfold estep; rfl
 | h :: l, 0, _ => by unfold estep; rfl
 | h :: l, k + 1, hh => by
  unfold estep
  rw [if_neg (by have := hh h (List.mem_cons_self ..); omega), estep_none (fun x hx => hh x (List.mem_cons_of_mem _ hx))]
theorem estep_pre {t : Int} : ∀ {A l : List Hp} {k : Nat}, (∀ h ∈ A, t < h.1) → estep t (A ++ l) (k + 1) = A ++ estep t l (k + 1)
 | [], l, k, _ => rfl
 | h :: A, l, k, hh => by
  show estep t (h :: (A ++ l)) (k + 1) = _
  rw [estep, if_neg (by have := hh h (List.mem_cons_self ..); omega), estep_pre (fun x hx => hh x (List.mem_cons_of_mem _ hx))]
  rfl
theorem f58_5_eq (m : Nat) (a : List Hp) (b : Int) (hb : 1 ≤ b) (t : Int) (cap : Nat) (T : List Hp) : ∀ (R A : List Hp) (fuel n : Nat), R.length < fuel → A.length + R.length = n → n ≤ 1000 → (∀ h ∈ A, t < h.1) →
  (f58_5 m fuel a b n cap (A ++ R ++ T) t (n : Int) (A.length : Int) 0 = some (.x0 0) ∧ ∀ h ∈ R, t < h.1) ∨
  ∃ B h R', R = B ++ h :: R' ∧ (∀ x ∈ B, t < x.1) ∧ h.1 ≤ t ∧ f58_5 m fuel a b n cap (A ++ R ++ T) t (n : Int) (A.length : Int) 0 = some (.r (((A ++ B).length : Nat) : Int) 1)
 | [], A, fuel + 1, n, _, hn, _, hA => by
  left
  refine ⟨?_, fun h hh => by cases hh⟩
  rw [f58_5, dcF (p := ((A.length : Nat) : Int) < (n : Int)) (by simp at hn; omega)]
  rfl
 | h :: R, A, fuel + 1, n, hf, hn, h1, hA => by
  simp only [List.length_cons] at hf hn
  have hg : List.getD (A ++ (h :: R) ++ T) (Int.toNat ((A.length : Nat) : Int)) (0, 0) = h := by
   rw [List.append_assoc]; exact getD_mid _ _ _ _ (by simp)
  have hstep : f58_5 m (fuel + 1) a b n cap (A ++ (h :: R) ++ T) t (n : Int) (A.length : Int) 0 = cond (decide (h.1 ≤ t)) (some (.r ((A.length : Nat) : Int) 1)) (f58_5 m fuel a b n cap (A ++ (h :: R) ++ T) t (n : Int) ((A.length + 1 : Nat) : Int) 0) := by
   rw [f58_5, dcT (p := ((A.length : Nat) : Int) < (n : Int)) (by omega), inR (show A.length < n by omega), dcT (p := Int.toNat ((A.length : Nat) : Int) < (A ++ (h :: R) ++ T).length) (by simp), hg, nat_succ _ (by omega), dcT (p := (0 : Int) < b) (by omega), w64i (x := 0 + 1) (by omega) (by omega)]
   rfl
  by_cases e : h.1 ≤ t
  ·right
   refine ⟨[], h, R, rfl, fun x hx => (by cases hx), e, ?_⟩
   rw [hstep, dcT e]
   simp
  ·have hA' : ∀ x ∈ A ++ [h], t < x.1 := by
    intro x hx
    rcases List.mem_append.1 hx with hx | hx
    ·exact hA x hx
    ·rw [List.mem_singleton.1 hx]; omega
   have ih := f58_5_eq m a b hb t cap T R (A ++ [h]) fuel n (by omega) (by simp; omega) h1 hA'
   have e1 : A ++ [h] ++ R ++ T = A ++ (h :: R) ++ T := by simp
   have e2 : (A ++ [h]).length = A.length + 1 := by simp
   rw [e1, e2] at ih
   rw [hstep, dcF e]
   rcases ih with ⟨q1, q2⟩ | ⟨B, y, R', q1, q2, q3, q4⟩
   ·left
    refine ⟨q1, fun x hx => ?_⟩
    rcases List.mem_cons.1 hx with rfl | hx
    ·omega
    ·exact q2 x hx
   ·right
    refine ⟨h :: B, y, R', by rw [q1]; rfl, fun x hx => ?_, q3, ?_⟩
    ·rcases List.mem_cons.1 hx with rfl | hx
     ·omega
     ·exact q2 x hx
    ·show f58_5 m fuel a b n cap (A ++ (h :: R) ++ T) t (n : Int) ((A.length + 1 : Nat) : Int) 0 = _
     rw [q4]
     simp
theorem f58_6_eq (m : Nat) (a : List Hp) (b : Int) (k : Nat) (hk : b = (k : Int)) (t : Int) (cap : Nat) (T : List Hp) (n : Nat) (h1 : n ≤ 1000) (hk1 : k ≤ 1000000) : ∀ (R K M : List Hp) (fuel c : Nat), R.length < fuel → K.length + M.length + R.length = n → 0 < M.length → c ≤ k →
  ∃ arr c', f58_6 m fuel a b n cap t (K.length : Int) ((K.length + M.length : Nat) : Int) (K ++ M ++ R ++ T) (c : Int) = some ((((K ++ estep t R (k - c)).length : Nat) : Int), arr, c') ∧
   arr.take (K ++ estep t R (k - c)).length = K ++ estep t R (k - c) ∧ arr.length = (K ++ M ++ R ++ T).length
 | [], K, M, fuel + 1, c, _, hn, hM, hc => by
  have e0 : estep t [] (k - c) = [] := by unfold estep; rfl
  simp only [e0, List.append_nil]
  refine ⟨K ++ M ++ T, (c : Int), ?_, ?_, rfl⟩
  ·rw [f58_6, dcF (p := ((K.length + M.length : Nat) : Int) < ((n : Nat) : Int)) (by simp at hn; omega)]
   rfl
  ·rw [List.append_assoc, List.take_left]
 | h :: R, K, M, fuel + 1, c, hf, hn, hM, hc => by
  simp only [List.length_cons] at hf hn
  have hg : List.getD (K ++ M ++ (h :: R) ++ T) (Int.toNat ((K.length + M.length : Nat) : Int)) (0, 0) = h := by
   rw [List.append_assoc]; exact getD_mid _ _ _ _ (by rw [Int.toNat_natCast, List.length_append])
  obtain ⟨x, M', rfl⟩ : ∃ x M', M = x :: M' := by
   cases M with
   | nil => simp at hM
   | cons x M' => exact ⟨x, M', rfl⟩
  have hset : List.set (K ++ (x :: M') ++ (h :: R) ++ T) (Int.toNat ((K.length : Nat) : Int)) (h.1, h.2) = (K ++ [h]) ++ (M' ++ [h]) ++ R ++ T := by
   have : K ++ (x :: M') ++ (h :: R) ++ T = K ++ x :: (M' ++ (h :: R) ++ T) := by simp
   rw [this, set_mid _ _ _ _ (by simp)]
   simp
  have hskip : K ++ (x :: M') ++ (h :: R) ++ T = K ++ (x :: M' ++ [h]) ++ R ++ T := by simp
  have hlt1 : K.length + (x :: M').length < n := by omega
  have hlt2 : K.length < n := by omega
  -- the heap is kept
  have keep : ∃ arr c', f58_6 m fuel a b n cap t (w64 (((K.length : Nat) : Int) + 1)) (w64 (((K.length + (x :: M').length : Nat) : Int) + 1)) ((K ++ [h]) ++ (M' ++ [h]) ++ R ++ T) (c : Int) = some ((((K ++ h :: estep t R (k - c)).length : Nat) : Int), arr, c') ∧
    arr.take (K ++ h :: estep t R (k - c)).length = K ++ h :: estep t R (k - c) ∧ arr.length = (K ++ (x :: M') ++ (h :: R) ++ T).length := by
   obtain ⟨arr, c', q1, q2, q3⟩ := f58_6_eq m a b k hk t cap T n h1 hk1 R (K ++ [h]) (M' ++ [h]) fuel c (by omega) (by simp only [List.length_append, List.length_cons, List.length_nil] at hn ⊢; omega) (by simp) hc
   have e1 : K ++ [h] ++ estep t R (k - c) = K ++ h :: estep t R (k - c) := by simp
   rw [e1] at q1 q2
   refine ⟨arr, c', ?_, q2, by rw [q3]; simp⟩
   rw [nat_succ _ (by omega), nat_succ _ (by omega)]
   have e2 : (K ++ [h]).length = K.length + 1 := by simp
   have e3 : (K ++ [h]).length + (M' ++ [h]).length = K.length + (x :: M').length + 1 := by simp; omega
   rw [e3, e2] at q1
   exact q1
  have hstep : f58_6 m (fuel + 1) a b n cap t (K.length : Int) ((K.length + (x :: M').length : Nat) : Int) (K ++ (x :: M') ++ (h :: R) ++ T) (c : Int) =
    cond (decide (h.1 ≤ t)) (cond (!(decide ((c : Int) < b))) (f58_6 m fuel a b n cap t (w64 (((K.length : Nat) : Int) + 1)) (w64 (((K.length + (x :: M').length : Nat) : Int) + 1)) ((K ++ [h]) ++ (M' ++ [h]) ++ R ++ T) (cond (decide ((c : Int) < b)) (w64 ((c : Int) + 1)) c))
     (f58_6 m fuel a b n cap t (K.length : Int) (w64 (((K.length + (x :: M').length : Nat) : Int) + 1)) (K ++ (x :: M') ++ (h :: R) ++ T) (cond (decide ((c : Int) < b)) (w64 ((c : Int) + 1)) c)))
     (f58_6 m fuel a b n cap t (w64 (((K.length : Nat) : Int) + 1)) (w64 (((K.length + (x :: M').length : Nat) : Int) + 1)) ((K ++ [h]) ++ (M' ++ [h]) ++ R ++ T) (c : Int)) := by
   rw [f58_6, dcT (p := ((K.length + (x :: M').length : Nat) : Int) < ((n : Nat) : Int)) (by omega), inR hlt1, dcT (p := Int.toNat ((K.length + (x :: M').length : Nat) : Int) < (K ++ (x :: M') ++ (h :: R) ++ T).length) (by simp only [Int.toNat_natCast, List.length_append, List.length_cons]; omega), hg, inR hlt2, dcT (p := Int.toNat ((K.length : Nat) : Int) < (K ++ (x :: M') ++ (h :: R) ++ T).length) (by simp only [Int.toNat_natCast, List.length_append, List.length_cons]; omega), hset]
   rfl
  rw [hstep]
  by_cases e : h.1 ≤ t
  ·rw [dcT e]
   by_cases ec : c < k
   ·rw [dcT (p := (c : Int) < b) (by omega)]
    obtain ⟨d, hd⟩ : ∃ d, k - c = d + 1 := ⟨k - c - 1, by omega⟩
    have e0 : estep t (h :: R) (k - c) = estep t R (k - (c + 1)) := by
     rw [hd, estep, if_pos e]; congr 1; omega
    rw [e0, hskip]
    obtain ⟨arr, c', q1, q2, q3⟩ := f58_6_eq m a b k hk t cap T n h1 hk1 R K (x :: M' ++ [h]) fuel (c + 1) (by omega) (by simp only [List.length_append, List.length_cons, List.length_nil] at hn ⊢; omega) (by simp) (by omega)
    refine ⟨arr, c', ?_, q2, q3⟩
    have e3 : K.length + (x :: M' ++ [h]).length = K.length + (x :: M').length + 1 := by simp only [List.length_append, List.length_cons, List.length_nil]; omega
    rw [e3] at q1
    rw [← q1, nat_succ (K.length + (x :: M').length) (by omega), nat_succ c (by omega)]
    rfl
   ·rw [dcF (p := (c : Int) < b) (by omega)]
    have e0 : estep t (h :: R) (k - c) = h :: estep t R (k - c) := by
     have : k - c = 0 := by omega
     rw [this]
     have e4 : estep t R 0 = R := by cases R <;> (unfold estep; rfl)
     rw [e4]; unfold estep; rfl
    rw [e0]
    exact keep
  ·rw [dcF e]
   have e0 : estep t (h :: R) (k - c) = h :: estep t R (k - c) := by
    cases hd : k - c with
    | zero =>
     have e4 : estep t R 0 = R := by cases R <;> (unfold estep; rfl)
     rw [e4]; unfold estep; rfl
    | succ d => rw [estep, if_neg e]
   rw [e0]
   exact keep
theorem edf_head {k : Nat} {n : Nat} {t : Int} {h : Hp} {l0 : List Hp} (hs : SortedTo (h :: l0)) :
  edf k (n + 1) t (h :: l0) = (match estep t (h :: l0) k with | [] => true | y :: r => decide (t < y.2) && edf k n (t + 1) (y :: r)) := by
 have hs2 : SortedTo (estep t (h :: l0) k) := hs.sublist (estep_sub ..)
 show ((estep t (h :: l0) k).all (fun h => decide (t < h.2)) && edf k n (t + 1) (estep t (h :: l0) k)) = _
 cases he : estep t (h :: l0) k with
 | nil => cases n <;> rfl
 | cons y r =>
  rw [he] at hs2
  have hy := (List.pairwise_cons.1 hs2).1
  by_cases e : t < y.2
  ·have : ((y :: r).all fun h => decide (t < h.2)) = true := by
    rw [List.all_eq_true]
    intro x hx
    rcases List.mem_cons.1 hx with rfl | hx
    ·exact decide_eq_true e
    ·have := hy x hx
     exact decide_eq_true (by omega)
   rw [this]
   show _ = (decide (t < y.2) && _)
   rw [dcT e]
  ·show ((decide (t < y.2) && r.all _) && _) = (decide (t < y.2) && _)
   rw [dcF e]
   rfl
theorem take_len_app {α : Type} {arr L : List α} (h : arr.take L.length = L) : ∃ T, arr = L ++ T := ⟨arr.drop L.length, by conv => lhs; rw [← List.take_append_drop L.length arr, h]⟩
theorem f58_4_eq (m : Nat) (hm : 1001 ≤ m) (a : List Hp) (b : Int) (k : Nat) (hk : b = (k : Int)) (hk1 : k ≤ 1000) (cap : Nat) (hcap : cap ≤ 1000) : ∀ (d : Nat) (t : Int) (l T : List Hp) (fuel : Nat), d < fuel → SortedTo l → (∀ h ∈ l, h.1 ≤ h.2 ∧ t ≤ h.2 ∧ h.2 ≤ 23) → 24 ≤ t + d → 0 ≤ t → (1 ≤ k ∨ l = []) → l.length + T.length = cap →
  f58_4 m fuel a b l.length cap (l ++ T) t = some (match edf k d t l with | true => Of58_4.x0 | false => Of58_4.r)
 | d, t, [], T, fuel + 1, _, _, _, _, _, _, _ => by
  have e : edf k d t [] = true := by cases d <;> rfl
  rw [e, f58_4]
  rfl
 | 0, t, h :: l, T, fuel, _, _, ha, hd, _, _, _ => by
  have := ha h (List.mem_cons_self ..)
  omega
 | d + 1, t, h :: l, T, fuel + 1, hf, hs, ha, hd, ht, hkl, hc => by
  have hb : 1 ≤ b := by
   rcases hkl with hkl | hkl
   ·omega
   ·cases hkl
  rw [edf_head hs]
  have hsub := fun x hx => (estep_sub t (h :: l) k).subset (a := x) hx
  have hlen := (estep_sub t (h :: l) k).length_le
  have hn1 : (h :: l).length ≤ 1000 := by omega
  have hsort := hs.sublist (estep_sub t (h :: l) k)
  -- the rest of a round, where these are left
  have rest : ∀ (L : List Hp) (hL : estep t (h :: l) k = L) (T' : List Hp), L.length + T'.length = cap → ∀ (y : Hp) (r : List Hp), L = y :: r →
    cond (decide (y.2 ≤ t)) (some (.r)) (f58_4 m fuel a b L.length cap (L ++ T') (w64 (t + 1))) = some (match (match L with | [] => true | y :: r => decide (t < y.2) && edf k d (t + 1) (y :: r)) with | true => Of58_4.x0 | false => Of58_4.r) := by
   intro L hL T' hT y r hy
   subst hy
   by_cases e : t < y.2
   ·rw [dcF (p := y.2 ≤ t) (by omega)]
    have hy1 := (List.pairwise_cons.1 (hL ▸ hsort)).1
    have h23 := ha y (hsub y (by rw [hL]; exact List.mem_cons_self ..))
    show f58_4 m fuel a b (y :: r).length cap ((y :: r) ++ T') (w64 (t + 1)) = _
    rw [w64i (by omega) (by omega), f58_4_eq m hm a b k hk hk1 cap hcap d (t + 1) (y :: r) T' fuel (by omega) (hL ▸ hsort) (fun x hx => ?_) (by omega) (by omega) (.inl (by omega)) hT]
    ·show _ = some (match (decide (t < y.2) && edf k d (t + 1) (y :: r)) with | true => Of58_4.x0 | false => Of58_4.r)
     rw [dcT e]
     rfl
    ·have hx2 := ha x (hsub x (by rw [hL]; exact hx))
     refine ⟨hx2.1, ?_, hx2.2.2⟩
     rcases List.mem_cons.1 hx with rfl | hx
     ·omega
     ·have := hy1 x hx; omega
   ·rw [dcT (p := y.2 ≤ t) (by omega)]
    show _ = some (match (decide (t < y.2) && edf k d (t + 1) (y :: r)) with | true => Of58_4.x0 | false => Of58_4.r)
    rw [dcF e]
    rfl
  have hpos : (((h :: l).length : Nat) : Int) > 0 := by simp only [List.length_cons]; omega
  have h5 := f58_5_eq m a b hb t cap T (h :: l) [] m (h :: l).length (by omega) (by simp) hn1 (fun x hx => by cases hx)
  simp only [List.nil_append, List.length_nil] at h5
  rw [f58_4, dcT hpos]
  rcases h5 with ⟨q1, q2⟩ | ⟨B, y, R', q1, q2, q3, q4⟩
  ·have q1 : f58_5 m m a b (h :: l).length cap (h :: l ++ T) t (((h :: l).length : Nat) : Int) 0 0 = some (.x0 0) := q1
   rw [q1]
   have hL : estep t (h :: l) k = h :: l := estep_none q2
   have := rest (h :: l) hL T hc h l rfl
   rw [hL]
   rw [← this]
   show cond (inRow ((0 : Nat) : Int) (h :: l).length) (cond (decide (0 < (h :: l ++ T).length)) (cond (decide (h.2 ≤ t)) _ _) none) none = _
   rw [inR (show 0 < (h :: l).length by simp), dcT (p := 0 < (h :: l ++ T).length) (by simp)]
   rfl
  ·have q4 : f58_5 m m a b (h :: l).length cap (h :: l ++ T) t (((h :: l).length : Nat) : Int) 0 0 = some (.r ((B.length : Nat) : Int) 1) := q4
   rw [q4]
   have hlB : (h :: l).length = B.length + 1 + R'.length := by rw [q1]; simp; omega
   obtain ⟨arr, c', r1, r2, r3⟩ := f58_6_eq m a b k hk t cap T (h :: l).length hn1 (by omega) R' B [y] m 1 (by omega) (by rw [hlB]; rfl) (by simp) (by omega)
   have eL : estep t (h :: l) k = B ++ estep t R' (k - 1) := by
    obtain ⟨k', rfl⟩ : ∃ k', k = k' + 1 := ⟨k - 1, by omega⟩
    rw [q1, estep_pre q2, estep, if_pos q3]
    rfl
   rw [← eL] at r1 r2
   have e1 : B ++ [y] ++ R' ++ T = h :: l ++ T := by rw [q1]; simp
   rw [e1] at r1 r3
   have r1 : f58_6 m m a b (h :: l).length cap t ((B.length : Nat) : Int) (w64 (((B.length : Nat) : Int) + 1)) (h :: l ++ T) 1 = some ((((estep t (h :: l) k).length : Nat) : Int), arr, c') := by
    rw [nat_succ _ (by omega)]
    exact r1
   generalize hLL : estep t (h :: l) k = L at *
   obtain ⟨T2, rfl⟩ := take_len_app r2
   have hTl : L.length + T2.length = cap := by
    have : (L ++ T2).length = (h :: l ++ T).length := r3
    simp only [List.length_append] at this
    omega
   have hneg : ((((B.length : Nat) : Int)) == (-1)) = false := by
    rw [beq_eq_false_iff_ne]; omega
   have hcut1 : cutOK ((L.length : Nat) : Int) (((h :: l).length : Nat) : Int) ((cap : Nat) : Int) cap = true := cutOK_iff.2 ⟨by omega, by omega, by omega, by omega⟩
   have hcut2 : cutOK 0 ((L.length : Nat) : Int) ((cap : Nat) : Int) cap = true := cutOK_iff.2 ⟨by omega, by omega, by omega, by omega⟩
   have htn : Int.toNat ((L.length : Nat) : Int) = L.length := by simp
   simp only [cond_true, cond_false, Option.bind_some, hneg, r1, hcut1, hcut2, htn]
   rw [dcT (p := L.length + ((h :: l).length - L.length) ≤ (L ++ T2).length) (by simp only [List.length_append]; omega)]
   simp only [cond_true]
   obtain ⟨T3, hT3, hT3l⟩ : ∃ T3, clearL (0, 0) (L ++ T2) L.length ((h :: l).length - L.length) = L ++ T3 ∧ T3.length = T2.length := by
    refine ⟨List.replicate ((h :: l).length - L.length) (0, 0) ++ T2.drop ((h :: l).length - L.length), ?_, ?_⟩
    ·unfold clearL
     rw [List.take_left, List.append_assoc]
     congr 2
     rw [List.drop_append]
     have : L.length + ((h :: l).length - L.length) - L.length = (h :: l).length - L.length := by omega
     rw [this, List.drop_eq_nil_of_le (by omega)]
     rfl
    ·simp only [List.length_append, List.length_replicate, List.length_drop]
     have : (h :: l).length - L.length ≤ T2.length := by omega
     omega
   rw [hT3]
   cases L with
   | nil =>
    show f58_4 m fuel a b ([] : List Hp).length cap ([] ++ T3) (w64 (t + 1)) = _
    obtain ⟨f, rfl⟩ : ∃ f, fuel = f + 1 := ⟨fuel - 1, by omega⟩
    rw [f58_4]
    rfl
   | cons y2 r =>
    have := rest (y2 :: r) rfl T3 (by omega) y2 r rfl
    rw [← this]
    have hp2 : (((y2 :: r).length : Nat) : Int) > 0 := by simp only [List.length_cons]; omega
    show cond (decide ((((y2 :: r).length : Nat) : Int) > 0)) (cond (inRow ((0 : Nat) : Int) (y2 :: r).length) (cond (decide (0 < (y2 :: r ++ T3).length)) (cond (decide (y2.2 ≤ t)) _ _) none) none) _ = _
    rw [dcT hp2, inR (show 0 < (y2 :: r).length by simp), dcT (p := 0 < (y2 :: r ++ T3).length) (by simp)]
    rfl
noncomputable def fitsB' (k : Nat) (l : List Hp) : Bool := by classical exact decide (Fits k l)
theorem fitsB'_iff {k : Nat} {l : List Hp} : fitsB' k l = true ↔ Fits k l := by simp [fitsB']
theorem f58_eq (m : Nat) (hm : 1001 ≤ m) (a : List Hp) (b : Int) (k : Nat) (hk : b = (k : Int)) (hk1 : k ≤ 1000) (hl : a.length ≤ 12) (ho : OkL a) (hkl : 1 ≤ k ∨ a = []) : f58 m a b = some (fitsB' k a) := by
 have hsm : smallL a := fun h hh => by have := ho h hh; omega
 obtain ⟨r, hr⟩ := f98_eq m a.length hl
 obtain ⟨s, s1, s2, s3⟩ := f58_1_eq m a b r (by omega) hl hsm
 have hos : OkL s := fun x hx => ho x (s2.mem_iff.1 hx)
 have h4 := f58_4_eq m hm a b k hk hk1 s.length (by rw [s2.length_eq]; omega) 24 0 s [] m (by omega) s3 (fun x hx => ⟨(hos x hx).2.1, by have := hos x hx; omega, (hos x hx).2.2⟩) (by omega) (by omega) (hkl.imp id (fun h => by subst h; exact List.Perm.eq_nil s2)) (by simp)
 rw [List.append_nil] at h4
 have hiff : edf k 24 0 s = fitsB' k a := by
  have h5 := edf_iff k 24 0 s s3 (fun x hx => ⟨(hos x hx).2.1, by have := hos x hx; omega, (hos x hx).2.2⟩) (by omega)
  rw [ft_fits k s hos] at h5
  have h6 : Fits k s ↔ Fits k a := ⟨fits_perm s2, fits_perm s2.symm⟩
  rw [Bool.eq_iff_iff, h5, h6, fitsB'_iff]
 unfold f58
 rw [fitsI (by omega) (by omega), hr]
 show cond true ((f58_1 m m a b ((a.length : Nat) : Int) r).bind _) none = _
 rw [s1]
 show cond (decide (a.length = s.length)) ((f58_4 m m a b s.length s.length s 0).bind _) none = _
 rw [dcT s2.length_eq.symm, h4, hiff]
 cases fitsB' k a <;> rfl
end Go.Xm
