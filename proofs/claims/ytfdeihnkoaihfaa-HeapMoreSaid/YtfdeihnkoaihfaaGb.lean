/- HeapMore: the function is always true; the walk. Conditions: none. -/
import Derived.Test.YtfdeihnkoaihfaaGa
import Derived.Test.YtfdeihnkoaihfaaCb
import Derived.Test.YtfdeihnkoaihfaaAq
namespace Go.Xm
set_option linter.unusedVariables false
set_option linter.unusedSimpArgs false
set_option maxRecDepth 20000

theorem clearLen {α : Type} (z : α) (xs : List α) (a n : Nat) (h : a + n ≤ xs.length) : (clearL z xs a n).length = xs.length := by
  unfold clearL
  simp only [List.length_append, List.length_take, List.length_replicate, List.length_drop]
  omega

/-- What slices.Delete makes of a row: one element less. -/
theorem del_mid {α : Type} (d : α) (A R L : List α) (h : α) (hL : L = A ++ h :: R) : List.take (A.length + (L.length - (A.length + 1))) (clearL d (List.take A.length L ++ List.take (L.length - (A.length + 1)) (List.drop (A.length + 1) L) ++ List.drop (A.length + (L.length - (A.length + 1))) L) (A.length + (L.length - (A.length + 1))) (L.length - (A.length + (L.length - (A.length + 1))))) = A ++ R := by
  have hn : L.length - (A.length + 1) = R.length := by rw [hL]; simp only [List.length_append, List.length_cons]; omega
  rw [hn]
  have e1 : List.take A.length L = A := by rw [hL]; exact List.take_left
  have e2 : List.drop (A.length + 1) L = R := by
    have : L = (A ++ [h]) ++ R := by rw [hL]; simp
    rw [this]
    exact List.drop_left' (by simp)
  rw [e1, e2, List.take_length]
  generalize List.drop (A.length + R.length) L = Z
  generalize L.length - (A.length + R.length) = c
  have hl : A.length + R.length = (A ++ R).length := by simp
  unfold clearL
  rw [hl, List.append_assoc, List.take_left, List.take_left]

theorem del_len {α : Type} (A R L : List α) (h : α) (hL : L = A ++ h :: R) : (List.take A.length L ++ List.take (L.length - (A.length + 1)) (List.drop (A.length + 1) L) ++ List.drop (A.length + (L.length - (A.length + 1))) L).length = L.length := by
  have hn : L.length = A.length + 1 + R.length := by rw [hL]; simp only [List.length_append, List.length_cons]; omega
  simp only [List.length_append, List.length_take, List.length_drop]
  omega

theorem f12_1_eq (m : Nat) (a0 b0 a1 b1 a2 b2 a3 b3 a4 b4 a5 b5 a6 b6 a7 b7 : Int) (A R L : List Hp) (h : Hp) (hL : L = A ++ h :: R) (h10 : L.length ≤ 1000) (lh1 : List Hp) (lh2 : List Int) (lh4 : List Hp) :
    f12_1 m a0 b0 a1 b1 a2 b2 a3 b3 a4 b4 a5 b5 a6 b6 a7 b7 ((A.length : Nat) : Int) ((A.length + 1 : Nat) : Int) lh1 lh2 lh4 L = some (A ++ R) := by
  have hn : L.length = A.length + 1 + R.length := by rw [hL]; simp only [List.length_append, List.length_cons]; omega
  have hd := del_mid (0, 0) A R L h hL
  have hl := del_len A R L h hL
  unfold f12_1
  simp only [Int.toNat_natCast]
  rw [cutOK_iff.2 ⟨by omega, by omega, by omega, by omega⟩, dcT (p := 0 < L.length - A.length) (by omega)]
  have e1 : ((((A.length : Nat) : Int)) == ((A.length + 1 : Nat) : Int)) = false := by simp; omega
  rw [e1, cutOK_iff.2 ⟨by omega, by omega, by omega, by omega⟩, cutOK_iff.2 ⟨by omega, by omega, by omega, by omega⟩, dcT (p := 1 ≤ L.length) (by omega), dcT (p := A.length + (L.length - (A.length + 1)) ≤ L.length) (by omega), dcT (p := L.length - (A.length + 1) ≤ L.length - (A.length + 1)) (Nat.le_refl _),
    dcT (p := A.length + 1 + (L.length - (A.length + 1)) ≤ L.length) (by omega), cutOK_iff.2 ⟨by omega, by omega, by omega, by omega⟩, dcT (p := A.length + (L.length - (A.length + 1)) + (L.length - (A.length + (L.length - (A.length + 1)))) ≤ (List.take A.length L ++ List.take (L.length - (A.length + 1)) (List.drop (A.length + 1) L) ++ List.drop (A.length + (L.length - (A.length + 1))) L).length) (by omega),
    dcT (p := A.length + (L.length - (A.length + 1)) ≤ (clearL (0, 0) (List.take A.length L ++ List.take (L.length - (A.length + 1)) (List.drop (A.length + 1) L) ++ List.drop (A.length + (L.length - (A.length + 1))) L) (A.length + (L.length - (A.length + 1))) (L.length - (A.length + (L.length - (A.length + 1))))).length) (by rw [clearLen _ _ _ _ (by omega)]; omega), hd]
  rfl

theorem f12_2_eq (m : Nat) (a0 b0 a1 b1 a2 b2 a3 b3 a4 b4 a5 b5 a6 b6 a7 b7 : Int) (A R L : List Hp) (h : Hp) (hL : L = A ++ h :: R) (h10 : L.length ≤ 1000) (lh1 : List Hp) (lh2 : List Int) (lh4 : List Hp) :
    f12_2 m a0 b0 a1 b1 a2 b2 a3 b3 a4 b4 a5 b5 a6 b6 a7 b7 ((A.length : Nat) : Int) ((A.length + 1 : Nat) : Int) lh1 lh2 lh4 L = some (A ++ R) := by
  have hn : L.length = A.length + 1 + R.length := by rw [hL]; simp only [List.length_append, List.length_cons]; omega
  have hd := del_mid (0, 0) A R L h hL
  have hl := del_len A R L h hL
  unfold f12_2
  simp only [Int.toNat_natCast]
  rw [cutOK_iff.2 ⟨by omega, by omega, by omega, by omega⟩, dcT (p := 0 < L.length - A.length) (by omega)]
  have e1 : ((((A.length : Nat) : Int)) == ((A.length + 1 : Nat) : Int)) = false := by simp; omega
  rw [e1, cutOK_iff.2 ⟨by omega, by omega, by omega, by omega⟩, cutOK_iff.2 ⟨by omega, by omega, by omega, by omega⟩, dcT (p := 1 ≤ L.length) (by omega), dcT (p := A.length + (L.length - (A.length + 1)) ≤ L.length) (by omega), dcT (p := L.length - (A.length + 1) ≤ L.length - (A.length + 1)) (Nat.le_refl _),
    dcT (p := A.length + 1 + (L.length - (A.length + 1)) ≤ L.length) (by omega), cutOK_iff.2 ⟨by omega, by omega, by omega, by omega⟩, dcT (p := A.length + (L.length - (A.length + 1)) + (L.length - (A.length + (L.length - (A.length + 1)))) ≤ (List.take A.length L ++ List.take (L.length - (A.length + 1)) (List.drop (A.length + 1) L) ++ List.drop (A.length + (L.length - (A.length + 1))) L).length) (by omega),
    dcT (p := A.length + (L.length - (A.length + 1)) ≤ (clearL (0, 0) (List.take A.length L ++ List.take (L.length - (A.length + 1)) (List.drop (A.length + 1) L) ++ List.drop (A.length + (L.length - (A.length + 1))) L) (A.length + (L.length - (A.length + 1))) (L.length - (A.length + (L.length - (A.length + 1))))).length) (by rw [clearLen _ _ _ _ (by omega)]; omega), hd]
  rfl

theorem f12_3_eq (m : Nat) (a0 b0 a1 b1 a2 b2 a3 b3 a4 b4 a5 b5 a6 b6 a7 b7 : Int) (o2 : List Hp) (A R L : List Int) (h : Int) (hL : L = A ++ h :: R) (h10 : L.length ≤ 1000) (lh1 : List Hp) (lh2 : List Int) (lh4 : List Hp) :
    f12_3 m a0 b0 a1 b1 a2 b2 a3 b3 a4 b4 a5 b5 a6 b6 a7 b7 o2 ((A.length : Nat) : Int) ((A.length + 1 : Nat) : Int) lh1 lh2 lh4 L = some (A ++ R) := by
  have hn : L.length = A.length + 1 + R.length := by rw [hL]; simp only [List.length_append, List.length_cons]; omega
  have hd := del_mid 0 A R L h hL
  have hl := del_len A R L h hL
  unfold f12_3
  simp only [Int.toNat_natCast]
  rw [cutOK_iff.2 ⟨by omega, by omega, by omega, by omega⟩, dcT (p := 0 < L.length - A.length) (by omega)]
  have e1 : ((((A.length : Nat) : Int)) == ((A.length + 1 : Nat) : Int)) = false := by simp; omega
  rw [e1, cutOK_iff.2 ⟨by omega, by omega, by omega, by omega⟩, cutOK_iff.2 ⟨by omega, by omega, by omega, by omega⟩, dcT (p := 1 ≤ L.length) (by omega), dcT (p := A.length + (L.length - (A.length + 1)) ≤ L.length) (by omega), dcT (p := L.length - (A.length + 1) ≤ L.length - (A.length + 1)) (Nat.le_refl _),
    dcT (p := A.length + 1 + (L.length - (A.length + 1)) ≤ L.length) (by omega), cutOK_iff.2 ⟨by omega, by omega, by omega, by omega⟩, dcT (p := A.length + (L.length - (A.length + 1)) + (L.length - (A.length + (L.length - (A.length + 1)))) ≤ (List.take A.length L ++ List.take (L.length - (A.length + 1)) (List.drop (A.length + 1) L) ++ List.drop (A.length + (L.length - (A.length + 1))) L).length) (by omega),
    dcT (p := A.length + (L.length - (A.length + 1)) ≤ (clearL 0 (List.take A.length L ++ List.take (L.length - (A.length + 1)) (List.drop (A.length + 1) L) ++ List.drop (A.length + (L.length - (A.length + 1))) L) (A.length + (L.length - (A.length + 1))) (L.length - (A.length + (L.length - (A.length + 1))))).length) (by rw [clearLen _ _ _ _ (by omega)]; omega), hd]
  rfl

/-- Heaps by numbers, told at once. -/
theorem more_core (m : Nat) (hm : 1001 ≤ m) (l : List Hp) (h8 : l.length ≤ 8) (ho : ∀ p ∈ l, okHeap 1 10 p) (k : Nat) (hk1 : 1 ≤ k) (hk3 : k ≤ 3) (i : Nat) (hi : l ≠ [] → i < l.length) :
    ∃ P, f18 m l (k : Int) = some P ∧ f29 m l = some (((need l : Nat) : Int), 0) ∧ ((P = (planL k l.length 0 l [], 0) ∧ need l ≤ k) ∨ (P = ([], 12) ∧ ¬ need l ≤ k)) ∧ (l = [] → need l = 0) ∧
      (l ≠ [] → ∃ A h R, l = A ++ h :: R ∧ A.length = i ∧ f29 m (A ++ (h.1 - 1, h.2 + 1) :: R) = some (((need (A ++ (h.1 - 1, h.2 + 1) :: R) : Nat) : Int), 0) ∧ f29 m (A ++ R) = some (((need (A ++ R) : Nat) : Int), 0) ∧
        need (A ++ (h.1 - 1, h.2 + 1) :: R) ≤ need l ∧ need (A ++ R) ≤ need l ∧ need l ≤ need (A ++ R) + 1 ∧ 1 ≤ h.1 ∧ h.1 ≤ h.2 ∧ h.2 ≤ 10 ∧
        (need l ≤ k → ∃ Pa x Q, planL k l.length 0 l [] = Pa ++ x :: Q ∧ Pa.length = A.length ∧ (Pa ++ x :: Q).length = l.length ∧ f21 m (A ++ (h.1 - 1, h.2 + 1) :: R) (k : Int) (Pa ++ x :: Q) = some 0 ∧ f21 m (A ++ R) (k : Int) (Pa ++ Q) = some 0 ∧ f21 m l ((k + 1 : Nat) : Int) (Pa ++ x :: Q) = some 0)) := by
  have hok : OkL l := fun h hh => by have := ho h hh; unfold okHeap at this; omega
  refine ⟨_, f18_ok1 m hm l (by omega) hok k hk1 (by omega), f29_ok1 m hm l (by omega) hok, ?_, ?_, ?_⟩
  · cases hb : fitsB' k l with
    | true => exact .inl ⟨rfl, need_iff.2 (fitsB'_iff.1 hb)⟩
    | false => exact .inr ⟨rfl, fun q => by rw [fitsB'_iff.2 (need_iff.1 q)] at hb; cases hb⟩
  · intro e
    have := need_le l
    rw [e] at this ⊢
    simpa using this
  · intro hne
    have hil := hi hne
    refine ⟨l.take i, l[i], l.drop (i + 1), ?_, by rw [List.length_take]; omega, ?_⟩
    · rw [← List.drop_eq_getElem_cons hil, List.take_append_drop]
    · have e : l = l.take i ++ l[i] :: l.drop (i + 1) := by rw [← List.drop_eq_getElem_cons hil, List.take_append_drop]
      have hAl : (l.take i).length = i := by rw [List.length_take]; omega
      have hh := ho _ (List.getElem_mem hil)
      unfold okHeap at hh
      generalize l.take i = A at e hAl
      generalize l.drop (i + 1) = R at e
      generalize l[i] = h at e hh
      subst e
      have hlen : (A ++ h :: R).length = A.length + R.length + 1 := by simp; omega
      have ow : OkL (A ++ (h.1 - 1, h.2 + 1) :: R) := by
        intro y hy
        simp only [List.mem_append, List.mem_cons] at hy
        rcases hy with hy | rfl | hy
        · exact hok y (by simp [hy])
        · exact ⟨by show 0 ≤ h.1 - 1; omega, by show h.1 - 1 ≤ h.2 + 1; omega, by show h.2 + 1 ≤ 23; omega⟩
        · exact hok y (by simp [hy])
      have os : OkL (A ++ R) := by
        intro y hy
        simp only [List.mem_append] at hy
        rcases hy with hy | hy
        · exact hok y (by simp [hy])
        · exact hok y (by simp [hy])
      have lw : (A ++ (h.1 - 1, h.2 + 1) :: R).length ≤ 10 := by simp; omega
      have ls : (A ++ R).length ≤ 10 := by simp; omega
      refine ⟨f29_ok1 m hm _ lw ow, f29_ok1 m hm _ ls os, need_least (fits_wide (need_fits _)), need_least (fits_less (need_fits _)), need_least (fits_back (need_fits _)), hh.1, hh.2.1, hh.2.2, fun hk => ?_⟩
      have hp := plan_ok hok (need_iff.1 hk)
      generalize planL k (A ++ h :: R).length 0 (A ++ h :: R) [] = p at hp
      obtain ⟨Pa, x, Q, rfl, q1, q2, q3⟩ := plan_part hp
      refine ⟨Pa, x, Q, rfl, q1, hp.1, ?_, ?_, ?_⟩
      · rw [f21_eq m (by omega) _ _ _ ow lw ⟨by omega, by omega⟩, if_pos q2.1, plan_ver q2]
      · rw [f21_eq m (by omega) _ _ _ os ls ⟨by omega, by omega⟩, if_pos q3.1, plan_ver q3]
      · have q4 := plan_more (show k ≤ k + 1 by omega) hp
        rw [f21_eq m (by omega) _ _ _ hok (by omega) ⟨by omega, by omega⟩, if_pos q4.1, plan_ver q4]

theorem f12_true (m : Nat) (hm : 1001 ≤ m) (a0 b0 a1 b1 a2 b2 a3 b3 a4 b4 a5 b5 a6 b6 a7 b7 b c d : Int) (hy : bytesP [(a0, b0), (a1, b1), (a2, b2), (a3, b3), (a4, b4), (a5, b5), (a6, b6), (a7, b7)]) (hb : 0 ≤ b ∧ b ≤ 255) (hc : 0 ≤ c ∧ c ≤ 255) (hd : 0 ≤ d ∧ d ≤ 255) :
    f12 m a0 b0 a1 b1 a2 b2 a3 b3 a4 b4 a5 b5 a6 b6 a7 b7 b c d = some true := by
  unfold f12
  rw [w64i (x := b) (by omega) (by omega), w64i (x := c) (by omega) (by omega), w64i (x := d) (by omega) (by omega), f41_eq m (by omega) _ _ _ _ _ _ _ _ _ _ _ _ _ _ _ _ _ _ _ _ hy ⟨by omega, by omega⟩ ⟨by omega, by omega⟩ ⟨by omega, by omega⟩ ⟨by omega, by omega⟩]
  have h8 := heapsOf_len [(a0, b0), (a1, b1), (a2, b2), (a3, b3), (a4, b4), (a5, b5), (a6, b6), (a7, b7)] b 8 10 1
  have ho := heapsOf_ok hy (b := b) (c := 8) (d := 10) (e := 1) (by omega)
  generalize heapsOf [(a0, b0), (a1, b1), (a2, b2), (a3, b3), (a4, b4), (a5, b5), (a6, b6), (a7, b7)] b 8 10 1 = l at h8 ho
  have hkw : w64 (1 + (Int.tmod c 3)) = (((1 + c % 3).toNat : Nat) : Int) := by
    rw [tme (by omega), w64i (by omega) (by omega)]; omega
  rw [hkw]
  have hk1 : 1 ≤ (1 + c % 3).toNat := by omega
  have hk3 : (1 + c % 3).toNat ≤ 3 := by omega
  generalize (1 + c % 3).toNat = k at hk1 hk3
  have hi : l ≠ [] → (d % (l.length : Int)).toNat < l.length := fun hne => by
    have h0 : 0 < l.length := List.length_pos_iff.2 hne
    have h1 := Int.emod_lt_of_pos d (show (0 : Int) < l.length by omega)
    have h2 := Int.emod_nonneg d (show (l.length : Int) ≠ 0 by omega)
    omega
  obtain ⟨P, p1, p2, p3, p4, p5⟩ := more_core m hm l h8 ho k hk1 hk3 _ hi
  by_cases hne : l = []
  · have h0 := p4 hne
    simp only [Option.bind_some, p1, p2, h0]
    rcases p3 with ⟨rfl, q⟩ | ⟨rfl, q⟩
    · have : need l ≤ k := q
      subst hne
      simp [show (0 : Int) ≤ k by omega]
    · exact absurd (by omega) q
  · obtain ⟨A, h, R, e, hA, g1, g2, g3, g4, g5, g6, g7, g8, g9⟩ := p5 hne
    have h0 : 0 < l.length := List.length_pos_iff.2 hne
    have hII : Int.tmod d ((l.length : Nat) : Int) = ((A.length : Nat) : Int) := by
      have h2 := Int.emod_nonneg d (show (l.length : Int) ≠ 0 by omega)
      rw [tme hd.1, hA]; exact (Int.toNat_of_nonneg h2).symm
    have hAl : A.length < l.length := by rw [hA]; exact hi hne
    have hg : List.getD l A.length (0, 0) = h := by rw [e]; exact getD_mid A h R _ rfl
    have hw1 : w64 (h.1 - 1) = h.1 - 1 := w64i (by omega) (by omega)
    have hw2 : w64 (h.2 + 1) = h.2 + 1 := w64i (by omega) (by omega)
    have hs1 : List.set l A.length (h.1 - 1, h.2) = A ++ (h.1 - 1, h.2) :: R := by rw [e]; exact set_mid A h _ R rfl
    have hs2 : List.set (A ++ (h.1 - 1, h.2) :: R) A.length (h.1 - 1, h.2 + 1) = A ++ (h.1 - 1, h.2 + 1) :: R := set_mid A _ _ R rfl
    have hg2 : List.getD (A ++ (h.1 - 1, h.2) :: R) A.length (0, 0) = (h.1 - 1, h.2) := getD_mid A _ R _ rfl
    have hn0 : (((l.length : Nat) : Int) == 0) = false := by simp; omega
    have hn1 : (((l.length : Nat) : Int) != 0) = true := by simp; omega
    have c1 : decide (((need (A ++ (h.1 - 1, h.2 + 1) :: R) : Nat) : Int) > ((need l : Nat) : Int)) = false := decide_eq_false (by omega)
    have c2 : decide (((need (A ++ R) : Nat) : Int) > ((need l : Nat) : Int)) = false := decide_eq_false (by omega)
    have hnl := need_le l
    have c3 : decide (((need (A ++ R) : Nat) : Int) < w64 (((need l : Nat) : Int) - 1)) = false := by
      rw [w64i (by omega) (by omega)]; exact decide_eq_false (by omega)
    have hsu : w64 (((A.length : Nat) : Int) + 1) = ((A.length + 1 : Nat) : Int) := nat_succ _ (by omega)
    have hf1 : fitsB l.length 16 = true := fitsI (by omega) (by omega)
    have hz : ((0 : Int) != 0) = false := rfl
    have hz2 : ((12 : Int) != 0) = true := rfl
    have hz3 : ((12 : Int) != 12) = false := rfl
    have hz4 : ((12 : Int) == 0) = false := rfl
    have hz5 : ((0 : Int) == 0) = true := rfl
    rcases p3 with ⟨rfl, q⟩ | ⟨rfl, q⟩
    · obtain ⟨Pa, x, Q, r1, r2, r3, r4, r5, r6⟩ := g9 q
      rw [r1] at p1
      have hd0 : decide (((need l : Nat) : Int) ≤ (k : Int)) = true := decide_eq_true (by omega)
      have hpl : ((((Pa ++ x :: Q).length : Nat) : Int) == ((l.length : Nat) : Int)) = true := by simp only [beq_iff_eq]; omega
      have hf2 : fitsB (Pa ++ x :: Q).length 8 = true := fitsI (by omega) (by omega)
      have hk4 : w64 ((k : Int) + 1) = ((k + 1 : Nat) : Int) := nat_succ k (by omega)
      simp only [Option.bind_some, p1, p2, hz, hz5, cond_false, cond_true, hd0, beq_self_eq_true, Bool.not_true, hn0, hn1, hf1, hII, inR hAl, hsu, Int.toNat_natCast, hg, hw1, hs1, hg2, hw2, hs2,
        f12_2_eq m a0 b0 a1 b1 a2 b2 a3 b3 a4 b4 a5 b5 a6 b6 a7 b7 A R l h e (by omega), g1, g2, c1, c2, c3, r4, hpl, hf2]
      rw [← r2, f12_3_eq m a0 b0 a1 b1 a2 b2 a3 b3 a4 b4 a5 b5 a6 b6 a7 b7 (A ++ R) Pa Q (Pa ++ x :: Q) x rfl (by omega)]
      simp only [Option.bind_some, r5, hz5, cond_true, hk4, r6]
    · have hd0 : decide (((need l : Nat) : Int) ≤ (k : Int)) = false := decide_eq_false (by omega)
      simp only [Option.bind_some, p1, p2, hz, hz2, hz3, hz4, cond_false, cond_true, hd0, beq_self_eq_true, Bool.not_true, hn0, hn1, hf1, hII, inR hAl, hsu, Int.toNat_natCast, hg, hw1, hs1, hg2, hw2, hs2,
        f12_1_eq m a0 b0 a1 b1 a2 b2 a3 b3 a4 b4 a5 b5 a6 b6 a7 b7 A R l h e (by omega), g1, g2, c1, c2, c3]

end Go.Xm

namespace Go.Proofs.Ytfdeihnkoaihfaa.heapMore
open Go.Xm Go.RowKit

theorem u8b {z : Int} (h : (Lit.int .u8 z).wf = true) : 0 ≤ z ∧ z ≤ 255 := by
  simp [Lit.wf, IntKind.min, IntKind.max, IntKind.signed, IntKind.bits] at h
  omega

theorem walk (z0 : List Int) (a1 a2 a3' : Int) (w : World) (l0 : z0.length = 16) (w0 : ∀ z ∈ z0, (Lit.int .u8 z).wf = true) (w1 : (Lit.int .u8 a1).wf = true) (w2 : (Lit.int .u8 a2).wf = true) (w3 : (Lit.int .u8 a3').wf = true) :
    Calls Try.prog 12 #[.agg (z0.map (.int .u8)).toArray, .int .u8 a1, .int .u8 a2, .int .u8 a3'] w fun e w' => e = .returned (.bool true) ∧ Below w.heap.size w w' := by
  obtain ⟨a0, b0, a1', b1, a2', b2, a3, b3, a4', b4, a5, b5, a6, b6, a7, b7, rfl⟩ := list16 l0
  have hy : bytesP [(a0, b0), (a1', b1), (a2', b2), (a3, b3), (a4', b4), (a5, b5), (a6, b6), (a7, b7)] := by
    intro p hp
    have hb : ∀ z, z ∈ [a0, b0, a1', b1, a2', b2, a3, b3, a4', b4, a5, b5, a6, b6, a7, b7] → 0 ≤ z ∧ z ≤ 255 := fun z hz => u8b (w0 z hz)
    simp only [List.mem_cons, List.not_mem_nil, or_false] at hp
    rcases hp with rfl | rfl | rfl | rfl | rfl | rfl | rfl | rfl <;> (refine ⟨(hb _ ?_).1, (hb _ ?_).2, (hb _ ?_).1, (hb _ ?_).2⟩ <;> simp)
  exact f12_ok 1001 _ _ _ _ _ _ _ _ _ _ _ _ _ _ _ _ _ _ _ true (f12_true 1001 (by omega) _ _ _ _ _ _ _ _ _ _ _ _ _ _ _ _ _ _ _ hy (u8b w1) (u8b w2) (u8b w3)) w trivial

end Go.Proofs.Ytfdeihnkoaihfaa.heapMore
