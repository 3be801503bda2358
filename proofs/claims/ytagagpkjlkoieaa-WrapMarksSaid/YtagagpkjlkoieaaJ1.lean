/- How many marks are met; turns that come nearer. WrapNearer. Conditions: none. -/
import Derived.Test.YtagagpkjlkoieaaH8
import Derived.Test.YtagagpkjlkoieaaDh
namespace Go.Xm
set_option linter.unusedVariables false
set_option linter.unusedSimpArgs false

theorem getM_putM {α : Type} (d v : α) (k x : Int) : ∀ l : List (Int × α), getM d (putM l k v) x = if x = k then v else getM d l x
  | [] => by
    unfold putM getM getM
    by_cases e : x = k
    · rw [if_pos e.symm, if_pos e]
    · rw [if_neg (Ne.symm e), if_neg e]
  | p :: l => by
    have ih := getM_putM d v k x l
    unfold putM
    by_cases c : p.1 = k
    · rw [if_pos c]
      unfold getM
      by_cases e : x = k
      · rw [if_pos e.symm, if_pos e]
      · rw [if_neg (Ne.symm e), if_neg e, if_neg (fun q => e (q.symm.trans c))]
    · rw [if_neg c]
      unfold getM
      by_cases e : p.1 = x
      · rw [if_pos e, if_pos e, if_neg (fun q => c (e.trans q))]
      · rw [if_neg e, if_neg e, ih]

theorem mrk_succ (M S n : Nat) : mrk M S (n + 1) = (mrk M S n + S) % M := by
  unfold mrk
  rw [Nat.add_mul, Nat.one_mul, Nat.mod_add_mod]

theorem mrk_zero (M S : Nat) : mrk M S 0 = 0 := by
  unfold mrk
  rw [Nat.zero_mul, Nat.zero_mod]

theorem mrk_lt {M S : Nat} (n : Nat) (h : 0 < M) : mrk M S n < M := Nat.mod_lt _ h

theorem f47_1_eq (m M S o : Nat) (g : Good M S 1 o) : ∀ (k n fuel : Nat) (mp : List (Int × Bool)), n + k = o → k < fuel → (∀ x, getM false mp x = true ↔ ∃ j, j < n ∧ (mrk M S j : Int) = x) →
    f47_1 m fuel M S n (mrk M S n : Int) mp = some (o : Int)
  | k, n, 0, _, _, h, _ => by omega
  | 0, n, fuel + 1, mp, hn, _, hc => by
    have g1 := g.to
    have e : getM false mp (mrk M S n : Int) = true := by
      refine (hc _).2 ⟨0, by omega, ?_⟩
      have : mrk M S n = 0 := by rw [show n = o by omega]; exact g.oz
      rw [this, mrk_zero]
    unfold f47_1
    rw [e, show n = o by omega]
    rfl
  | k + 1, n, fuel + 1, mp, hn, hf, hc => by
    have g1 := g.m1
    have g2 := g.m2
    have g3 := g.s
    have g4 := g.om
    have e : getM false mp (mrk M S n : Int) = false := by
      cases h : getM false mp (mrk M S n : Int) with
      | false => rfl
      | true =>
        obtain ⟨j, j1, j2⟩ := (hc _).1 h
        have := (g.turns (n := o) (Nat.le_refl _)).inj (i := j) (j := n) (by omega) (by omega) (by omega)
        omega
    have c1 : ((M : Int) != 0) = true := by simp; omega
    have hl := mrk_lt (M := M) (S := S) n (by omega)
    unfold f47_1
    rw [e, c1, w64_succ n (by omega), show (mrk M S n : Int) + (S : Int) = ((mrk M S n + S : Nat) : Int) by omega, natw (by omega), tmN, ← mrk_succ]
    simp only [Bool.not_false, cond_true]
    refine f47_1_eq m M S o g k (n + 1) fuel _ (by omega) (by omega) (fun x => ?_)
    rw [getM_putM]
    by_cases c : x = (mrk M S n : Int)
    · rw [if_pos c]
      exact ⟨fun _ => ⟨n, by omega, c.symm⟩, fun _ => rfl⟩
    · rw [if_neg c, hc]
      exact ⟨fun ⟨j, h1, h2⟩ => ⟨j, by omega, h2⟩, fun ⟨j, h1, h2⟩ => ⟨j, by
        rcases Nat.eq_or_lt_of_le (Nat.le_of_lt_succ h1) with q | q
        · exact absurd (by rw [← q]; exact h2.symm) c
        · exact q, h2⟩⟩

theorem good_one (M S : Nat) (h1 : 1 ≤ M) (h2 : M ≤ 100) (h3 : S < M) : ∃ o, Good M S 1 o := by
  obtain ⟨o, _, q2, q3, q4, q5⟩ := f67_min 1001 M S 0 (by omega) (by omega) (by omega) (by omega)
  exact ⟨o, h1, h2, h3, Nat.le_refl _, q2, q3, q4, q5⟩

theorem f47_eq (m M S o : Nat) (hm : 1000 < m) (g : Good M S 1 o) : f47 m M S = some (o : Int) := by
  have g4 := g.om
  have g2 := g.m2
  have h := f47_1_eq m M S o g o 0 m [] (by omega) (by omega) (fun x => ⟨fun q => (by cases q), fun ⟨j, q, _⟩ => (by omega)⟩)
  rw [mrk_zero] at h
  unfold f47
  rw [show ((0 : Int)) = ((0 : Nat) : Int) from rfl, h]
  rfl

/-! Nearer -/
def nrN (M S n : Nat) : Nat := Nat.min (mrk M S n) (M - mrk M S n)

def nrL (M S : Nat) : Nat → Nat → Nat → List Int
  | 0, _, _ => []
  | k + 1, n, near => if nrN M S n < near then (n : Int) :: nrL M S k (n + 1) (nrN M S n) else nrL M S k (n + 1) near

theorem iMinN (a b : Nat) : iMin (a : Int) (b : Int) = ((Nat.min a b : Nat) : Int) := by
  unfold iMin
  have : Nat.min a b = if a ≤ b then a else b := Nat.min_def ..
  rw [this]
  by_cases h : a ≤ b
  · rw [if_pos h]
    split <;> omega
  · rw [if_neg h]
    split <;> omega

theorem nrN_zero {M S n : Nat} (hM : 0 < M) : nrN M S n = 0 ↔ mrk M S n = 0 := by
  have := mrk_lt (M := M) (S := S) n hM
  unfold nrN
  have : Nat.min (mrk M S n) (M - mrk M S n) = if mrk M S n ≤ M - mrk M S n then mrk M S n else M - mrk M S n := Nat.min_def ..
  rw [this]
  split <;> omega

theorem nrL_len (M S : Nat) : ∀ k n near, (nrL M S k n near).length ≤ k
  | 0, _, _ => Nat.le_refl _
  | k + 1, n, near => by
    unfold nrL
    split
    · have := nrL_len M S k (n + 1) (nrN M S n)
      simp only [List.length_cons]
      omega
    · have := nrL_len M S k (n + 1) near
      omega

theorem f9_1_eq (m M S o : Nat) (hM : 0 < M) (hM2 : M ≤ 100) (hS : S < M) (ho : o ≤ M) (e T : Int) (la : List Int) : ∀ (k n fuel near : Nat) (l : List Int), n + k = o + 1 → 1 ≤ n → k < fuel → l.length ≤ n →
    f9_1 m fuel e o near (mrk M S (n - 1) : Int) n M S T la l = some (e, (o : Int), la, l ++ nrL M S k n near)
  | k, n, 0, _, _, _, _, h, _ => by omega
  | 0, n, fuel + 1, near, l, hn, _, _, _ => by
    unfold f9_1
    rw [decide_eq_false (by omega)]
    simp [nrL]
  | k + 1, n, fuel + 1, near, l, hn, h1, hf, hl => by
    have lm := mrk_lt (M := M) (S := S) (n - 1) hM
    have ln := mrk_lt (M := M) (S := S) n hM
    have c1 : ((M : Int) != 0) = true := by simp; omega
    have es : Int.tmod (w64 ((mrk M S (n - 1) : Int) + (S : Int))) (M : Int) = (mrk M S n : Int) := by
      rw [show (mrk M S (n - 1) : Int) + (S : Int) = ((mrk M S (n - 1) + S : Nat) : Int) by omega, natw (by omega), tmN, ← mrk_succ, show n - 1 + 1 = n by omega]
    have ed : iMin (mrk M S n : Int) (w64 ((M : Int) - (mrk M S n : Int))) = (nrN M S n : Int) := by
      rw [show (M : Int) - (mrk M S n : Int) = ((M - mrk M S n : Nat) : Int) by omega, natw (by omega), iMinN]
      rfl
    have hfit : fitsB (l.length + 1) 8 = true := by
      simp only [fitsB, Bool.and_eq_true, Nat.ble_eq]; omega
    unfold f9_1
    rw [decide_eq_true (by omega), c1, es, ed, w64_succ n (by omega)]
    simp only [cond_true]
    unfold nrL
    by_cases h : nrN M S n < near
    · rw [decide_eq_true (by omega), if_pos h, hfit]
      simp only [cond_true]
      have := f9_1_eq m M S o hM hM2 hS ho e T la k (n + 1) fuel (nrN M S n) (l ++ [(n : Int)]) (by omega) (by omega) (by omega) (by simp; omega)
      rw [show n + 1 - 1 = n by omega] at this
      rw [this, List.append_assoc]
      rfl
    · rw [decide_eq_false (by omega), if_neg h]
      simp only [cond_false]
      have := f9_1_eq m M S o hM hM2 hS ho e T la k (n + 1) fuel near l (by omega) (by omega) (by omega) (by omega)
      rw [show n + 1 - 1 = n by omega] at this
      rw [this]

theorem f39_1_eq (m M S o : Nat) (g : Good M S 1 o) : ∀ (k n fuel near : Nat) (l : List Int), n + k = o → 1 ≤ n → k < fuel → l.length ≤ n → 0 < near →
    f39_1 m fuel M S (mrk M S (n - 1) : Int) near n l = some (l ++ nrL M S (k + 1) n near)
  | k, n, 0, _, _, _, _, h, _, _ => by omega
  | k, n, fuel + 1, near, l, hn, h1, hf, hl, hne => by
    have g1 := g.m1
    have g2 := g.m2
    have g3 := g.s
    have g4 := g.om
    have lm := mrk_lt (M := M) (S := S) (n - 1) (by omega)
    have ln := mrk_lt (M := M) (S := S) n (by omega)
    have hs := mrk_succ M S (n - 1)
    rw [show n - 1 + 1 = n by omega] at hs
    have es : (cond (decide (w64 ((mrk M S (n - 1) : Int) + (S : Int)) ≥ (M : Int))) (w64 (w64 ((mrk M S (n - 1) : Int) + (S : Int)) - (M : Int))) (w64 ((mrk M S (n - 1) : Int) + (S : Int)))) = (mrk M S n : Int) := by
      rw [show (mrk M S (n - 1) : Int) + (S : Int) = ((mrk M S (n - 1) + S : Nat) : Int) by omega, natw (by omega)]
      by_cases c : M ≤ mrk M S (n - 1) + S
      · rw [decide_eq_true (p := ((mrk M S (n - 1) + S : Nat) : Int) ≥ (M : Int)) (by omega), show ((mrk M S (n - 1) + S : Nat) : Int) - (M : Int) = ((mrk M S (n - 1) + S - M : Nat) : Int) by omega, natw (by omega)]
        rw [Nat.mod_eq_sub_mod c, Nat.mod_eq_of_lt (by omega)] at hs
        rw [hs]
        rfl
      · rw [decide_eq_false (p := ((mrk M S (n - 1) + S : Nat) : Int) ≥ (M : Int)) (by omega)]
        rw [Nat.mod_eq_of_lt (by omega)] at hs
        rw [hs]
        rfl
    have ed : iMin (mrk M S n : Int) (w64 ((M : Int) - (mrk M S n : Int))) = (nrN M S n : Int) := by
      rw [show (M : Int) - (mrk M S n : Int) = ((M - mrk M S n : Nat) : Int) by omega, natw (by omega), iMinN]
      rfl
    have hfit : fitsB (l.length + 1) 8 = true := by
      simp only [fitsB, Bool.and_eq_true, Nat.ble_eq]; omega
    have z := nrN_zero (M := M) (S := S) (n := n) (by omega)
    unfold f39_1
    rw [es, ed, w64_succ n (by omega)]
    unfold nrL
    by_cases h : nrN M S n < near
    · rw [decide_eq_false (by omega), if_pos h, hfit]
      simp only [cond_true, cond_false]
      by_cases h0 : mrk M S n = 0
      · have c0 : (((nrN M S n : Nat) : Int) == 0) = true := by rw [z.2 h0]; rfl
        rw [c0]
        have hk : k = 0 := by
          rcases Nat.eq_zero_or_pos k with q | q
          · exact q
          · exact absurd h0 (g.omin n h1 (by omega))
        subst hk
        simp [nrL]
      · have c0 : (((nrN M S n : Nat) : Int) == 0) = false := by
          have : nrN M S n ≠ 0 := fun q => h0 (z.1 q)
          simp; omega
        rw [c0]
        have hk : k ≠ 0 := by
          rintro rfl
          exact h0 (by rw [show n = o by omega]; exact g.oz)
        have := f39_1_eq m M S o g (k - 1) (n + 1) fuel (nrN M S n) (l ++ [(n : Int)]) (by omega) (by omega) (by omega) (by simp; omega) (by have : nrN M S n ≠ 0 := fun q => h0 (z.1 q); omega)
        rw [show n + 1 - 1 = n by omega, show k - 1 + 1 = k by omega] at this
        simp only [cond_false]
        rw [this, List.append_assoc]
        rfl
    · rw [decide_eq_true (by omega), if_neg h]
      simp only [cond_true]
      have h0 : mrk M S n ≠ 0 := fun q => by have := z.2 q; omega
      have hk : k ≠ 0 := by
        rintro rfl
        exact h0 (by rw [show n = o by omega]; exact g.oz)
      have := f39_1_eq m M S o g (k - 1) (n + 1) fuel near l (by omega) (by omega) (by omega) (by omega) hne
      rw [show n + 1 - 1 = n by omega, show k - 1 + 1 = k by omega] at this
      rw [this]

theorem f39_eq (m M S o : Nat) (hm : 1000 < m) (g : Good M S 1 o) : f39 m M S = some (nrL M S o 1 M, 0) := by
  have g1 := g.m1
  have g2 := g.m2
  have g3 := g.s
  have g4 := g.om
  have g5 := g.to
  have h := f39_1_eq m M S o g (o - 1) 1 m M [] (by omega) (by omega) (by omega) (by simp) (by omega)
  rw [show o - 1 + 1 = o by omega, show 1 - 1 = 0 by omega, mrk_zero, List.nil_append] at h
  unfold f39
  rw [f64_eq, decide_eq_true (p := 1 ≤ (M : Int) ∧ (M : Int) ≤ 100 ∧ 0 ≤ (S : Int) ∧ (S : Int) < (M : Int)) (by omega)]
  simp only [Option.bind_some, Bool.not_true, cond_false]
  rw [show ((0 : Int)) = ((0 : Nat) : Int) from rfl, show ((1 : Int)) = ((1 : Nat) : Int) from rfl, h]
  rfl

theorem nrL_last {M S o : Nat} (g : Good M S 1 o) : ∀ (k n near : Nat), n + k = o → 1 ≤ n → 0 < near → ∃ A : List Int, nrL M S (k + 1) n near = A ++ [(o : Int)]
  | k, n, near, hn, h1, hne => by
    have g1 := g.m1
    have z := nrN_zero (M := M) (S := S) (n := n) (by omega)
    unfold nrL
    by_cases hk : k = 0
    · subst hk
      have : nrN M S n = 0 := z.2 (by rw [show n = o by omega]; exact g.oz)
      rw [if_pos (by omega), show n = o by omega]
      exact ⟨[], rfl⟩
    · have h0 : mrk M S n ≠ 0 := g.omin n h1 (by omega)
      have h0' : nrN M S n ≠ 0 := fun q => h0 (z.1 q)
      obtain ⟨j, rfl⟩ : ∃ j, k = j + 1 := ⟨k - 1, by omega⟩
      by_cases h : nrN M S n < near
      · rw [if_pos h]
        obtain ⟨A, e⟩ := nrL_last g j (n + 1) (nrN M S n) (by omega) (by omega) (by omega)
        exact ⟨(n : Int) :: A, by rw [e]; rfl⟩
      · rw [if_neg h]
        exact nrL_last g j (n + 1) near (by omega) (by omega) hne

theorem f35_1_same (m : Nat) (a : List Int) (ha : a.length ≤ 1000) : ∀ (k x fuel : Nat), x + k = a.length → k < fuel → f35_1 m fuel a a x = some .x0
  | k, x, 0, _, h => by omega
  | 0, x, fuel + 1, hx, _ => by
    unfold f35_1
    rw [decide_eq_false (by omega)]
    rfl
  | k + 1, x, fuel + 1, hx, hf => by
    have hr : inRow (x : Int) a.length = true := inRow_iff.2 ⟨by omega, by omega⟩
    unfold f35_1
    rw [decide_eq_true (by omega), hr, w64_succ x (by omega)]
    simp only [cond_true, bne_self_eq_false, cond_false]
    exact f35_1_same m a ha k (x + 1) fuel (by omega) (by omega)

theorem f35_same (m : Nat) (a : List Int) (ha : a.length ≤ 1000) (hm : 1000 < m) : f35 m a a = some true := by
  unfold f35
  have := f35_1_same m a ha a.length 0 m (by omega) (by omega)
  simp only [bne_self_eq_false, cond_false]
  rw [show ((0 : Int)) = ((0 : Nat) : Int) from rfl, this]
  rfl

/-- A roll by numbers. -/
theorem roll {a b : Int} (wa : (Lit.int .u8 a).wf = true) (wb : (Lit.int .u8 b).wf = true) : ∃ M S : Nat, w64 (1 + Int.tmod (w64 a) 100) = (M : Int) ∧ Int.tmod (w64 b) (M : Int) = (S : Int) ∧ 1 ≤ M ∧ M ≤ 100 ∧ S < M := by
  have ha : 0 ≤ a ∧ a ≤ 255 := by
    have := wa
    simp [Lit.wf, IntKind.min, IntKind.max, IntKind.signed, IntKind.bits] at this
    omega
  have hb : 0 ≤ b ∧ b ≤ 255 := by
    have := wb
    simp [Lit.wf, IntKind.min, IntKind.max, IntKind.signed, IntKind.bits] at this
    omega
  obtain ⟨A, rfl⟩ : ∃ n : Nat, a = n := ⟨a.toNat, by omega⟩
  obtain ⟨B, rfl⟩ : ∃ n : Nat, b = n := ⟨b.toNat, by omega⟩
  have l := Nat.mod_lt A (show 0 < 100 by omega)
  refine ⟨1 + A % 100, B % (1 + A % 100), ?_, ?_, by omega, by omega, Nat.mod_lt _ (by omega)⟩
  · rw [natw (n := A) (by omega), show Int.tmod (A : Int) 100 = ((A % 100 : Nat) : Int) from rfl, show (1 : Int) + ((A % 100 : Nat) : Int) = ((1 + A % 100 : Nat) : Int) by omega, natw (by omega)]
  · rw [natw (n := B) (by omega), tmN]

theorem f9_eq (a b t : Int) (wa : (Lit.int .u8 a).wf = true) (wb : (Lit.int .u8 b).wf = true) : f9 3000 a b t = some true := by
  obtain ⟨M, S, e1, e2, m1, m2, s⟩ := roll wa wb
  obtain ⟨o, g⟩ := good_one M S m1 m2 s
  have g4 := g.om
  have g5 := g.to
  have c1 : ((M : Int) != 0) = true := by simp; omega
  have c2 : ((o : Int) != 0) = true := by simp; omega
  unfold f9
  rw [e1, e2, c1, f47_eq 3000 M S o (by omega) g, f39_eq 3000 M S o (by omega) g]
  simp only [Option.bind_some, cond_true]
  rw [c2]
  simp only [cond_true]
  have h := f9_1_eq 3000 M S o (by omega) m2 s g4 0 (w64 (1 + Int.tmod (w64 t) (o : Int))) (nrL M S o 1 M) o 1 3000 M [] (by omega) (by omega) (by omega) (by simp)
  rw [show 1 - 1 = 0 by omega, mrk_zero, List.nil_append] at h
  rw [show ((1 : Nat) : Int) = (1 : Int) from rfl, show ((0 : Nat) : Int) = (0 : Int) from rfl] at h
  rw [h]
  have hl := nrL_len M S o 1 M
  simp only [Option.bind_some, beq_self_eq_true, cond_true]
  rw [f35_same 3000 _ (by omega) (by omega)]
  simp only [Option.bind_some, cond_true]
  obtain ⟨A, e⟩ := nrL_last g (o - 1) 1 M (by omega) (by omega) (by omega)
  rw [show o - 1 + 1 = o by omega] at e
  rw [e] at hl ⊢
  rw [List.length_append, List.length_cons, List.length_nil] at hl ⊢
  have hr : inRow (((A.length : Nat) : Int)) (A.length + (0 + 1)) = true := inRow_iff.2 ⟨by omega, by omega⟩
  rw [decide_eq_true (by omega), show w64 (((A.length + (0 + 1) : Nat) : Int) - 1) = ((A.length : Nat) : Int) by rw [w64_id (by omega) (by omega)]; omega, hr, Int.toNat_natCast]
  have := getD_app 0 [(o : Int)] 0 A
  rw [Nat.add_zero] at this
  rw [this]
  simp
end Go.Xm

namespace Go.Proofs.Ytagagpkjlkoieaa.wrapNearer
open Go.Xm Go.RowKit
set_option linter.unusedVariables false

theorem walk (a0_0 : Int) (a0_1 : Int) (a0_2 : Int) (w : World) (w0_0 : (Lit.int .u8 a0_0).wf = true) (w0_1 : (Lit.int .u8 a0_1).wf = true) (w0_2 : (Lit.int .u8 a0_2).wf = true) :
    Calls Try.prog 9 #[.agg #[.int .u8 a0_0, .int .u8 a0_1, .int .u8 a0_2]] w fun e w' => e = .returned (.bool true) ∧ Below w.heap.size w w' :=
  f9_ok 3000 a0_0 a0_1 a0_2 true (f9_eq a0_0 a0_1 a0_2 w0_0 w0_1) w trivial
end Go.Proofs.Ytagagpkjlkoieaa.wrapNearer
