/- Turns that come nearer, and quotients, both ways. Conditions: none. -/
import Derived.Test.YtagagpkjlkoieaaK8
import Derived.Test.YtagagpkjlkoieaaPf
import Derived.Test.YtagagpkjlkoieaaPg
namespace Go.Xm
set_option linter.unusedVariables false
set_option linter.unusedSimpArgs false

/-! Nearer -/
def nrN (M S n : Nat) : Nat := Nat.min (mrk M S n) (M - mrk M S n)

def nrL (M S : Nat) : Nat → Nat → Nat → List Int
  | 0, _, _ => []
  | k + 1, n, near => if nrN M S n < near then (n : Int) :: nrL M S k (n + 1) (nrN M S n) else nrL M S k (n + 1) near

theorem iMinN (a b : Nat) : iMin (a : Int) (b : Int) = ((Nat.min a b : Nat) : Int) := by
  unfold iMin
  have : Nat.min a b = if a ≤ b then a else b := Nat.min_def ..
  rw [this]
  by_cases h : a ≤ b
  · rw [if_pos h]
    split <;> omega
  · rw [if_neg h]
    split <;> omega

theorem nrN_zero {M S n : Nat} (hM : 0 < M) : nrN M S n = 0 ↔ mrk M S n = 0 := by
  have := mrk_lt (M := M) (S := S) n hM
  unfold nrN
  have : Nat.min (mrk M S n) (M - mrk M S n) = if mrk M S n ≤ M - mrk M S n then mrk M S n else M - mrk M S n := Nat.min_def ..
  rw [this]
  split <;> omega

theorem nrL_len (M S : Nat) : ∀ k n near, (nrL M S k n near).length ≤ k
  | 0, _, _ => Nat.le_refl _
  | k + 1, n, near => by
    unfold nrL
    split
    · have := nrL_len M S k (n + 1) (nrN M S n)
      simp only [List.length_cons]
      omega
    · have := nrL_len M S k (n + 1) near
      omega

theorem f39_1_eq (m M S o : Nat) (g : Good M S 1 o) : ∀ (k n fuel near : Nat) (l : List Int), n + k = o → 1 ≤ n → k < fuel → l.length ≤ n → 0 < near →
    f39_1 m fuel M S (mrk M S (n - 1) : Int) near n l = some (l ++ nrL M S (k + 1) n near)
  | k, n, 0, _, _, _, _, h, _, _ => by omega
  | k, n, fuel + 1, near, l, hn, h1, hf, hl, hne => by
    have g1 := g.m1
    have g2 := g.m2
    have g3 := g.s
    have g4 := g.om
    have lm := mrk_lt (M := M) (S := S) (n - 1) (by omega)
    have ln := mrk_lt (M := M) (S := S) n (by omega)
    have hs := mrk_succ M S (n - 1)
    rw [show n - 1 + 1 = n by omega] at hs
    have es : (cond (decide (w64 ((mrk M S (n - 1) : Int) + (S : Int)) ≥ (M : Int))) (w64 (w64 ((mrk M S (n - 1) : Int) + (S : Int)) - (M : Int))) (w64 ((mrk M S (n - 1) : Int) + (S : Int)))) = (mrk M S n : Int) := by
      rw [show (mrk M S (n - 1) : Int) + (S : Int) = ((mrk M S (n - 1) + S : Nat) : Int) by omega, natw (by omega)]
      by_cases c : M ≤ mrk M S (n - 1) + S
      · rw [decide_eq_true (p := ((mrk M S (n - 1) + S : Nat) : Int) ≥ (M : Int)) (by omega), show ((mrk M S (n - 1) + S : Nat) : Int) - (M : Int) = ((mrk M S (n - 1) + S - M : Nat) : Int) by omega, natw (by omega)]
        rw [Nat.mod_eq_sub_mod c, Nat.mod_eq_of_lt (by omega)] at hs
        rw [hs]
        rfl
      · rw [decide_eq_false (p := ((mrk M S (n - 1) + S : Nat) : Int) ≥ (M : Int)) (by omega)]
        rw [Nat.mod_eq_of_lt (by omega)] at hs
        rw [hs]
        rfl
    have ed : iMin (mrk M S n : Int) (w64 ((M : Int) - (mrk M S n : Int))) = (nrN M S n : Int) := by
      rw [show (M : Int) - (mrk M S n : Int) = ((M - mrk M S n : Nat) : Int) by omega, natw (by omega), iMinN]
      rfl
    have hfit : fitsB (l.length + 1) 8 = true := by
      simp only [fitsB, Bool.and_eq_true, Nat.ble_eq]; omega
    have z := nrN_zero (M := M) (S := S) (n := n) (by omega)
    unfold f39_1
    rw [es, ed, w64_succ n (by omega)]
    unfold nrL
    by_cases h : nrN M S n < near
    · rw [decide_eq_false (by omega), if_pos h, hfit]
      simp only [cond_true, cond_false]
      by_cases h0 : mrk M S n = 0
      · have c0 : (((nrN M S n : Nat) : Int) == 0) = true := by rw [z.2 h0]; rfl
        rw [c0]
        have hk : k = 0 := by
          rcases Nat.eq_zero_or_pos k with q | q
          · exact q
          · exact absurd h0 (g.omin n h1 (by omega))
        subst hk
        simp [nrL]
      · have c0 : (((nrN M S n : Nat) : Int) == 0) = false := by
          have : nrN M S n ≠ 0 := fun q => h0 (z.1 q)
          simp; omega
        rw [c0]
        have hk : k ≠ 0 := by
          rintro rfl
          exact h0 (by rw [show n = o by omega]; exact g.oz)
        have := f39_1_eq m M S o g (k - 1) (n + 1) fuel (nrN M S n) (l ++ [(n : Int)]) (by omega) (by omega) (by omega) (by simp; omega) (by have : nrN M S n ≠ 0 := fun q => h0 (z.1 q); omega)
        rw [show n + 1 - 1 = n by omega, show k - 1 + 1 = k by omega] at this
        simp only [cond_false]
        rw [this, List.append_assoc]
        rfl
    · rw [decide_eq_true (by omega), if_neg h]
      simp only [cond_true]
      have h0 : mrk M S n ≠ 0 := fun q => by have := z.2 q; omega
      have hk : k ≠ 0 := by
        rintro rfl
        exact h0 (by rw [show n = o by omega]; exact g.oz)
      have := f39_1_eq m M S o g (k - 1) (n + 1) fuel near l (by omega) (by omega) (by omega) (by omega) hne
      rw [show n + 1 - 1 = n by omega, show k - 1 + 1 = k by omega] at this
      rw [this]

theorem f39_eq (m M S o : Nat) (hm : 1000 < m) (g : Good M S 1 o) : f39 m M S = some (nrL M S o 1 M, 0) := by
  have g1 := g.m1
  have g2 := g.m2
  have g3 := g.s
  have g4 := g.om
  have g5 := g.to
  have h := f39_1_eq m M S o g (o - 1) 1 m M [] (by omega) (by omega) (by omega) (by simp) (by omega)
  rw [show o - 1 + 1 = o by omega, show 1 - 1 = 0 by omega, mrk_zero, List.nil_append] at h
  unfold f39
  rw [f64_eq, decide_eq_true (p := 1 ≤ (M : Int) ∧ (M : Int) ≤ 100 ∧ 0 ≤ (S : Int) ∧ (S : Int) < (M : Int)) (by omega)]
  simp only [Option.bind_some, Bool.not_true, cond_false]
  rw [show ((0 : Int)) = ((0 : Nat) : Int) from rfl, show ((1 : Int)) = ((1 : Nat) : Int) from rfl, h]
  rfl

def chN : Nat → Nat → Nat → List Int
  | 0, _, _ => []
  | k + 1, a, b => match b with
    | 0 => []
    | b + 1 => ((a / (b + 1) : Nat) : Int) :: chN k (b + 1) (a % (b + 1))

theorem f41_1_eq (m : Nat) : ∀ (fuel k a b : Nat) (l : List Int), b ≤ k → k < fuel → l.length + k ≤ 1000 → a ≤ 1000 → f41_1 m fuel a b l = some (l ++ chN k a b)
  | 0, k, a, b, l, _, h, _, _ => by omega
  | fuel + 1, k, a, 0, l, hb, hf, hl, ha => by
    unfold f41_1
    rw [decide_eq_false (by omega)]
    cases k <;> simp [chN]
  | fuel + 1, 0, a, b + 1, l, hb, hf, hl, ha => by omega
  | fuel + 1, k + 1, a, b + 1, l, hb, hf, hl, ha => by
    have lm := Nat.mod_lt a (show 0 < b + 1 by omega)
    have lm2 := Nat.mod_le a (b + 1)
    have ld := Nat.div_le_self a (b + 1)
    have c1 : (((b + 1 : Nat) : Int) != 0) = true := by simp; omega
    have hfit : fitsB (l.length + 1) 8 = true := by
      simp only [fitsB, Bool.and_eq_true, Nat.ble_eq]; omega
    unfold f41_1
    rw [decide_eq_true (by omega), c1, hfit, tmN, tdN, natw (n := a / (b + 1)) (by omega)]
    simp only [cond_true]
    rw [f41_1_eq m fuel k (b + 1) (a % (b + 1)) (l ++ [((a / (b + 1) : Nat) : Int)]) (by omega) (by omega) (by simp; omega) (by omega), List.append_assoc]
    rfl

theorem f41_eq (m M S : Nat) (hm : 1000 < m) (h1 : 1 ≤ M) (h2 : M ≤ 100) (h3 : S < M) : f41 m M S = some (chN 100 M S, 0) := by
  unfold f41
  rw [f64_eq, decide_eq_true (p := 1 ≤ (M : Int) ∧ (M : Int) ≤ 100 ∧ 0 ≤ (S : Int) ∧ (S : Int) < (M : Int)) (by omega), f41_1_eq m m 100 M S [] (by omega) (by omega) (by simp) (by omega), List.nil_append]
  rfl

theorem f40_1_eq (m M S o : Nat) (g : Good M S 1 o) (h67 : ∀ t, f67 m M S t = some (o : Int)) : ∀ (k n fuel near : Nat) (l : List Int), n + k = o + 1 → k < fuel → l.length ≤ n →
    f40_1 m fuel M S near n l = some (l ++ nrL M S k n near)
  | k, n, 0, _, _, _, h, _ => by omega
  | 0, n, fuel + 1, near, l, hn, _, _ => by
    unfold f40_1
    rw [h67]
    simp only [Option.bind_some]
    rw [decide_eq_false (by omega)]
    simp [nrL]
  | k + 1, n, fuel + 1, near, l, hn, hf, hl => by
    have g1 := g.m1
    have g2 := g.m2
    have g3 := g.s
    have g4 := g.om
    have ln := mrk_lt (M := M) (S := S) n (by omega)
    have en : f61 m M S 0 n = some (mrk M S n : Int) := f61_eq m M S _ n (by omega) (by omega) (by omega)
    have ed : iMin (mrk M S n : Int) (w64 ((M : Int) - (mrk M S n : Int))) = (nrN M S n : Int) := by
      rw [show (M : Int) - (mrk M S n : Int) = ((M - mrk M S n : Nat) : Int) by omega, natw (by omega), iMinN]
      rfl
    have hfit : fitsB (l.length + 1) 8 = true := by
      simp only [fitsB, Bool.and_eq_true, Nat.ble_eq]; omega
    unfold f40_1
    rw [h67, en]
    simp only [Option.bind_some]
    rw [decide_eq_true (by omega), ed, w64_succ n (by omega), hfit]
    simp only [cond_true]
    unfold nrL
    by_cases h : nrN M S n < near
    · rw [decide_eq_true (by omega), if_pos h]
      simp only [cond_true]
      rw [f40_1_eq m M S o g h67 k (n + 1) fuel (nrN M S n) (l ++ [(n : Int)]) (by omega) (by omega) (by simp; omega), List.append_assoc]
      rfl
    · rw [decide_eq_false (by omega), if_neg h]
      simp only [cond_false]
      rw [f40_1_eq m M S o g h67 k (n + 1) fuel near l (by omega) (by omega) (by omega)]

theorem f40_eq (m M S o : Nat) (hm : 1000 < m) (g : Good M S 1 o) (h67 : ∀ t, f67 m M S t = some (o : Int)) : f40 m M S = some (nrL M S o 1 M, 0) := by
  have g1 := g.m1
  have g2 := g.m2
  have g3 := g.s
  have g4 := g.om
  have h := f40_1_eq m M S o g h67 o 1 m M [] (by omega) (by omega) (by simp)
  rw [List.nil_append] at h
  unfold f40
  rw [f66_eq, decide_eq_true (p := 1 ≤ (M : Int) ∧ (M : Int) ≤ 100 ∧ 0 ≤ (S : Int) ∧ (S : Int) < (M : Int)) (by omega)]
  simp only [Option.bind_some, cond_true, bne_self_eq_false, cond_false]
  have h : f40_1 m m M S M 1 [] = some (nrL M S o 1 M) := h
  rw [h]
  rfl

theorem f42_1_eq41 (m : Nat) : ∀ (fuel : Nat) (x y : Int) (l : List Int), f42_1 m fuel x y l = f41_1 m fuel x y l
  | 0, _, _, _ => rfl
  | fuel + 1, x, y, l => by
    unfold f42_1 f41_1
    simp only [f42_1_eq41 m fuel]

theorem f42_eq (m M S : Nat) (hm : 1000 < m) (h1 : 1 ≤ M) (h2 : M ≤ 100) (h3 : S < M) : f42 m M S = some (chN 100 M S, 0) := by
  unfold f42
  rw [f66_eq, decide_eq_true (p := 1 ≤ (M : Int) ∧ (M : Int) ≤ 100 ∧ 0 ≤ (S : Int) ∧ (S : Int) < (M : Int)) (by omega), f42_1_eq41, f41_1_eq m m 100 M S [] (by omega) (by omega) (by simp) (by omega), List.nil_append]
  rfl

theorem chN_len : ∀ k a b, (chN k a b).length ≤ k
  | 0, _, _ => Nat.le_refl _
  | k + 1, a, 0 => Nat.zero_le _
  | k + 1, a, b + 1 => by
    have := chN_len k (b + 1) (a % (b + 1))
    show (chN k (b + 1) (a % (b + 1))).length + 1 ≤ k + 1
    omega

theorem circ (m M S : Nat) (hm : 1000 < m) (h1 : 1 ≤ M) (h2 : M ≤ 100) (h3 : S < M) : ∃ o, Good M S 1 o ∧ (∀ t, f67 m M S t = some (o : Int)) ∧ ∀ t, f65 m M S t = some (o : Int) := by
  have h65 : ∀ t', f65 m M S t' = some ((M / Nat.gcd M S : Nat) : Int) := fun t' => f65_eq m M S t' (by omega) (by omega) (by omega)
  obtain ⟨o, q1, q2, q3, q4, q5⟩ := f67_min m M S 0 (by omega) (by omega) (by omega) (by omega)
  have h67 : ∀ t', f67 m M S t' = some (o : Int) := fun t' => by
    obtain ⟨o', p1, p2, p3, p4, p5⟩ := f67_min m M S t' (by omega) (by omega) (by omega) (by omega)
    rcases Nat.lt_trichotomy o o' with q | q | q
    · exact absurd q4 (p5 o q2 q)
    · rw [p1, q]
    · exact absurd p4 (q5 o' p2 q)
  have eo := ord_gcd (by omega) q2 q4 q5
  rw [eo] at h65
  exact ⟨o, ⟨h1, h2, h3, Nat.le_refl _, q2, q3, q4, q5⟩, h67, h65⟩
end Go.Xm
