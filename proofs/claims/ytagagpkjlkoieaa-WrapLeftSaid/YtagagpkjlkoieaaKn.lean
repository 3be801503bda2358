/- Turns that come nearer. Conditions: none. -/
import Derived.Test.YtagagpkjlkoieaaKA
import Derived.Test.YtagagpkjlkoieaaPf
namespace Go.Xm
set_option linter.unusedVariables false
set_option linter.unusedSimpArgs false

/-! Nearer -/
def nrN (M S n : Nat) : Nat := Nat.min (mrk M S n) (M - mrk M S n)

def nrL (M S : Nat) : Nat → Nat → Nat → List Int
  | 0, _, _ => []
  | k + 1, n, near => if nrN M S n < near then (n : Int) :: nrL M S k (n + 1) (nrN M S n) else nrL M S k (n + 1) near

theorem iMinN (a b : Nat) : iMin (a : Int) (b : Int) = ((Nat.min a b : Nat) : Int) := by
  unfold iMin
  have : Nat.min a b = if a ≤ b then a else b := Nat.min_def ..
  rw [this]
  by_cases h : a ≤ b
  · rw [if_pos h]
    split <;> omega
  · rw [if_neg h]
    split <;> omega

theorem nrN_zero {M S n : Nat} (hM : 0 < M) : nrN M S n = 0 ↔ mrk M S n = 0 := by
  have := mrk_lt (M := M) (S := S) n hM
  unfold nrN
  have : Nat.min (mrk M S n) (M - mrk M S n) = if mrk M S n ≤ M - mrk M S n then mrk M S n else M - mrk M S n := Nat.min_def ..
  rw [this]
  split <;> omega

theorem nrL_len (M S : Nat) : ∀ k n near, (nrL M S k n near).length ≤ k
  | 0, _, _ => Nat.le_refl _
  | k + 1, n, near => by
    unfold nrL
    split
    · have := nrL_len M S k (n + 1) (nrN M S n)
      simp only [List.length_cons]
      omega
    · have := nrL_len M S k (n + 1) near
      omega

theorem f39_1_eq (m M S o : Nat) (g : Good M S 1 o) : ∀ (k n fuel near : Nat) (l : List Int), n + k = o → 1 ≤ n → k < fuel → l.length ≤ n → 0 < near →
    f39_1 m fuel M S (mrk M S (n - 1) : Int) near n l = some (l ++ nrL M S (k + 1) n near)
  | k, n, 0, _, _, _, _, h, _, _ => by omega
  | k, n, fuel + 1, near, l, hn, h1, hf, hl, hne => by
    have g1 := g.m1
    have g2 := g.m2
    have g3 := g.s
    have g4 := g.om
    have lm := mrk_lt (M := M) (S := S) (n - 1) (by omega)
    have ln := mrk_lt (M := M) (S := S) n (by omega)
    have hs := mrk_succ M S (n - 1)
    rw [show n - 1 + 1 = n by omega] at hs
    have es : (cond (decide (w64 ((mrk M S (n - 1) : Int) + (S : Int)) ≥ (M : Int))) (w64 (w64 ((mrk M S (n - 1) : Int) + (S : Int)) - (M : Int))) (w64 ((mrk M S (n - 1) : Int) + (S : Int)))) = (mrk M S n : Int) := by
      rw [show (mrk M S (n - 1) : Int) + (S : Int) = ((mrk M S (n - 1) + S : Nat) : Int) by omega, natw (by omega)]
      by_cases c : M ≤ mrk M S (n - 1) + S
      · rw [decide_eq_true (p := ((mrk M S (n - 1) + S : Nat) : Int) ≥ (M : Int)) (by omega), show ((mrk M S (n - 1) + S : Nat) : Int) - (M : Int) = ((mrk M S (n - 1) + S - M : Nat) : Int) by omega, natw (by omega)]
        rw [Nat.mod_eq_sub_mod c, Nat.mod_eq_of_lt (by omega)] at hs
        rw [hs]
        rfl
      · rw [decide_eq_false (p := ((mrk M S (n - 1) + S : Nat) : Int) ≥ (M : Int)) (by omega)]
        rw [Nat.mod_eq_of_lt (by omega)] at hs
        rw [hs]
        rfl
    have ed : iMin (mrk M S n : Int) (w64 ((M : Int) - (mrk M S n : Int))) = (nrN M S n : Int) := by
      rw [show (M : Int) - (mrk M S n : Int) = ((M - mrk M S n : Nat) : Int) by omega, natw (by omega), iMinN]
      rfl
    have hfit : fitsB (l.length + 1) 8 = true := by
      simp only [fitsB, Bool.and_eq_true, Nat.ble_eq]; omega
    have z := nrN_zero (M := M) (S := S) (n := n) (by omega)
    unfold f39_1
    rw [es, ed, w64_succ n (by omega)]
    unfold nrL
    by_cases h : nrN M S n < near
    · rw [decide_eq_false (by omega), if_pos h, hfit]
      simp only [cond_true, cond_false]
      by_cases h0 : mrk M S n = 0
      · have c0 : (((nrN M S n : Nat) : Int) == 0) = true := by rw [z.2 h0]; rfl
        rw [c0]
        have hk : k = 0 := by
          rcases Nat.eq_zero_or_pos k with q | q
          · exact q
          · exact absurd h0 (g.omin n h1 (by omega))
        subst hk
        simp [nrL]
      · have c0 : (((nrN M S n : Nat) : Int) == 0) = false := by
          have : nrN M S n ≠ 0 := fun q => h0 (z.1 q)
          simp; omega
        rw [c0]
        have hk : k ≠ 0 := by
          rintro rfl
          exact h0 (by rw [show n = o by omega]; exact g.oz)
        have := f39_1_eq m M S o g (k - 1) (n + 1) fuel (nrN M S n) (l ++ [(n : Int)]) (by omega) (by omega) (by omega) (by simp; omega) (by have : nrN M S n ≠ 0 := fun q => h0 (z.1 q); omega)
        rw [show n + 1 - 1 = n by omega, show k - 1 + 1 = k by omega] at this
        simp only [cond_false]
        rw [this, List.append_assoc]
        rfl
    · rw [decide_eq_true (by omega), if_neg h]
      simp only [cond_true]
      have h0 : mrk M S n ≠ 0 := fun q => by have := z.2 q; omega
      have hk : k ≠ 0 := by
        rintro rfl
        exact h0 (by rw [show n = o by omega]; exact g.oz)
      have := f39_1_eq m M S o g (k - 1) (n + 1) fuel near l (by omega) (by omega) (by omega) (by omega) hne
      rw [show n + 1 - 1 = n by omega, show k - 1 + 1 = k by omega] at this
      rw [this]

theorem f39_eq (m M S o : Nat) (hm : 1000 < m) (g : Good M S 1 o) : f39 m M S = some (nrL M S o 1 M, 0) := by
  have g1 := g.m1
  have g2 := g.m2
  have g3 := g.s
  have g4 := g.om
  have g5 := g.to
  have h := f39_1_eq m M S o g (o - 1) 1 m M [] (by omega) (by omega) (by omega) (by simp) (by omega)
  rw [show o - 1 + 1 = o by omega, show 1 - 1 = 0 by omega, mrk_zero, List.nil_append] at h
  unfold f39
  rw [f64_eq, decide_eq_true (p := 1 ≤ (M : Int) ∧ (M : Int) ≤ 100 ∧ 0 ≤ (S : Int) ∧ (S : Int) < (M : Int)) (by omega)]
  simp only [Option.bind_some, Bool.not_true, cond_false]
  rw [show ((0 : Int)) = ((0 : Nat) : Int) from rfl, show ((1 : Int)) = ((1 : Nat) : Int) from rfl, h]
  rfl
end Go.Xm
