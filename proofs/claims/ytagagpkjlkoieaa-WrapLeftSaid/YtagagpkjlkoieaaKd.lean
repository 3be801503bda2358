/- The widths of gaps, as the program returns them. Conditions: none. -/
import Derived.Test.YtagagpkjlkoieaaKg
import Derived.Test.YtagagpkjlkoieaaKc
namespace Go.Xm
set_option linter.unusedVariables false
set_option linter.unusedSimpArgs false
set_option maxRecDepth 20000

theorem f33_1_eq29 (m : Nat) (a b t : Int) : ∀ (fuel : Nat) (x p q : Int), f33_1 m fuel a b t x p q = f29_1 m fuel a b t x p q
  | 0, _, _, _ => rfl
  | fuel + 1, x, p, q => by
    unfold f33_1 f29_1
    simp only [f33_1_eq29 m a b t fuel]

theorem f33_eq (m M S T o : Nat) (hm : 2000 < m) (g : Good M S T o) (h0 : f20 m M S T = some 0) : f33 m M S T = some (wlF (cw M S T) M 1, 0) := by
  have g1 := g.m1
  have g2 := g.m2
  have g3 := g.s
  have g4 := g.om
  have g5 := g.to
  have g6 := g.t1
  have hT := g.turns g5
  unfold f33
  rw [h0, f33_1_eq29, f29_1_bes hm (by omega) (by omega) g6 (by omega)]
  simp only [Option.bind_some, bne_self_eq_false, cond_false]
  by_cases hT1 : T = 1
  · subst hT1
    rw [wl_one (by omega)]
    rfl
  have c1 : ((T : Int) == 1) = false := by simp; omega
  rw [c1]
  simp only [cond_false]
  obtain ⟨p, q, d1, d2, e1, e2, e3, e4, p0, pT, q0, qT, hs, k1, k2, k3, k4, hc⟩ := bes_facts hT (by omega)
  rw [e1, e2]
  have r1 : f59 m M S T p = some (d1 : Int) := (f59_eq m M S _ p (by omega) (by omega) (by omega)).trans (by rw [← e3]; rfl)
  have r2 : f59 m M S T q = some ((M - d2 : Nat) : Int) := (f59_eq m M S _ q (by omega) (by omega) (by omega)).trans (by rw [← e4]; rfl)
  rw [r1, r2, wlF_exp hc k1 k2 (by omega) (by omega) k4]
  simp only [Option.bind_some]
  rw [show (T : Int) - (p : Int) = ((T - p : Nat) : Int) by omega, show (T : Int) - (q : Int) = ((T - q : Nat) : Int) by omega, show (M : Int) - ((M - d2 : Nat) : Int) = ((d2 : Nat) : Int) by omega, show (p : Int) + (q : Int) = ((p + q : Nat) : Int) by omega,
    natw (n := T - p) (by omega), natw (n := T - q) (by omega), natw (n := d2) (by omega), natw (n := p + q) (by omega), show (d1 : Int) + ((d2 : Nat) : Int) = ((d1 + d2 : Nat) : Int) by omega, natw (n := d1 + d2) (by omega), show ((p + q : Nat) : Int) - (T : Int) = ((p + q - T : Nat) : Int) by omega, natw (n := p + q - T) (by omega)]
  obtain ⟨j, hj⟩ : ∃ j, m = j + 10 := ⟨m - 10, by omega⟩
  have hw : w64 (((T - p : Nat) : Int) + ((T - q : Nat) : Int)) = ((T - p : Nat) : Int) + ((T - q : Nat) : Int) := w64_id (by omega) (by omega)
  refine bind_r (m_33 j M S T T p q d1 ((T - p : Nat) : Int) d2 ((T - q : Nat) : Int) ((d1 + d2 : Nat) : Int) ((p + q - T : Nat) : Int) (by omega) (by omega) (by omega) (by omega) hw m hj) ?_
  unfold wid3_33 wexp
  by_cases b1 : d1 = d2
  · rw [if_pos (show (d1 : Int) = (d2 : Int) by omega), if_pos b1]
    by_cases b2 : p + q - T = 0
    · rw [if_pos (show ((p + q - T : Nat) : Int) = 0 by omega), if_pos b2]
      refine bind_r (v := 1) (by kernel_rfl) ?_
      refine bind_r (t1_33 j M S T T p q _ _ _ m hj) ?_
      rw [Int.natCast_add]
      rfl
    · rw [if_neg (show ¬ ((p + q - T : Nat) : Int) = 0 by omega), if_neg b2]
      refine bind_r (v := 2) (by kernel_rfl) ?_
      refine bind_r (t2_33 j M S T T p q _ _ _ _ (w64_id (by omega) (by omega)) _ m hj) ?_
      have es : ∀ (a c b d : Int), ¬ b < a → srt_33 [(a, c), (b, d)] = [(a, c), (b, d)] := fun a c b d h => if_neg h
      rw [es _ _ _ _ (by omega), Int.natCast_add (T - p)]
      rfl
  · rw [if_neg (show ¬ (d1 : Int) = (d2 : Int) by omega), if_neg b1]
    have es1 : ∀ (a c b d : Int) (l : List (Int × Int)), b < a → srt_33 ((a, c) :: (b, d) :: l) = (b, d) :: (a, c) :: l := fun a c b d l h => if_pos h
    have es2 : ∀ (a c b d : Int) (l : List (Int × Int)), ¬ b < a → srt_33 ((a, c) :: (b, d) :: l) = (a, c) :: (b, d) :: l := fun a c b d l h => if_neg h
    by_cases b2 : p + q - T = 0
    · rw [if_pos (show ((p + q - T : Nat) : Int) = 0 by omega), if_pos b2]
      refine bind_r (v := 2) (by kernel_rfl) ?_
      refine bind_r (t2_33 j M S T T p q _ _ _ _ (w64_id (by omega) (by omega)) _ m hj) ?_
      by_cases b3 : d2 < d1
      · rw [if_pos b3, es1 _ _ _ _ _ (by omega)]
        rfl
      · rw [if_neg b3, es2 _ _ _ _ _ (by omega)]
        rfl
    · rw [if_neg (show ¬ ((p + q - T : Nat) : Int) = 0 by omega), if_neg b2]
      refine bind_r (v := 2) (by kernel_rfl) ?_
      refine bind_r (t3_33 j M S T T p q _ _ _ _ _ _ (w64_id (by omega) (by omega)) (by omega) (by omega) (w64_id (by omega) (by omega)) (w64_id (by omega) (by omega)) _ m hj) ?_
      by_cases b3 : d2 < d1
      · rw [if_pos b3, es1 _ _ _ _ _ (by omega)]
        rfl
      · rw [if_neg b3, es2 _ _ _ _ _ (by omega)]
        rfl
end Go.Xm
