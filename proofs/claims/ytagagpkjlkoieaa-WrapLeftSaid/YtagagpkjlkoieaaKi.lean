/- WrapEvens: the even numbers of turns, as the program computes them. Conditions: none. -/
import Derived.Test.YtagagpkjlkoieaaKg
import Derived.Test.YtagagpkjlkoieaaKh
import Derived.Test.YtagagpkjlkoieaaKA
namespace Go.Xm
set_option linter.unusedVariables false
set_option linter.unusedSimpArgs false
set_option maxRecDepth 20000

theorem w37 {α : Type} (K : List (Int × Int) → Option α) (l : List Int) (m M S T : Nat) (hm : 2000 < m) (g1 : 1 ≤ M) (g2 : M ≤ 100) (g3 : S < M) (g4 : T ≤ M) (hT2 : 2 ≤ T) (hT : Turns M T (mrk M S)) :
    ((f59 m M S T (bes M S T).1).bind fun r32 => (f59 m M S T (bes M S T).2).bind fun r33 =>
      (f37_2 m m M S T (bes M S T).1 (bes M S T).2 l 0 [] [(r32, w64 ((T : Int) - ((bes M S T).1 : Int))), (w64 ((M : Int) - r33), w64 ((T : Int) - ((bes M S T).2 : Int))), (w64 (r32 + (w64 ((M : Int) - r33))), w64 ((w64 (((bes M S T).1 : Int) + ((bes M S T).2 : Int))) - (T : Int)))]).bind fun o2 =>
        (f93 m (IntKind.wrap .u64 ((o2.length : Nat) : Int))).bind fun r34 =>
          (f37_4 m m M S T (bes M S T).1 (bes M S T).2 l o2 ((o2.length : Nat) : Int) r34).bind fun o4 =>
            cond (decide (o2.length = o4.length)) (K o4) none) = K (wlF (cw M S T) M 1) := by
  obtain ⟨p, q, d1, d2, e1, e2, e3, e4, p0, pT, q0, qT, hs, k1, k2, k3, k4, hc⟩ := bes_facts hT (by omega)
  rw [e1, e2]
  have r1 : f59 m M S T p = some (d1 : Int) := (f59_eq m M S _ p (by omega) (by omega) (by omega)).trans (by rw [← e3]; rfl)
  have r2 : f59 m M S T q = some ((M - d2 : Nat) : Int) := (f59_eq m M S _ q (by omega) (by omega) (by omega)).trans (by rw [← e4]; rfl)
  rw [r1, r2, wlF_exp hc k1 k2 (by omega) (by omega) k4]
  simp only [Option.bind_some]
  rw [show (T : Int) - (p : Int) = ((T - p : Nat) : Int) by omega, show (T : Int) - (q : Int) = ((T - q : Nat) : Int) by omega, show (M : Int) - ((M - d2 : Nat) : Int) = ((d2 : Nat) : Int) by omega, show (p : Int) + (q : Int) = ((p + q : Nat) : Int) by omega,
    natw (n := T - p) (by omega), natw (n := T - q) (by omega), natw (n := d2) (by omega), natw (n := p + q) (by omega), show (d1 : Int) + ((d2 : Nat) : Int) = ((d1 + d2 : Nat) : Int) by omega, natw (n := d1 + d2) (by omega), show ((p + q : Nat) : Int) - (T : Int) = ((p + q - T : Nat) : Int) by omega, natw (n := p + q - T) (by omega)]
  obtain ⟨j, hj⟩ : ∃ j, m = j + 10 := ⟨m - 10, by omega⟩
  have hw : w64 (((T - p : Nat) : Int) + ((T - q : Nat) : Int)) = ((T - p : Nat) : Int) + ((T - q : Nat) : Int) := w64_id (by omega) (by omega)
  refine bind_r (m_37 j M S T p q l d1 ((T - p : Nat) : Int) d2 ((T - q : Nat) : Int) ((d1 + d2 : Nat) : Int) ((p + q - T : Nat) : Int) (by omega) (by omega) (by omega) (by omega) hw m hj) ?_
  unfold wid3_37 wexp
  by_cases b1 : d1 = d2
  · rw [if_pos (show (d1 : Int) = (d2 : Int) by omega), if_pos b1]
    by_cases b2 : p + q - T = 0
    · rw [if_pos (show ((p + q - T : Nat) : Int) = 0 by omega), if_pos b2]
      refine bind_r (v := 1) (by kernel_rfl) ?_
      refine bind_r (t1_37 j M S T p q l _ _ _ m hj) ?_
      rw [Int.natCast_add]
      rfl
    · rw [if_neg (show ¬ ((p + q - T : Nat) : Int) = 0 by omega), if_neg b2]
      refine bind_r (v := 2) (by kernel_rfl) ?_
      refine bind_r (t2_37 j M S T p q l _ _ _ _ (w64_id (by omega) (by omega)) _ m hj) ?_
      have es : ∀ (a c b d : Int), ¬ b < a → srt_37 [(a, c), (b, d)] = [(a, c), (b, d)] := fun a c b d h => if_neg h
      rw [es _ _ _ _ (by omega), Int.natCast_add (T - p)]
      rfl
  · rw [if_neg (show ¬ (d1 : Int) = (d2 : Int) by omega), if_neg b1]
    have es1 : ∀ (a c b d : Int) (l : List (Int × Int)), b < a → srt_37 ((a, c) :: (b, d) :: l) = (b, d) :: (a, c) :: l := fun a c b d l h => if_pos h
    have es2 : ∀ (a c b d : Int) (l : List (Int × Int)), ¬ b < a → srt_37 ((a, c) :: (b, d) :: l) = (a, c) :: (b, d) :: l := fun a c b d l h => if_neg h
    by_cases b2 : p + q - T = 0
    · rw [if_pos (show ((p + q - T : Nat) : Int) = 0 by omega), if_pos b2]
      refine bind_r (v := 2) (by kernel_rfl) ?_
      refine bind_r (t2_37 j M S T p q l _ _ _ _ (w64_id (by omega) (by omega)) _ m hj) ?_
      by_cases b3 : d2 < d1
      · rw [if_pos b3, es1 _ _ _ _ _ (by omega)]
        rfl
      · rw [if_neg b3, es2 _ _ _ _ _ (by omega)]
        rfl
    · rw [if_neg (show ¬ ((p + q - T : Nat) : Int) = 0 by omega), if_neg b2]
      refine bind_r (v := 2) (by kernel_rfl) ?_
      refine bind_r (t3_37 j M S T p q l _ _ _ _ _ _ (w64_id (by omega) (by omega)) (by omega) (by omega) (w64_id (by omega) (by omega)) (w64_id (by omega) (by omega)) _ m hj) ?_
      by_cases b3 : d2 < d1
      · rw [if_pos b3, es1 _ _ _ _ _ (by omega)]
        rfl
      · rw [if_neg b3, es2 _ _ _ _ _ (by omega)]
        rfl

def evL (M S : Nat) : Nat → Nat → List Int
  | 0, _ => []
  | k + 1, T => if (wlF (cw M S T) M 1).length ≤ 2 then (T : Int) :: evL M S k (T + 1) else evL M S k (T + 1)

theorem evL_len (M S : Nat) : ∀ k T, (evL M S k T).length ≤ k
  | 0, _ => Nat.le_refl _
  | k + 1, T => by
    unfold evL
    have := evL_len M S k (T + 1)
    split
    · simp only [List.length_cons]; omega
    · omega

theorem loopB_snoc (M S : Nat) : ∀ (k n p q : Nat), loopB M S (k + 1) n p q = stepB M S (n + k) (loopB M S k n p q).1 (loopB M S k n p q).2
  | 0, n, p, q => rfl
  | k + 1, n, p, q => by
    have ih := loopB_snoc M S k (n + 1) (stepB M S n p q).1 (stepB M S n p q).2
    rw [show n + (k + 1) = n + 1 + k by omega]
    exact ih

theorem bes_succ {M S T : Nat} (hT : 1 ≤ T) : bes M S (T + 1) = stepB M S T (bes M S T).1 (bes M S T).2 := by
  unfold bes
  obtain ⟨k, rfl⟩ : ∃ k, T = k + 1 := ⟨T - 1, by omega⟩
  rw [show k + 1 + 1 - 1 = k + 1 from rfl, show k + 1 - 1 = k from rfl, loopB_snoc, show 1 + k = k + 1 by omega]

/-- One turn more, beside. -/
theorem step37 {α : Type} (m M S T : Nat) (hM : 0 < M) (hS : S ≤ 100) (hT2 : 2 ≤ T) (hT : T ≤ 1000) (G : Int → Int → Option α) (t : Int) :
    ((f59 m M S t T).bind fun r53 => (f59 m M S t (bes M S T).1).bind fun r54 => cond (decide (r53 < r54)) (G T (bes M S T).2) ((f59 m M S t (bes M S T).2).bind fun r56 => G (bes M S T).1 (cond (decide (r53 > r56)) T (bes M S T).2))) = G (bes M S (T + 1)).1 (bes M S (T + 1)).2 := by
  have hb := bes_le (M := M) (S := S) (T := T) (by omega)
  rw [f59_eq m M S t T hM (by omega) (by omega), f59_eq m M S t (bes M S T).1 hM (by omega) (by omega), f59_eq m M S t (bes M S T).2 hM (by omega) (by omega), bes_succ (by omega)]
  simp only [Option.bind_some]
  unfold stepB mrk
  rw [if_neg (by omega)]
  by_cases c3 : (T * S) % M < ((bes M S T).1 * S) % M
  · rw [if_pos c3, decide_eq_true (Int.ofNat_lt.2 c3)]
    rfl
  · rw [if_neg c3, decide_eq_false (fun q => c3 (Int.ofNat_lt.1 q))]
    simp only [cond_false]
    by_cases c4 : ((bes M S T).2 * S) % M < (T * S) % M
    · rw [if_pos c4, decide_eq_true (p := (((T * S) % M : Nat) : Int) > ((((bes M S T).2 * S) % M : Nat) : Int)) (Int.ofNat_lt.2 c4)]
      rfl
    · rw [if_neg c4, decide_eq_false (p := (((T * S) % M : Nat) : Int) > ((((bes M S T).2 * S) % M : Nat) : Int)) (fun q => c4 (Int.ofNat_lt.1 q))]
      rfl

theorem f37_1_eq (m M S o : Nat) (hm : 2000 < m) (g : Good M S 1 o) : ∀ (k T fuel : Nat) (l : List Int), T + k = o + 1 → 1 ≤ T → k < fuel → l.length ≤ T →
    f37_1 m fuel M S o T (bes M S T).1 (bes M S T).2 l = some (l ++ evL M S k T)
  | k, T, 0, _, _, _, h, _ => by omega
  | 0, T, fuel + 1, l, hT, _, _, _ => by
    unfold f37_1
    rw [decide_eq_false (by omega)]
    simp [evL]
  | k + 1, T, fuel + 1, l, hT, h1, hf, hl => by
    have g1 := g.m1
    have g2 := g.m2
    have g3 := g.s
    have g4 := g.om
    have hfit : fitsB (l.length + 1) 8 = true := by
      simp only [fitsB, Bool.and_eq_true, Nat.ble_eq]; omega
    have ih := fun l' (hl' : l'.length ≤ T + 1) => f37_1_eq m M S o hm g k (T + 1) fuel l' (by omega) (by omega) (by omega) hl'
    unfold f37_1
    rw [decide_eq_true (by omega), w64_succ T (by omega), hfit]
    simp only [cond_true]
    by_cases hT1 : T = 1
    · subst hT1
      have ih1 := ih (l ++ [1]) (by simp; omega)
      rw [show bes M S (1 + 1) = (1, 1) from rfl] at ih1
      show f37_1 m fuel M S o ((1 + 1 : Nat) : Int) 1 1 (l ++ [1]) = _
      have e : evL M S (k + 1) 1 = 1 :: evL M S k 2 := by
        show (if (wlF (cw M S 1) M 1).length ≤ 2 then ((1 : Nat) : Int) :: evL M S k (1 + 1) else evL M S k (1 + 1)) = _
        rw [if_pos (by rw [wl_one (by omega)]; simp)]
        rfl
      rw [e]
      refine ih1.trans ?_
      rw [List.append_assoc]
      rfl
    · have c1 : ((T : Int) == 1) = false := by simp; omega
      rw [c1]
      simp only [cond_false]
      have hTu := g.turns (n := T) (by omega)
      refine (w37 (fun o4 => cond (decide (((o4.length : Nat) : Int) < 3)) ((f59 m M S ((T + 1 : Nat) : Int) T).bind fun r53 => (f59 m M S ((T + 1 : Nat) : Int) (bes M S T).1).bind fun r54 => cond (decide (r53 < r54)) (f37_1 m fuel M S o ((T + 1 : Nat) : Int) T (bes M S T).2 (l ++ [(T : Int)])) ((f59 m M S ((T + 1 : Nat) : Int) (bes M S T).2).bind fun r56 => f37_1 m fuel M S o ((T + 1 : Nat) : Int) (bes M S T).1 (cond (decide (r53 > r56)) T (bes M S T).2) (l ++ [(T : Int)])))
        ((f59 m M S ((T + 1 : Nat) : Int) T).bind fun r53 => (f59 m M S ((T + 1 : Nat) : Int) (bes M S T).1).bind fun r54 => cond (decide (r53 < r54)) (f37_1 m fuel M S o ((T + 1 : Nat) : Int) T (bes M S T).2 l) ((f59 m M S ((T + 1 : Nat) : Int) (bes M S T).2).bind fun r56 => f37_1 m fuel M S o ((T + 1 : Nat) : Int) (bes M S T).1 (cond (decide (r53 > r56)) T (bes M S T).2) l)))
        l m M S T hm g1 g2 g3 (by omega) (by omega) hTu).trans ?_
      rw [step37 m M S T (by omega) (by omega) (by omega) (by omega) (fun x y => f37_1 m fuel M S o ((T + 1 : Nat) : Int) x y (l ++ [(T : Int)])), step37 m M S T (by omega) (by omega) (by omega) (by omega) (fun x y => f37_1 m fuel M S o ((T + 1 : Nat) : Int) x y l), ih _ (by simp; omega), ih _ (by omega)]
      conv => rhs; unfold evL
      by_cases c : (wlF (cw M S T) M 1).length ≤ 2
      · rw [if_pos c, decide_eq_true (by omega), List.append_assoc]
        rfl
      · rw [if_neg c, decide_eq_false (by omega)]
        rfl

theorem f37_eq (m M S o : Nat) (hm : 2000 < m) (g : Good M S 1 o) (h65 : f65 m M S 1 = some (o : Int)) : f37 m M S = some (evL M S o 1, 0) := by
  have g1 := g.m1
  have g2 := g.m2
  have g3 := g.s
  have g4 := g.om
  have h := f37_1_eq m M S o hm g o 1 m [] (by omega) (by omega) (by omega) (by simp)
  rw [show bes M S 1 = (0, 0) from rfl, List.nil_append] at h
  unfold f37
  rw [f64_eq, decide_eq_true (p := 1 ≤ (M : Int) ∧ (M : Int) ≤ 100 ∧ 0 ≤ (S : Int) ∧ (S : Int) < (M : Int)) (by omega), h65]
  simp only [Option.bind_some, Bool.not_true, cond_false]
  have h : f37_1 m m M S o 1 0 0 [] = some (evL M S o 1) := h
  rw [h]
  rfl
end Go.Xm
