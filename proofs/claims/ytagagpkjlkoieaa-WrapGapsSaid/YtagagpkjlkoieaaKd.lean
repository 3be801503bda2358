/- The widths of gaps, as the program returns them. Conditions: none. -/
import Derived.Test.YtagagpkjlkoieaaKc
namespace Go.Xm
set_option linter.unusedVariables false
set_option linter.unusedSimpArgs false
set_option maxRecDepth 20000

theorem cond_r {α : Type} {b : Bool} {x y r : Option α} (hb : b = true) (hx : x = r) : cond b x y = r := by rw [hb]; exact hx
theorem bind_r {α β : Type} {x : Option α} {f : α → Option β} {v : α} {r : Option β} (hx : x = some v) (hf : f v = r) : x.bind f = r := by rw [hx]; exact hf

/-- Two widths and their sum, in ascending order. -/
def wexp (d1 n1 d2 n2 n3 : Nat) : List (Int × Int) :=
  (if d1 = d2 then [((d1 : Int), ((n1 + n2 : Nat) : Int))] else if d2 < d1 then [((d2 : Int), (n2 : Int)), ((d1 : Int), (n1 : Int))] else [((d1 : Int), (n1 : Int)), ((d2 : Int), (n2 : Int))]) ++
  (if n3 = 0 then [] else [(((d1 + d2 : Nat) : Int), (n3 : Int))])

theorem wlF_tail {c : Nat → Nat} {d1 n1 d2 n2 n3 M x : Nat} (hc : ∀ w, c w = (if d1 = w then n1 else 0) + (if d1 + d2 = w then n3 else 0) + (if d2 = w then n2 else 0)) (h1 : d1 < x) (h2 : d2 < x) (hx : x ≤ d1 + d2) (hM : d1 + d2 ≤ M) :
    wlF c (M + 1 - x) x = if n3 = 0 then [] else [(((d1 + d2 : Nat) : Int), (n3 : Int))] := by
  have hz : ∀ w, x ≤ w → w ≠ d1 + d2 → c w = 0 := fun w hw hn => by rw [hc, if_neg (by omega), if_neg (by omega), if_neg (by omega)]
  have hv : c (d1 + d2) = n3 := by rw [hc, if_neg (by omega), if_pos rfl, if_neg (by omega)]; omega
  by_cases h : n3 = 0
  · rw [if_pos h]
    refine wlF_none c _ _ (fun w hw _ => ?_)
    by_cases e : w = d1 + d2
    · rw [e, hv, h]
    · exact hz w hw e
  · rw [if_neg h, wlF_hit c x (d1 + d2) M hx hM (by omega) (fun w hw hw2 => hz w hw (by omega)), hv, wlF_none c _ _ (fun w hw _ => hz w (by omega) (by omega))]

theorem wlF_exp {c : Nat → Nat} {d1 n1 d2 n2 n3 M : Nat} (hc : ∀ w, c w = (if d1 = w then n1 else 0) + (if d1 + d2 = w then n3 else 0) + (if d2 = w then n2 else 0)) (p1 : 0 < d1) (p2 : 0 < d2) (q1 : 0 < n1) (q2 : 0 < n2) (hM : d1 + d2 ≤ M) :
    wlF c M 1 = wexp d1 n1 d2 n2 n3 := by
  have hz : ∀ w, w < d1 + d2 → w ≠ d1 → w ≠ d2 → c w = 0 := fun w hw a b => by rw [hc, if_neg (by omega), if_neg (by omega), if_neg (by omega)]
  unfold wexp
  rw [show wlF c M 1 = wlF c (M + 1 - 1) 1 from rfl]
  by_cases e : d1 = d2
  · have hv : c d1 = n1 + n2 := by rw [hc, if_pos rfl, if_neg (by omega), if_pos e.symm]; omega
    rw [if_pos e, wlF_hit c 1 d1 M (by omega) (by omega) (by omega) (fun w h1 h2 => hz w (by omega) (by omega) (by omega)), hv, wlF_tail hc (by omega) (by omega) (by omega) hM]
    rfl
  · have hv1 : c d1 = n1 := by rw [hc, if_pos rfl, if_neg (by omega), if_neg (by omega)]; omega
    have hv2 : c d2 = n2 := by rw [hc, if_neg e, if_neg (by omega), if_pos rfl]; omega
    rw [if_neg e]
    by_cases g : d2 < d1
    · rw [if_pos g, wlF_hit c 1 d2 M (by omega) (by omega) (by omega) (fun w h1 h2 => hz w (by omega) (by omega) (by omega)), hv2,
        wlF_hit c (d2 + 1) d1 M (by omega) (by omega) (by omega) (fun w h1 h2 => hz w (by omega) (by omega) (by omega)), hv1, wlF_tail hc (by omega) (by omega) (by omega) hM]
      rfl
    · rw [if_neg g, wlF_hit c 1 d1 M (by omega) (by omega) (by omega) (fun w h1 h2 => hz w (by omega) (by omega) (by omega)), hv1,
        wlF_hit c (d1 + 1) d2 M (by omega) (by omega) (by omega) (fun w h1 h2 => hz w (by omega) (by omega) (by omega)), hv2, wlF_tail hc (by omega) (by omega) (by omega) hM]
      rfl

theorem wl_one {M S : Nat} (hM : 0 < M) : wlF (cw M S 1) M 1 = [((M : Int), 1)] := by
  have hv : cw M S 1 M = 1 := by rw [cw_one, if_pos rfl]
  rw [show wlF (cw M S 1) M 1 = wlF (cw M S 1) (M + 1 - 1) 1 from rfl, wlF_hit (cw M S 1) 1 M M (by omega) (by omega) (by omega) (fun w h1 h2 => by rw [cw_one, if_neg (by omega)]), hv, wlF_none _ _ _ (fun w h1 h2 => by omega)]
  rfl

/-- What is known of the turns beside turn 0. -/
theorem bes_facts {M S T : Nat} (h : Turns M T (mrk M S)) (hT : 2 ≤ T) : ∃ p q d1 d2 : Nat, (bes M S T).1 = p ∧ (bes M S T).2 = q ∧ mrk M S p = d1 ∧ mrk M S q = M - d2 ∧ 0 < p ∧ p < T ∧ 0 < q ∧ q < T ∧ T ≤ p + q ∧ 0 < d1 ∧ 0 < d2 ∧ d2 ≤ M ∧ d1 + d2 ≤ M ∧
    ∀ w, cw M S T w = (if d1 = w then T - p else 0) + (if d1 + d2 = w then p + q - T else 0) + (if d2 = w then T - q else 0) := by
  have hb : Beside T (mrk M S) (bes M S T).1 (bes M S T).2 := loopB_all (M := M) (S := S) hT
  have hs := beside_sum h hb
  have hc := cw_val h hT
  obtain ⟨p0, pT, q0, qT, mm⟩ := hb
  have o1 := h.own _ p0 pT
  have l1 := h.lt (bes M S T).1
  have l2 := h.lt (bes M S T).2
  have m1 := mm _ q0 qT
  exact ⟨_, _, mrk M S (bes M S T).1, M - mrk M S (bes M S T).2, rfl, rfl, rfl, by omega, p0, pT, q0, qT, hs, o1, by omega, by omega, by omega, hc⟩

theorem f33_1_eq29 (m : Nat) (a b t : Int) : ∀ (fuel : Nat) (x p q : Int), f33_1 m fuel a b t x p q = f29_1 m fuel a b t x p q
  | 0, _, _, _ => rfl
  | fuel + 1, x, p, q => by
    unfold f33_1 f29_1
    simp only [f33_1_eq29 m a b t fuel]

theorem f33_eq (m M S T o : Nat) (hm : 2000 < m) (g : Good M S T o) (h0 : f20 m M S T = some 0) : f33 m M S T = some (wlF (cw M S T) M 1, 0) := by
  have g1 := g.m1
  have g2 := g.m2
  have g3 := g.s
  have g4 := g.om
  have g5 := g.to
  have g6 := g.t1
  have hT := g.turns g5
  unfold f33
  rw [h0, f33_1_eq29, f29_1_bes hm (by omega) (by omega) g6 (by omega)]
  simp only [Option.bind_some, bne_self_eq_false, cond_false]
  by_cases hT1 : T = 1
  · subst hT1
    rw [wl_one (by omega)]
    rfl
  have c1 : ((T : Int) == 1) = false := by simp; omega
  rw [c1]
  simp only [cond_false]
  obtain ⟨p, q, d1, d2, e1, e2, e3, e4, p0, pT, q0, qT, hs, k1, k2, k3, k4, hc⟩ := bes_facts hT (by omega)
  rw [e1, e2]
  have r1 : f59 m M S T p = some (d1 : Int) := (f59_eq m M S _ p (by omega) (by omega) (by omega)).trans (by rw [← e3]; rfl)
  have r2 : f59 m M S T q = some ((M - d2 : Nat) : Int) := (f59_eq m M S _ q (by omega) (by omega) (by omega)).trans (by rw [← e4]; rfl)
  rw [r1, r2, wlF_exp hc k1 k2 (by omega) (by omega) k4]
  simp only [Option.bind_some]
  rw [show (T : Int) - (p : Int) = ((T - p : Nat) : Int) by omega, show (T : Int) - (q : Int) = ((T - q : Nat) : Int) by omega, show (M : Int) - ((M - d2 : Nat) : Int) = ((d2 : Nat) : Int) by omega, show (p : Int) + (q : Int) = ((p + q : Nat) : Int) by omega,
    natw (n := T - p) (by omega), natw (n := T - q) (by omega), natw (n := d2) (by omega), natw (n := p + q) (by omega), show (d1 : Int) + ((d2 : Nat) : Int) = ((d1 + d2 : Nat) : Int) by omega, natw (n := d1 + d2) (by omega), show ((p + q : Nat) : Int) - (T : Int) = ((p + q - T : Nat) : Int) by omega, natw (n := p + q - T) (by omega)]
  obtain ⟨j, hj⟩ : ∃ j, m = j + 10 := ⟨m - 10, by omega⟩
  have hw : w64 (((T - p : Nat) : Int) + ((T - q : Nat) : Int)) = ((T - p : Nat) : Int) + ((T - q : Nat) : Int) := w64_id (by omega) (by omega)
  refine bind_r (m_33 j M S T T p q d1 ((T - p : Nat) : Int) d2 ((T - q : Nat) : Int) ((d1 + d2 : Nat) : Int) ((p + q - T : Nat) : Int) (by omega) (by omega) (by omega) (by omega) hw m hj) ?_
  unfold wid3_33 wexp
  by_cases b1 : d1 = d2
  · rw [if_pos (show (d1 : Int) = (d2 : Int) by omega), if_pos b1]
    by_cases b2 : p + q - T = 0
    · rw [if_pos (show ((p + q - T : Nat) : Int) = 0 by omega), if_pos b2]
      refine bind_r (v := 1) (by kernel_rfl) ?_
      refine bind_r (t1_33 j M S T T p q _ _ _ m hj) ?_
      rw [Int.natCast_add]
      rfl
    · rw [if_neg (show ¬ ((p + q - T : Nat) : Int) = 0 by omega), if_neg b2]
      refine bind_r (v := 2) (by kernel_rfl) ?_
      refine bind_r (t2_33 j M S T T p q _ _ _ _ (w64_id (by omega) (by omega)) _ m hj) ?_
      have es : ∀ (a c b d : Int), ¬ b < a → srt_33 [(a, c), (b, d)] = [(a, c), (b, d)] := fun a c b d h => if_neg h
      rw [es _ _ _ _ (by omega), Int.natCast_add (T - p)]
      rfl
  · rw [if_neg (show ¬ (d1 : Int) = (d2 : Int) by omega), if_neg b1]
    have es1 : ∀ (a c b d : Int) (l : List (Int × Int)), b < a → srt_33 ((a, c) :: (b, d) :: l) = (b, d) :: (a, c) :: l := fun a c b d l h => if_pos h
    have es2 : ∀ (a c b d : Int) (l : List (Int × Int)), ¬ b < a → srt_33 ((a, c) :: (b, d) :: l) = (a, c) :: (b, d) :: l := fun a c b d l h => if_neg h
    by_cases b2 : p + q - T = 0
    · rw [if_pos (show ((p + q - T : Nat) : Int) = 0 by omega), if_pos b2]
      refine bind_r (v := 2) (by kernel_rfl) ?_
      refine bind_r (t2_33 j M S T T p q _ _ _ _ (w64_id (by omega) (by omega)) _ m hj) ?_
      by_cases b3 : d2 < d1
      · rw [if_pos b3, es1 _ _ _ _ _ (by omega)]
        rfl
      · rw [if_neg b3, es2 _ _ _ _ _ (by omega)]
        rfl
    · rw [if_neg (show ¬ ((p + q - T : Nat) : Int) = 0 by omega), if_neg b2]
      refine bind_r (v := 2) (by kernel_rfl) ?_
      refine bind_r (t3_33 j M S T T p q _ _ _ _ _ _ (w64_id (by omega) (by omega)) (by omega) (by omega) (w64_id (by omega) (by omega)) (w64_id (by omega) (by omega)) _ m hj) ?_
      by_cases b3 : d2 < d1
      · rw [if_pos b3, es1 _ _ _ _ _ (by omega)]
        rfl
      · rw [if_neg b3, es2 _ _ _ _ _ (by omega)]
        rfl
end Go.Xm
