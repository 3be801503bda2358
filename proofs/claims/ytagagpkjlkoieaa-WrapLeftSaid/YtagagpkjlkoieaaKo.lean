/- With a step for the left hand: marks, turns and gaps the other way round. Conditions: none. -/
import Derived.Test.YtagagpkjlkoieaaKB
import Derived.Test.YtagagpkjlkoieaaKm
namespace Go.Xm
set_option linter.unusedVariables false
set_option linter.unusedSimpArgs false

theorem mirror_eq {M S : Nat} (hM : 0 < M) (hS : S ≤ M) (k : Nat) : mrk M (M - S) k = mirror M (mrk M S) k := by
  have l1 := mrk_lt (M := M) (S := S) k hM
  have l2 := mrk_lt (M := M) (S := M - S) k hM
  have e : (mrk M S k + mrk M (M - S) k) % M = 0 := by
    unfold mrk
    rw [← Nat.add_mod, ← Nat.mul_add, show S + (M - S) = M by omega]
    exact Nat.mul_mod_left k M
  unfold mirror
  rcases Nat.lt_or_ge (mrk M S k + mrk M (M - S) k) M with q | q
  · rw [Nat.mod_eq_of_lt q] at e
    rw [if_pos (by omega)]
    omega
  · rw [Nat.mod_eq_sub_mod q, Nat.mod_eq_of_lt (by omega)] at e
    rw [if_neg (by omega)]
    omega

theorem Good.left {M S T o : Nat} (g : Good M S T o) (hS : 0 < S) : Good M (M - S) T o := by
  have g1 := g.m1
  have g3 := g.s
  refine ⟨g.m1, g.m2, by omega, g.t1, g.to, g.om, ?_, fun j h1 h2 => ?_⟩
  · have e := mirror_eq (S := S) (by omega : 0 < M) (by omega) o
    have z : mrk M S o = 0 := g.oz
    unfold mirror at e
    rw [if_pos z] at e
    exact e
  · have e := mirror_eq (S := S) (by omega : 0 < M) (by omega) j
    have z : mrk M S j ≠ 0 := g.omin j h1 h2
    have l := mrk_lt (M := M) (S := S) j (by omega)
    unfold mirror at e
    rw [if_neg z] at e
    show mrk M (M - S) j ≠ 0
    omega

theorem Beside.uniq {M T : Nat} {P : Nat → Nat} (h : Turns M T P) {p q p' q' : Nat} (a : Beside T P p q) (b : Beside T P p' q') : p = p' ∧ q = q' := by
  obtain ⟨a1, a2, a3, a4, a5⟩ := a
  obtain ⟨b1, b2, b3, b4, b5⟩ := b
  exact ⟨h.inj a2 b2 (Nat.le_antisymm (a5 p' b1 b2).1 (b5 p a1 a2).1), h.inj a4 b4 (Nat.le_antisymm (b5 q a3 a4).2 (a5 q' b3 b4).2)⟩

theorem mrk_mirror {M S : Nat} (hM : 0 < M) (hS : S ≤ M) : mrk M (M - S) = mirror M (mrk M S) := funext fun k => mirror_eq hM hS k

theorem bes_left {M S T : Nat} (h : Turns M T (mrk M S)) (hS : S ≤ M) : (bes M (M - S) T).1 = (bes M S T).2 ∧ (bes M (M - S) T).2 = (bes M S T).1 := by
  by_cases hT : 2 ≤ T
  · have h' : Turns M T (mrk M (M - S)) := by rw [mrk_mirror h.pos hS]; exact h.mirror
    have b1 : Beside T (mrk M (M - S)) (bes M (M - S) T).1 (bes M (M - S) T).2 := loopB_all hT
    have b2 : Beside T (mrk M S) (bes M S T).1 (bes M S T).2 := loopB_all hT
    have b3 : Beside T (mrk M (M - S)) (bes M S T).2 (bes M S T).1 := by rw [mrk_mirror h.pos hS]; exact b2.mirror h
    exact b1.uniq h' b3
  · have : T - 1 = 0 := by omega
    unfold bes
    rw [this]
    exact ⟨rfl, rfl⟩

theorem before_next {M S T k : Nat} (h : Turns M T (mrk M S)) (hk : k < T) : nextN T (bes M S T).2 (bes M S T).1 (nextN T (bes M S T).1 (bes M S T).2 k) = k := by
  by_cases hT : 2 ≤ T
  · have hb : Beside T (mrk M S) (bes M S T).1 (bes M S T).2 := loopB_all hT
    exact next_before (beside_sum h hb) hb.2.1 hb.2.2.2.1 hk
  · have hT1 : T = 1 := by omega
    subst hT1
    have : k = 0 := by omega
    subst this
    rfl

theorem next_before' {M S T k : Nat} (h : Turns M T (mrk M S)) (hk : k < T) : nextN T (bes M S T).1 (bes M S T).2 (nextN T (bes M S T).2 (bes M S T).1 k) = k := by
  by_cases hT : 2 ≤ T
  · have hb : Beside T (mrk M S) (bes M S T).1 (bes M S T).2 := loopB_all hT
    have hs := beside_sum h hb
    exact next_before (by omega) hb.2.2.2.1 hb.2.1 hk
  · have hT1 : T = 1 := by omega
    subst hT1
    have : k = 0 := by omega
    subst this
    rfl

theorem tN_left {M S T : Nat} (h : Turns M T (mrk M S)) (hT : 0 < T) (hS : S ≤ M) : ∀ i, i ≤ T → tN M (M - S) T i = tN M S T (T - i)
  | 0, _ => by
    rw [show T - 0 = T by omega, tN_last h hT]
    rfl
  | i + 1, hi => by
    obtain ⟨e1, e2⟩ := bes_left h hS
    show nextN T (bes M (M - S) T).1 (bes M (M - S) T).2 (tN M (M - S) T i) = _
    rw [e1, e2, tN_left h hT hS i (by omega), show T - i = (T - (i + 1)) + 1 by omega]
    exact before_next h (tN_lt h hT _)

theorem gp_left {M S T k : Nat} (h : Turns M T (mrk M S)) (hS : S ≤ M) (hk : k < T) : gp M (M - S) T k = gp M S T (nextN T (bes M S T).2 (bes M S T).1 k) := by
  obtain ⟨e1, e2⟩ := bes_left h hS
  have hn := next_before' h hk
  have hM := h.pos
  have z := h.zero
  unfold gp
  rw [e1, e2, hn]
  have hj : nextN T (bes M S T).2 (bes M S T).1 k < T := by
    have h' : Turns M T (mrk M (M - S)) := by rw [mrk_mirror h.pos hS]; exact h.mirror
    have := nextN_lt h' hk
    rw [e1, e2] at this
    exact this
  generalize nextN T (bes M S T).2 (bes M S T).1 k = j at hj hn ⊢
  rw [mirror_eq hM hS k, mirror_eq hM hS j]
  have lk := h.lt k
  have lj := h.lt j
  have ok := h.own k
  have oj := h.own j
  unfold mirror
  by_cases cj : j = 0
  · subst cj
    rw [if_pos rfl, z]
    by_cases ck : k = 0
    · subst ck
      rw [if_pos z, if_pos rfl]
    · rw [if_neg (by omega), if_neg ck]
      omega
  · rw [if_neg cj, if_neg (by omega)]
    by_cases ck : k = 0
    · subst ck
      rw [if_pos z, if_pos rfl]
      omega
    · rw [if_neg (by omega), if_neg ck]
      omega

theorem gF_get (M S T : Nat) : ∀ k x i, i < k → (gF M S T k x).getD i 0 = (gp M S T (tN M S T (x + i)) : Int)
  | 0, _, _, h => by omega
  | k + 1, x, 0, h => rfl
  | k + 1, x, i + 1, h => by
    have := gF_get M S T k (x + 1) i (by omega)
    rw [show x + (i + 1) = x + 1 + i by omega]
    exact this

/-- Gaps come in the opposite order. -/
theorem gF_left {M S T : Nat} (h : Turns M T (mrk M S)) (hS : S ≤ M) {i : Nat} (hi : i < T) : (gF M (M - S) T T 0).getD i 0 = (gF M S T T 0).getD (T - 1 - i) 0 := by
  have hT : 0 < T := by omega
  rw [gF_get M (M - S) T T 0 i hi, gF_get M S T T 0 (T - 1 - i) (by omega), Nat.zero_add, Nat.zero_add]
  have hk : tN M (M - S) T i < T := by
    rw [tN_left h hT hS i (by omega)]
    exact tN_lt h hT _
  rw [gp_left h hS hk]
  have e : nextN T (bes M S T).2 (bes M S T).1 (tN M (M - S) T i) = tN M (M - S) T (i + 1) := by
    obtain ⟨e1, e2⟩ := bes_left h hS
    show _ = nextN T (bes M (M - S) T).1 (bes M (M - S) T).2 (tN M (M - S) T i)
    rw [e1, e2]
  rw [e, tN_left h hT hS (i + 1) (by omega), show T - (i + 1) = T - 1 - i by omega]

theorem cw_left {M S T : Nat} (h : Turns M T (mrk M S)) (hS : S ≤ M) (hT : 0 < T) : cw M (M - S) T = cw M S T := by
  funext w
  by_cases hT2 : 2 ≤ T
  · have h' : Turns M T (mrk M (M - S)) := by rw [mrk_mirror h.pos hS]; exact h.mirror
    obtain ⟨e1, e2⟩ := bes_left h hS
    have hb : Beside T (mrk M S) (bes M S T).1 (bes M S T).2 := loopB_all hT2
    obtain ⟨p0, pT, q0, qT, mm⟩ := hb
    have o1 := h.own _ p0 pT
    have o2 := h.own _ q0 qT
    have l1 := h.lt (bes M S T).1
    have l2 := h.lt (bes M S T).2
    have m1 : mirror M (mrk M S) (bes M S T).1 = M - mrk M S (bes M S T).1 := by unfold mirror; rw [if_neg (by omega)]
    have m2 : mirror M (mrk M S) (bes M S T).2 = M - mrk M S (bes M S T).2 := by unfold mirror; rw [if_neg (by omega)]
    rw [cw_val h hT2, cw_val h' hT2, e1, e2, mirror_eq h.pos hS, mirror_eq h.pos hS, m1, m2, show M - (M - mrk M S (bes M S T).1) = mrk M S (bes M S T).1 by omega, show M - mrk M S (bes M S T).2 + mrk M S (bes M S T).1 = mrk M S (bes M S T).1 + (M - mrk M S (bes M S T).2) by omega, show (bes M S T).2 + (bes M S T).1 - T = (bes M S T).1 + (bes M S T).2 - T by omega]
    omega
  · have hT1 : T = 1 := by omega
    subst hT1
    rw [cw_one, cw_one]
end Go.Xm
