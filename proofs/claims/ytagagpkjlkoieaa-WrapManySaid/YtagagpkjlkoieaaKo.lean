/- With a step for the left hand: marks, turns and gaps the other way round. Conditions: none. -/
import Derived.Test.YtagagpkjlkoieaaKB
import Derived.Test.YtagagpkjlkoieaaKU
namespace Go.Xm
set_option linter.unusedVariables false
set_option linter.unusedSimpArgs false

theorem mirror_eq {M S : Nat} (hM : 0 < M) (hS : S ≤ M) (k : Nat) : mrk M (M - S) k = mirror M (mrk M S) k := by
  have l1 := mrk_lt (M := M) (S := S) k hM
  have l2 := mrk_lt (M := M) (S := M - S) k hM
  have e : (mrk M S k + mrk M (M - S) k) % M = 0 := by
    unfold mrk
    rw [← Nat.add_mod, ← Nat.mul_add, show S + (M - S) = M by omega]
    exact Nat.mul_mod_left k M
  unfold mirror
  rcases Nat.lt_or_ge (mrk M S k + mrk M (M - S) k) M with q | q
  · rw [Nat.mod_eq_of_lt q] at e
    rw [if_pos (by omega)]
    omega
  · rw [Nat.mod_eq_sub_mod q, Nat.mod_eq_of_lt (by omega)] at e
    rw [if_neg (by omega)]
    omega

theorem Good.left {M S T o : Nat} (g : Good M S T o) (hS : 0 < S) : Good M (M - S) T o := by
  have g1 := g.m1
  have g3 := g.s
  refine ⟨g.m1, g.m2, by omega, g.t1, g.to, g.om, ?_, fun j h1 h2 => ?_⟩
  · have e := mirror_eq (S := S) (by omega : 0 < M) (by omega) o
    have z : mrk M S o = 0 := g.oz
    unfold mirror at e
    rw [if_pos z] at e
    exact e
  · have e := mirror_eq (S := S) (by omega : 0 < M) (by omega) j
    have z : mrk M S j ≠ 0 := g.omin j h1 h2
    have l := mrk_lt (M := M) (S := S) j (by omega)
    unfold mirror at e
    rw [if_neg z] at e
    show mrk M (M - S) j ≠ 0
    omega

theorem Beside.uniq {M T : Nat} {P : Nat → Nat} (h : Turns M T P) {p q p' q' : Nat} (a : Beside T P p q) (b : Beside T P p' q') : p = p' ∧ q = q' := by
  obtain ⟨a1, a2, a3, a4, a5⟩ := a
  obtain ⟨b1, b2, b3, b4, b5⟩ := b
  exact ⟨h.inj a2 b2 (Nat.le_antisymm (a5 p' b1 b2).1 (b5 p a1 a2).1), h.inj a4 b4 (Nat.le_antisymm (b5 q a3 a4).2 (a5 q' b3 b4).2)⟩

theorem before_next {M S T k : Nat} (h : Turns M T (mrk M S)) (hk : k < T) : nextN T (bes M S T).2 (bes M S T).1 (nextN T (bes M S T).1 (bes M S T).2 k) = k := by
  by_cases hT : 2 ≤ T
  · have hb : Beside T (mrk M S) (bes M S T).1 (bes M S T).2 := loopB_all hT
    exact next_before (beside_sum h hb) hb.2.1 hb.2.2.2.1 hk
  · have hT1 : T = 1 := by omega
    subst hT1
    have : k = 0 := by omega
    subst this
    rfl

end Go.Xm
