/- One turn more begins in a gap of the greatest width. Conditions: none. -/
import Derived.Test.YtagagpkjlkoieaaKB
import Derived.Test.YtagagpkjlkoieaaKU
namespace Go.Xm
set_option linter.unusedVariables false
set_option linter.unusedSimpArgs false

/-- The turns between which turn T begins. -/
def dvF (M S T : Nat) : Nat := nextN (T + 1) (bes M S (T + 1)).2 (bes M S (T + 1)).1 T
def dvT (M S T : Nat) : Nat := nextN (T + 1) (bes M S (T + 1)).1 (bes M S (T + 1)).2 T

structure Div (M S T a b : Nat) : Prop where
  ha : a < T
  hb : b < T
  nx : nextN T (bes M S T).1 (bes M S T).2 a = b
  wide : ∀ k, k < T → gp M S T k ≤ gp M S T a
  more : ∀ k, k < T + 1 → gp M S (T + 1) k ≤ gp M S T a
  lo : mrk M S a < mrk M S T
  hi : mrk M S T - mrk M S a < gp M S T a

theorem div_one {M S : Nat} (h : Turns M 2 (mrk M S)) : Div M S 1 (dvF M S 1) (dvT M S 1) := by
  have o := h.own 1 (by omega) (by omega)
  have l := h.lt 1
  have e1 : dvF M S 1 = 0 := rfl
  have e2 : dvT M S 1 = 0 := rfl
  have g1 : gp M S 1 0 = M := gp_one M S 0 (by omega)
  rw [e1, e2]
  refine ⟨by omega, by omega, rfl, fun k hk => ?_, fun k hk => ?_, ?_, ?_⟩
  · rw [g1, gp_one M S k hk]; exact Nat.le_refl _
  · rw [g1, gp_val h (by omega) hk]
    have e3 : bes M S 2 = (1, 1) := rfl
    rw [e3]
    simp only []
    repeat' split
    all_goals omega
  · rw [mrk_zero]; exact o
  · rw [g1, mrk_zero]; omega

/-! The greatest of a list of gaps -/
/-! Marks in ascending order -/
end Go.Xm
