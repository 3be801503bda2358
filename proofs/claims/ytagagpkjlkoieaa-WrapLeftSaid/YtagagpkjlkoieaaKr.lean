/- Equal lists of pairs. Conditions: none. -/
import Derived.Test.YtagagpkjlkoieaaKA
import Derived.Test.YtagagpkjlkoieaaPl
namespace Go.Xm
set_option linter.unusedVariables false
set_option linter.unusedSimpArgs false

theorem f36_1_same (m : Nat) (a : List (Int × Int)) (ha : a.length ≤ 1000) : ∀ (k x fuel : Nat), x + k = a.length → k < fuel → f36_1 m fuel a a x = some .x0
  | k, x, 0, _, h => by omega
  | 0, x, fuel + 1, hx, _ => by
    unfold f36_1
    rw [decide_eq_false (by omega)]
    rfl
  | k + 1, x, fuel + 1, hx, hf => by
    have hr : inRow (x : Int) a.length = true := inRow_iff.2 ⟨by omega, by omega⟩
    unfold f36_1
    rw [decide_eq_true (by omega), hr, w64_succ x (by omega)]
    simp only [cond_true, beq_self_eq_true, Bool.and_self, Bool.not_true, cond_false]
    exact f36_1_same m a ha k (x + 1) fuel (by omega) (by omega)

theorem f36_same (m : Nat) (a : List (Int × Int)) (ha : a.length ≤ 1000) (hm : 1000 < m) : f36 m a a = some true := by
  unfold f36
  have := f36_1_same m a ha a.length 0 m (by omega) (by omega)
  simp only [bne_self_eq_false, cond_false]
  rw [show ((0 : Int)) = ((0 : Nat) : Int) from rfl, this]
  rfl
end Go.Xm
