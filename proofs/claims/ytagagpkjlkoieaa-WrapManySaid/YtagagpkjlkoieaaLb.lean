/- What the program's functions answer about gaps. Conditions: none. -/
import Derived.Test.YtagagpkjlkoieaaLa
import Derived.Test.YtagagpkjlkoieaaKU
import Derived.Test.YtagagpkjlkoieaaQb
namespace Go.Xm
set_option linter.unusedVariables false
set_option linter.unusedSimpArgs false

theorem f20_0 {m M S T o : Nat} (hm : 1000 < m) (g : Good M S 1 o) (h1 : 1 ≤ T) (h2 : T ≤ o) : f20 m M S T = some 0 := by
  rw [f20_val m M S o T hm g h1, decide_eq_false (by omega)]
  rfl

/-! Gaps, as the law counts them -/
theorem gp_le (M S T k : Nat) (hM : 0 < M) : gp M S T k ≤ M := by
  unfold gp
  have := mrk_lt (M := M) (S := S) (nextN T (bes M S T).1 (bes M S T).2 k) hM
  split <;> omega

end Go.Xm
