/- What these functions of the program compute, as functions in Lean, and the proofs that they do: wrap.Gaps. Conditions: none. -/
import Derived.Test.YtagagpkjlkoieaaPa
namespace Go.Xm
open Go.RowKit
set_option linter.unusedVariables false
set_option linter.unusedSimpArgs false
set_option maxRecDepth 20000

/-! vitola/wrap.Gaps -/
end Go.Xm
