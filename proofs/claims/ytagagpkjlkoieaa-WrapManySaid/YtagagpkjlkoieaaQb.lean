/- What these functions of the program compute, as functions in Lean, and the proofs that they do: slices.Max[[]int,int], vitolalaw05.gaps. Conditions: none. -/
import Derived.Test.YtagagpkjlkoieaaPq
namespace Go.Xm
open Go.RowKit
set_option linter.unusedVariables false
set_option linter.unusedSimpArgs false
set_option maxRecDepth 20000

/-! slices.Max[[]int,int] -/
/-! vitola/vitolalaw05.gaps -/
end Go.Xm
