/- What these functions of the program compute, as functions in Lean, and the proofs that they do: vitolalaw12.same, vitolalaw12.alike, club.CheckPlan, vitolalaw12.ClubPlans. Conditions: the library's variables hold what their texts lay. -/
import Derived.Test.YtfimbmhannndaaaDoorKa
namespace Go.Xm
open Go.RowKit
set_option linter.unusedVariables false
set_option linter.unusedSimpArgs false
set_option maxRecDepth 20000

/-! vitola/vitolalaw12.same -/
inductive Of40_1 where
 | r
 | x0

/-! vitola/vitolalaw12.alike -/
inductive Of25_1 where
 | r
 | x0

/-! vitola/club.CheckPlan -/
/-! vitola/vitolalaw12.ClubPlans -/
end Go.Xm
