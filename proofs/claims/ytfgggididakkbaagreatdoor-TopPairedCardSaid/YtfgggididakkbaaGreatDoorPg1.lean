/- TopPaired with six boxes: rounds 0 to 50 of its loop. Conditions: the library's tables lie in their variables. -/
import Derived.Test.YtfgggididakkbaaGreatDoorPg
namespace Go.Xm
open Go.RowKit
set_option linter.unusedVariables false
set_option maxRecDepth 20000

theorem rounds_1 (w : Int) : (List.range 51).map (fun j => rdL w (0 + j)) = (List.range 51).map (fun j => exL w (0 + j)) := by kernel_rfl

end Go.Xm
