/- TopPaired with six boxes: rounds 153 to 202 of its loop. Conditions: the library's tables lie in their variables. -/
import Derived.Test.YtfgggididakkbaaGreatDoorPg
namespace Go.Xm
open Go.RowKit
set_option linter.unusedVariables false
set_option maxRecDepth 20000

theorem rounds_4 (w : Int) : (List.range 50).map (fun j => rdL w (153 + j)) = (List.range 50).map (fun j => exL w (153 + j)) := by kernel_rfl

end Go.Xm
