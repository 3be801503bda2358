/- TopPaired with six boxes: rounds 102 to 152 of its loop. Conditions: the library's tables lie in their variables. -/
import Derived.Test.YtfgggididakkbaaGreatDoorPg
namespace Go.Xm
open Go.RowKit
set_option linter.unusedVariables false
set_option maxRecDepth 20000

theorem rounds_3 (w : Int) : (List.range 51).map (fun j => rdL w (102 + j)) = (List.range 51).map (fun j => exL w (102 + j)) := by kernel_rfl

end Go.Xm
