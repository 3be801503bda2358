/- TopPaired with six boxes: rounds 51 to 101 of its loop. Conditions: the library's tables lie in their variables. -/
import Derived.Test.YtfgggididakkbaaGreatDoorPg
namespace Go.Xm
open Go.RowKit
set_option linter.unusedVariables false
set_option maxRecDepth 20000

theorem rounds_2 (w : Int) : (List.range 51).map (fun j => rdL w (51 + j)) = (List.range 51).map (fun j => exL w (51 + j)) := by kernel_rfl

end Go.Xm
