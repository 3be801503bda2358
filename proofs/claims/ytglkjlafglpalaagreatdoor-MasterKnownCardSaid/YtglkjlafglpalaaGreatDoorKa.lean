/- MasterKnown. Conditions: none. -/
import Derived.Test.YtglkjlafglpalaaGreatDoorPk
import Derived.Test.YtglkjlafglpalaaGreatDoorEz
namespace Go.Xm
open Go.RowKit
set_option linter.unusedVariables false
set_option maxRecDepth 100000 in
theorem known_run : f6 300 = some true := by kernel_rfl
end Go.Xm
namespace Go.Proofs.YtglkjlafglpalaaGreatDoor.masterKnown
open Go.RowKit
theorem walk (w : World) (hI : Go.Xm.maInv w) :
 Calls Proofs.Tryz.prog 6 #[] w fun e w' => e = .returned (.bool true) ∧ Below w.heap.size w w' := Go.Xm.f6_ok 300 true Go.Xm.known_run w hI
end Go.Proofs.YtglkjlafglpalaaGreatDoor.masterKnown
