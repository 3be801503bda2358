/- The examples of the chapters up to the beetles hold; the machine's tables with that. Conditions: the library's tables lie in their variables. -/
import Derived.Test.YtlfobnldaneccaaGreatDoorTe
import Derived.Test.YtlfobnldaneccaaGreatDoorTw
namespace Go.Xm
open Go.RowKit
theorem beetles_ok (w : World) (hI : seatInv w) : Calls Proofs.Tryz.prog 10 #[] w fun e w' => e = .returned (.bool true) ∧ Below w.heap.size w w' :=
  runW (n := 100000) E0_ok rfl rfl rfl (by kernel_rfl) (fun _ h => seatInv_size h) w hI
noncomputable def E1 : Env := withW E0 10
theorem E1_ok : E1.Ok := withW_ok E0_ok (F := Proofs.Tryz.f10) (by kernel_rfl) (fun w hI => beetles_ok w hI)
end Go.Xm
