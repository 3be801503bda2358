/- The club: the law's own examples hold; the machine's tables with that. Conditions: the library's tables lie in their variables. -/
import Derived.Test.YtfimbmhannndaaaDoorTe
import Derived.Test.YtfimbmhannndaaaDoorTw
namespace Go.Xm
open Go.RowKit
theorem works_ok (w : World) (hI : seatInv w) : Calls Proofs.Tryd.prog 14 #[] w fun e w' => e = .returned (.bool true) ∧ Below w.heap.size w w' :=
  runW (n := 100000) E0_ok rfl rfl rfl (by kernel_rfl) (fun _ h => seatInv_size h) w hI
end Go.Xm
