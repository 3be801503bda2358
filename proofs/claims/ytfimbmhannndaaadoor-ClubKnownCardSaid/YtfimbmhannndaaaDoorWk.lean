/- ClubKnown: the walk. Conditions: the library's tables lie in their variables. -/
import Derived.Test.YtfimbmhannndaaaDoorWa
namespace Go.Proofs.YtfimbmhannndaaaDoor.clubKnown
open Go.Xm Go.RowKit

noncomputable def E1 : Env := withW E0 14
theorem E1_ok : E1.Ok := withW_ok E0_ok (F := Tryd.f14) (by kernel_rfl) (fun w hI => works_ok w hI)

theorem walk (w : World) (hI : seatInv w) : Calls Tryd.prog 10 #[] w fun e w' => e = .returned (.bool true) ∧ Below w.heap.size w w' :=
  runW (n := 100000) E1_ok rfl rfl rfl (by kernel_rfl) (fun _ h => seatInv_size h) w hI

end Go.Proofs.YtfimbmhannndaaaDoor.clubKnown
