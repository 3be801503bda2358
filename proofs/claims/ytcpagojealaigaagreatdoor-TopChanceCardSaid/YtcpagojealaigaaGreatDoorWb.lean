/- The examples of the chapters up to the store's rooms hold; the machine's tables with that. Conditions: the library's tables lie in their variables. -/
import Derived.Test.YtcpagojealaigaaGreatDoorWm
namespace Go.Xm
open Go.RowKit

theorem rooms_ok (w : World) (hI : seatInv w) : Calls Proofs.Tryz.prog 24 #[] w fun e w' => e = .returned (.bool true) ∧ Below w.heap.size w w' :=
  runW (n := 100000) Em_ok rfl rfl rfl (by kernel_rfl) (fun _ h => seatInv_size h) w hI

noncomputable def E2 : Env := withW Em 24
theorem E2_ok : E2.Ok := withW_ok Em_ok (F := Proofs.Tryz.f24) (by kernel_rfl) (fun w hI => rooms_ok w hI)

end Go.Xm
