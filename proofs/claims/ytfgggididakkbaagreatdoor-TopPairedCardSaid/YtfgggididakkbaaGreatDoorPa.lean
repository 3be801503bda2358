/- store.triangle and store.endings: what they return; the examples of the chapters hold. Conditions: the library's tables lie in their variables. -/
import Derived.Test.YtfgggididakkbaaGreatDoorTe
import Derived.Test.YtfgggididakkbaaGreatDoorNj
namespace Go.Xm
open Go.RowKit
set_option maxRecDepth 100000

def triL : List Int := [1, 0, 0, 0, 0, 0, 0, 0, 0, 0, 0, 0, 1, 0, 0, 0, 0, 0, 0, 0, 0, 0, 0, 1, 1, 0, 0, 0, 0, 0, 0, 0, 0, 0, 1, 3, 1, 0, 0, 0, 0, 0, 0, 0, 0, 1, 7, 6, 1, 0, 0, 0, 0, 0, 0, 0, 1, 15, 25, 10, 1, 0, 0, 0, 0, 0, 0, 1, 31, 90, 65, 15, 1, 0, 0, 0, 0, 0, 1, 63, 301, 350, 140, 21, 1, 0, 0, 0, 0, 1, 127, 966, 1701, 1050, 266, 28, 1, 0, 0, 0, 1, 255, 3025, 7770, 6951, 2646, 462, 36, 1, 0]
def endL : List Int := [1, 1, 2, 5, 15, 52, 203, 877, 4140, 21147, 1, 2, 5, 15, 52, 203, 877, 4140, 21147, 0, 1, 3, 10, 37, 151, 674, 3263, 17007, 0, 0, 1, 4, 17, 77, 372, 1915, 10481, 0, 0, 0, 1, 5, 26, 141, 799, 4736, 0, 0, 0, 0, 1, 6, 37, 235, 1540, 0, 0, 0, 0, 0, 1, 7, 50, 365, 0, 0, 0, 0, 0, 0, 1, 8, 65, 0, 0, 0, 0, 0, 0, 0, 1, 9, 0, 0, 0, 0, 0, 0, 0, 0, 1, 0, 0, 0, 0, 0, 0, 0, 0, 0, 1, 0, 0, 0, 0, 0, 0, 0, 0, 0]

theorem tri_ok (w : World) (hI : seatInv w) : Calls Proofs.Tryz.prog 26 #[] w fun e w' => e = .returned (.agg (rowC (encI .i64) triL).toArray) ∧ Below w.heap.size w w' :=
  run_ok (fastEnv_ok E0_ok) (n := 100000) (args := []) rfl rfl rfl rfl (by kernel_rfl) w (seatInv_size hI) hI

theorem end_ok (w : World) (hI : seatInv w) : Calls Proofs.Tryz.prog 30 #[] w fun e w' => e = .returned (.agg (rowC (encI .i64) endL).toArray) ∧ Below w.heap.size w w' :=
  run_ok (fastEnv_ok E0_ok) (n := 100000) (args := []) rfl rfl rfl rfl (by kernel_rfl) w (seatInv_size hI) hI

end Go.Xm
