/- The examples of the chapters up to the beetles hold, under the name that printed texts use. Conditions: the library's tables lie in their variables. -/
import Derived.Test.YtlfobnldaneccaaGreatDoorWa
import Derived.Test.YtlfobnldaneccaaGreatDoorMx
import Derived.Test.YtlfobnldaneccaaGreatDoorNg
import Derived.Test.YtlfobnldaneccaaGreatDoorNh
import Derived.Test.YtlfobnldaneccaaGreatDoorNi
import Derived.Test.YtlfobnldaneccaaGreatDoorNf
import Derived.Test.YtlfobnldaneccaaGreatDoorNj
import Derived.Test.YtlfobnldaneccaaGreatDoorNd
import Derived.Test.YtlfobnldaneccaaGreatDoorNe
namespace Go.Xm
open Go.RowKit

theorem works_ok (w : World) (hI : seatInv w) : Calls Proofs.Tryz.prog 10 #[] w fun e w' => e = .returned (.bool true) ∧ Below w.heap.size w w' := beetles_ok w hI

end Go.Xm
