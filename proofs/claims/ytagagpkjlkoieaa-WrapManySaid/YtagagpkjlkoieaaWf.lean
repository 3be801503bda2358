/- The wrap: the law's own examples hold. Conditions: none. -/
import Derived.Test.YtagagpkjlkoieaaWs
namespace Go.Xm
open Go.RowKit

theorem works_ok (w : World) (_ : anyInv w) : Calls Proofs.Try.prog 28 #[] w fun e w' => e = .returned (.bool true) ∧ Below w.heap.size w w' :=
  run0 (n := 100000) (args := []) rfl (by kernel_rfl) w

end Go.Xm
