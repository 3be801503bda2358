/- The heap: the law's own examples hold. Conditions: none. -/
import Derived.Test.YtfdeihnkoaihfaaWe
namespace Go.Xm
open Go.RowKit

theorem works_ok (w : World) (_ : anyInv w) : Calls Proofs.Try.prog 16 #[] w fun e w' => e = .returned (.bool true) ∧ Below w.heap.size w w' :=
  run1 (n := 100000) (args := []) rfl (by kernel_rfl) w

#print axioms works_ok
end Go.Xm
