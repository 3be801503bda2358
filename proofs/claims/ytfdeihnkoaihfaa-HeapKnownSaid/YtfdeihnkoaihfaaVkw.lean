/- HeapKnown: the walk. Conditions: none. -/
import Derived.Test.YtfdeihnkoaihfaaWe
namespace Go.Proofs.Ytfdeihnkoaihfaa.heapKnown
open Go.Xm Go.RowKit

theorem walk (w : World) : Calls Proofs.Try.prog 9 #[] w fun e w' => e = .returned (.bool true) ∧ Below w.heap.size w w' :=
  run1 (n := 100000) (args := []) rfl (by kernel_rfl) w

end Go.Proofs.Ytfdeihnkoaihfaa.heapKnown
