/- WrapKnown: the walk. Conditions: none. -/
import Derived.Test.YtagagpkjlkoieaaWe
namespace Go.Proofs.Ytagagpkjlkoieaa.wrapKnown
open Go.Xm Go.RowKit

theorem walk (w : World) : Calls Proofs.Try.prog 11 #[] w fun e w' => e = .returned (.bool true) ∧ Below w.heap.size w w' :=
  run0 (n := 100000) (args := []) rfl (by kernel_rfl) w

end Go.Proofs.Ytagagpkjlkoieaa.wrapKnown
