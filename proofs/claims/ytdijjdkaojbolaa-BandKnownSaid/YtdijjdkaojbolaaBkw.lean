/- BandKnown: the walk. Conditions: the library's variable MaxLen holds some int. -/
import Derived.Test.YtdijjdkaojbolaaBk
namespace Go.Proofs.Ytdijjdkaojbolaa.bandKnown
open Go.Xm Go.RowKit

theorem walk (w : World) (hI : ∃ m, w.cell? ⟨0, 0, none⟩ = some (.int .i64 m)) : Calls Proofs.Try.prog 7 #[] w fun e w' => e = .returned (.bool true) ∧ Below w.heap.size w w' :=
  run1 (n := 100000) (args := []) rfl rfl rfl (by kernel_rfl) w hI

end Go.Proofs.Ytdijjdkaojbolaa.bandKnown
