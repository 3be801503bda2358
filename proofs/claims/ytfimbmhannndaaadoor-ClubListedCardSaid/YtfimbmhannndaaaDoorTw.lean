/- The abstract machine where functions without arguments that return true are told by contract. Conditions: none; nothing here speaks of one program. -/
import Derived.Test.YtfimbmhannndaaaDoorMj
namespace Go.Xm
open Go.RowKit
theorem runW {E : Env} (hE : E.Ok) {n k : Nat} (hk : (E.prim k).isNone = true) (hk2 : (E.ext k).isNone = true) (hk3 : E.same k = false) (h : call (inEnv E) n k [] = some (.bool true)) (hG : ∀ w, E.inv w → E.G ≤ w.heap.size) (w : World) (hI : E.inv w) :
    Calls E.P k #[] w (fun e w' => e = .returned (.bool true) ∧ Below w.heap.size w w') :=
  run_ok (inEnv_ok hE) (args := []) rfl hk hk2 hk3 h w (hG w hI) hI
end Go.Xm
