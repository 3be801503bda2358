/- ClubCan: the walk, as the statement's shell wants it. Conditions: the library's tables lie in their variables. -/
import Derived.Test.YtfimbmhannndaaaDoorCg
import Derived.Test.YtfimbmhannndaaaDoorAr
namespace Go.Proofs.YtfimbmhannndaaaDoor.clubCan
open Go.Xm Go.RowKit

theorem walk (v0 : Value) (z0 : List Int) (a1 : Int) (w : World) (hI : seatInv w) (g0 : RowIn w v0 1 (Xm.rowC (Xm.encI .i64) z0) z0.length) (_w0 : ∀ z ∈ z0, (Lit.int .i64 z).wf = true) (_w1 : (Lit.int .i64 a1).wf = true) :
    Calls Tryd.prog 3 #[v0, .int .i64 a1] w fun e w' => e = .returned (.bool true) ∧ Below w.heap.size w w' := by
  have hp : ∀ l : List Value, l.all scal = true → l.all plain = true := fun l h => List.all_eq_true.2 fun v hv => by
    have := List.all_eq_true.1 h v hv
    cases v <;> simp_all [scal, plain]
  exact KC.calls1 (E := E0) (by decide) rfl (hp _ (Xm.rowC_scal (Xm.encI_ok .i64) z0)) rfl (fun z y => f3_ok 1001 z y z0 a1 true (f3_true 1001 (by omega) z0 a1)) w g0 (seatInv_size hI) hI

end Go.Proofs.YtfimbmhannndaaaDoor.clubCan
