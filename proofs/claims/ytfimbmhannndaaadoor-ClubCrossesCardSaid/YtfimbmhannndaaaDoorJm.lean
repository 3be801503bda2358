/- ClubCrosses: the walk, as the statement's shell wants it. Conditions: the library's tables lie in their variables. -/
import Derived.Test.YtfimbmhannndaaaDoorJl
import Derived.Test.YtfimbmhannndaaaDoorAt
namespace Go.Proofs.YtfimbmhannndaaaDoor.clubCrosses
open Go.Xm Go.RowKit

theorem walk (a0 : Int) (u0 : Value) (z0 : List (Int × Int)) (a1 : Int) (a2 : Int) (a3 : Bool) (w : World) (hI : seatInv w) (_w0 : (Lit.int .i64 a0).wf = true) (g0 : RowIn w u0 2 (Xm.rowC (Xm.encQ .i64) z0) z0.length) (_x0 : ∀ z ∈ z0, (Lit.int .i64 z.1).wf = true ∧ (Lit.int .i64 z.2).wf = true) (_w1 : (Lit.int .i64 a1).wf = true) (_w2 : (Lit.int .i64 a2).wf = true) :
    Calls Tryd.prog 5 #[.agg #[.int .i64 a0, u0], .int .i64 a1, .int .i64 a2, .bool a3] w fun e w' => e = .returned (.bool true) ∧ Below w.heap.size w w' := by
  have hp : ∀ l : List Value, l.all scal = true → l.all plain = true := fun l h => List.all_eq_true.2 fun v hv => by
    have := List.all_eq_true.1 h v hv
    cases v <;> simp_all [scal, plain]
  exact KC.callsS (E := E0) (by decide) rfl rfl (hp _ (Xm.rowC_scal (Xm.encQ_ok .i64) z0)) rfl (fun z y => f5_ok 1001 z y a0 z0 a1 a2 a3 true (f5_true 1001 (by omega) a0 z0 a1 a2 a3)) w g0 (seatInv_size hI) hI

end Go.Proofs.YtfimbmhannndaaaDoor.clubCrosses
