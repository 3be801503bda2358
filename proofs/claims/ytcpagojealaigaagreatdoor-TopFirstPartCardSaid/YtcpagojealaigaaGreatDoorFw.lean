/- The examples of the chapters up to the duty's fractions hold. Conditions: the library's tables, and the primes, lie in their variables. -/
import Derived.Test.YtcpagojealaigaaGreatDoorWb
import Derived.Test.YtcpagojealaigaaGreatDoorTp
namespace Go.Xm
open Go.RowKit

noncomputable def E3 : Env := { E2 with glob := primesGlob }

set_option maxRecDepth 20000 in
theorem E3_ok : E3.Ok := by
  have h := E2_ok
  refine ⟨h.mixed, h.ty, h.fn, h.prim, h.ext, h.hprim, h.keeps, h.same, h.meth, fun g t v hv => ?_⟩
  replace hv : primesGlob g t = some v := hv
  unfold primesGlob at hv
  split at hv
  · rename_i hb
    simp only [Bool.and_eq_true] at hb
    have h1 := Nat.eq_of_beq_eq_true hb.1
    have h2 := Nat.eq_of_beq_eq_true hb.2
    subst h1
    subst h2
    cases hv
    exact ⟨by kernel_rfl, fun w hI => primes_load h.ty (by kernel_rfl) w hI⟩
  · cases hv

theorem works_ok (w : World) (hI : seatInv w) : Calls Proofs.Tryz.prog 11 #[] w fun e w' => e = .returned (.bool true) ∧ Below w.heap.size w w' :=
  runW (n := 100000) E3_ok rfl rfl rfl (by kernel_rfl) (fun _ h => seatInv_size h) w hI

end Go.Xm
