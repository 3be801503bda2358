/- The machine's tables at a program with the package variable of primes. Conditions: the library's tables, and that variable, lie as their texts lay them. -/
import Derived.Test.YtcpagojealaigaaGreatDoorTe
namespace Go.Xm
open Go.RowKit

noncomputable def primesV : Value := .agg ((List.range 12).map fun j => Value.int .i64 (primesTab.getD j 0)).toArray

noncomputable def primesGlob (g t : Nat) : Option Value := match (Nat.beq g 0 && Nat.beq t 64) with
  | true => some primesV
  | false => none

noncomputable def Ep : Env := { E0 with glob := primesGlob }

theorem primes_load {ty : Nat → Option XTy} (hT : TyOk Proofs.Tryz.prog ty) (hc : (match ty 64 with | some d => aggB d.u && Nat.beq d.size 12 | none => false) = true) (w : World) (hI : seatInv w) :
    (Instr.loadAt 64 (.pointer (some ⟨0, 0, none⟩))).run Proofs.Tryz.prog w = .ok primesV w := by
  split at hc
  · rename_i d hd
    simp only [Bool.and_eq_true] at hc
    obtain ⟨ha, hs⟩ := hc
    have hs := Nat.eq_of_beq_eq_true hs
    have hl := run_loadCells (P := Proofs.Tryz.prog) (w := w) ⟨0, 0, none⟩ 12 (fun j => Value.int .i64 (primesTab.getD j 0)) (fun j hj => by
      rw [Addr.add_none, Nat.zero_add]
      exact hI.2 j hj)
    simp only [Instr.loadAt, Instr.sureAddr, loadVar, Sem.run_bind, Sem.run_pure, Result.andThen_ok, hT.isAgg hd, ha, if_true, hT.sizeOf hd, hs, hl]
    rfl
  · cases hc

set_option maxRecDepth 20000 in
theorem Ep_ok : Ep.Ok := by
  have h := E0_ok
  refine ⟨h.mixed, h.ty, h.fn, h.prim, h.ext, h.hprim, h.keeps, h.same, h.meth, fun g t v hv => ?_⟩
  replace hv : primesGlob g t = some v := hv
  unfold primesGlob at hv
  split at hv
  · rename_i hb
    simp only [Bool.and_eq_true] at hb
    have h1 := Nat.eq_of_beq_eq_true hb.1
    have h2 := Nat.eq_of_beq_eq_true hb.2
    subst h1
    subst h2
    cases hv
    exact ⟨by kernel_rfl, fun w hI => primes_load h.ty (by kernel_rfl) w hI⟩
  · cases hv

end Go.Xm
