/- The abstract machine at this program: its tables, with the numbers of trailing zeros, and slices.Sorted, by contract. Conditions: the library's tables lie in their variables. -/
import Derived.Test.YtlfobnldaneccaaGreatDoorCt
import Derived.Test.YtlfobnldaneccaaGreatDoorMy
import Derived.Test.YtlfobnldaneccaaGreatDoorTa
namespace Go.Xm
open Go.RowKit
noncomputable def sortPrim (k : Nat) : Option (List Value → Heap → Nat → Option (Value × Heap × Nat)) := Bool.casesOn (Nat.beq k 94) none (some pSorted)
theorem sortPrim_eq {k : Nat} {g : List Value → Heap → Nat → Option (Value × Heap × Nat)} (h : sortPrim k = some g) : k = 94 ∧ g = pSorted := by
  unfold sortPrim at h
  cases hb : Nat.beq k 94 with
  | true =>
    rw [hb] at h
    cases h
    exact ⟨Nat.eq_of_beq_eq_true hb, rfl⟩
  | false => rw [hb] at h; cases h
noncomputable def E0 : Env := { stdEnv Proofs.Tryz.prog tzPrim (fun _ => none) (fun _ => false) seatG seatInv with hprim := sortPrim }
set_option maxRecDepth 20000 in
theorem E0_ok : E0.Ok := by
  have h : (stdEnv Proofs.Tryz.prog tzPrim (fun _ => none) (fun _ => false) seatG seatInv).Ok := stdEnv_ok (by kernel_rfl) tzPrim_ok seatInv_keeps (fun k g h => by cases h) (fun k h => by cases h)
  refine ⟨h.mixed, h.ty, h.fn, h.prim, h.ext, fun k g hg => ?_, h.keeps, h.same, h.meth, h.glob⟩
  obtain ⟨rfl, rfl⟩ := sortPrim_eq hg
  exact ⟨⟨_, Proofs.Tryz.func94, by kernel_rfl, by kernel_rfl⟩, fun args h c v h' c' hp B ρ w args' h1 h2 h3 h4 _ _ => pSorted_ok hp h1 h2 h3 h4⟩
end Go.Xm
