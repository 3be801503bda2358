/- The abstract machine at this program: its tables, with slices.Sorted by contract. Conditions: none. -/
import Derived.Test.YtagagpkjlkoieaaCt
import Derived.Test.YtagagpkjlkoieaaMs
import Derived.Test.YtagagpkjlkoieaaChecked
namespace Go.Xm
open Go.RowKit

def anyInv (_ : World) : Prop := True

theorem anyInv_size {w : World} (_ : anyInv w) : 0 ≤ w.heap.size := Nat.zero_le _

noncomputable def sortPrim (k : Nat) : Option (List Value → Heap → Nat → Option (Value × Heap × Nat)) := Bool.casesOn (Nat.beq k 81) none (some pSorted)

theorem sortPrim_eq {k : Nat} {g : List Value → Heap → Nat → Option (Value × Heap × Nat)} (h : sortPrim k = some g) : k = 81 ∧ g = pSorted := by
  unfold sortPrim at h
  cases hb : Nat.beq k 81 with
  | true =>
    rw [hb] at h
    cases h
    exact ⟨Nat.eq_of_beq_eq_true hb, rfl⟩
  | false => rw [hb] at h; cases h

noncomputable def E0 : Env := { stdEnv Proofs.Try.prog (fun _ => none) (fun _ => none) (fun _ => false) 0 anyInv with hprim := sortPrim }

set_option maxRecDepth 20000 in
theorem E0_ok : E0.Ok := by
  have h : (stdEnv Proofs.Try.prog (fun _ => none) (fun _ => none) (fun _ => false) 0 anyInv).Ok := stdEnv_ok (by kernel_rfl) (fun k g h => by cases h) (fun _ _ _ _ => trivial) (fun k g h => by cases h) (fun k h => by cases h)
  refine ⟨h.mixed, h.ty, h.fn, h.prim, h.ext, fun k g hg => ?_, h.keeps, h.same⟩
  obtain ⟨rfl, rfl⟩ := sortPrim_eq hg
  exact ⟨⟨_, Proofs.Try.func81, by kernel_rfl, by kernel_rfl⟩, fun args h c v h' c' hp B ρ w args' h1 h2 h3 h4 _ _ => pSorted_ok hp h1 h2 h3 h4⟩

theorem run0 {n k : Nat} {args : List Value} {v : Value} (hp : args.all plain = true) (h : call E0 n k args = some v) (w : World) :
    Calls Proofs.Try.prog k args.toArray w (fun e w' => e = .returned v ∧ Below w.heap.size w w') :=
  run_ok E0_ok hp rfl rfl rfl h w (Nat.zero_le _) trivial

/-! ### slices.Sorted over the values of a row -/
end Go.Xm
