/- The abstract machine at this program: its tables. Conditions: none. -/
import Derived.Test.YtfdeihnkoaihfaaMx
import Derived.Test.YtfdeihnkoaihfaaChecked
namespace Go.Xm
open Go.RowKit

def anyInv (_ : World) : Prop := True

theorem anyInv_size {w : World} (_ : anyInv w) : 0 ≤ w.heap.size := Nat.zero_le _

noncomputable def E0 : Env := stdEnv Proofs.Try.prog (fun _ => none) (fun _ => none) (fun _ => false) 0 anyInv

theorem E0_ok : E0.Ok := stdEnv_ok (by kernel_rfl) (fun k g h => by cases h) (fun _ _ _ _ => trivial) (fun k g h => by cases h) (fun k h => by cases h)

theorem run0 {n k : Nat} {args : List Value} {v : Value} (hp : args.all plain = true) (h : call E0 n k args = some v) (w : World) :
    Calls Proofs.Try.prog k args.toArray w (fun e w' => e = .returned v ∧ Below w.heap.size w w') :=
  run_ok E0_ok hp rfl rfl rfl h w (Nat.zero_le _) trivial

/-- The same, where append keeps what was. -/
theorem run1 {n k : Nat} {args : List Value} {v : Value} (hp : args.all plain = true) (h : call (keepEnv E0) n k args = some v) (w : World) :
    Calls Proofs.Try.prog k args.toArray w (fun e w' => e = .returned v ∧ Below w.heap.size w w') :=
  run_ok (keepEnv_ok E0_ok) hp rfl rfl rfl h w (Nat.zero_le _) trivial

#print axioms run0
end Go.Xm
