/- The abstract machine at this program: its tables. Conditions: none. -/
import Derived.Test.YtfdeihnkoaihfaaMx
import Derived.Test.YtfdeihnkoaihfaaChecked
namespace Go.Xm
open Go.RowKit
def anyInv (_ : World) : Prop := True
theorem anyInv_size {w : World} (_ : anyInv w) : 0 ≤ w.heap.size := Nat.zero_le _
noncomputable def E0 : Env := stdEnv Proofs.Try.prog (fun _ => none) (fun _ => none) (fun _ => false) 0 anyInv
theorem E0_ok : E0.Ok := stdEnv_ok (by kernel_rfl) (fun k g h => by cases h) (fun _ _ _ _ => trivial) (fun k g h => by cases h) (fun k h => by cases h)
theorem run1 {n k : Nat} {args : List Value} {v : Value} (hp : args.all plain = true) (h : call (keepEnv E0) n k args = some v) (w : World) :
  Calls Proofs.Try.prog k args.toArray w (fun e w' => e = .returned v ∧ Below w.heap.size w w') :=
 run_ok (keepEnv_ok E0_ok) hp rfl rfl rfl h w (Nat.zero_le _) trivial
end Go.Xm
namespace Go.Xm
open Go.RowKit
theorem works_ok (w : World) (_ : anyInv w) : Calls Proofs.Try.prog 16 #[] w fun e w' => e = .returned (.bool true) ∧ Below w.heap.size w w' :=
 run1 (n := 100000) (args := []) rfl (by kernel_rfl) w
end Go.Xm
