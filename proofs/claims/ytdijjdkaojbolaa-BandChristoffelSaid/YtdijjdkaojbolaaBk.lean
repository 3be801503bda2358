/- The examples of the chapter on bands hold: the function 'works' returns true; the machine's tables with this known. Conditions: the library's variable MaxLen holds some int. -/
import Derived.Test.YtdijjdkaojbolaaBe
namespace Go.Xm
open Go.RowKit

theorem works_ok (w : World) (hI : maxInv w) : Calls Proofs.Try.prog 12 #[] w fun e w' => e = .returned (.bool true) ∧ Below w.heap.size w w' :=
  run0 (n := 100000) (args := []) rfl rfl rfl (by kernel_rfl) w hI

def pTrue (args : List Value) : Option Value :=
  match args with
  | [] => some (.bool true)
  | _ => none

def lawPrim (k : Nat) : Option (List Value → Option Value) :=
  match Nat.beq k 12 with
  | true => some pTrue
  | false => strPrim k

theorem lawPrim_ok : ∀ k g, lawPrim k = some g → (∃ F, Proofs.Try.prog.funcs[k]? = some F ∧ (F.name == "runtime.NumGoroutine") = false ∧ F.body.isSome = true) ∧
    ∀ args v, g args = some v → args.all plain = true ∧ plain v = true ∧ ∀ w, maxInv w → Calls Proofs.Try.prog k args.toArray w (fun e w' => e = .returned v ∧ Below w.heap.size w w') := by
  intro k g h
  unfold lawPrim at h
  split at h
  · rename_i hk
    have hk := Nat.eq_of_beq_eq_true hk
    subst hk
    cases h
    refine ⟨⟨_, Proofs.Try.func12, by kernel_rfl, by kernel_rfl⟩, ?_⟩
    intro args v hv
    unfold pTrue at hv
    split at hv
    · cases hv
      exact ⟨rfl, rfl, works_ok⟩
    · cases hv
  · exact strPrim_ok k g h

noncomputable def E1 : Env := stdEnv Proofs.Try.prog lawPrim (fun _ => none) sameFn (0 + 1) maxInv

theorem E1_ok : E1.Ok := stdEnv_ok (by kernel_rfl) lawPrim_ok maxInv_keeps (fun k g h => by cases h) sameFn_ok

theorem run1 {n k : Nat} {args : List Value} {v : Value} (hp : args.all plain = true) (hk : (lawPrim k).isNone = true) (hk3 : sameFn k = false) (h : call E1 n k args = some v) (w : World) (hI : maxInv w) :
    Calls Proofs.Try.prog k args.toArray w (fun e w' => e = .returned v ∧ Below w.heap.size w w') :=
  run_ok E1_ok hp hk rfl hk3 h w (maxInv_size hI) hI

#print axioms run1
end Go.Xm
