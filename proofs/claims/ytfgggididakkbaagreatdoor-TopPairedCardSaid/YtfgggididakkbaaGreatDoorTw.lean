/- The abstract machine where functions without arguments that return true are told by contract. Conditions: none; nothing here speaks of one program. -/
import Derived.Test.YtfgggididakkbaaGreatDoorMj
namespace Go.Xm
open Go.RowKit

noncomputable def wPrim (k0 : Nat) (p : Nat → Option (List Value → Option Value)) (k : Nat) : Option (List Value → Option Value) :=
  match Nat.beq k k0 with
  | true => some (fun args => match args with
    | [] => some (.bool true)
    | _ => none)
  | false => p k

noncomputable def withW (E : Env) (k0 : Nat) : Env := { E with prim := wPrim k0 E.prim }

theorem withW_ok {E : Env} (hE : E.Ok) {k0 : Nat} {F : Func} (hF : E.fn k0 = some F) (hw : ∀ w, E.inv w → Calls E.P k0 #[] w (fun e w' => e = .returned (.bool true) ∧ Below w.heap.size w w')) : (withW E k0).Ok := by
  refine ⟨hE.mixed, hE.ty, hE.fn, ?_, hE.ext, hE.hprim, hE.keeps, hE.same, hE.meth, hE.glob⟩
  intro k g hg
  have hg' : wPrim k0 E.prim k = some g := hg
  unfold wPrim at hg'
  split at hg'
  · rename_i hk
    obtain rfl := Nat.eq_of_beq_eq_true hk
    cases hg'
    refine ⟨⟨F, hE.fn _ F hF⟩, ?_⟩
    intro args v hv
    cases args with
    | nil => cases hv; exact ⟨rfl, rfl, hw⟩
    | cons a l => cases hv
  · exact hE.prim k g hg'

/-- A run of a function without arguments. -/
theorem runW {E : Env} (hE : E.Ok) {n k : Nat} (hk : (E.prim k).isNone = true) (hk2 : (E.ext k).isNone = true) (hk3 : E.same k = false) (h : call (fastEnv E) n k [] = some (.bool true)) (hG : ∀ w, E.inv w → E.G ≤ w.heap.size) (w : World) (hI : E.inv w) :
    Calls E.P k #[] w (fun e w' => e = .returned (.bool true) ∧ Below w.heap.size w w') :=
  run_ok (fastEnv_ok hE) (args := []) rfl hk hk2 hk3 h w (hG w hI) hI

end Go.Xm
