/- The machine's tables where functions without arguments that return one plain value are told. Conditions: the library's tables lie in their variables. -/
import Derived.Test.YtfgggididakkbaaGreatDoorPa
import Derived.Test.YtfgggididakkbaaGreatDoorTx
import Derived.Test.YtfgggididakkbaaGreatDoorPd
namespace Go.Xm
open Go.RowKit

noncomputable def vPrim (k0 : Nat) (u : Value) (p : Nat → Option (List Value → Option Value)) (k : Nat) : Option (List Value → Option Value) :=
  match Nat.beq k k0 with
  | true => some (fun args => match args with
    | [] => some u
    | _ => none)
  | false => p k

noncomputable def withV (E : Env) (k0 : Nat) (u : Value) : Env := { E with prim := vPrim k0 u E.prim }

theorem withV_ok {E : Env} (hE : E.Ok) {k0 : Nat} {u : Value} {F : Func} (hF : E.fn k0 = some F) (hu : plain u = true) (hw : ∀ w, E.inv w → Calls E.P k0 #[] w (fun e w' => e = .returned u ∧ Below w.heap.size w w')) : (withV E k0 u).Ok := by
  refine ⟨hE.mixed, hE.ty, hE.fn, ?_, hE.ext, hE.hprim, hE.keeps, hE.same, hE.meth, hE.glob⟩
  intro k g hg
  have hg' : vPrim k0 u E.prim k = some g := hg
  unfold vPrim at hg'
  split at hg'
  · rename_i hk
    obtain rfl := Nat.eq_of_beq_eq_true hk
    cases hg'
    refine ⟨⟨F, hE.fn _ F hF⟩, ?_⟩
    intro args v hv
    cases args with
    | nil => cases hv; exact ⟨rfl, hu, hw⟩
    | cons a l => cases hv
  · exact hE.prim k g hg'

noncomputable def Es0 : Env := withV Eb4 26 (.agg (rowC (encI .i64) triL).toArray)
theorem Es0_ok : Es0.Ok := withV_ok Eb4_ok (F := Proofs.Tryz.f26) (by kernel_rfl) (plain_aggl _ _) (fun w hI => tri_ok w hI)

/-- The tables of store. -/
noncomputable def Es : Env := withV Es0 30 (.agg (rowC (encI .i64) endL).toArray)
theorem Es_ok : Es.Ok := withV_ok Es0_ok (F := Proofs.Tryz.f30) (by kernel_rfl) (plain_aggl _ _) (fun w hI => end_ok w hI)

end Go.Xm
