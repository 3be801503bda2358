/- The methods of what becomes of a cart, in the machine's tables. Conditions: the library's tables lie in their variables. -/
import Derived.Test.YtcpagojealaigaaGreatDoorWa
import Derived.Test.YtcpagojealaigaaGreatDoorTm
namespace Go.Xm
open Go.RowKit

theorem meth125 (v : Value) (args : Array Value) (w : World) : (callMethod (.iface 168 v) "vitola/dock.counts" args).run Proofs.Tryz.prog w = (callFunc 181 (#[v] ++ args)).run Proofs.Tryz.prog w := by kernel_rfl
theorem meth127 (v : Value) (args : Array Value) (w : World) : (callMethod (.iface 170 v) "vitola/dock.counts" args).run Proofs.Tryz.prog w = (callFunc 182 (#[v] ++ args)).run Proofs.Tryz.prog w := by kernel_rfl

def methT (name : String) : List (Nat × Nat) :=
  match name == "vitola/dock.counts" with
  | true => [(168, 181), (170, 182)]
  | false => []

theorem methT_ok (name : String) (t k : Nat) (hm : (t, k) ∈ methT name) (v : Value) (args : Array Value) (w : World) : (callMethod (.iface t v) name args).run Proofs.Tryz.prog w = (callFunc k (#[v] ++ args)).run Proofs.Tryz.prog w := by
  unfold methT at hm
  split at hm
  · rename_i hn
    have hn : name = "vitola/dock.counts" := by simpa using hn
    subst hn
    simp only [List.mem_cons, Prod.mk.injEq, List.not_mem_nil, or_false] at hm
    rcases hm with ⟨rfl, rfl⟩ | ⟨rfl, rfl⟩
    · exact meth125 v args w
    · exact meth127 v args w
  · cases hm

noncomputable def Em : Env := { E1 with meth := methT }
set_option maxRecDepth 20000 in
theorem Em_ok : Em.Ok := by
  have h := E1_ok
  exact ⟨h.mixed, h.ty, h.fn, h.prim, h.ext, h.hprim, h.keeps, h.same, methT_ok, h.glob⟩

end Go.Xm
