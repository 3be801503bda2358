/- Calls that read one row and are told by a table. Conditions: none. -/
import Derived.Test.YtlfobnldaneccaaGreatDoorMx
import Derived.Test.YtlfobnldaneccaaGreatDoorTw
import Derived.Test.YtlfobnldaneccaaGreatDoorWa
namespace Go.Xm
open Go.RowKit
set_option linter.unusedVariables false
set_option linter.unusedSimpArgs false
noncomputable def callH (E : Env) (n K : Nat) (args : List Value) (h : Heap) (c : Nat) : Option Value :=
  match callF E (exec E n) K args h c with
  | some (v, _, _) => some v
  | none => none
theorem KC.run {E : Env} (hE : E.Ok) {K n : Nat} {F : Func} (hF : E.fn K = some F) {args : List Value} {h : Heap} {c : Nat} {v : Value} (hx : callH E n K args h c = some v) : KC E K args h c (fun v1 _ _ => v1 = v) := by
  unfold callH at hx
  split at hx
  · rename_i v0 h0 c0 hr
    cases hx
    intro B ρ w args' h1 h2 h3 h4 h5 h6
    obtain ⟨f1, f2, f3⟩ := hE.fn K F hF
    rcases callF_ok hE (exec_ok hE n).1 K args h c _ _ _ hr B ρ w args' h1 h2 h3 h4 h5 h6 with ⟨v', q, _⟩ | ⟨q1, q2⟩
    · rw [run_callFunc_go f1 f2 f3 _ w] at q
      cases q
    · refine ⟨q1, q2.mono ?_⟩
      rintro e w' ⟨v', ρ', rfl, p1, p2, p3, p4, p5⟩
      exact ⟨_, v', ρ', _, _, rfl, p1, p2, p3, p4, p5, rfl⟩
  · cases hx
theorem KC.fast {E : Env} {K : Nat} {args : List Value} {h : Heap} {c : Nat} {R : Value → Heap → Nat → Prop} (hx : KC (fastEnv E) K args h c R) : KC E K args h c R := hx
theorem KQ.sub {E : Env} {K : Nat} {args : List Value} {h : Heap} {b : Nat} {o : XObj} {V : Value} (hb : hget h b = some o) (hx : KQ E K args [(b, o)] V) : KQ E K args h V := by
  intro B ρ w args' h1 h2 h3 h4 w' h5
  refine hx B ρ w args' h1 (h2.sub (fun i o' q => ?_)) h3 h4 w' h5
  rw [hget_cons] at q
  by_cases e : b = i
  · rw [if_pos e] at q
    subst e
    rw [hb]; exact q
  · rw [if_neg e] at q
    cases q
end Go.Xm
namespace Go.Xm
open Go.RowKit
theorem meth125 (v : Value) (args : Array Value) (w : World) : (callMethod (.iface 56 v) "vitola/dock.counts" args).run Proofs.Tryz.prog w = (callFunc 186 (#[v] ++ args)).run Proofs.Tryz.prog w := by kernel_rfl
theorem meth127 (v : Value) (args : Array Value) (w : World) : (callMethod (.iface 58 v) "vitola/dock.counts" args).run Proofs.Tryz.prog w = (callFunc 187 (#[v] ++ args)).run Proofs.Tryz.prog w := by kernel_rfl
def methT (name : String) : List (Nat × Nat) :=
  match name == "vitola/dock.counts" with
  | true => [(56, 186), (58, 187)]
  | false => []
theorem methT_ok (name : String) (t k : Nat) (hm : (t, k) ∈ methT name) (v : Value) (args : Array Value) (w : World) : (callMethod (.iface t v) name args).run Proofs.Tryz.prog w = (callFunc k (#[v] ++ args)).run Proofs.Tryz.prog w := by
  unfold methT at hm
  split at hm
  · rename_i hn
    have hn : name = "vitola/dock.counts" := by simpa using hn
    subst hn
    simp only [List.mem_cons, Prod.mk.injEq, List.not_mem_nil, or_false] at hm
    rcases hm with ⟨rfl, rfl⟩ | ⟨rfl, rfl⟩
    · exact meth125 v args w
    · exact meth127 v args w
  · cases hm
noncomputable def Em : Env := { E1 with meth := methT }
set_option maxRecDepth 20000 in
theorem Em_ok : Em.Ok := by
  have h := E1_ok
  exact ⟨h.mixed, h.ty, h.fn, h.prim, h.ext, h.hprim, h.keeps, h.same, methT_ok, h.glob⟩
end Go.Xm
namespace Go.Xm
open Go.RowKit
theorem rooms_ok (w : World) (hI : seatInv w) : Calls Proofs.Tryz.prog 22 #[] w fun e w' => e = .returned (.bool true) ∧ Below w.heap.size w w' :=
  runW (n := 100000) Em_ok rfl rfl rfl (by kernel_rfl) (fun _ h => seatInv_size h) w hI
end Go.Xm
