/- HeapPlans: the walk, as the statement's shell wants it. Conditions: none. -/
import Derived.Test.YtfdeihnkoaihfaaBi
import Derived.Test.YtfdeihnkoaihfaaEd
import Derived.Test.YtfdeihnkoaihfaaAr
namespace Go.Xm
theorem f3_true (m : Nat) (hm : 1001 ≤ m) (a : List Hp) (b : Int) (c : List Int) : f3 m a b c = some true := by
  unfold f3 f15
  by_cases ha : a.length > 60
  · rw [dcT (p := ((a.length : Nat) : Int) > 60) (by omega)]; rfl
  · rw [dcF (p := ((a.length : Nat) : Int) > 60) (by omega)]
    by_cases hc : c.length > 60
    · rw [dcT (p := ((c.length : Nat) : Int) > 60) (by omega)]; rfl
    · rw [dcF (p := ((c.length : Nat) : Int) > 60) (by omega)]
      have hl := planR_len a b
      simp only [cond_false, Option.bind_some, f17_eq m hm a (by omega), f18_eq m hm a (by omega), f19_eq m hm a (by omega), f20_same m hm (planR a b).1 (by omega), cond_true, beq_self_eq_true, f21_all m hm a (by omega), f22_all m hm a (by omega), f23_eq m hm a (by omega), f24_eq m hm a (by omega)]
end Go.Xm

namespace Go.Proofs.Ytfdeihnkoaihfaa.heapPlans
open Go.Xm Go.RowKit

theorem walk (v0 : Value) (z0 : List (Int × Int)) (a1 : Int) (v2 : Value) (z2 : List Int) (w : World) (g0 : RowIn w v0 2 (rowC (encQ .i64) z0) z0.length) (_w0 : ∀ z ∈ z0, (Lit.int .i64 z.1).wf = true ∧ (Lit.int .i64 z.2).wf = true) (_w1 : (Lit.int .i64 a1).wf = true) (g2 : RowIn w v2 1 (rowC (encI .i64) z2) z2.length) (_w2 : ∀ z ∈ z2, (Lit.int .i64 z).wf = true) :
    Calls Try.prog 3 #[v0, .int .i64 a1, v2] w fun e w' => e = .returned (.bool true) ∧ Below w.heap.size w w' := by
  have hp : ∀ l : List Value, l.all scal = true → l.all plain = true := fun l h => List.all_eq_true.2 fun v hv => by
    have := List.all_eq_true.1 h v hv
    cases v <;> simp_all [scal, plain]
  exact KC.calls2 (E := E0) (by decide) (by decide) rfl (hp _ (rowC_scal (encQ_ok .i64) z0)) (hp _ (rowC_scal (encI_ok .i64) z2)) rfl (fun z y z1 y1 => f3_ok 1001 z y z1 y1 z0 a1 z2 true (f3_true 1001 (by omega) z0 a1 z2)) w g0 g2 (Nat.zero_le _) trivial

end Go.Proofs.Ytfdeihnkoaihfaa.heapPlans
