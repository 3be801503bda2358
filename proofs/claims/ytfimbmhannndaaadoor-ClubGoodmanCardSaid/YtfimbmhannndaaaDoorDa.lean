/- What these functions of the program compute, as functions in Lean, and the proofs that they do: club.within, vitolaref12.in, club.Check, vitolaref12.Check, vitolaref12.sum, club.stands. Conditions: the library's variables hold what their texts lay. -/
import Derived.Test.YtfimbmhannndaaaDoorWa
import Derived.Test.YtfimbmhannndaaaDoorMy
namespace Go.Xm
open Go.RowKit
set_option linter.unusedVariables false
set_option linter.unusedSimpArgs false
set_option maxRecDepth 20000

/-! vitola/club.within -/
noncomputable def f65_C65 : Code := Proofs.Tryd.f65.body.getD .skip

def f65 (m : Nat) (a : Int) (b : Int) (c : Int) : Option (Bool) :=
 cond (decide (b ≤ a)) (
  some (decide (a ≤ c))
 ) (
  some (false)
 )

theorem f65_ok (m : Nat) (a : Int) (b : Int) (c : Int) (o : Bool) (h : f65 m a b c = some o) (w : World) (hI : seatInv w) : Calls Proofs.Tryd.prog 65 #[ii a, ii b, ii c] w fun e w' => e = .returned (.bool o) ∧ Below w.heap.size w w' := by
 refine KC.calls (E := E0) (args := [ii a, ii b, ii c]) (v := .bool o) rfl rfl (KC.bodyN E0_ok (F := Proofs.Tryd.f65) (by kernel_rfl) (code := f65_C65) (by kernel_rfl) (nt := 15) (by kernel_rfl) (rs := [.tmp 6]) (by kernel_rfl) (by kernel_rfl) (σ := [(0, ii a), (1, ii b), (2, ii c)]) (by kernel_rfl) ?_) w (seatInv_size hI) hI
 unfold f65 at h
 refine XQ.seq E0_ok (by kernel_rfl) ?_
 refine XQ.region (by kernel_rfl) ?_
 refine XR.runS E0_ok 1 1 [(0, ii a), (1, ii b), (2, ii c)] rfl (by kernel_rfl) ?_
 refine XR.done (by kernel_rfl) ?_
 show XQ _ _ _ _ _ _ _ _
 refine XQ.seq E0_ok (by kernel_rfl) ?_
 refine XQ.region (by kernel_rfl) ?_
 refine XR.runS E0_ok 1 4 [(0, ii a), (2, ii c), (10, .bool (decide (b ≤ a)))] rfl (by kernel_rfl) ?_
 cases b1 : (decide (b ≤ a) : Bool) with
 | true =>
  have h := cT b1 h
  refine XR.runS E0_ok 1 5 [(6, .bool (decide (a ≤ c)))] rfl (by kernel_rfl) ?_
  refine XR.done (by kernel_rfl) ?_
  show XQ _ _ _ _ _ _ _ _
  refine XQ.ret (by kernel_rfl) ?_
  have h := Option.some.inj h
  subst h
  exact ⟨fun i q => (by cases q), .bool (decide (a ≤ c)), (by kernel_rfl), rfl⟩
 | false =>
  have h := cF b1 h
  refine XR.runS E0_ok 1 5 [(6, .bool false)] rfl (by kernel_rfl) ?_
  refine XR.done (by kernel_rfl) ?_
  show XQ _ _ _ _ _ _ _ _
  refine XQ.ret (by kernel_rfl) ?_
  have h := Option.some.inj h
  subst h
  exact ⟨fun i q => (by cases q), .bool false, (by kernel_rfl), rfl⟩

/-! vitola/vitolaref12.in -/
def f66 (m : Nat) (a : Int) (b : Int) (c : Int) : Option (Bool) :=
 cond (decide (a ≥ b)) (
  some (decide (a ≤ c))
 ) (
  some (false)
 )

/-! vitola/club.Check -/
inductive Of21_1 where
 | r (x4_r1 : Int) (xh1_0_r1 : Int)
 | x0 (xh1_0_x01 : Int)

/-! vitola/vitolaref12.Check -/
inductive Of22_1 where
 | r
 | x0

/-! vitola/vitolaref12.sum -/
/-! vitola/club.stands -/
end Go.Xm
