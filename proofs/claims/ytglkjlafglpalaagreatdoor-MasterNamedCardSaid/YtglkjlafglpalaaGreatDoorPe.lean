/- What functions of the program compute, and the proofs. Conditions: the library's variables hold what their texts lay. -/
import Derived.Test.YtglkjlafglpalaaGreatDoorWe
import Derived.Test.YtglkjlafglpalaaGreatDoorEu
import Derived.Test.YtglkjlafglpalaaGreatDoorPd
namespace Go.Xm
open Go.RowKit
set_option linter.unusedVariables false
set_option linter.unusedSimpArgs false
set_option maxRecDepth 20000
set_option maxHeartbeats 4000000
abbrev qPe0 : Nat × XObj := (5, .cells [.map (some 1)] 0 45 0)
noncomputable def f126_C126 : Code := Proofs.Tryz.f126.body.getD .skip
noncomputable def f126_C162 : Code := Proofs.Tryz.f162.body.getD .skip
abbrev aPe0 := (bs [0, 1, 2, 2, 3, 3, 3, 3, 4, 4, 4, 4, 4, 4, 4, 4, 5, 5, 5, 5, 5, 5, 5, 5, 5, 5, 5, 5, 5, 5, 5, 5, 6, 6, 6, 6, 6, 6, 6, 6, 6, 6, 6, 6, 6, 6, 6, 6, 6, 6, 6, 6, 6, 6, 6, 6, 6, 6, 6, 6, 6, 6, 6, 6, 7, 7, 7, 7, 7, 7, 7, 7, 7, 7, 7, 7, 7, 7, 7, 7, 7, 7, 7, 7, 7, 7, 7, 7, 7, 7, 7, 7, 7, 7, 7, 7, 7, 7, 7, 7, 7, 7, 7, 7, 7, 7, 7, 7, 7, 7, 7, 7, 7, 7, 7, 7, 7, 7, 7, 7, 7, 7, 7, 7, 7, 7, 7, 7, 8, 8, 8, 8, 8, 8, 8, 8, 8, 8, 8, 8, 8, 8, 8, 8, 8, 8, 8, 8, 8, 8, 8, 8, 8, 8, 8, 8, 8, 8, 8, 8, 8, 8, 8, 8, 8, 8, 8, 8, 8, 8, 8, 8, 8, 8, 8, 8, 8, 8, 8, 8, 8, 8, 8, 8, 8, 8, 8, 8, 8, 8, 8, 8, 8, 8, 8, 8, 8, 8, 8, 8, 8, 8, 8, 8, 8, 8, 8, 8, 8, 8, 8, 8, 8, 8, 8, 8, 8, 8, 8, 8, 8, 8, 8, 8, 8, 8, 8, 8, 8, 8, 8, 8, 8, 8, 8, 8, 8, 8, 8, 8, 8, 8, 8, 8, 8, 8, 8, 8, 8, 8, 8, 8, 8, 8, 8, 8])
abbrev aPe2 (a : Int) := (shV false .u64 a 32)
def f126 (m : Nat) (a : Int) : Option (Int) :=
 cond (inRow (IntKind.wrap .u8 (cond (decide ((cond (decide ((cond (decide (a ≥ 4294967296)) (aPe2 a) a : Int) ≥ 65536)) (shV false .u64 (cond (decide (a ≥ 4294967296)) (aPe2 a) a) 16) (cond (decide (a ≥ 4294967296)) (aPe2 a) a) : Int) ≥ 256)) (shV false .u64 (cond (decide ((cond (decide (a ≥ 4294967296)) (aPe2 a) a : Int) ≥ 65536)) (shV false .u64 (cond (decide (a ≥ 4294967296)) (aPe2 a) a) 16) (cond (decide (a ≥ 4294967296)) (aPe2 a) a)) 8) (cond (decide ((cond (decide (a ≥ 4294967296)) (aPe2 a) a : Int) ≥ 65536)) (shV false .u64 (cond (decide (a ≥ 4294967296)) (aPe2 a) a) 16) (cond (decide (a ≥ 4294967296)) (aPe2 a) a)))) aPe0.size) (
  some (w64 ((cond (decide ((cond (decide ((cond (decide (a ≥ 4294967296)) (aPe2 a) a : Int) ≥ 65536)) (shV false .u64 (cond (decide (a ≥ 4294967296)) (aPe2 a) a) 16) (cond (decide (a ≥ 4294967296)) (aPe2 a) a) : Int) ≥ 256)) (w64 ((cond (decide ((cond (decide (a ≥ 4294967296)) (aPe2 a) a : Int) ≥ 65536)) (w64 ((cond (decide (a ≥ 4294967296)) 32 0) + 16)) (cond (decide (a ≥ 4294967296)) 32 0)) + 8)) (cond (decide ((cond (decide (a ≥ 4294967296)) (aPe2 a) a : Int) ≥ 65536)) (w64 ((cond (decide (a ≥ 4294967296)) 32 0) + 16)) (cond (decide (a ≥ 4294967296)) 32 0))) + (w64 (byteAt aPe0 (IntKind.wrap .u8 (cond (decide ((cond (decide ((cond (decide (a ≥ 4294967296)) (aPe2 a) a : Int) ≥ 65536)) (shV false .u64 (cond (decide (a ≥ 4294967296)) (aPe2 a) a) 16) (cond (decide (a ≥ 4294967296)) (aPe2 a) a) : Int) ≥ 256)) (shV false .u64 (cond (decide ((cond (decide (a ≥ 4294967296)) (aPe2 a) a : Int) ≥ 65536)) (shV false .u64 (cond (decide (a ≥ 4294967296)) (aPe2 a) a) 16) (cond (decide (a ≥ 4294967296)) (aPe2 a) a)) 8) (cond (decide ((cond (decide (a ≥ 4294967296)) (aPe2 a) a : Int) ≥ 65536)) (shV false .u64 (cond (decide (a ≥ 4294967296)) (aPe2 a) a) 16) (cond (decide (a ≥ 4294967296)) (aPe2 a) a))))))))
 ) none
theorem f126_ok (m : Nat) (a : Int) (o : Int) (h : f126 m a = some o) (w : World) (hI : maInv w) : Calls Proofs.Tryz.prog 126 #[.int .u64 a] w fun e w' => e = .returned (ii o) ∧ Below w.heap.size w w' := by
 refine KC.calls (E := E0) (args := [.int .u64 a]) (v := ii o) rfl rfl (KC.bodyN E0_ok (F := Proofs.Tryz.f126) (by kernel_rfl) (code := f126_C126) (by kernel_rfl) (nt := 8) (by kernel_rfl) (rs := [.tmp 2]) (by kernel_rfl) (by kernel_rfl) (σ := [(0, .int .u64 a)]) (by kernel_rfl) ?_) w (maInv_size hI) hI
 unfold f126 at h
 refine qE 1 [(0, .int .u64 a)] id ?_
 refine sQ ?_
 refine XQ.cond (s := (.const (.bool false))) (b := false) (by kernel_rfl) (by kernel_rfl) (fun q => by cases q) (fun _ => ?_)
 refine kQ ?_
 show XQ _ _ _ _ _ _ _ _
 refine qQ ?_
 refine rS 1 [(6, .int .u64 a)] ?_
 refine cK [7] 162 [.int .u64 a] 7 ?_
 refine kN Proofs.Tryz.f162 f126_C162 25 [.tmp 2] ?_
 refine qE 1 [(0, .int .u64 a), (2, ii 0)] id ?_
 refine sQ ?_
 refine qE 2 [(0, .int .u64 a), (2, ii 0), (4, .bool (decide (a ≥ 4294967296)))] id ?_
 refine XQ.meetC (σ' := [(0, .int .u64 (cond (decide (a ≥ 4294967296)) (aPe2 a) a)), (2, ii (cond (decide (a ≥ 4294967296)) 32 0))]) (h' := []) (c' := 0) ?_ ?_
 rotate_left
 ·refine XQ.cond (s := (.tmp 4)) (b := decide (a ≥ 4294967296)) (by kernel_rfl) (by kernel_rfl) (fun b1 => ?_) (fun b1 => ?_)
  ·refine qE 3 [(0, .int .u64 (aPe2 a))] id ?_
   refine rQ ?_
   refine rS 1 [(0, .int .u64 (aPe2 a)), (2, ii 32)] ?_
   refine dQ ?_
   refine ⟨rfl, ?_, ?_⟩ <;> (try rw [b1]) <;> first | kernel_rfl | and_intros <;> first | kernel_rfl | trivial
  ·refine kQ ?_
   refine ⟨rfl, ?_, ?_⟩ <;> (try rw [b1]) <;> first | kernel_rfl | and_intros <;> first | kernel_rfl | trivial
 show XQ _ _ _ _ _ _ _ _
 refine sQ ?_
 refine qE 2 [(0, .int .u64 (cond (decide (a ≥ 4294967296)) (aPe2 a) a)), (2, ii (cond (decide (a ≥ 4294967296)) 32 0)), (8, .bool (decide ((cond (decide (a ≥ 4294967296)) (aPe2 a) a : Int) ≥ 65536)))] id ?_
 refine XQ.meetC (σ' := [(0, .int .u64 (cond (decide ((cond (decide (a ≥ 4294967296)) (aPe2 a) a : Int) ≥ 65536)) (shV false .u64 (cond (decide (a ≥ 4294967296)) (aPe2 a) a) 16) (cond (decide (a ≥ 4294967296)) (aPe2 a) a))), (2, ii (cond (decide ((cond (decide (a ≥ 4294967296)) (aPe2 a) a : Int) ≥ 65536)) (w64 ((cond (decide (a ≥ 4294967296)) 32 0) + 16)) (cond (decide (a ≥ 4294967296)) 32 0)))]) (h' := []) (c' := 0) ?_ ?_
 rotate_left
 ·refine XQ.cond (s := (.tmp 8)) (b := decide ((cond (decide (a ≥ 4294967296)) (aPe2 a) a : Int) ≥ 65536)) (by kernel_rfl) (by kernel_rfl) (fun b2 => ?_) (fun b2 => ?_)
  ·refine qE 3 [(0, .int .u64 (shV false .u64 (cond (decide (a ≥ 4294967296)) (aPe2 a) a) 16)), (2, ii (cond (decide (a ≥ 4294967296)) 32 0))] id ?_
   refine rQ ?_
   refine rS 3 [(0, .int .u64 (shV false .u64 (cond (decide (a ≥ 4294967296)) (aPe2 a) a) 16)), (2, ii (w64 ((cond (decide (a ≥ 4294967296)) 32 0) + 16)))] ?_
   refine dQ ?_
   refine ⟨rfl, ?_, ?_⟩ <;> (try rw [b2]) <;> first | kernel_rfl | and_intros <;> first | kernel_rfl | trivial
  ·refine kQ ?_
   refine ⟨rfl, ?_, ?_⟩ <;> (try rw [b2]) <;> first | kernel_rfl | and_intros <;> first | kernel_rfl | trivial
 show XQ _ _ _ _ _ _ _ _
 refine sQ ?_
 refine qE 2 [(0, .int .u64 (cond (decide ((cond (decide (a ≥ 4294967296)) (aPe2 a) a : Int) ≥ 65536)) (shV false .u64 (cond (decide (a ≥ 4294967296)) (aPe2 a) a) 16) (cond (decide (a ≥ 4294967296)) (aPe2 a) a))), (2, ii (cond (decide ((cond (decide (a ≥ 4294967296)) (aPe2 a) a : Int) ≥ 65536)) (w64 ((cond (decide (a ≥ 4294967296)) 32 0) + 16)) (cond (decide (a ≥ 4294967296)) 32 0))), (14, .bool (decide ((cond (decide ((cond (decide (a ≥ 4294967296)) (aPe2 a) a : Int) ≥ 65536)) (shV false .u64 (cond (decide (a ≥ 4294967296)) (aPe2 a) a) 16) (cond (decide (a ≥ 4294967296)) (aPe2 a) a) : Int) ≥ 256)))] id ?_
 refine XQ.meetC (σ' := [(0, .int .u64 (cond (decide ((cond (decide ((cond (decide (a ≥ 4294967296)) (aPe2 a) a : Int) ≥ 65536)) (shV false .u64 (cond (decide (a ≥ 4294967296)) (aPe2 a) a) 16) (cond (decide (a ≥ 4294967296)) (aPe2 a) a) : Int) ≥ 256)) (shV false .u64 (cond (decide ((cond (decide (a ≥ 4294967296)) (aPe2 a) a : Int) ≥ 65536)) (shV false .u64 (cond (decide (a ≥ 4294967296)) (aPe2 a) a) 16) (cond (decide (a ≥ 4294967296)) (aPe2 a) a)) 8) (cond (decide ((cond (decide (a ≥ 4294967296)) (aPe2 a) a : Int) ≥ 65536)) (shV false .u64 (cond (decide (a ≥ 4294967296)) (aPe2 a) a) 16) (cond (decide (a ≥ 4294967296)) (aPe2 a) a)))), (2, ii (cond (decide ((cond (decide ((cond (decide (a ≥ 4294967296)) (aPe2 a) a : Int) ≥ 65536)) (shV false .u64 (cond (decide (a ≥ 4294967296)) (aPe2 a) a) 16) (cond (decide (a ≥ 4294967296)) (aPe2 a) a) : Int) ≥ 256)) (w64 ((cond (decide ((cond (decide (a ≥ 4294967296)) (aPe2 a) a : Int) ≥ 65536)) (w64 ((cond (decide (a ≥ 4294967296)) 32 0) + 16)) (cond (decide (a ≥ 4294967296)) 32 0)) + 8)) (cond (decide ((cond (decide (a ≥ 4294967296)) (aPe2 a) a : Int) ≥ 65536)) (w64 ((cond (decide (a ≥ 4294967296)) 32 0) + 16)) (cond (decide (a ≥ 4294967296)) 32 0))))]) (h' := []) (c' := 0) ?_ ?_
 rotate_left
 ·refine XQ.cond (s := (.tmp 14)) (b := decide ((cond (decide ((cond (decide (a ≥ 4294967296)) (aPe2 a) a : Int) ≥ 65536)) (shV false .u64 (cond (decide (a ≥ 4294967296)) (aPe2 a) a) 16) (cond (decide (a ≥ 4294967296)) (aPe2 a) a) : Int) ≥ 256)) (by kernel_rfl) (by kernel_rfl) (fun b3 => ?_) (fun b3 => ?_)
  ·refine qE 3 [(0, .int .u64 (shV false .u64 (cond (decide ((cond (decide (a ≥ 4294967296)) (aPe2 a) a : Int) ≥ 65536)) (shV false .u64 (cond (decide (a ≥ 4294967296)) (aPe2 a) a) 16) (cond (decide (a ≥ 4294967296)) (aPe2 a) a)) 8)), (2, ii (cond (decide ((cond (decide (a ≥ 4294967296)) (aPe2 a) a : Int) ≥ 65536)) (w64 ((cond (decide (a ≥ 4294967296)) 32 0) + 16)) (cond (decide (a ≥ 4294967296)) 32 0)))] id ?_
   refine rQ ?_
   refine rS 3 [(0, .int .u64 (shV false .u64 (cond (decide ((cond (decide (a ≥ 4294967296)) (aPe2 a) a : Int) ≥ 65536)) (shV false .u64 (cond (decide (a ≥ 4294967296)) (aPe2 a) a) 16) (cond (decide (a ≥ 4294967296)) (aPe2 a) a)) 8)), (2, ii (w64 ((cond (decide ((cond (decide (a ≥ 4294967296)) (aPe2 a) a : Int) ≥ 65536)) (w64 ((cond (decide (a ≥ 4294967296)) 32 0) + 16)) (cond (decide (a ≥ 4294967296)) 32 0)) + 8)))] ?_
   refine dQ ?_
   refine ⟨rfl, ?_, ?_⟩ <;> (try rw [b3]) <;> first | kernel_rfl | and_intros <;> first | kernel_rfl | trivial
  ·refine kQ ?_
   refine ⟨rfl, ?_, ?_⟩ <;> (try rw [b3]) <;> first | kernel_rfl | and_intros <;> first | kernel_rfl | trivial
 show XQ _ _ _ _ _ _ _ _
 refine qQ ?_
 refine rS 3 [(19, ii (cond (decide ((cond (decide ((cond (decide (a ≥ 4294967296)) (aPe2 a) a : Int) ≥ 65536)) (shV false .u64 (cond (decide (a ≥ 4294967296)) (aPe2 a) a) 16) (cond (decide (a ≥ 4294967296)) (aPe2 a) a) : Int) ≥ 256)) (w64 ((cond (decide ((cond (decide (a ≥ 4294967296)) (aPe2 a) a : Int) ≥ 65536)) (w64 ((cond (decide (a ≥ 4294967296)) 32 0) + 16)) (cond (decide (a ≥ 4294967296)) 32 0)) + 8)) (cond (decide ((cond (decide (a ≥ 4294967296)) (aPe2 a) a : Int) ≥ 65536)) (w64 ((cond (decide (a ≥ 4294967296)) 32 0) + 16)) (cond (decide (a ≥ 4294967296)) 32 0)))), (21, .int .u8 (IntKind.wrap .u8 (cond (decide ((cond (decide ((cond (decide (a ≥ 4294967296)) (aPe2 a) a : Int) ≥ 65536)) (shV false .u64 (cond (decide (a ≥ 4294967296)) (aPe2 a) a) 16) (cond (decide (a ≥ 4294967296)) (aPe2 a) a) : Int) ≥ 256)) (shV false .u64 (cond (decide ((cond (decide (a ≥ 4294967296)) (aPe2 a) a : Int) ≥ 65536)) (shV false .u64 (cond (decide (a ≥ 4294967296)) (aPe2 a) a) 16) (cond (decide (a ≥ 4294967296)) (aPe2 a) a)) 8) (cond (decide ((cond (decide (a ≥ 4294967296)) (aPe2 a) a : Int) ≥ 65536)) (shV false .u64 (cond (decide (a ≥ 4294967296)) (aPe2 a) a) 16) (cond (decide (a ≥ 4294967296)) (aPe2 a) a)))))] ?_
 obtain ⟨b4, h⟩ := oC h
 refine rR (.int .u8 (byteAt aPe0 (IntKind.wrap .u8 (cond (decide ((cond (decide ((cond (decide (a ≥ 4294967296)) (aPe2 a) a : Int) ≥ 65536)) (shV false .u64 (cond (decide (a ≥ 4294967296)) (aPe2 a) a) 16) (cond (decide (a ≥ 4294967296)) (aPe2 a) a) : Int) ≥ 256)) (shV false .u64 (cond (decide ((cond (decide (a ≥ 4294967296)) (aPe2 a) a : Int) ≥ 65536)) (shV false .u64 (cond (decide (a ≥ 4294967296)) (aPe2 a) a) 16) (cond (decide (a ≥ 4294967296)) (aPe2 a) a)) 8) (cond (decide ((cond (decide (a ≥ 4294967296)) (aPe2 a) a : Int) ≥ 65536)) (shV false .u64 (cond (decide (a ≥ 4294967296)) (aPe2 a) a) 16) (cond (decide (a ≥ 4294967296)) (aPe2 a) a)))))) (mR b4) [(19, ii (cond (decide ((cond (decide ((cond (decide (a ≥ 4294967296)) (aPe2 a) a : Int) ≥ 65536)) (shV false .u64 (cond (decide (a ≥ 4294967296)) (aPe2 a) a) 16) (cond (decide (a ≥ 4294967296)) (aPe2 a) a) : Int) ≥ 256)) (w64 ((cond (decide ((cond (decide (a ≥ 4294967296)) (aPe2 a) a : Int) ≥ 65536)) (w64 ((cond (decide (a ≥ 4294967296)) 32 0) + 16)) (cond (decide (a ≥ 4294967296)) 32 0)) + 8)) (cond (decide ((cond (decide (a ≥ 4294967296)) (aPe2 a) a : Int) ≥ 65536)) (w64 ((cond (decide (a ≥ 4294967296)) 32 0) + 16)) (cond (decide (a ≥ 4294967296)) 32 0)))), (22, .int .u8 (byteAt aPe0 (IntKind.wrap .u8 (cond (decide ((cond (decide ((cond (decide (a ≥ 4294967296)) (aPe2 a) a : Int) ≥ 65536)) (shV false .u64 (cond (decide (a ≥ 4294967296)) (aPe2 a) a) 16) (cond (decide (a ≥ 4294967296)) (aPe2 a) a) : Int) ≥ 256)) (shV false .u64 (cond (decide ((cond (decide (a ≥ 4294967296)) (aPe2 a) a : Int) ≥ 65536)) (shV false .u64 (cond (decide (a ≥ 4294967296)) (aPe2 a) a) 16) (cond (decide (a ≥ 4294967296)) (aPe2 a) a)) 8) (cond (decide ((cond (decide (a ≥ 4294967296)) (aPe2 a) a : Int) ≥ 65536)) (shV false .u64 (cond (decide (a ≥ 4294967296)) (aPe2 a) a) 16) (cond (decide (a ≥ 4294967296)) (aPe2 a) a))))))] ?_
 refine rE 3 [(2, ii (w64 ((cond (decide ((cond (decide ((cond (decide (a ≥ 4294967296)) (aPe2 a) a : Int) ≥ 65536)) (shV false .u64 (cond (decide (a ≥ 4294967296)) (aPe2 a) a) 16) (cond (decide (a ≥ 4294967296)) (aPe2 a) a) : Int) ≥ 256)) (w64 ((cond (decide ((cond (decide (a ≥ 4294967296)) (aPe2 a) a : Int) ≥ 65536)) (w64 ((cond (decide (a ≥ 4294967296)) 32 0) + 16)) (cond (decide (a ≥ 4294967296)) 32 0)) + 8)) (cond (decide ((cond (decide (a ≥ 4294967296)) (aPe2 a) a : Int) ≥ 65536)) (w64 ((cond (decide (a ≥ 4294967296)) 32 0) + 16)) (cond (decide (a ≥ 4294967296)) 32 0))) + (w64 (byteAt aPe0 (IntKind.wrap .u8 (cond (decide ((cond (decide ((cond (decide (a ≥ 4294967296)) (aPe2 a) a : Int) ≥ 65536)) (shV false .u64 (cond (decide (a ≥ 4294967296)) (aPe2 a) a) 16) (cond (decide (a ≥ 4294967296)) (aPe2 a) a) : Int) ≥ 256)) (shV false .u64 (cond (decide ((cond (decide (a ≥ 4294967296)) (aPe2 a) a : Int) ≥ 65536)) (shV false .u64 (cond (decide (a ≥ 4294967296)) (aPe2 a) a) 16) (cond (decide (a ≥ 4294967296)) (aPe2 a) a)) 8) (cond (decide ((cond (decide (a ≥ 4294967296)) (aPe2 a) a : Int) ≥ 65536)) (shV false .u64 (cond (decide (a ≥ 4294967296)) (aPe2 a) a) 16) (cond (decide (a ≥ 4294967296)) (aPe2 a) a)))))))))] id ?_
 refine tV (ii (w64 ((cond (decide ((cond (decide ((cond (decide (a ≥ 4294967296)) (aPe2 a) a : Int) ≥ 65536)) (shV false .u64 (cond (decide (a ≥ 4294967296)) (aPe2 a) a) 16) (cond (decide (a ≥ 4294967296)) (aPe2 a) a) : Int) ≥ 256)) (w64 ((cond (decide ((cond (decide (a ≥ 4294967296)) (aPe2 a) a : Int) ≥ 65536)) (w64 ((cond (decide (a ≥ 4294967296)) 32 0) + 16)) (cond (decide (a ≥ 4294967296)) 32 0)) + 8)) (cond (decide ((cond (decide (a ≥ 4294967296)) (aPe2 a) a : Int) ≥ 65536)) (w64 ((cond (decide (a ≥ 4294967296)) 32 0) + 16)) (cond (decide (a ≥ 4294967296)) 32 0))) + (w64 (byteAt aPe0 (IntKind.wrap .u8 (cond (decide ((cond (decide ((cond (decide (a ≥ 4294967296)) (aPe2 a) a : Int) ≥ 65536)) (shV false .u64 (cond (decide (a ≥ 4294967296)) (aPe2 a) a) 16) (cond (decide (a ≥ 4294967296)) (aPe2 a) a) : Int) ≥ 256)) (shV false .u64 (cond (decide ((cond (decide (a ≥ 4294967296)) (aPe2 a) a : Int) ≥ 65536)) (shV false .u64 (cond (decide (a ≥ 4294967296)) (aPe2 a) a) 16) (cond (decide (a ≥ 4294967296)) (aPe2 a) a)) 8) (cond (decide ((cond (decide (a ≥ 4294967296)) (aPe2 a) a : Int) ≥ 65536)) (shV false .u64 (cond (decide (a ≥ 4294967296)) (aPe2 a) a) 16) (cond (decide (a ≥ 4294967296)) (aPe2 a) a))))))))) id ?_
 refine rE 1 [(2, ii (w64 ((cond (decide ((cond (decide ((cond (decide (a ≥ 4294967296)) (aPe2 a) a : Int) ≥ 65536)) (shV false .u64 (cond (decide (a ≥ 4294967296)) (aPe2 a) a) 16) (cond (decide (a ≥ 4294967296)) (aPe2 a) a) : Int) ≥ 256)) (w64 ((cond (decide ((cond (decide (a ≥ 4294967296)) (aPe2 a) a : Int) ≥ 65536)) (w64 ((cond (decide (a ≥ 4294967296)) 32 0) + 16)) (cond (decide (a ≥ 4294967296)) 32 0)) + 8)) (cond (decide ((cond (decide (a ≥ 4294967296)) (aPe2 a) a : Int) ≥ 65536)) (w64 ((cond (decide (a ≥ 4294967296)) 32 0) + 16)) (cond (decide (a ≥ 4294967296)) 32 0))) + (w64 (byteAt aPe0 (IntKind.wrap .u8 (cond (decide ((cond (decide ((cond (decide (a ≥ 4294967296)) (aPe2 a) a : Int) ≥ 65536)) (shV false .u64 (cond (decide (a ≥ 4294967296)) (aPe2 a) a) 16) (cond (decide (a ≥ 4294967296)) (aPe2 a) a) : Int) ≥ 256)) (shV false .u64 (cond (decide ((cond (decide (a ≥ 4294967296)) (aPe2 a) a : Int) ≥ 65536)) (shV false .u64 (cond (decide (a ≥ 4294967296)) (aPe2 a) a) 16) (cond (decide (a ≥ 4294967296)) (aPe2 a) a)) 8) (cond (decide ((cond (decide (a ≥ 4294967296)) (aPe2 a) a : Int) ≥ 65536)) (shV false .u64 (cond (decide (a ≥ 4294967296)) (aPe2 a) a) 16) (cond (decide (a ≥ 4294967296)) (aPe2 a) a)))))))))] id ?_
 obtain rfl := sI h
 exact tV (ii (w64 ((cond (decide ((cond (decide ((cond (decide (a ≥ 4294967296)) (aPe2 a) a : Int) ≥ 65536)) (shV false .u64 (cond (decide (a ≥ 4294967296)) (aPe2 a) a) 16) (cond (decide (a ≥ 4294967296)) (aPe2 a) a) : Int) ≥ 256)) (w64 ((cond (decide ((cond (decide (a ≥ 4294967296)) (aPe2 a) a : Int) ≥ 65536)) (w64 ((cond (decide (a ≥ 4294967296)) 32 0) + 16)) (cond (decide (a ≥ 4294967296)) 32 0)) + 8)) (cond (decide ((cond (decide (a ≥ 4294967296)) (aPe2 a) a : Int) ≥ 65536)) (w64 ((cond (decide (a ≥ 4294967296)) 32 0) + 16)) (cond (decide (a ≥ 4294967296)) 32 0))) + (w64 (byteAt aPe0 (IntKind.wrap .u8 (cond (decide ((cond (decide ((cond (decide (a ≥ 4294967296)) (aPe2 a) a : Int) ≥ 65536)) (shV false .u64 (cond (decide (a ≥ 4294967296)) (aPe2 a) a) 16) (cond (decide (a ≥ 4294967296)) (aPe2 a) a) : Int) ≥ 256)) (shV false .u64 (cond (decide ((cond (decide (a ≥ 4294967296)) (aPe2 a) a : Int) ≥ 65536)) (shV false .u64 (cond (decide (a ≥ 4294967296)) (aPe2 a) a) 16) (cond (decide (a ≥ 4294967296)) (aPe2 a) a)) 8) (cond (decide ((cond (decide (a ≥ 4294967296)) (aPe2 a) a : Int) ≥ 65536)) (shV false .u64 (cond (decide (a ≥ 4294967296)) (aPe2 a) a) 16) (cond (decide (a ≥ 4294967296)) (aPe2 a) a))))))))) id rfl
noncomputable def f75_C75 : Code := Proofs.Tryz.f75.body.getD .skip
def f75 (m : Nat) (a_Name : ByteArray) (Ti : Int) (Tj : Int) (b_Name : ByteArray) (b_Bay : Int) (b_Kilos : Int) : Option (Int) :=
 some (w64 (Ti - b_Bay))
theorem f75_ok (m : Nat) (a_Name : ByteArray) (Ti : Int) (Tj : Int) (b_Name : ByteArray) (b_Bay : Int) (b_Kilos : Int) (o : Int) (h : f75 m a_Name Ti Tj b_Name b_Bay b_Kilos = some o) (w : World) (hI : maInv w) : Calls Proofs.Tryz.prog 75 #[.agg #[.string a_Name, ii Ti, ii Tj], .agg #[.string b_Name, ii b_Bay, ii b_Kilos]] w fun e w' => e = .returned (ii o) ∧ Below w.heap.size w w' := by
 refine KC.calls (E := E0) (args := [.agg #[.string a_Name, ii Ti, ii Tj], .agg #[.string b_Name, ii b_Bay, ii b_Kilos]]) (v := ii o) rfl rfl (KC.bodyN E0_ok (F := Proofs.Tryz.f75) (by kernel_rfl) (code := f75_C75) (by kernel_rfl) (nt := 10) (by kernel_rfl) (rs := [.tmp 4]) (by kernel_rfl) (by kernel_rfl) (σ := [(0, .agg #[.string a_Name, ii Ti, ii Tj]), (1, .agg #[.string b_Name, ii b_Bay, ii b_Kilos])]) (by kernel_rfl) ?_) w (maInv_size hI) hI
 unfold f75 at h
 refine qQ ?_
 refine rD 3 [(2, pp 0 0), (3, pp 1 0)] (fun h => (1, .cells [.string b_Name, ii b_Bay, ii b_Kilos] 0 74 0) :: (0, .cells [.string a_Name, ii Ti, ii Tj] 0 74 0) :: h) 2 ?_
 refine nQ id ?_
 refine rE 6 [(4, ii (w64 (Ti - b_Bay)))] id ?_
 obtain rfl := sI h
 exact tV (ii (w64 (Ti - b_Bay))) id rfl
noncomputable def f33_C33 : Code := Proofs.Tryz.f33.body.getD .skip
noncomputable def f33_C52 : Code := Proofs.Tryz.f52.body.getD .skip
noncomputable def f33_C77 : Code := Proofs.Tryz.f77.body.getD .skip
def f33 (m : Nat) (b : Bk) : Option (List Int) :=
 cond (b.bays == 0) (
  some ([])
 ) (
  cond (Nat.ble b.keys.length 1000000) (
   some (sortI (List.map (fun p => p.1) b.keys))
  ) none
 )
theorem f33_ok (m : Nat) (b : Bk) (o : List Int) (h : f33 m b = some o) : KC E0 33 [pp 0 0] (bookH b) 5 (fun v h' _ => RowAt (encI .i64) 3 1 o v h' ∧ OutH b (bs []) .same h') := by
 refine kN Proofs.Tryz.f33 f33_C33 12 [.tmp 2] ?_
 unfold f33 at h
 refine qE 1 [(0, pp 0 0)] id ?_
 refine sQ ?_
 refine qQ ?_
 refine rS 1 [(0, pp 0 0), (3, pp 0 0)] ?_
 refine cK [0, 4] 52 [pp 0 0] 4 ?_
 refine kN Proofs.Tryz.f52 f33_C52 13 [.tmp 2] ?_
 refine qQ ?_
 refine rS 1 [(0, pp 0 0)] ?_
 refine nQ id ?_
 refine rE 11 [(2, .bool (b.bays == 0))] id ?_
 refine tV (.bool (b.bays == 0)) id ?_
 refine eQ id ?_
 cases b1 : (b.bays == 0 : Bool)
 case true =>
  have h := cT b1 h
  refine iT 4 ?_
  refine qE 1 [(2, .slice none 0 0)] id ?_
  refine XQ.ghost 3 1 rfl (σ' := [(2, s0 5 0)]) (h' := (bookH b)) ⟨by kernel_rfl, trivial⟩ ⟨⟨_, rfl, .inl rfl⟩, ⟨_, rfl, .inl rfl⟩, ⟨_, rfl, .inl rfl⟩, ⟨_, rfl, .inl rfl⟩, ⟨_, rfl, .inl rfl⟩, trivial⟩ ?_
  refine XQ.conv (σ' := [(2, s0 5 0)]) (h' := ((5, rc (encI .i64) [] 0 3 1) :: bookH b)) (c' := 6) ?_ (by kernel_rfl)
  obtain rfl := sI h
  exact tV (s0 5 0) id ⟨.inr ⟨5, (by decide), by kernel_rfl, by kernel_rfl⟩, by kernel_rfl, by kernel_rfl, by kernel_rfl, by kernel_rfl, by kernel_rfl⟩
 have h := cF b1 h
 refine iK 4 id ?_
 refine qQ ?_
 refine rS 5 [(9, .map (some 2))] ?_
 refine cK [10] 77 [.map (some 2)] 10 ?_
 refine kN Proofs.Tryz.f77 f33_C77 4 [.tmp 2] ?_
 refine qQ ?_
 refine rD 2 [(1, pp 5 0)] (fun h => (5, .cells [.map (some 2)] 0 48 0) :: h) 6 ?_
 refine nQ id ?_
 refine rE 2 [(2, .func (.func 104) #[] #[pp 5 0])] id ?_
 refine tV (.func (.func 104) #[] #[pp 5 0]) id ?_
 obtain ⟨b2, h⟩ := oC h
 refine cA [11] 11 [.func (.func 104) #[] #[pp 5 0]] (keys_c (b := 5) (j := 2) (fz := 0) (e := 48) (M := b.keys) (by kernel_rfl) (by kernel_rfl) b2) ?_
 refine rE 1 [(2, s0 6 ((sortI (List.map (fun p => p.1) b.keys)).length))] id ?_
 obtain rfl := sI h
 exact tV (s0 6 ((sortI (List.map (fun p => p.1) b.keys)).length)) id ⟨.inr ⟨6, (by decide), by kernel_rfl, by kernel_rfl⟩, by kernel_rfl, by kernel_rfl, by kernel_rfl, by kernel_rfl, by kernel_rfl⟩
noncomputable def f31_C31 : Code := Proofs.Tryz.f31.body.getD .skip
noncomputable def f31_C52 : Code := Proofs.Tryz.f52.body.getD .skip
noncomputable def f31_C74 : Code := Proofs.Tryz.f74.body.getD .skip
noncomputable def f31_C73 : Code := Proofs.Tryz.f73.body.getD .skip
noncomputable def f31_C100 : Code := Proofs.Tryz.f100.body.getD .skip
noncomputable def f31_C125 : Code := Proofs.Tryz.f125.body.getD .skip
noncomputable def f31_C153 : Code := Proofs.Tryz.f153.body.getD .skip
noncomputable def f31_L1 : Code := lft (lft (rgt (rgt f31_C125)))
noncomputable def f31_L2 : Code := lft (lft (rgt f31_C153))
noncomputable def f31_L3 : Code := lft (lft (rgt (lft (lft (rgt f31_L2)))))
def f31_3 (m : Nat) : Nat → Bk → Int → Int → Int → List Bl → Option (List Bl)
 | 0, _, _, _, _, _ => none
 | fuel + 1, b, W, Y, V, U =>
  cond (decide (V > 0)) (
   cond (inRow V U.length) (
    cond (inRow (w64 (V - 1)) U.length) (
     (f75 m ((List.getD U (Int.toNat V) ((bs []), 0, 0)).1) ((List.getD U (Int.toNat V) ((bs []), 0, 0)).2.1) ((List.getD U (Int.toNat V) ((bs []), 0, 0)).2.2) ((List.getD U (Int.toNat (w64 (V - 1))) ((bs []), 0, 0)).1) ((List.getD U (Int.toNat (w64 (V - 1))) ((bs []), 0, 0)).2.1) ((List.getD U (Int.toNat (w64 (V - 1))) ((bs []), 0, 0)).2.2)).bind fun r19 =>
      cond (decide (r19 < 0)) (
       f31_3 m fuel b W Y (w64 (V - 1)) (List.set (List.set U (Int.toNat V) ((List.getD U (Int.toNat (w64 (V - 1))) ((bs []), 0, 0)).1, (List.getD U (Int.toNat (w64 (V - 1))) ((bs []), 0, 0)).2.1, (List.getD U (Int.toNat (w64 (V - 1))) ((bs []), 0, 0)).2.2)) (Int.toNat (w64 (V - 1))) ((List.getD U (Int.toNat V) ((bs []), 0, 0)).1, (List.getD U (Int.toNat V) ((bs []), 0, 0)).2.1, (List.getD U (Int.toNat V) ((bs []), 0, 0)).2.2))
      ) (
       some (U)
      )
    ) none
   ) none
  ) (
   some (U)
  )
abbrev aPe10 (V : Int) := (Int.toNat (w64 (V - 1)))
abbrev aPe1 (U : List Bl) (V : Int) := (List.getD U (aPe10 V) ((bs []), 0, 0))
abbrev aPe3 (U : List Bl) (V : Int) := (List.getD U (Int.toNat V) ((bs []), 0, 0))
abbrev aPe4 : Nat × Value := (3, .func (.func 75) #[] #[])
abbrev aPe5 (U : List Bl) (V : Int) := (List.set (List.set U (Int.toNat V) ((aPe1 U V).1, (aPe1 U V).2.1, (aPe1 U V).2.2)) (aPe10 V) ((aPe3 U V).1, (aPe3 U V).2.1, (aPe3 U V).2.2))
abbrev aPe6 (U : List Bl) (V : Int) : Nat × Value := (46, .agg #[.string ((aPe1 U V).1), ii ((aPe1 U V).2.1), ii ((aPe1 U V).2.2)])
abbrev aPe7 (U : List Bl) (V : Int) : Nat × Value := (26, .agg #[.string ((aPe3 U V).1), ii ((aPe3 U V).2.1), ii ((aPe3 U V).2.2)])
abbrev aPe8 (U : List Bl) (V : Int) : Nat × Value := (50, .agg #[.string ((aPe3 U V).1), ii ((aPe3 U V).2.1), ii ((aPe3 U V).2.2)])
abbrev aPe9 (U : List Bl) : Nat × Value := (0, s0 6 U.length)
abbrev aPe12 : Nat × Value := (22, .func (.func 75) #[] #[])
abbrev aPe15 (V : Int) : Nat × Value := (41, ii (w64 (V - 1)))
theorem f31_3_ok (m : Nat) : ∀ (fuel : Nat) (b : Bk) (W : Int) (Y : Int) (V : Int) (U : List Bl) (o : (List Bl)), f31_3 m fuel b W Y V U = some o → ∀ Q : QP, Q (.exit 2) [(0, s0 6 o.length), (1, ii 0), (2, ii W), (3, .func (.func 75) #[] #[]), (8, ii Y)] ((6, rc encL o 0 74 3) :: qPe0 :: bookH b) 7 → XL E0 53 7 fuel f31_L3 [(0, s0 6 U.length), (1, ii 0), (2, ii W), (3, .func (.func 75) #[] #[]), (8, ii Y), (9, ii V)] ((6, rc encL U 0 74 3) :: qPe0 :: bookH b) 7 Q
 | 0, b, W, Y, V, U, o, h, Q, hQ => by cases h
 | fuel + 1, b, W, Y, V, U, o, h, Q, hQ => by
  unfold f31_3 at h
  refine XL.succ E0_ok ?_
  refine sQ ?_
  refine sQ ?_
  refine XQ.quiet E0_ok (by kernel_rfl) (by kernel_rfl) ?_
  refine XU.run E0_ok 1 4 [0, 1, 2, 3, 8, 9, 21] rfl (σ' := [(aPe9 U), (1, ii 0), (2, ii W), aPe4, (8, ii Y), (9, ii V), (21, .bool (decide (V > 0)))]) (by kernel_rfl) ?_
  cases b1 : (decide (V > 0) : Bool)
  case false =>
   have h := cF b1 h
   refine XU.run E0_ok 1 13 [0, 1, 2, 3, 8, 9, 34] rfl (σ' := [(aPe9 U), (1, ii 0), (2, ii W), aPe4, (8, ii Y), (9, ii V), (34, .bool false)]) (by kernel_rfl) ?_
   refine XU.done (by kernel_rfl) ?_
   show XQ _ _ _ _ _ _ _ _
   refine iF 34 ?_
   refine nR [(aPe9 U), (1, ii 0), (2, ii W), aPe4, (8, ii Y)] ((6, rc encL U 0 74 3) :: qPe0 :: bookH b) 7 [0, 1, 2, 3, 4, 5, 6] ?_
   refine XQ.exit (i := 2) (by kernel_rfl) ?_
   cases h
   exact hQ
  have h := cT b1 h
  refine XU.run E0_ok 1 3 [0, 1, 2, 3, 8, 9, 21, 22, 23, 24] rfl (σ' := [(aPe9 U), (1, ii 0), (2, ii W), aPe4, (8, ii Y), (9, ii V), (21, .bool true), aPe12, (23, s0 6 U.length), (24, ii V)]) (by kernel_rfl) ?_
  obtain ⟨b2, h⟩ := oC h
  refine uR (pp 6 ((Int.toNat V) * 3)) (iV 23 (.tmp 24) 25 3 0 b2) [(aPe9 U), (1, ii 0), (2, ii W), aPe4, (8, ii Y), (9, ii V), (21, .bool true), aPe12, (25, pp 6 ((Int.toNat V) * 3))] ?_
  refine uR _ (LV encL_ok 25 26 6 ((Int.toNat V) * 3) U 0 74 3 (Int.toNat V) ((bs []), 0, 0) (rl b2)) [(aPe9 U), (1, ii 0), (2, ii W), aPe4, (8, ii Y), (9, ii V), (21, .bool true), aPe12, (aPe7 U V)] ?_
  refine XU.run E0_ok 1 3 [0, 1, 2, 3, 8, 9, 21, 22, 26, 27, 29] rfl (σ' := [(aPe9 U), (1, ii 0), (2, ii W), aPe4, (8, ii Y), (9, ii V), (21, .bool true), aPe12, (aPe7 U V), (27, s0 6 U.length), (29, ii (w64 (V - 1)))]) (by kernel_rfl) ?_
  obtain ⟨b3, h⟩ := oC h
  refine uR (pp 6 ((aPe10 V) * 3)) (iV 27 (.tmp 29) 30 3 0 b3) [(aPe9 U), (1, ii 0), (2, ii W), aPe4, (8, ii Y), (9, ii V), (21, .bool true), aPe12, (aPe7 U V), (30, pp 6 ((aPe10 V) * 3))] ?_
  refine uR _ (LV encL_ok 30 31 6 ((aPe10 V) * 3) U 0 74 3 (aPe10 V) ((bs []), 0, 0) (rl b3)) [(aPe9 U), (1, ii 0), (2, ii W), aPe4, (8, ii Y), (9, ii V), (21, .bool true), aPe12, (aPe7 U V), (31, .agg #[.string ((aPe1 U V).1), ii ((aPe1 U V).2.1), ii ((aPe1 U V).2.2)])] ?_
  obtain ⟨r19, r19_h, h⟩ := bS h
  refine XU.call E0_ok [0, 1, 2, 3, 8, 9, 21, 32] rfl (K := 75) (F := Proofs.Tryz.f75) (args := [.agg #[.string ((aPe3 U V).1), ii ((aPe3 U V).2.1), ii ((aPe3 U V).2.2)], .agg #[.string ((aPe1 U V).1), ii ((aPe1 U V).2.1), ii ((aPe1 U V).2.2)]]) (d := (some (path 12 32))) (v := ii r19) (by kernel_rfl) (by kernel_rfl) rfl rfl (fun w hI => f75_ok m ((aPe3 U V).1) ((aPe3 U V).2.1) ((aPe3 U V).2.2) ((aPe1 U V).1) ((aPe1 U V).2.1) ((aPe1 U V).2.2) r19 r19_h w hI) (σ' := [(aPe9 U), (1, ii 0), (2, ii W), aPe4, (8, ii Y), (9, ii V), (21, .bool true), (32, ii r19)]) (by kernel_rfl) ?_
  refine XU.run E0_ok 1 2 [0, 1, 2, 3, 8, 9, 34] rfl (σ' := [(aPe9 U), (1, ii 0), (2, ii W), aPe4, (8, ii Y), (9, ii V), (34, .bool (decide (r19 < 0)))]) (by kernel_rfl) ?_
  refine XU.done (by kernel_rfl) ?_
  show XQ _ _ _ _ _ _ _ _
  cases b4 : (decide (r19 < 0) : Bool)
  case false =>
   have h := cF b4 h
   refine iF 34 ?_
   refine nR [(aPe9 U), (1, ii 0), (2, ii W), aPe4, (8, ii Y)] ((6, rc encL U 0 74 3) :: qPe0 :: bookH b) 7 [0, 1, 2, 3, 4, 5, 6] ?_
   refine XQ.exit (i := 2) (by kernel_rfl) ?_
   cases h
   exact hQ
  have h := cT b4 h
  refine iT 34 ?_
  refine kQ ?_
  show XQ _ _ _ _ _ _ _ _
  refine sQ ?_
  refine XQ.block (id := 3) (by kernel_rfl) ?_
  refine XQ.preP E0_ok [2, 3, 4] [0, 1, 5, 6, 7, 8, 9, 10, 11, 12, 13, 14] 15 [16, 17] (by kernel_rfl) (by kernel_rfl) (by kernel_rfl) ?_
  refine XP.step E0_ok 3 [0, 1, 2, 3, 8, 9, 39, 41] rfl (σ' := [(aPe9 U), (1, ii 0), (2, ii W), aPe4, (8, ii Y), (9, ii V), (39, s0 6 U.length), (aPe15 V)]) (by kernel_rfl) ?_
  refine XP.done (by kernel_rfl) ?_
  show XS _ _ _ _ _ _ _ _ _ _
  refine XS.step E0_ok 5 rfl [0, 1, 2, 3, 8, 9, 37, 38, 39, 41, 42, 44] rfl (σ' := [(aPe9 U), (1, ii 0), (2, ii W), aPe4, (8, ii Y), (9, ii V), (37, s0 6 U.length), (38, ii V), (39, s0 6 U.length), (aPe15 V), (42, s0 6 U.length), (44, ii (w64 (V - 1)))]) (by kernel_rfl) ?_
  refine sR (pp 6 ((aPe10 V) * 3)) (iV 42 (.tmp 44) 45 3 0 b3) [(aPe9 U), (1, ii 0), (2, ii W), aPe4, (8, ii Y), (9, ii V), (37, s0 6 U.length), (38, ii V), (39, s0 6 U.length), (aPe15 V), (45, pp 6 ((aPe10 V) * 3))] ?_
  refine sR _ (LV encL_ok 45 46 6 ((aPe10 V) * 3) U 0 74 3 (aPe10 V) ((bs []), 0, 0) (rl b3)) [(aPe9 U), (1, ii 0), (2, ii W), aPe4, (8, ii Y), (9, ii V), (37, s0 6 U.length), (38, ii V), (39, s0 6 U.length), (aPe15 V), (aPe6 U V)] ?_
  refine XS.step E0_ok 2 rfl [0, 1, 2, 3, 8, 9, 37, 38, 39, 41, 46, 47, 48] rfl (σ' := [(aPe9 U), (1, ii 0), (2, ii W), aPe4, (8, ii Y), (9, ii V), (37, s0 6 U.length), (38, ii V), (39, s0 6 U.length), (aPe15 V), (aPe6 U V), (47, s0 6 U.length), (48, ii V)]) (by kernel_rfl) ?_
  refine sR (pp 6 ((Int.toNat V) * 3)) (iV 47 (.tmp 48) 49 3 0 b2) [(aPe9 U), (1, ii 0), (2, ii W), aPe4, (8, ii Y), (9, ii V), (37, s0 6 U.length), (38, ii V), (39, s0 6 U.length), (aPe15 V), (aPe6 U V), (49, pp 6 ((Int.toNat V) * 3))] ?_
  refine sR _ (LV encL_ok 49 50 6 ((Int.toNat V) * 3) U 0 74 3 (Int.toNat V) ((bs []), 0, 0) (rl b2)) [(aPe9 U), (1, ii 0), (2, ii W), aPe4, (8, ii Y), (9, ii V), (37, s0 6 U.length), (38, ii V), (39, s0 6 U.length), (aPe15 V), (aPe6 U V), (aPe8 U V)] ?_
  refine sR (pp 6 ((Int.toNat V) * 3)) (iV 37 (.tmp 38) 51 3 0 b2) [(aPe9 U), (1, ii 0), (2, ii W), aPe4, (8, ii Y), (9, ii V), (39, s0 6 U.length), (aPe15 V), (aPe6 U V), (aPe8 U V), (51, pp 6 ((Int.toNat V) * 3))] ?_
  refine XS.done (by kernel_rfl) ?_
  refine eR (e_store encL_ok (size := 3) (x := (src 53 (.tmp 51))) (y := (src 53 (.tmp 46))) (b := 6) (off := (Int.toNat V) * 3) (xs := U) (e := 74) (es := 3) (d := none) (h' := ((6, rc encL (List.set U (Int.toNat V) ((aPe1 U V).1, (aPe1 U V).2.1, (aPe1 U V).2.2)) 0 74 3) :: qPe0 :: bookH b)) (w := .agg #[.string ((aPe1 U V).1), ii ((aPe1 U V).2.1), ii ((aPe1 U V).2.2)]) (ws := [.string ((aPe1 U V).1), ii ((aPe1 U V).2.1), ii ((aPe1 U V).2.2)]) (a := ((aPe1 U V).1, (aPe1 U V).2.1, (aPe1 U V).2.2)) (by kernel_rfl) (by kernel_rfl) (by kernel_rfl) (Int.toNat V) 0 ((bs []), 0, 0) (by first | with_reducible rfl | omega | rfl) (row_len (inRow_toNat b2) (by simp)) (by kernel_rfl) rfl rfl rfl rfl rfl (by kernel_rfl)) [(aPe9 U), (1, ii 0), (2, ii W), aPe4, (8, ii Y), (9, ii V), (39, s0 6 U.length), (aPe15 V), (aPe8 U V)] ?_
  refine rR (pp 6 ((aPe10 V) * 3)) (iV 39 (.tmp 41) 52 3 0 b3) [(aPe9 U), (1, ii 0), (2, ii W), aPe4, (8, ii Y), (9, ii V), (aPe8 U V), (52, pp 6 ((aPe10 V) * 3))] ?_
  refine eR (e_store encL_ok (size := 3) (x := (src 53 (.tmp 52))) (y := (src 53 (.tmp 50))) (b := 6) (off := (aPe10 V) * 3) (xs := List.set U (Int.toNat V) ((aPe1 U V).1, (aPe1 U V).2.1, (aPe1 U V).2.2)) (e := 74) (es := 3) (d := none) (h' := ((6, rc encL (aPe5 U V) 0 74 3) :: qPe0 :: bookH b)) (w := .agg #[.string ((aPe3 U V).1), ii ((aPe3 U V).2.1), ii ((aPe3 U V).2.2)]) (ws := [.string ((aPe3 U V).1), ii ((aPe3 U V).2.1), ii ((aPe3 U V).2.2)]) (a := ((aPe3 U V).1, (aPe3 U V).2.1, (aPe3 U V).2.2)) (by kernel_rfl) (by kernel_rfl) (by kernel_rfl) (aPe10 V) 0 ((bs []), 0, 0) (by first | with_reducible rfl | omega | rfl) (row_len (inRow_toNat b3) (by simp)) (by kernel_rfl) rfl rfl rfl rfl rfl (by kernel_rfl)) [(aPe9 U), (1, ii 0), (2, ii W), aPe4, (8, ii Y), (9, ii V)] ?_
  refine eQ id ?_
  refine rQ ?_
  refine rS 3 [(aPe9 U), (1, ii 0), (2, ii W), aPe4, (8, ii Y), (9, ii (w64 (V - 1)))] ?_
  refine dQ ?_
  show XL _ _ _ _ _ _ _ _ _
  refine nL [(aPe9 U), (1, ii 0), (2, ii W), aPe4, (8, ii Y), (9, ii (w64 (V - 1)))] ((6, rc encL (aPe5 U V) 0 74 3) :: qPe0 :: bookH b) 7 [0, 1, 2, 3, 4, 5, 6] ?_
  refine XL.conv (f31_3_ok m fuel b W Y (w64 (V - 1)) (aPe5 U V) o h Q hQ) (by first | with_reducible rfl | simp | rfl)
def f31_2 (m : Nat) : Nat → Bk → Int → Int → List Bl → Option (List Bl)
 | 0, _, _, _, _ => none
 | fuel + 1, b, W, Y, Tk =>
  cond (decide (Y < W)) (
   (f31_3 m m b W Y Y Tk).bind fun o3 =>
    f31_2 m fuel b W (w64 (Y + 1)) o3
  ) (
   some (Tk)
  )
theorem f31_2_ok (m : Nat) : ∀ (fuel : Nat) (b : Bk) (W : Int) (Y : Int) (Tk : List Bl) (o : (List Bl)), f31_2 m fuel b W Y Tk = some o → ∀ Q : QP, Q (.exit 0) [] ((6, rc encL o 0 74 3) :: qPe0 :: bookH b) 7 → XL E0 53 7 fuel f31_L2 [(0, s0 6 Tk.length), (1, ii 0), (2, ii W), (3, .func (.func 75) #[] #[]), (8, ii Y)] ((6, rc encL Tk 0 74 3) :: qPe0 :: bookH b) 7 Q
 | 0, b, W, Y, Tk, o, h, Q, hQ => by cases h
 | fuel + 1, b, W, Y, Tk, o, h, Q, hQ => by
  unfold f31_2 at h
  refine XL.succ E0_ok ?_
  refine sQ ?_
  refine qE 3 [(0, s0 6 Tk.length), (1, ii 0), (2, ii W), aPe4, (8, ii Y), (14, .bool (decide (Y < W)))] id ?_
  cases b1 : (decide (Y < W) : Bool)
  case false =>
   have h := cF b1 h
   refine iF 14 ?_
   refine nR [] ((6, rc encL Tk 0 74 3) :: qPe0 :: bookH b) 7 [0, 1, 2, 3, 4, 5, 6] ?_
   refine XQ.exit (i := 0) (by kernel_rfl) ?_
   cases h
   exact hQ
  have h := cT b1 h
  refine iT 14 ?_
  refine kQ ?_
  show XQ _ _ _ _ _ _ _ _
  refine sQ ?_
  refine XQ.block (id := 1) (by kernel_rfl) ?_
  refine qE 2 [(0, s0 6 Tk.length), (1, ii 0), (2, ii W), aPe4, (8, ii Y), (9, ii Y)] id ?_
  refine XQ.block (id := 2) (by kernel_rfl) ?_
  refine XQ.loop m (by kernel_rfl) ?_
  obtain ⟨o3, o3_h, h⟩ := bS h
  refine nL [(0, s0 6 Tk.length), (1, ii 0), (2, ii W), aPe4, (8, ii Y), (9, ii Y)] ((6, rc encL Tk 0 74 3) :: qPe0 :: bookH b) 7 [0, 1, 2, 3, 4, 5, 6] ?_
  refine XL.conv (f31_3_ok m m b W Y Y Tk o3 o3_h _ ?_) (by first | with_reducible rfl | simp | rfl)
  show XQ _ _ _ _ _ _ _ _
  refine rQ ?_
  refine rS 3 [(0, s0 6 o3.length), (1, ii 0), (2, ii W), aPe4, (8, ii (w64 (Y + 1)))] ?_
  refine dQ ?_
  show XL _ _ _ _ _ _ _ _ _
  refine nL [(0, s0 6 o3.length), (1, ii 0), (2, ii W), aPe4, (8, ii (w64 (Y + 1)))] ((6, rc encL o3 0 74 3) :: qPe0 :: bookH b) 7 [0, 1, 2, 3, 4, 5, 6] ?_
  refine XL.conv (f31_2_ok m fuel b W (w64 (Y + 1)) o3 o h Q hQ) (by first | with_reducible rfl | simp | rfl)
def f31_1 (m : Nat) : Nat → Bk → List Bl → Int → Int → Option (List Bl)
 | 0, _, _, _, _ => none
 | fuel + 1, b, l1, W, x3_1 =>
  cond (decide ((w64 (W - 0)) ≤ 12)) (
   (f31_2 m m b W 1 l1).bind fun o2 =>
    some (o2)
  ) none
abbrev aPe13 : Nat × Value := (4, .func (.func 75) #[] #[])
theorem f31_1_ok (m : Nat) : ∀ (fuel : Nat) (b : Bk) (l1 : List Bl) (W : Int) (x3_1 : Int) (o : (List Bl)), f31_1 m fuel b l1 W x3_1 = some o → ∀ Q : QP, Q .ret [] ((6, rc encL o 0 74 3) :: qPe0 :: bookH b) 7 → XL E0 148 7 fuel f31_L1 [(0, s0 6 l1.length), (1, ii 0), (2, ii W), (3, ii x3_1), (4, .func (.func 75) #[] #[]), (10, .bool true), (11, .bool true)] ((6, rc encL l1 0 74 3) :: qPe0 :: bookH b) 7 Q
 | 0, b, l1, W, x3_1, o, h, Q, hQ => by cases h
 | fuel + 1, b, l1, W, x3_1, o, h, Q, hQ => by
  unfold f31_1 at h
  refine XL.succ E0_ok ?_
  refine XQ.block (id := 1) (by kernel_rfl) ?_
  refine qE 4 [(0, s0 6 l1.length), (1, ii 0), (2, ii W), (3, ii x3_1), aPe13, (10, .bool true), (11, .bool true), (12, ii (w64 (W - 0)))] id ?_
  refine sQ ?_
  refine qE 2 [(0, s0 6 l1.length), (1, ii 0), (2, ii W), (3, ii x3_1), aPe13, (10, .bool true), (11, .bool true), (12, ii (w64 (W - 0))), (25, .bool (decide ((w64 (W - 0)) ≤ 12)))] id ?_
  cases b1 : (decide ((w64 (W - 0)) ≤ 12) : Bool)
  case false => cases (cF b1 h)
  have h := cT b1 h
  refine iT 25 ?_
  refine qQ ?_
  refine rS 4 [(26, s0 6 l1.length), (27, ii 0), (28, ii W), (29, .func (.func 75) #[] #[])] ?_
  refine cK [] 153 [s0 6 l1.length, ii 0, ii W, .func (.func 75) #[] #[]] 30 ?_
  refine kN Proofs.Tryz.f153 f31_C153 53 [] ?_
  refine qE 3 [(0, s0 6 l1.length), (1, ii 0), (2, ii W), aPe4, (8, ii 1)] id ?_
  refine XQ.block (id := 0) (by kernel_rfl) ?_
  refine XQ.loop m (by kernel_rfl) ?_
  obtain ⟨o2, o2_h, h⟩ := bS h
  refine nL [(0, s0 6 l1.length), (1, ii 0), (2, ii W), aPe4, (8, ii 1)] ((6, rc encL l1 0 74 3) :: qPe0 :: bookH b) 7 [0, 1, 2, 3, 4, 5, 6] ?_
  refine XL.conv (f31_2_ok m m b W 1 l1 o2 o2_h _ ?_) (by first | with_reducible rfl | simp | rfl)
  refine ⟨fun i q => (by cases q), .tuple #[], (by kernel_rfl), ?_⟩
  refine eQ id ?_
  refine nR [] ((6, rc encL o2 0 74 3) :: qPe0 :: bookH b) 7 [0, 1, 2, 3, 4, 5, 6] ?_
  refine tQ ?_
  cases h
  exact hQ
abbrev aPe11 (l1 : List Bl) := ((l1.length : Nat) : Int)
def f31 (m : Nat) (b : Bk) (l1 : List Bl) : Option (List Bl) :=
 cond (b.bays == 0) (
  some ([])
 ) (
  cond (Nat.ble b.bales.length 1000000) (
   (f126 m (IntKind.wrap .u64 (aPe11 l1))).bind fun r1 =>
    (f31_1 m m b l1 (aPe11 l1) r1).bind fun o1 =>
     cond (decide (l1.length = o1.length)) (
      some (o1)
     ) none
  ) none
 )
abbrev aPe14 : Nat × Value := (1, .func (.func 75) #[] #[])
theorem f31_ok (m : Nat) (b : Bk) (o : List Bl) (h0 : ∀ l1 : List Bl, l1.Perm (b.bales.map (·.2)) → f31 m b l1 = some o) : KC E0 31 [pp 0 0] (bookH b) 5 (fun v h' _ => RowAt encL 74 3 o v h' ∧ OutH b (bs []) .same h') := by
 have h := h0 _ (List.Perm.refl _)
 refine kN Proofs.Tryz.f31 f31_C31 12 [.tmp 2] ?_
 unfold f31 at h
 refine qE 1 [(0, pp 0 0)] id ?_
 refine sQ ?_
 refine qQ ?_
 refine rS 1 [(0, pp 0 0), (3, pp 0 0)] ?_
 refine cK [0, 4] 52 [pp 0 0] 4 ?_
 refine kN Proofs.Tryz.f52 f31_C52 13 [.tmp 2] ?_
 refine qQ ?_
 refine rS 1 [(0, pp 0 0)] ?_
 refine nQ id ?_
 refine rE 11 [(2, .bool (b.bays == 0))] id ?_
 refine tV (.bool (b.bays == 0)) id ?_
 refine eQ id ?_
 cases b1 : (b.bays == 0 : Bool)
 case true =>
  have h := cT b1 h
  refine iT 4 ?_
  refine qE 1 [(2, .slice none 0 0)] id ?_
  refine XQ.ghost 74 3 rfl (σ' := [(2, s0 5 0)]) (h' := (bookH b)) ⟨by kernel_rfl, trivial⟩ ⟨⟨_, rfl, .inl rfl⟩, ⟨_, rfl, .inl rfl⟩, ⟨_, rfl, .inl rfl⟩, ⟨_, rfl, .inl rfl⟩, ⟨_, rfl, .inl rfl⟩, trivial⟩ ?_
  refine XQ.conv (σ' := [(2, s0 5 0)]) (h' := ((5, rc encL [] 0 74 3) :: bookH b)) (c' := 6) ?_ (by kernel_rfl)
  obtain rfl := sI h
  exact tV (s0 5 0) id ⟨.inr ⟨5, (by decide), by kernel_rfl, by kernel_rfl⟩, by kernel_rfl, by kernel_rfl, by kernel_rfl, by kernel_rfl, by kernel_rfl⟩
 have h := cF b1 h
 refine iK 4 id ?_
 refine qQ ?_
 refine rS 5 [(9, .map (some 1))] ?_
 refine cK [10] 74 [.map (some 1)] 10 ?_
 refine kN Proofs.Tryz.f74 f31_C74 4 [.tmp 2] ?_
 refine qQ ?_
 refine rD 2 [(1, pp 5 0)] (fun h => (5, .cells [.map (some 1)] 0 45 0) :: h) 6 ?_
 refine nQ id ?_
 refine rE 2 [(2, .func (.func 101) #[] #[pp 5 0])] id ?_
 refine tV (.func (.func 101) #[] #[pp 5 0]) id ?_
 refine cK [11] 73 [.func (.func 101) #[] #[pp 5 0], .func (.func 75) #[] #[]] 11 ?_
 refine kN Proofs.Tryz.f73 f31_C73 12 [.tmp 4] ?_
 refine qQ ?_
 refine rS 1 [(0, .func (.func 101) #[] #[pp 5 0]), aPe14] ?_
 refine nQ id ?_
 refine rS 1 [aPe14, (6, .func (.func 101) #[] #[pp 5 0])] ?_
 obtain ⟨b2, h⟩ := oC h
 refine XR.call E0_ok [1, 7] rfl (K := 99) (args := [.func (.func 101) #[] #[pp 5 0]]) (d := (some (path 12 7))) (by kernel_rfl) (collect_c (b := 5) (j := 1) (fz := 0) (e := 45) (M := b.bales) (by kernel_rfl) (by kernel_rfl) b2) ?_
 rintro _ _ _ ⟨l1, l1p, rfl, rfl, rfl⟩
 replace h := h0 l1 l1p
 unfold f31 at h
 simp only [b1, b2, cond_true, cond_false] at h
 refine rS 1 [aPe14, (5, s0 6 l1.length)] ?_
 refine nQ id ?_
 refine rS 2 [(5, s0 6 l1.length), (8, s0 6 l1.length), (9, .func (.func 75) #[] #[])] ?_
 refine cK [5] 100 [s0 6 l1.length, .func (.func 75) #[] #[]] 10 ?_
 refine kN Proofs.Tryz.f100 f31_C100 14 [] ?_
 refine qE 3 [(0, s0 6 l1.length), aPe14, (4, ii ((l1.length : Nat) : Int))] id ?_
 refine rQ ?_
 refine rS 4 [aPe14, (7, s0 6 l1.length), (8, ii ((l1.length : Nat) : Int)), (10, .int .u64 (IntKind.wrap .u64 ((l1.length : Nat) : Int)))] ?_
 obtain ⟨r1, r1_h, h⟩ := bS h
 refine cQ [1, 7, 8, 11] 11 (KC.of_calls E0_ok (F := Proofs.Tryz.f126) (v := ii r1) (by kernel_rfl) rfl rfl (fun w hI => f126_ok m (IntKind.wrap .u64 ((l1.length : Nat) : Int)) r1 r1_h w hI)) ?_
 refine rS 1 [(7, s0 6 l1.length), (8, ii ((l1.length : Nat) : Int)), (11, ii r1), (12, .func (.func 75) #[] #[])] ?_
 refine cK [] 125 [s0 6 l1.length, ii 0, ii ((l1.length : Nat) : Int), ii r1, .func (.func 75) #[] #[]] 13 ?_
 refine kN Proofs.Tryz.f125 f31_C125 148 [] ?_
 refine qQ ?_
 refine rS 1 [(0, s0 6 l1.length), (1, ii 0), (2, ii ((l1.length : Nat) : Int)), (3, ii r1), aPe13, (10, .bool true)] ?_
 refine nQ id ?_
 refine rE 1 [(0, s0 6 l1.length), (1, ii 0), (2, ii ((l1.length : Nat) : Int)), (3, ii r1), aPe13, (10, .bool true), (11, .bool true)] id ?_
 refine XQ.block (id := 0) (by kernel_rfl) ?_
 refine XQ.loop m (by kernel_rfl) ?_
 obtain ⟨o1, o1_h, h⟩ := bS h
 refine nL [(0, s0 6 l1.length), (1, ii 0), (2, ii ((l1.length : Nat) : Int)), (3, ii r1), aPe13, (10, .bool true), (11, .bool true)] ((6, rc encL l1 0 74 3) :: qPe0 :: bookH b) 7 [0, 1, 2, 3, 4, 5, 6] ?_
 refine XL.conv (f31_1_ok m m b l1 ((l1.length : Nat) : Int) r1 o1 o1_h _ ?_) (by first | with_reducible rfl | simp | rfl)
 refine ⟨fun i q => (by cases q), .tuple #[], (by kernel_rfl), ?_⟩
 refine dQ ?_
 refine ⟨fun i q => (by cases q), .tuple #[], (by kernel_rfl), ?_⟩
 refine XR.conv (σ' := [(5, s0 6 l1.length)]) (h' := ((6, rc encL o1 0 74 3) :: qPe0 :: bookH b)) (c' := 7) ?_ (by kernel_rfl)
 obtain ⟨b4, h⟩ := oC h
 refine XR.conv (σ' := [(5, s0 6 o1.length)]) (h' := ((6, rc encL o1 0 74 3) :: qPe0 :: bookH b)) (c' := 7) ?_ (by rw [of_decide_eq_true b4])
 refine nQ id ?_
 refine rE 2 [(4, s0 6 o1.length)] id ?_
 refine tV (s0 6 o1.length) id ?_
 refine rE 1 [(2, s0 6 o1.length)] id ?_
 obtain rfl := sI h
 exact tV (s0 6 o1.length) id ⟨.inr ⟨6, (by decide), by kernel_rfl, by kernel_rfl⟩, by kernel_rfl, by kernel_rfl, by kernel_rfl, by kernel_rfl, by kernel_rfl⟩
end Go.Xm
