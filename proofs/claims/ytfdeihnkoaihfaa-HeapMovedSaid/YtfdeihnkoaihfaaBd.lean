/- What these functions of the program compute, as functions in Lean, and the proofs that they do: bits.Len64, bits.Len, heap.possible$1, heap.possible. Conditions: none. -/
import Derived.Test.YtfdeihnkoaihfaaZx
import Derived.Test.YtfdeihnkoaihfaaBa
import Derived.Test.YtfdeihnkoaihfaaCl
import Derived.Test.YtfdeihnkoaihfaaMr
namespace Go.Xm
open Go.RowKit
set_option linter.unusedVariables false
set_option linter.unusedSimpArgs false
set_option maxRecDepth 20000
noncomputable def f109_C109 : Code := Proofs.Try.f109.body.getD .skip
def f109 (m : Nat) (a : Int) : Option (Int) :=
 cond (inRow (IntKind.wrap .u8 (cond (decide ((cond (decide ((cond (decide (a ≥ 4294967296)) (shV false .u64 a 32) a : Int) ≥ 65536)) (shV false .u64 (cond (decide (a ≥ 4294967296)) (shV false .u64 a 32) a) 16) (cond (decide (a ≥ 4294967296)) (shV false .u64 a 32) a) : Int) ≥ 256)) (shV false .u64 (cond (decide ((cond (decide (a ≥ 4294967296)) (shV false .u64 a 32) a : Int) ≥ 65536)) (shV false .u64 (cond (decide (a ≥ 4294967296)) (shV false .u64 a 32) a) 16) (cond (decide (a ≥ 4294967296)) (shV false .u64 a 32) a)) 8) (cond (decide ((cond (decide (a ≥ 4294967296)) (shV false .u64 a 32) a : Int) ≥ 65536)) (shV false .u64 (cond (decide (a ≥ 4294967296)) (shV false .u64 a 32) a) 16) (cond (decide (a ≥ 4294967296)) (shV false .u64 a 32) a)))) (bs [0, 1, 2, 2, 3, 3, 3, 3, 4, 4, 4, 4, 4, 4, 4, 4, 5, 5, 5, 5, 5, 5, 5, 5, 5, 5, 5, 5, 5, 5, 5, 5, 6, 6, 6, 6, 6, 6, 6, 6, 6, 6, 6, 6, 6, 6, 6, 6, 6, 6, 6, 6, 6, 6, 6, 6, 6, 6, 6, 6, 6, 6, 6, 6, 7, 7, 7, 7, 7, 7, 7, 7, 7, 7, 7, 7, 7, 7, 7, 7, 7, 7, 7, 7, 7, 7, 7, 7, 7, 7, 7, 7, 7, 7, 7, 7, 7, 7, 7, 7, 7, 7, 7, 7, 7, 7, 7, 7, 7, 7, 7, 7, 7, 7, 7, 7, 7, 7, 7, 7, 7, 7, 7, 7, 7, 7, 7, 7, 8, 8, 8, 8, 8, 8, 8, 8, 8, 8, 8, 8, 8, 8, 8, 8, 8, 8, 8, 8, 8, 8, 8, 8, 8, 8, 8, 8, 8, 8, 8, 8, 8, 8, 8, 8, 8, 8, 8, 8, 8, 8, 8, 8, 8, 8, 8, 8, 8, 8, 8, 8, 8, 8, 8, 8, 8, 8, 8, 8, 8, 8, 8, 8, 8, 8, 8, 8, 8, 8, 8, 8, 8, 8, 8, 8, 8, 8, 8, 8, 8, 8, 8, 8, 8, 8, 8, 8, 8, 8, 8, 8, 8, 8, 8, 8, 8, 8, 8, 8, 8, 8, 8, 8, 8, 8, 8, 8, 8, 8, 8, 8, 8, 8, 8, 8, 8, 8, 8, 8, 8, 8, 8, 8, 8, 8, 8, 8]).size) (
  some (w64 ((cond (decide ((cond (decide ((cond (decide (a ≥ 4294967296)) (shV false .u64 a 32) a : Int) ≥ 65536)) (shV false .u64 (cond (decide (a ≥ 4294967296)) (shV false .u64 a 32) a) 16) (cond (decide (a ≥ 4294967296)) (shV false .u64 a 32) a) : Int) ≥ 256)) (w64 ((cond (decide ((cond (decide (a ≥ 4294967296)) (shV false .u64 a 32) a : Int) ≥ 65536)) (w64 ((cond (decide (a ≥ 4294967296)) 32 0) + 16)) (cond (decide (a ≥ 4294967296)) 32 0)) + 8)) (cond (decide ((cond (decide (a ≥ 4294967296)) (shV false .u64 a 32) a : Int) ≥ 65536)) (w64 ((cond (decide (a ≥ 4294967296)) 32 0) + 16)) (cond (decide (a ≥ 4294967296)) 32 0))) + (w64 (byteAt (bs [0, 1, 2, 2, 3, 3, 3, 3, 4, 4, 4, 4, 4, 4, 4, 4, 5, 5, 5, 5, 5, 5, 5, 5, 5, 5, 5, 5, 5, 5, 5, 5, 6, 6, 6, 6, 6, 6, 6, 6, 6, 6, 6, 6, 6, 6, 6, 6, 6, 6, 6, 6, 6, 6, 6, 6, 6, 6, 6, 6, 6, 6, 6, 6, 7, 7, 7, 7, 7, 7, 7, 7, 7, 7, 7, 7, 7, 7, 7, 7, 7, 7, 7, 7, 7, 7, 7, 7, 7, 7, 7, 7, 7, 7, 7, 7, 7, 7, 7, 7, 7, 7, 7, 7, 7, 7, 7, 7, 7, 7, 7, 7, 7, 7, 7, 7, 7, 7, 7, 7, 7, 7, 7, 7, 7, 7, 7, 7, 8, 8, 8, 8, 8, 8, 8, 8, 8, 8, 8, 8, 8, 8, 8, 8, 8, 8, 8, 8, 8, 8, 8, 8, 8, 8, 8, 8, 8, 8, 8, 8, 8, 8, 8, 8, 8, 8, 8, 8, 8, 8, 8, 8, 8, 8, 8, 8, 8, 8, 8, 8, 8, 8, 8, 8, 8, 8, 8, 8, 8, 8, 8, 8, 8, 8, 8, 8, 8, 8, 8, 8, 8, 8, 8, 8, 8, 8, 8, 8, 8, 8, 8, 8, 8, 8, 8, 8, 8, 8, 8, 8, 8, 8, 8, 8, 8, 8, 8, 8, 8, 8, 8, 8, 8, 8, 8, 8, 8, 8, 8, 8, 8, 8, 8, 8, 8, 8, 8, 8, 8, 8, 8, 8, 8, 8, 8, 8]) (IntKind.wrap .u8 (cond (decide ((cond (decide ((cond (decide (a ≥ 4294967296)) (shV false .u64 a 32) a : Int) ≥ 65536)) (shV false .u64 (cond (decide (a ≥ 4294967296)) (shV false .u64 a 32) a) 16) (cond (decide (a ≥ 4294967296)) (shV false .u64 a 32) a) : Int) ≥ 256)) (shV false .u64 (cond (decide ((cond (decide (a ≥ 4294967296)) (shV false .u64 a 32) a : Int) ≥ 65536)) (shV false .u64 (cond (decide (a ≥ 4294967296)) (shV false .u64 a 32) a) 16) (cond (decide (a ≥ 4294967296)) (shV false .u64 a 32) a)) 8) (cond (decide ((cond (decide (a ≥ 4294967296)) (shV false .u64 a 32) a : Int) ≥ 65536)) (shV false .u64 (cond (decide (a ≥ 4294967296)) (shV false .u64 a 32) a) 16) (cond (decide (a ≥ 4294967296)) (shV false .u64 a 32) a))))))))
 ) none
theorem f109_ok (m : Nat) (a : Int) (o : Int) (h : f109 m a = some o) (w : World) (hI : anyInv w) : Calls Proofs.Try.prog 109 #[.int .u64 a] w fun e w' => e = .returned (ii o) ∧ Below w.heap.size w w' := by
 refine KC.calls (E := E0) (args := [.int .u64 a]) (v := ii o) rfl rfl (KC.bodyN E0_ok (F := Proofs.Try.f109) (by kernel_rfl) (code := f109_C109) (by kernel_rfl) (nt := 25) (by kernel_rfl) (rs := [.tmp 2]) (by kernel_rfl) (by kernel_rfl) (σ := [(0, .int .u64 a)]) (by kernel_rfl) ?_) w (anyInv_size hI) hI
 unfold f109 at h
 refine qQ ?_
 refine rS 1 [(0, .int .u64 a), (2, ii 0)] ?_
 refine dQ ?_
 show XQ _ _ _ _ _ _ _ _
 refine sQ ?_
 refine qQ ?_
 refine rS 2 [(0, .int .u64 a), (2, ii 0), (4, .bool (decide (a ≥ 4294967296)))] ?_
 refine dQ ?_
 show XQ _ _ _ _ _ _ _ _
 refine XQ.meetC (σ' := [(0, .int .u64 (cond (decide (a ≥ 4294967296)) (shV false .u64 a 32) a)), (2, ii (cond (decide (a ≥ 4294967296)) 32 0))]) (h' := []) (c' := 0) ?_ ?_
 rotate_left
 ·refine XQ.cond (s := (.tmp 4)) (b := decide (a ≥ 4294967296)) (by kernel_rfl) (by kernel_rfl) (fun b1 => ?_) (fun b1 => ?_)
  ·refine qQ ?_
   refine rS 3 [(0, .int .u64 (shV false .u64 a 32))] ?_
   refine dQ ?_
   show XQ _ _ _ _ _ _ _ _
   refine rQ ?_
   refine rS 1 [(0, .int .u64 (shV false .u64 a 32)), (2, ii 32)] ?_
   refine dQ ?_
   refine ⟨rfl, ?_, ?_⟩
   ·try rw [b1]
    exact ⟨rfl, rfl, trivial⟩
   ·try rw [b1]
    kernel_rfl
  ·refine kQ ?_
   refine ⟨rfl, ?_, ?_⟩
   ·try rw [b1]
    exact ⟨rfl, rfl, trivial⟩
   ·try rw [b1]
    kernel_rfl
 show XQ _ _ _ _ _ _ _ _
 refine sQ ?_
 refine qQ ?_
 refine rS 2 [(0, .int .u64 (cond (decide (a ≥ 4294967296)) (shV false .u64 a 32) a)), (2, ii (cond (decide (a ≥ 4294967296)) 32 0)), (8, .bool (decide ((cond (decide (a ≥ 4294967296)) (shV false .u64 a 32) a : Int) ≥ 65536)))] ?_
 refine dQ ?_
 show XQ _ _ _ _ _ _ _ _
 refine XQ.meetC (σ' := [(0, .int .u64 (cond (decide ((cond (decide (a ≥ 4294967296)) (shV false .u64 a 32) a : Int) ≥ 65536)) (shV false .u64 (cond (decide (a ≥ 4294967296)) (shV false .u64 a 32) a) 16) (cond (decide (a ≥ 4294967296)) (shV false .u64 a 32) a))), (2, ii (cond (decide ((cond (decide (a ≥ 4294967296)) (shV false .u64 a 32) a : Int) ≥ 65536)) (w64 ((cond (decide (a ≥ 4294967296)) 32 0) + 16)) (cond (decide (a ≥ 4294967296)) 32 0)))]) (h' := []) (c' := 0) ?_ ?_
 rotate_left
 ·refine XQ.cond (s := (.tmp 8)) (b := decide ((cond (decide (a ≥ 4294967296)) (shV false .u64 a 32) a : Int) ≥ 65536)) (by kernel_rfl) (by kernel_rfl) (fun b2 => ?_) (fun b2 => ?_)
  ·refine qQ ?_
   refine rS 3 [(0, .int .u64 (shV false .u64 (cond (decide (a ≥ 4294967296)) (shV false .u64 a 32) a) 16)), (2, ii (cond (decide (a ≥ 4294967296)) 32 0))] ?_
   refine dQ ?_
   show XQ _ _ _ _ _ _ _ _
   refine rQ ?_
   refine rS 3 [(0, .int .u64 (shV false .u64 (cond (decide (a ≥ 4294967296)) (shV false .u64 a 32) a) 16)), (2, ii (w64 ((cond (decide (a ≥ 4294967296)) 32 0) + 16)))] ?_
   refine dQ ?_
   refine ⟨rfl, ?_, ?_⟩
   ·try rw [b2]
    exact ⟨rfl, rfl, trivial⟩
   ·try rw [b2]
    kernel_rfl
  ·refine kQ ?_
   refine ⟨rfl, ?_, ?_⟩
   ·try rw [b2]
    exact ⟨rfl, rfl, trivial⟩
   ·try rw [b2]
    kernel_rfl
 show XQ _ _ _ _ _ _ _ _
 refine sQ ?_
 refine qQ ?_
 refine rS 2 [(0, .int .u64 (cond (decide ((cond (decide (a ≥ 4294967296)) (shV false .u64 a 32) a : Int) ≥ 65536)) (shV false .u64 (cond (decide (a ≥ 4294967296)) (shV false .u64 a 32) a) 16) (cond (decide (a ≥ 4294967296)) (shV false .u64 a 32) a))), (2, ii (cond (decide ((cond (decide (a ≥ 4294967296)) (shV false .u64 a 32) a : Int) ≥ 65536)) (w64 ((cond (decide (a ≥ 4294967296)) 32 0) + 16)) (cond (decide (a ≥ 4294967296)) 32 0))), (14, .bool (decide ((cond (decide ((cond (decide (a ≥ 4294967296)) (shV false .u64 a 32) a : Int) ≥ 65536)) (shV false .u64 (cond (decide (a ≥ 4294967296)) (shV false .u64 a 32) a) 16) (cond (decide (a ≥ 4294967296)) (shV false .u64 a 32) a) : Int) ≥ 256)))] ?_
 refine dQ ?_
 show XQ _ _ _ _ _ _ _ _
 refine XQ.meetC (σ' := [(0, .int .u64 (cond (decide ((cond (decide ((cond (decide (a ≥ 4294967296)) (shV false .u64 a 32) a : Int) ≥ 65536)) (shV false .u64 (cond (decide (a ≥ 4294967296)) (shV false .u64 a 32) a) 16) (cond (decide (a ≥ 4294967296)) (shV false .u64 a 32) a) : Int) ≥ 256)) (shV false .u64 (cond (decide ((cond (decide (a ≥ 4294967296)) (shV false .u64 a 32) a : Int) ≥ 65536)) (shV false .u64 (cond (decide (a ≥ 4294967296)) (shV false .u64 a 32) a) 16) (cond (decide (a ≥ 4294967296)) (shV false .u64 a 32) a)) 8) (cond (decide ((cond (decide (a ≥ 4294967296)) (shV false .u64 a 32) a : Int) ≥ 65536)) (shV false .u64 (cond (decide (a ≥ 4294967296)) (shV false .u64 a 32) a) 16) (cond (decide (a ≥ 4294967296)) (shV false .u64 a 32) a)))), (2, ii (cond (decide ((cond (decide ((cond (decide (a ≥ 4294967296)) (shV false .u64 a 32) a : Int) ≥ 65536)) (shV false .u64 (cond (decide (a ≥ 4294967296)) (shV false .u64 a 32) a) 16) (cond (decide (a ≥ 4294967296)) (shV false .u64 a 32) a) : Int) ≥ 256)) (w64 ((cond (decide ((cond (decide (a ≥ 4294967296)) (shV false .u64 a 32) a : Int) ≥ 65536)) (w64 ((cond (decide (a ≥ 4294967296)) 32 0) + 16)) (cond (decide (a ≥ 4294967296)) 32 0)) + 8)) (cond (decide ((cond (decide (a ≥ 4294967296)) (shV false .u64 a 32) a : Int) ≥ 65536)) (w64 ((cond (decide (a ≥ 4294967296)) 32 0) + 16)) (cond (decide (a ≥ 4294967296)) 32 0))))]) (h' := []) (c' := 0) ?_ ?_
 rotate_left
 ·refine XQ.cond (s := (.tmp 14)) (b := decide ((cond (decide ((cond (decide (a ≥ 4294967296)) (shV false .u64 a 32) a : Int) ≥ 65536)) (shV false .u64 (cond (decide (a ≥ 4294967296)) (shV false .u64 a 32) a) 16) (cond (decide (a ≥ 4294967296)) (shV false .u64 a 32) a) : Int) ≥ 256)) (by kernel_rfl) (by kernel_rfl) (fun b3 => ?_) (fun b3 => ?_)
  ·refine qQ ?_
   refine rS 3 [(0, .int .u64 (shV false .u64 (cond (decide ((cond (decide (a ≥ 4294967296)) (shV false .u64 a 32) a : Int) ≥ 65536)) (shV false .u64 (cond (decide (a ≥ 4294967296)) (shV false .u64 a 32) a) 16) (cond (decide (a ≥ 4294967296)) (shV false .u64 a 32) a)) 8)), (2, ii (cond (decide ((cond (decide (a ≥ 4294967296)) (shV false .u64 a 32) a : Int) ≥ 65536)) (w64 ((cond (decide (a ≥ 4294967296)) 32 0) + 16)) (cond (decide (a ≥ 4294967296)) 32 0)))] ?_
   refine dQ ?_
   show XQ _ _ _ _ _ _ _ _
   refine rQ ?_
   refine rS 3 [(0, .int .u64 (shV false .u64 (cond (decide ((cond (decide (a ≥ 4294967296)) (shV false .u64 a 32) a : Int) ≥ 65536)) (shV false .u64 (cond (decide (a ≥ 4294967296)) (shV false .u64 a 32) a) 16) (cond (decide (a ≥ 4294967296)) (shV false .u64 a 32) a)) 8)), (2, ii (w64 ((cond (decide ((cond (decide (a ≥ 4294967296)) (shV false .u64 a 32) a : Int) ≥ 65536)) (w64 ((cond (decide (a ≥ 4294967296)) 32 0) + 16)) (cond (decide (a ≥ 4294967296)) 32 0)) + 8)))] ?_
   refine dQ ?_
   refine ⟨rfl, ?_, ?_⟩
   ·try rw [b3]
    exact ⟨rfl, rfl, trivial⟩
   ·try rw [b3]
    kernel_rfl
  ·refine kQ ?_
   refine ⟨rfl, ?_, ?_⟩
   ·try rw [b3]
    exact ⟨rfl, rfl, trivial⟩
   ·try rw [b3]
    kernel_rfl
 show XQ _ _ _ _ _ _ _ _
 refine qQ ?_
 refine rS 3 [(19, ii (cond (decide ((cond (decide ((cond (decide (a ≥ 4294967296)) (shV false .u64 a 32) a : Int) ≥ 65536)) (shV false .u64 (cond (decide (a ≥ 4294967296)) (shV false .u64 a 32) a) 16) (cond (decide (a ≥ 4294967296)) (shV false .u64 a 32) a) : Int) ≥ 256)) (w64 ((cond (decide ((cond (decide (a ≥ 4294967296)) (shV false .u64 a 32) a : Int) ≥ 65536)) (w64 ((cond (decide (a ≥ 4294967296)) 32 0) + 16)) (cond (decide (a ≥ 4294967296)) 32 0)) + 8)) (cond (decide ((cond (decide (a ≥ 4294967296)) (shV false .u64 a 32) a : Int) ≥ 65536)) (w64 ((cond (decide (a ≥ 4294967296)) 32 0) + 16)) (cond (decide (a ≥ 4294967296)) 32 0)))), (21, .int .u8 (IntKind.wrap .u8 (cond (decide ((cond (decide ((cond (decide (a ≥ 4294967296)) (shV false .u64 a 32) a : Int) ≥ 65536)) (shV false .u64 (cond (decide (a ≥ 4294967296)) (shV false .u64 a 32) a) 16) (cond (decide (a ≥ 4294967296)) (shV false .u64 a 32) a) : Int) ≥ 256)) (shV false .u64 (cond (decide ((cond (decide (a ≥ 4294967296)) (shV false .u64 a 32) a : Int) ≥ 65536)) (shV false .u64 (cond (decide (a ≥ 4294967296)) (shV false .u64 a 32) a) 16) (cond (decide (a ≥ 4294967296)) (shV false .u64 a 32) a)) 8) (cond (decide ((cond (decide (a ≥ 4294967296)) (shV false .u64 a 32) a : Int) ≥ 65536)) (shV false .u64 (cond (decide (a ≥ 4294967296)) (shV false .u64 a 32) a) 16) (cond (decide (a ≥ 4294967296)) (shV false .u64 a 32) a)))))] ?_
 cases b4 : (inRow (IntKind.wrap .u8 (cond (decide ((cond (decide ((cond (decide (a ≥ 4294967296)) (shV false .u64 a 32) a : Int) ≥ 65536)) (shV false .u64 (cond (decide (a ≥ 4294967296)) (shV false .u64 a 32) a) 16) (cond (decide (a ≥ 4294967296)) (shV false .u64 a 32) a) : Int) ≥ 256)) (shV false .u64 (cond (decide ((cond (decide (a ≥ 4294967296)) (shV false .u64 a 32) a : Int) ≥ 65536)) (shV false .u64 (cond (decide (a ≥ 4294967296)) (shV false .u64 a 32) a) 16) (cond (decide (a ≥ 4294967296)) (shV false .u64 a 32) a)) 8) (cond (decide ((cond (decide (a ≥ 4294967296)) (shV false .u64 a 32) a : Int) ≥ 65536)) (shV false .u64 (cond (decide (a ≥ 4294967296)) (shV false .u64 a 32) a) 16) (cond (decide (a ≥ 4294967296)) (shV false .u64 a 32) a)))) (bs [0, 1, 2, 2, 3, 3, 3, 3, 4, 4, 4, 4, 4, 4, 4, 4, 5, 5, 5, 5, 5, 5, 5, 5, 5, 5, 5, 5, 5, 5, 5, 5, 6, 6, 6, 6, 6, 6, 6, 6, 6, 6, 6, 6, 6, 6, 6, 6, 6, 6, 6, 6, 6, 6, 6, 6, 6, 6, 6, 6, 6, 6, 6, 6, 7, 7, 7, 7, 7, 7, 7, 7, 7, 7, 7, 7, 7, 7, 7, 7, 7, 7, 7, 7, 7, 7, 7, 7, 7, 7, 7, 7, 7, 7, 7, 7, 7, 7, 7, 7, 7, 7, 7, 7, 7, 7, 7, 7, 7, 7, 7, 7, 7, 7, 7, 7, 7, 7, 7, 7, 7, 7, 7, 7, 7, 7, 7, 7, 8, 8, 8, 8, 8, 8, 8, 8, 8, 8, 8, 8, 8, 8, 8, 8, 8, 8, 8, 8, 8, 8, 8, 8, 8, 8, 8, 8, 8, 8, 8, 8, 8, 8, 8, 8, 8, 8, 8, 8, 8, 8, 8, 8, 8, 8, 8, 8, 8, 8, 8, 8, 8, 8, 8, 8, 8, 8, 8, 8, 8, 8, 8, 8, 8, 8, 8, 8, 8, 8, 8, 8, 8, 8, 8, 8, 8, 8, 8, 8, 8, 8, 8, 8, 8, 8, 8, 8, 8, 8, 8, 8, 8, 8, 8, 8, 8, 8, 8, 8, 8, 8, 8, 8, 8, 8, 8, 8, 8, 8, 8, 8, 8, 8, 8, 8, 8, 8, 8, 8, 8, 8, 8, 8, 8, 8, 8, 8]).size : Bool) with
 | false => cases (cF b4 h)
 | true =>
  have h := cT b4 h
  have e5 : insV (headI ((gsOf E0 25 (opsOf (lft (rgt (rgt (rgt (rgt f109_C109))))))).drop 3) (trS 25 [(19, ii (cond (decide ((cond (decide ((cond (decide (a ≥ 4294967296)) (shV false .u64 a 32) a : Int) ≥ 65536)) (shV false .u64 (cond (decide (a ≥ 4294967296)) (shV false .u64 a 32) a) 16) (cond (decide (a ≥ 4294967296)) (shV false .u64 a 32) a) : Int) ≥ 256)) (w64 ((cond (decide ((cond (decide (a ≥ 4294967296)) (shV false .u64 a 32) a : Int) ≥ 65536)) (w64 ((cond (decide (a ≥ 4294967296)) 32 0) + 16)) (cond (decide (a ≥ 4294967296)) 32 0)) + 8)) (cond (decide ((cond (decide (a ≥ 4294967296)) (shV false .u64 a 32) a : Int) ≥ 65536)) (w64 ((cond (decide (a ≥ 4294967296)) 32 0) + 16)) (cond (decide (a ≥ 4294967296)) 32 0)))), (21, .int .u8 (IntKind.wrap .u8 (cond (decide ((cond (decide ((cond (decide (a ≥ 4294967296)) (shV false .u64 a 32) a : Int) ≥ 65536)) (shV false .u64 (cond (decide (a ≥ 4294967296)) (shV false .u64 a 32) a) 16) (cond (decide (a ≥ 4294967296)) (shV false .u64 a 32) a) : Int) ≥ 256)) (shV false .u64 (cond (decide ((cond (decide (a ≥ 4294967296)) (shV false .u64 a 32) a : Int) ≥ 65536)) (shV false .u64 (cond (decide (a ≥ 4294967296)) (shV false .u64 a 32) a) 16) (cond (decide (a ≥ 4294967296)) (shV false .u64 a 32) a)) 8) (cond (decide ((cond (decide (a ≥ 4294967296)) (shV false .u64 a 32) a : Int) ≥ 65536)) (shV false .u64 (cond (decide (a ≥ 4294967296)) (shV false .u64 a 32) a) 16) (cond (decide (a ≥ 4294967296)) (shV false .u64 a 32) a)))))])) (trS 25 [(19, ii (cond (decide ((cond (decide ((cond (decide (a ≥ 4294967296)) (shV false .u64 a 32) a : Int) ≥ 65536)) (shV false .u64 (cond (decide (a ≥ 4294967296)) (shV false .u64 a 32) a) 16) (cond (decide (a ≥ 4294967296)) (shV false .u64 a 32) a) : Int) ≥ 256)) (w64 ((cond (decide ((cond (decide (a ≥ 4294967296)) (shV false .u64 a 32) a : Int) ≥ 65536)) (w64 ((cond (decide (a ≥ 4294967296)) 32 0) + 16)) (cond (decide (a ≥ 4294967296)) 32 0)) + 8)) (cond (decide ((cond (decide (a ≥ 4294967296)) (shV false .u64 a 32) a : Int) ≥ 65536)) (w64 ((cond (decide (a ≥ 4294967296)) 32 0) + 16)) (cond (decide (a ≥ 4294967296)) 32 0)))), (21, .int .u8 (IntKind.wrap .u8 (cond (decide ((cond (decide ((cond (decide (a ≥ 4294967296)) (shV false .u64 a 32) a : Int) ≥ 65536)) (shV false .u64 (cond (decide (a ≥ 4294967296)) (shV false .u64 a 32) a) 16) (cond (decide (a ≥ 4294967296)) (shV false .u64 a 32) a) : Int) ≥ 256)) (shV false .u64 (cond (decide ((cond (decide (a ≥ 4294967296)) (shV false .u64 a 32) a : Int) ≥ 65536)) (shV false .u64 (cond (decide (a ≥ 4294967296)) (shV false .u64 a 32) a) 16) (cond (decide (a ≥ 4294967296)) (shV false .u64 a 32) a)) 8) (cond (decide ((cond (decide (a ≥ 4294967296)) (shV false .u64 a 32) a : Int) ≥ 65536)) (shV false .u64 (cond (decide (a ≥ 4294967296)) (shV false .u64 a 32) a) 16) (cond (decide (a ≥ 4294967296)) (shV false .u64 a 32) a)))))]) [] = (match (inRow (IntKind.wrap .u8 (cond (decide ((cond (decide ((cond (decide (a ≥ 4294967296)) (shV false .u64 a 32) a : Int) ≥ 65536)) (shV false .u64 (cond (decide (a ≥ 4294967296)) (shV false .u64 a 32) a) 16) (cond (decide (a ≥ 4294967296)) (shV false .u64 a 32) a) : Int) ≥ 256)) (shV false .u64 (cond (decide ((cond (decide (a ≥ 4294967296)) (shV false .u64 a 32) a : Int) ≥ 65536)) (shV false .u64 (cond (decide (a ≥ 4294967296)) (shV false .u64 a 32) a) 16) (cond (decide (a ≥ 4294967296)) (shV false .u64 a 32) a)) 8) (cond (decide ((cond (decide (a ≥ 4294967296)) (shV false .u64 a 32) a : Int) ≥ 65536)) (shV false .u64 (cond (decide (a ≥ 4294967296)) (shV false .u64 a 32) a) 16) (cond (decide (a ≥ 4294967296)) (shV false .u64 a 32) a)))) (bs [0, 1, 2, 2, 3, 3, 3, 3, 4, 4, 4, 4, 4, 4, 4, 4, 5, 5, 5, 5, 5, 5, 5, 5, 5, 5, 5, 5, 5, 5, 5, 5, 6, 6, 6, 6, 6, 6, 6, 6, 6, 6, 6, 6, 6, 6, 6, 6, 6, 6, 6, 6, 6, 6, 6, 6, 6, 6, 6, 6, 6, 6, 6, 6, 7, 7, 7, 7, 7, 7, 7, 7, 7, 7, 7, 7, 7, 7, 7, 7, 7, 7, 7, 7, 7, 7, 7, 7, 7, 7, 7, 7, 7, 7, 7, 7, 7, 7, 7, 7, 7, 7, 7, 7, 7, 7, 7, 7, 7, 7, 7, 7, 7, 7, 7, 7, 7, 7, 7, 7, 7, 7, 7, 7, 7, 7, 7, 7, 8, 8, 8, 8, 8, 8, 8, 8, 8, 8, 8, 8, 8, 8, 8, 8, 8, 8, 8, 8, 8, 8, 8, 8, 8, 8, 8, 8, 8, 8, 8, 8, 8, 8, 8, 8, 8, 8, 8, 8, 8, 8, 8, 8, 8, 8, 8, 8, 8, 8, 8, 8, 8, 8, 8, 8, 8, 8, 8, 8, 8, 8, 8, 8, 8, 8, 8, 8, 8, 8, 8, 8, 8, 8, 8, 8, 8, 8, 8, 8, 8, 8, 8, 8, 8, 8, 8, 8, 8, 8, 8, 8, 8, 8, 8, 8, 8, 8, 8, 8, 8, 8, 8, 8, 8, 8, 8, 8, 8, 8, 8, 8, 8, 8, 8, 8, 8, 8, 8, 8, 8, 8, 8, 8, 8, 8, 8, 8]).size : Bool) with | true => some (.int .u8 (byteAt (bs [0, 1, 2, 2, 3, 3, 3, 3, 4, 4, 4, 4, 4, 4, 4, 4, 5, 5, 5, 5, 5, 5, 5, 5, 5, 5, 5, 5, 5, 5, 5, 5, 6, 6, 6, 6, 6, 6, 6, 6, 6, 6, 6, 6, 6, 6, 6, 6, 6, 6, 6, 6, 6, 6, 6, 6, 6, 6, 6, 6, 6, 6, 6, 6, 7, 7, 7, 7, 7, 7, 7, 7, 7, 7, 7, 7, 7, 7, 7, 7, 7, 7, 7, 7, 7, 7, 7, 7, 7, 7, 7, 7, 7, 7, 7, 7, 7, 7, 7, 7, 7, 7, 7, 7, 7, 7, 7, 7, 7, 7, 7, 7, 7, 7, 7, 7, 7, 7, 7, 7, 7, 7, 7, 7, 7, 7, 7, 7, 8, 8, 8, 8, 8, 8, 8, 8, 8, 8, 8, 8, 8, 8, 8, 8, 8, 8, 8, 8, 8, 8, 8, 8, 8, 8, 8, 8, 8, 8, 8, 8, 8, 8, 8, 8, 8, 8, 8, 8, 8, 8, 8, 8, 8, 8, 8, 8, 8, 8, 8, 8, 8, 8, 8, 8, 8, 8, 8, 8, 8, 8, 8, 8, 8, 8, 8, 8, 8, 8, 8, 8, 8, 8, 8, 8, 8, 8, 8, 8, 8, 8, 8, 8, 8, 8, 8, 8, 8, 8, 8, 8, 8, 8, 8, 8, 8, 8, 8, 8, 8, 8, 8, 8, 8, 8, 8, 8, 8, 8, 8, 8, 8, 8, 8, 8, 8, 8, 8, 8, 8, 8, 8, 8, 8, 8, 8, 8]) (IntKind.wrap .u8 (cond (decide ((cond (decide ((cond (decide (a ≥ 4294967296)) (shV false .u64 a 32) a : Int) ≥ 65536)) (shV false .u64 (cond (decide (a ≥ 4294967296)) (shV false .u64 a 32) a) 16) (cond (decide (a ≥ 4294967296)) (shV false .u64 a 32) a) : Int) ≥ 256)) (shV false .u64 (cond (decide ((cond (decide (a ≥ 4294967296)) (shV false .u64 a 32) a : Int) ≥ 65536)) (shV false .u64 (cond (decide (a ≥ 4294967296)) (shV false .u64 a 32) a) 16) (cond (decide (a ≥ 4294967296)) (shV false .u64 a 32) a)) 8) (cond (decide ((cond (decide (a ≥ 4294967296)) (shV false .u64 a 32) a : Int) ≥ 65536)) (shV false .u64 (cond (decide (a ≥ 4294967296)) (shV false .u64 a 32) a) 16) (cond (decide (a ≥ 4294967296)) (shV false .u64 a 32) a)))))) | false => none) := by kernel_rfl
  refine XR.rd E0_ok [19, 22] rfl (e5.trans (by rw [b4])) (σ' := [(19, ii (cond (decide ((cond (decide ((cond (decide (a ≥ 4294967296)) (shV false .u64 a 32) a : Int) ≥ 65536)) (shV false .u64 (cond (decide (a ≥ 4294967296)) (shV false .u64 a 32) a) 16) (cond (decide (a ≥ 4294967296)) (shV false .u64 a 32) a) : Int) ≥ 256)) (w64 ((cond (decide ((cond (decide (a ≥ 4294967296)) (shV false .u64 a 32) a : Int) ≥ 65536)) (w64 ((cond (decide (a ≥ 4294967296)) 32 0) + 16)) (cond (decide (a ≥ 4294967296)) 32 0)) + 8)) (cond (decide ((cond (decide (a ≥ 4294967296)) (shV false .u64 a 32) a : Int) ≥ 65536)) (w64 ((cond (decide (a ≥ 4294967296)) 32 0) + 16)) (cond (decide (a ≥ 4294967296)) 32 0)))), (22, .int .u8 (byteAt (bs [0, 1, 2, 2, 3, 3, 3, 3, 4, 4, 4, 4, 4, 4, 4, 4, 5, 5, 5, 5, 5, 5, 5, 5, 5, 5, 5, 5, 5, 5, 5, 5, 6, 6, 6, 6, 6, 6, 6, 6, 6, 6, 6, 6, 6, 6, 6, 6, 6, 6, 6, 6, 6, 6, 6, 6, 6, 6, 6, 6, 6, 6, 6, 6, 7, 7, 7, 7, 7, 7, 7, 7, 7, 7, 7, 7, 7, 7, 7, 7, 7, 7, 7, 7, 7, 7, 7, 7, 7, 7, 7, 7, 7, 7, 7, 7, 7, 7, 7, 7, 7, 7, 7, 7, 7, 7, 7, 7, 7, 7, 7, 7, 7, 7, 7, 7, 7, 7, 7, 7, 7, 7, 7, 7, 7, 7, 7, 7, 8, 8, 8, 8, 8, 8, 8, 8, 8, 8, 8, 8, 8, 8, 8, 8, 8, 8, 8, 8, 8, 8, 8, 8, 8, 8, 8, 8, 8, 8, 8, 8, 8, 8, 8, 8, 8, 8, 8, 8, 8, 8, 8, 8, 8, 8, 8, 8, 8, 8, 8, 8, 8, 8, 8, 8, 8, 8, 8, 8, 8, 8, 8, 8, 8, 8, 8, 8, 8, 8, 8, 8, 8, 8, 8, 8, 8, 8, 8, 8, 8, 8, 8, 8, 8, 8, 8, 8, 8, 8, 8, 8, 8, 8, 8, 8, 8, 8, 8, 8, 8, 8, 8, 8, 8, 8, 8, 8, 8, 8, 8, 8, 8, 8, 8, 8, 8, 8, 8, 8, 8, 8, 8, 8, 8, 8, 8, 8]) (IntKind.wrap .u8 (cond (decide ((cond (decide ((cond (decide (a ≥ 4294967296)) (shV false .u64 a 32) a : Int) ≥ 65536)) (shV false .u64 (cond (decide (a ≥ 4294967296)) (shV false .u64 a 32) a) 16) (cond (decide (a ≥ 4294967296)) (shV false .u64 a 32) a) : Int) ≥ 256)) (shV false .u64 (cond (decide ((cond (decide (a ≥ 4294967296)) (shV false .u64 a 32) a : Int) ≥ 65536)) (shV false .u64 (cond (decide (a ≥ 4294967296)) (shV false .u64 a 32) a) 16) (cond (decide (a ≥ 4294967296)) (shV false .u64 a 32) a)) 8) (cond (decide ((cond (decide (a ≥ 4294967296)) (shV false .u64 a 32) a : Int) ≥ 65536)) (shV false .u64 (cond (decide (a ≥ 4294967296)) (shV false .u64 a 32) a) 16) (cond (decide (a ≥ 4294967296)) (shV false .u64 a 32) a))))))]) (by kernel_rfl) ?_
  refine rS 3 [(2, ii (w64 ((cond (decide ((cond (decide ((cond (decide (a ≥ 4294967296)) (shV false .u64 a 32) a : Int) ≥ 65536)) (shV false .u64 (cond (decide (a ≥ 4294967296)) (shV false .u64 a 32) a) 16) (cond (decide (a ≥ 4294967296)) (shV false .u64 a 32) a) : Int) ≥ 256)) (w64 ((cond (decide ((cond (decide (a ≥ 4294967296)) (shV false .u64 a 32) a : Int) ≥ 65536)) (w64 ((cond (decide (a ≥ 4294967296)) 32 0) + 16)) (cond (decide (a ≥ 4294967296)) 32 0)) + 8)) (cond (decide ((cond (decide (a ≥ 4294967296)) (shV false .u64 a 32) a : Int) ≥ 65536)) (w64 ((cond (decide (a ≥ 4294967296)) 32 0) + 16)) (cond (decide (a ≥ 4294967296)) 32 0))) + (w64 (byteAt (bs [0, 1, 2, 2, 3, 3, 3, 3, 4, 4, 4, 4, 4, 4, 4, 4, 5, 5, 5, 5, 5, 5, 5, 5, 5, 5, 5, 5, 5, 5, 5, 5, 6, 6, 6, 6, 6, 6, 6, 6, 6, 6, 6, 6, 6, 6, 6, 6, 6, 6, 6, 6, 6, 6, 6, 6, 6, 6, 6, 6, 6, 6, 6, 6, 7, 7, 7, 7, 7, 7, 7, 7, 7, 7, 7, 7, 7, 7, 7, 7, 7, 7, 7, 7, 7, 7, 7, 7, 7, 7, 7, 7, 7, 7, 7, 7, 7, 7, 7, 7, 7, 7, 7, 7, 7, 7, 7, 7, 7, 7, 7, 7, 7, 7, 7, 7, 7, 7, 7, 7, 7, 7, 7, 7, 7, 7, 7, 7, 8, 8, 8, 8, 8, 8, 8, 8, 8, 8, 8, 8, 8, 8, 8, 8, 8, 8, 8, 8, 8, 8, 8, 8, 8, 8, 8, 8, 8, 8, 8, 8, 8, 8, 8, 8, 8, 8, 8, 8, 8, 8, 8, 8, 8, 8, 8, 8, 8, 8, 8, 8, 8, 8, 8, 8, 8, 8, 8, 8, 8, 8, 8, 8, 8, 8, 8, 8, 8, 8, 8, 8, 8, 8, 8, 8, 8, 8, 8, 8, 8, 8, 8, 8, 8, 8, 8, 8, 8, 8, 8, 8, 8, 8, 8, 8, 8, 8, 8, 8, 8, 8, 8, 8, 8, 8, 8, 8, 8, 8, 8, 8, 8, 8, 8, 8, 8, 8, 8, 8, 8, 8, 8, 8, 8, 8, 8, 8]) (IntKind.wrap .u8 (cond (decide ((cond (decide ((cond (decide (a ≥ 4294967296)) (shV false .u64 a 32) a : Int) ≥ 65536)) (shV false .u64 (cond (decide (a ≥ 4294967296)) (shV false .u64 a 32) a) 16) (cond (decide (a ≥ 4294967296)) (shV false .u64 a 32) a) : Int) ≥ 256)) (shV false .u64 (cond (decide ((cond (decide (a ≥ 4294967296)) (shV false .u64 a 32) a : Int) ≥ 65536)) (shV false .u64 (cond (decide (a ≥ 4294967296)) (shV false .u64 a 32) a) 16) (cond (decide (a ≥ 4294967296)) (shV false .u64 a 32) a)) 8) (cond (decide ((cond (decide (a ≥ 4294967296)) (shV false .u64 a 32) a : Int) ≥ 65536)) (shV false .u64 (cond (decide (a ≥ 4294967296)) (shV false .u64 a 32) a) 16) (cond (decide (a ≥ 4294967296)) (shV false .u64 a 32) a)))))))))] ?_
  refine dQ ?_
  show XQ _ _ _ _ _ _ _ _
  refine XQ.ret (by kernel_rfl) ?_
  have h := Option.some.inj h
  subst h
  exact ⟨fun i q => (by cases q), ii (w64 ((cond (decide ((cond (decide ((cond (decide (a ≥ 4294967296)) (shV false .u64 a 32) a : Int) ≥ 65536)) (shV false .u64 (cond (decide (a ≥ 4294967296)) (shV false .u64 a 32) a) 16) (cond (decide (a ≥ 4294967296)) (shV false .u64 a 32) a) : Int) ≥ 256)) (w64 ((cond (decide ((cond (decide (a ≥ 4294967296)) (shV false .u64 a 32) a : Int) ≥ 65536)) (w64 ((cond (decide (a ≥ 4294967296)) 32 0) + 16)) (cond (decide (a ≥ 4294967296)) 32 0)) + 8)) (cond (decide ((cond (decide (a ≥ 4294967296)) (shV false .u64 a 32) a : Int) ≥ 65536)) (w64 ((cond (decide (a ≥ 4294967296)) 32 0) + 16)) (cond (decide (a ≥ 4294967296)) 32 0))) + (w64 (byteAt (bs [0, 1, 2, 2, 3, 3, 3, 3, 4, 4, 4, 4, 4, 4, 4, 4, 5, 5, 5, 5, 5, 5, 5, 5, 5, 5, 5, 5, 5, 5, 5, 5, 6, 6, 6, 6, 6, 6, 6, 6, 6, 6, 6, 6, 6, 6, 6, 6, 6, 6, 6, 6, 6, 6, 6, 6, 6, 6, 6, 6, 6, 6, 6, 6, 7, 7, 7, 7, 7, 7, 7, 7, 7, 7, 7, 7, 7, 7, 7, 7, 7, 7, 7, 7, 7, 7, 7, 7, 7, 7, 7, 7, 7, 7, 7, 7, 7, 7, 7, 7, 7, 7, 7, 7, 7, 7, 7, 7, 7, 7, 7, 7, 7, 7, 7, 7, 7, 7, 7, 7, 7, 7, 7, 7, 7, 7, 7, 7, 8, 8, 8, 8, 8, 8, 8, 8, 8, 8, 8, 8, 8, 8, 8, 8, 8, 8, 8, 8, 8, 8, 8, 8, 8, 8, 8, 8, 8, 8, 8, 8, 8, 8, 8, 8, 8, 8, 8, 8, 8, 8, 8, 8, 8, 8, 8, 8, 8, 8, 8, 8, 8, 8, 8, 8, 8, 8, 8, 8, 8, 8, 8, 8, 8, 8, 8, 8, 8, 8, 8, 8, 8, 8, 8, 8, 8, 8, 8, 8, 8, 8, 8, 8, 8, 8, 8, 8, 8, 8, 8, 8, 8, 8, 8, 8, 8, 8, 8, 8, 8, 8, 8, 8, 8, 8, 8, 8, 8, 8, 8, 8, 8, 8, 8, 8, 8, 8, 8, 8, 8, 8, 8, 8, 8, 8, 8, 8]) (IntKind.wrap .u8 (cond (decide ((cond (decide ((cond (decide (a ≥ 4294967296)) (shV false .u64 a 32) a : Int) ≥ 65536)) (shV false .u64 (cond (decide (a ≥ 4294967296)) (shV false .u64 a 32) a) 16) (cond (decide (a ≥ 4294967296)) (shV false .u64 a 32) a) : Int) ≥ 256)) (shV false .u64 (cond (decide ((cond (decide (a ≥ 4294967296)) (shV false .u64 a 32) a : Int) ≥ 65536)) (shV false .u64 (cond (decide (a ≥ 4294967296)) (shV false .u64 a 32) a) 16) (cond (decide (a ≥ 4294967296)) (shV false .u64 a 32) a)) 8) (cond (decide ((cond (decide (a ≥ 4294967296)) (shV false .u64 a 32) a : Int) ≥ 65536)) (shV false .u64 (cond (decide (a ≥ 4294967296)) (shV false .u64 a 32) a) 16) (cond (decide (a ≥ 4294967296)) (shV false .u64 a 32) a)))))))), (by kernel_rfl), rfl⟩
noncomputable def f98_C98 : Code := Proofs.Try.f98.body.getD .skip
def f98 (m : Nat) (a : Int) : Option (Int) :=
 (f109 m a).bind fun r1 =>
  some (r1)
theorem f98_ok (m : Nat) (a : Int) (o : Int) (h : f98 m a = some o) (w : World) (hI : anyInv w) : Calls Proofs.Try.prog 98 #[.int .u64 a] w fun e w' => e = .returned (ii o) ∧ Below w.heap.size w w' := by
 refine KC.calls (E := E0) (args := [.int .u64 a]) (v := ii o) rfl rfl (KC.bodyN E0_ok (F := Proofs.Try.f98) (by kernel_rfl) (code := f98_C98) (by kernel_rfl) (nt := 8) (by kernel_rfl) (rs := [.tmp 2]) (by kernel_rfl) (by kernel_rfl) (σ := [(0, .int .u64 a)]) (by kernel_rfl) ?_) w (anyInv_size hI) hI
 unfold f98 at h
 refine qQ ?_
 refine rS 1 [(0, .int .u64 a)] ?_
 refine dQ ?_
 show XQ _ _ _ _ _ _ _ _
 refine sQ ?_
 refine XQ.cond (s := (.const (.bool false))) (b := false) (by kernel_rfl) (by kernel_rfl) (fun q => by cases q) (fun _ => ?_)
 refine kQ ?_
 show XQ _ _ _ _ _ _ _ _
 refine qQ ?_
 refine rS 1 [(6, .int .u64 a)] ?_
 obtain ⟨r1, r1_h, h⟩ := bS h
 refine XR.call E0_ok [7] rfl (K := 109) (args := [.int .u64 a]) (d := (some (path 12 7))) (by kernel_rfl) (KC.of_calls E0_ok (F := Proofs.Try.f109) (v := ii r1) (by kernel_rfl) rfl rfl (fun w hI => f109_ok m a r1 r1_h w hI)) ?_
 rintro _ _ _ ⟨rfl, rfl, rfl⟩
 refine XR.conv (σ' := [(7, ii r1)]) (h' := []) (c' := 0) ?_ (by kernel_rfl)
 refine rS 1 [(2, ii r1)] ?_
 refine dQ ?_
 show XQ _ _ _ _ _ _ _ _
 refine XQ.ret (by kernel_rfl) ?_
 have h := Option.some.inj h
 subst h
 exact ⟨fun i q => (by cases q), ii r1, (by kernel_rfl), rfl⟩
noncomputable def f89_C89 : Code := Proofs.Try.f89.body.getD .skip
def f89 (m : Nat) (a_From : Int) (a_To : Int) (b_From : Int) (b_To : Int) : Option (Int) :=
 some (w64 (a_To - b_To))
theorem f89_ok (m : Nat) (a_From : Int) (a_To : Int) (b_From : Int) (b_To : Int) (o : Int) (h : f89 m a_From a_To b_From b_To = some o) (w : World) (hI : anyInv w) : Calls Proofs.Try.prog 89 #[.agg #[ii a_From, ii a_To], .agg #[ii b_From, ii b_To]] w fun e w' => e = .returned (ii o) ∧ Below w.heap.size w w' := by
 refine KC.calls (E := E0) (args := [.agg #[ii a_From, ii a_To], .agg #[ii b_From, ii b_To]]) (v := ii o) rfl rfl (KC.bodyN E0_ok (F := Proofs.Try.f89) (by kernel_rfl) (code := f89_C89) (by kernel_rfl) (nt := 10) (by kernel_rfl) (rs := [.tmp 4]) (by kernel_rfl) (by kernel_rfl) (σ := [(0, .agg #[ii a_From, ii a_To]), (1, .agg #[ii b_From, ii b_To])]) (by kernel_rfl) ?_) w (anyInv_size hI) hI
 unfold f89 at h
 refine qQ ?_
 refine rT 3 [(2, pp 0 0), (3, pp 1 0)] [(1, .cells [ii b_From, ii b_To] 0 61 0), (0, .cells [ii a_From, ii a_To] 0 61 0)] 2 ?_
 refine nQ id ?_
 refine rS 6 [(4, ii (w64 (a_To - b_To)))] ?_
 refine dQ ?_
 show XQ _ _ _ _ _ _ _ _
 refine XQ.ret (by kernel_rfl) ?_
 have h := Option.some.inj h
 subst h
 exact ⟨fun i q => (by cases q), ii (w64 (a_To - b_To)), (by kernel_rfl), rfl⟩
noncomputable def f58_C58 : Code := Proofs.Try.f58.body.getD .skip
noncomputable def f58_C88 : Code := Proofs.Try.f88.body.getD .skip
noncomputable def f58_C97 : Code := Proofs.Try.f97.body.getD .skip
noncomputable def f58_C100 : Code := Proofs.Try.f100.body.getD .skip
noncomputable def f58_C73 : Code := Proofs.Try.f73.body.getD .skip
noncomputable def f58_C93 : Code := Proofs.Try.f93.body.getD .skip
noncomputable def f58_C90 : Code := Proofs.Try.f90.body.getD .skip
noncomputable def f58_L1 : Code := lft (lft (rgt (rgt f58_C97)))
noncomputable def f58_L2 : Code := lft (lft (rgt f58_C100))
noncomputable def f58_L3 : Code := lft (lft (rgt (lft (lft (rgt f58_L2)))))
noncomputable def f58_L4 : Code := lft (lft (rgt (lft (rgt (rgt (rgt f58_C58))))))
noncomputable def f58_L5 : Code := lft (lft (rgt (lft (rgt f58_C93))))
noncomputable def f58_L6 : Code := lft (lft (rgt (lft (rgt (rgt (rgt f58_C73))))))
def f58_3 (m : Nat) : Nat → List (Int × Int) → Int → Int → Int → Int → List (Int × Int) → Option (List (Int × Int))
 | 0, _, _, _, _, _, _ => none
 | fuel + 1, a, b, x2_1, x8_2, x9_3, lh3_3 =>
  cond (decide (x9_3 > 0)) (
   cond (inRow x9_3 lh3_3.length) (
    cond (inRow (w64 (x9_3 - 1)) lh3_3.length) (
     (f89 m ((List.getD lh3_3 (Int.toNat x9_3) (0, 0)).1) ((List.getD lh3_3 (Int.toNat x9_3) (0, 0)).2) ((List.getD lh3_3 (Int.toNat (w64 (x9_3 - 1))) (0, 0)).1) ((List.getD lh3_3 (Int.toNat (w64 (x9_3 - 1))) (0, 0)).2)).bind fun r19 =>
      cond (decide (r19 < 0)) (
       f58_3 m fuel a b x2_1 x8_2 (w64 (x9_3 - 1)) (List.set (List.set lh3_3 (Int.toNat x9_3) ((List.getD lh3_3 (Int.toNat (w64 (x9_3 - 1))) (0, 0)).1, (List.getD lh3_3 (Int.toNat (w64 (x9_3 - 1))) (0, 0)).2)) (Int.toNat (w64 (x9_3 - 1))) ((List.getD lh3_3 (Int.toNat x9_3) (0, 0)).1, (List.getD lh3_3 (Int.toNat x9_3) (0, 0)).2))
      ) (
       some (lh3_3)
      )
    ) none
   ) none
  ) (
   some (lh3_3)
  )
theorem f58_3_ok (m : Nat) : ∀ (fuel : Nat) (z0 : Nat) (y0 : Nat) (a : List (Int × Int)) (b : Int) (x2_1 : Int) (x8_2 : Int) (x9_3 : Int) (lh3_3 : List (Int × Int)) (o : (List (Int × Int))), f58_3 m fuel a b x2_1 x8_2 x9_3 lh3_3 = some o → ∀ Q : QP, Q (.exit 2) [(0, s0 3 o.length), (1, ii 0), (2, ii x2_1), (3, .func (.func 89) #[] #[]), (8, ii x8_2)] [(3, rc encP o 0 61 2), (1, .cells [ii b] 0 3 0), (0, rc encP a z0 y0 2)] 4 → XL E0 53 4 fuel f58_L3 [(0, s0 3 lh3_3.length), (1, ii 0), (2, ii x2_1), (3, .func (.func 89) #[] #[]), (8, ii x8_2), (9, ii x9_3)] [(3, rc encP lh3_3 0 61 2), (1, .cells [ii b] 0 3 0), (0, rc encP a z0 y0 2)] 4 Q
 | 0, z0, y0, a, b, x2_1, x8_2, x9_3, lh3_3, o, h, Q, hQ => by cases h
 | fuel + 1, z0, y0, a, b, x2_1, x8_2, x9_3, lh3_3, o, h, Q, hQ => by
  unfold f58_3 at h
  refine XL.succ E0_ok ?_
  refine sQ ?_
  refine sQ ?_
  refine XQ.quiet E0_ok (by kernel_rfl) (by kernel_rfl) ?_
  refine XU.run E0_ok 1 4 [0, 1, 2, 3, 8, 9, 21] rfl (σ' := [(0, s0 3 lh3_3.length), (1, ii 0), (2, ii x2_1), (3, .func (.func 89) #[] #[]), (8, ii x8_2), (9, ii x9_3), (21, .bool (decide (x9_3 > 0)))]) (by kernel_rfl) ?_
  cases b1 : (decide (x9_3 > 0) : Bool) with
  | true =>
   have h := cT b1 h
   refine XU.run E0_ok 1 3 [0, 1, 2, 3, 8, 9, 21, 22, 23, 24] rfl (σ' := [(0, s0 3 lh3_3.length), (1, ii 0), (2, ii x2_1), (3, .func (.func 89) #[] #[]), (8, ii x8_2), (9, ii x9_3), (21, .bool true), (22, .func (.func 89) #[] #[]), (23, s0 3 lh3_3.length), (24, ii x9_3)]) (by kernel_rfl) ?_
   cases b2 : (inRow x9_3 lh3_3.length : Bool) with
   | false => cases (cF b2 h)
   | true =>
    have h := cT b2 h
    refine XU.rd E0_ok [0, 1, 2, 3, 8, 9, 21, 22, 25] rfl (v := pp 3 ((Int.toNat x9_3) * 2)) (v_idx (s := 2) (x := (src 53 (.tmp 23))) (y := (src 53 (.tmp 24))) (b := 3) (o := 0) (len := lh3_3.length) (cap := lh3_3.length) (ik := .i64) (i := x9_3) (off := (Int.toNat x9_3) * 2) (d := (some (path 12 25))) (by kernel_rfl) (by kernel_rfl) (by kernel_rfl) b2 (by omega)) (σ' := [(0, s0 3 lh3_3.length), (1, ii 0), (2, ii x2_1), (3, .func (.func 89) #[] #[]), (8, ii x8_2), (9, ii x9_3), (21, .bool true), (22, .func (.func 89) #[] #[]), (25, pp 3 ((Int.toNat x9_3) * 2))]) (by kernel_rfl) ?_
    refine XU.rd E0_ok [0, 1, 2, 3, 8, 9, 21, 22, 26] rfl (v := .agg #[ii ((List.getD lh3_3 (Int.toNat x9_3) (0, 0)).1), ii ((List.getD lh3_3 (Int.toNat x9_3) (0, 0)).2)]) (v_loadN encP_ok (x := (src 53 (.tmp 25))) (b := 3) (off := (Int.toNat x9_3) * 2) (xs := lh3_3) (fz := 0) (e := 61) (es := 2) (d := (some (path 12 26))) (by kernel_rfl) (by kernel_rfl) (by kernel_rfl) (Int.toNat x9_3) (0, 0) (by first | rfl | omega) (row_len (inRow_toNat b2) (by simp)) rfl) (σ' := [(0, s0 3 lh3_3.length), (1, ii 0), (2, ii x2_1), (3, .func (.func 89) #[] #[]), (8, ii x8_2), (9, ii x9_3), (21, .bool true), (22, .func (.func 89) #[] #[]), (26, .agg #[ii ((List.getD lh3_3 (Int.toNat x9_3) (0, 0)).1), ii ((List.getD lh3_3 (Int.toNat x9_3) (0, 0)).2)])]) (by kernel_rfl) ?_
    refine XU.run E0_ok 1 3 [0, 1, 2, 3, 8, 9, 21, 22, 26, 27, 29] rfl (σ' := [(0, s0 3 lh3_3.length), (1, ii 0), (2, ii x2_1), (3, .func (.func 89) #[] #[]), (8, ii x8_2), (9, ii x9_3), (21, .bool true), (22, .func (.func 89) #[] #[]), (26, .agg #[ii ((List.getD lh3_3 (Int.toNat x9_3) (0, 0)).1), ii ((List.getD lh3_3 (Int.toNat x9_3) (0, 0)).2)]), (27, s0 3 lh3_3.length), (29, ii (w64 (x9_3 - 1)))]) (by kernel_rfl) ?_
    cases b3 : (inRow (w64 (x9_3 - 1)) lh3_3.length : Bool) with
    | false => cases (cF b3 h)
    | true =>
     have h := cT b3 h
     refine XU.rd E0_ok [0, 1, 2, 3, 8, 9, 21, 22, 26, 30] rfl (v := pp 3 ((Int.toNat (w64 (x9_3 - 1))) * 2)) (v_idx (s := 2) (x := (src 53 (.tmp 27))) (y := (src 53 (.tmp 29))) (b := 3) (o := 0) (len := lh3_3.length) (cap := lh3_3.length) (ik := .i64) (i := w64 (x9_3 - 1)) (off := (Int.toNat (w64 (x9_3 - 1))) * 2) (d := (some (path 12 30))) (by kernel_rfl) (by kernel_rfl) (by kernel_rfl) b3 (by omega)) (σ' := [(0, s0 3 lh3_3.length), (1, ii 0), (2, ii x2_1), (3, .func (.func 89) #[] #[]), (8, ii x8_2), (9, ii x9_3), (21, .bool true), (22, .func (.func 89) #[] #[]), (26, .agg #[ii ((List.getD lh3_3 (Int.toNat x9_3) (0, 0)).1), ii ((List.getD lh3_3 (Int.toNat x9_3) (0, 0)).2)]), (30, pp 3 ((Int.toNat (w64 (x9_3 - 1))) * 2))]) (by kernel_rfl) ?_
     refine XU.rd E0_ok [0, 1, 2, 3, 8, 9, 21, 22, 26, 31] rfl (v := .agg #[ii ((List.getD lh3_3 (Int.toNat (w64 (x9_3 - 1))) (0, 0)).1), ii ((List.getD lh3_3 (Int.toNat (w64 (x9_3 - 1))) (0, 0)).2)]) (v_loadN encP_ok (x := (src 53 (.tmp 30))) (b := 3) (off := (Int.toNat (w64 (x9_3 - 1))) * 2) (xs := lh3_3) (fz := 0) (e := 61) (es := 2) (d := (some (path 12 31))) (by kernel_rfl) (by kernel_rfl) (by kernel_rfl) (Int.toNat (w64 (x9_3 - 1))) (0, 0) (by first | rfl | omega) (row_len (inRow_toNat b3) (by simp)) rfl) (σ' := [(0, s0 3 lh3_3.length), (1, ii 0), (2, ii x2_1), (3, .func (.func 89) #[] #[]), (8, ii x8_2), (9, ii x9_3), (21, .bool true), (22, .func (.func 89) #[] #[]), (26, .agg #[ii ((List.getD lh3_3 (Int.toNat x9_3) (0, 0)).1), ii ((List.getD lh3_3 (Int.toNat x9_3) (0, 0)).2)]), (31, .agg #[ii ((List.getD lh3_3 (Int.toNat (w64 (x9_3 - 1))) (0, 0)).1), ii ((List.getD lh3_3 (Int.toNat (w64 (x9_3 - 1))) (0, 0)).2)])]) (by kernel_rfl) ?_
     obtain ⟨r19, r19_h, h⟩ := bS h
     refine XU.call E0_ok [0, 1, 2, 3, 8, 9, 21, 32] rfl (K := 89) (F := Proofs.Try.f89) (args := [.agg #[ii ((List.getD lh3_3 (Int.toNat x9_3) (0, 0)).1), ii ((List.getD lh3_3 (Int.toNat x9_3) (0, 0)).2)], .agg #[ii ((List.getD lh3_3 (Int.toNat (w64 (x9_3 - 1))) (0, 0)).1), ii ((List.getD lh3_3 (Int.toNat (w64 (x9_3 - 1))) (0, 0)).2)]]) (d := (some (path 12 32))) (v := ii r19) (by kernel_rfl) (by kernel_rfl) rfl rfl (fun w hI => f89_ok m ((List.getD lh3_3 (Int.toNat x9_3) (0, 0)).1) ((List.getD lh3_3 (Int.toNat x9_3) (0, 0)).2) ((List.getD lh3_3 (Int.toNat (w64 (x9_3 - 1))) (0, 0)).1) ((List.getD lh3_3 (Int.toNat (w64 (x9_3 - 1))) (0, 0)).2) r19 r19_h w hI) (σ' := [(0, s0 3 lh3_3.length), (1, ii 0), (2, ii x2_1), (3, .func (.func 89) #[] #[]), (8, ii x8_2), (9, ii x9_3), (21, .bool true), (32, ii r19)]) (by kernel_rfl) ?_
     refine XU.run E0_ok 1 2 [0, 1, 2, 3, 8, 9, 34] rfl (σ' := [(0, s0 3 lh3_3.length), (1, ii 0), (2, ii x2_1), (3, .func (.func 89) #[] #[]), (8, ii x8_2), (9, ii x9_3), (34, .bool (decide (r19 < 0)))]) (by kernel_rfl) ?_
     refine XU.done (by kernel_rfl) ?_
     show XQ _ _ _ _ _ _ _ _
     cases b4 : (decide (r19 < 0) : Bool) with
     | true =>
      have h := cT b4 h
      refine iT (.tmp 34) ?_
      refine kQ ?_
      show XQ _ _ _ _ _ _ _ _
      refine sQ ?_
      refine XQ.block (id := 3) (by kernel_rfl) ?_
      refine XQ.preP E0_ok [2, 3, 4] [0, 1, 5, 6, 7, 8, 9, 10, 11, 12, 13, 14] 15 [16, 17] (by kernel_rfl) (by kernel_rfl) (by kernel_rfl) ?_
      refine XP.step E0_ok 3 [0, 1, 2, 3, 8, 9, 39, 41] rfl (σ' := [(0, s0 3 lh3_3.length), (1, ii 0), (2, ii x2_1), (3, .func (.func 89) #[] #[]), (8, ii x8_2), (9, ii x9_3), (39, s0 3 lh3_3.length), (41, ii (w64 (x9_3 - 1)))]) (by kernel_rfl) ?_
      refine XP.done (by kernel_rfl) ?_
      show XS _ _ _ _ _ _ _ _ _ _
      refine XS.step E0_ok 5 rfl [0, 1, 2, 3, 8, 9, 37, 38, 39, 41, 42, 44] rfl (σ' := [(0, s0 3 lh3_3.length), (1, ii 0), (2, ii x2_1), (3, .func (.func 89) #[] #[]), (8, ii x8_2), (9, ii x9_3), (37, s0 3 lh3_3.length), (38, ii x9_3), (39, s0 3 lh3_3.length), (41, ii (w64 (x9_3 - 1))), (42, s0 3 lh3_3.length), (44, ii (w64 (x9_3 - 1)))]) (by kernel_rfl) ?_
      refine XS.rd E0_ok rfl [0, 1, 2, 3, 8, 9, 37, 38, 39, 41, 45] rfl (v := pp 3 ((Int.toNat (w64 (x9_3 - 1))) * 2)) (v_idx (s := 2) (x := (src 53 (.tmp 42))) (y := (src 53 (.tmp 44))) (b := 3) (o := 0) (len := lh3_3.length) (cap := lh3_3.length) (ik := .i64) (i := w64 (x9_3 - 1)) (off := (Int.toNat (w64 (x9_3 - 1))) * 2) (d := (some (path 12 45))) (by kernel_rfl) (by kernel_rfl) (by kernel_rfl) b3 (by omega)) (σ' := [(0, s0 3 lh3_3.length), (1, ii 0), (2, ii x2_1), (3, .func (.func 89) #[] #[]), (8, ii x8_2), (9, ii x9_3), (37, s0 3 lh3_3.length), (38, ii x9_3), (39, s0 3 lh3_3.length), (41, ii (w64 (x9_3 - 1))), (45, pp 3 ((Int.toNat (w64 (x9_3 - 1))) * 2))]) (by kernel_rfl) ?_
      refine XS.rd E0_ok rfl [0, 1, 2, 3, 8, 9, 37, 38, 39, 41, 46] rfl (v := .agg #[ii ((List.getD lh3_3 (Int.toNat (w64 (x9_3 - 1))) (0, 0)).1), ii ((List.getD lh3_3 (Int.toNat (w64 (x9_3 - 1))) (0, 0)).2)]) (v_loadN encP_ok (x := (src 53 (.tmp 45))) (b := 3) (off := (Int.toNat (w64 (x9_3 - 1))) * 2) (xs := lh3_3) (fz := 0) (e := 61) (es := 2) (d := (some (path 12 46))) (by kernel_rfl) (by kernel_rfl) (by kernel_rfl) (Int.toNat (w64 (x9_3 - 1))) (0, 0) (by first | rfl | omega) (row_len (inRow_toNat b3) (by simp)) rfl) (σ' := [(0, s0 3 lh3_3.length), (1, ii 0), (2, ii x2_1), (3, .func (.func 89) #[] #[]), (8, ii x8_2), (9, ii x9_3), (37, s0 3 lh3_3.length), (38, ii x9_3), (39, s0 3 lh3_3.length), (41, ii (w64 (x9_3 - 1))), (46, .agg #[ii ((List.getD lh3_3 (Int.toNat (w64 (x9_3 - 1))) (0, 0)).1), ii ((List.getD lh3_3 (Int.toNat (w64 (x9_3 - 1))) (0, 0)).2)])]) (by kernel_rfl) ?_
      refine XS.step E0_ok 2 rfl [0, 1, 2, 3, 8, 9, 37, 38, 39, 41, 46, 47, 48] rfl (σ' := [(0, s0 3 lh3_3.length), (1, ii 0), (2, ii x2_1), (3, .func (.func 89) #[] #[]), (8, ii x8_2), (9, ii x9_3), (37, s0 3 lh3_3.length), (38, ii x9_3), (39, s0 3 lh3_3.length), (41, ii (w64 (x9_3 - 1))), (46, .agg #[ii ((List.getD lh3_3 (Int.toNat (w64 (x9_3 - 1))) (0, 0)).1), ii ((List.getD lh3_3 (Int.toNat (w64 (x9_3 - 1))) (0, 0)).2)]), (47, s0 3 lh3_3.length), (48, ii x9_3)]) (by kernel_rfl) ?_
      refine XS.rd E0_ok rfl [0, 1, 2, 3, 8, 9, 37, 38, 39, 41, 46, 49] rfl (v := pp 3 ((Int.toNat x9_3) * 2)) (v_idx (s := 2) (x := (src 53 (.tmp 47))) (y := (src 53 (.tmp 48))) (b := 3) (o := 0) (len := lh3_3.length) (cap := lh3_3.length) (ik := .i64) (i := x9_3) (off := (Int.toNat x9_3) * 2) (d := (some (path 12 49))) (by kernel_rfl) (by kernel_rfl) (by kernel_rfl) b2 (by omega)) (σ' := [(0, s0 3 lh3_3.length), (1, ii 0), (2, ii x2_1), (3, .func (.func 89) #[] #[]), (8, ii x8_2), (9, ii x9_3), (37, s0 3 lh3_3.length), (38, ii x9_3), (39, s0 3 lh3_3.length), (41, ii (w64 (x9_3 - 1))), (46, .agg #[ii ((List.getD lh3_3 (Int.toNat (w64 (x9_3 - 1))) (0, 0)).1), ii ((List.getD lh3_3 (Int.toNat (w64 (x9_3 - 1))) (0, 0)).2)]), (49, pp 3 ((Int.toNat x9_3) * 2))]) (by kernel_rfl) ?_
      refine XS.rd E0_ok rfl [0, 1, 2, 3, 8, 9, 37, 38, 39, 41, 46, 50] rfl (v := .agg #[ii ((List.getD lh3_3 (Int.toNat x9_3) (0, 0)).1), ii ((List.getD lh3_3 (Int.toNat x9_3) (0, 0)).2)]) (v_loadN encP_ok (x := (src 53 (.tmp 49))) (b := 3) (off := (Int.toNat x9_3) * 2) (xs := lh3_3) (fz := 0) (e := 61) (es := 2) (d := (some (path 12 50))) (by kernel_rfl) (by kernel_rfl) (by kernel_rfl) (Int.toNat x9_3) (0, 0) (by first | rfl | omega) (row_len (inRow_toNat b2) (by simp)) rfl) (σ' := [(0, s0 3 lh3_3.length), (1, ii 0), (2, ii x2_1), (3, .func (.func 89) #[] #[]), (8, ii x8_2), (9, ii x9_3), (37, s0 3 lh3_3.length), (38, ii x9_3), (39, s0 3 lh3_3.length), (41, ii (w64 (x9_3 - 1))), (46, .agg #[ii ((List.getD lh3_3 (Int.toNat (w64 (x9_3 - 1))) (0, 0)).1), ii ((List.getD lh3_3 (Int.toNat (w64 (x9_3 - 1))) (0, 0)).2)]), (50, .agg #[ii ((List.getD lh3_3 (Int.toNat x9_3) (0, 0)).1), ii ((List.getD lh3_3 (Int.toNat x9_3) (0, 0)).2)])]) (by kernel_rfl) ?_
      refine XS.rd E0_ok rfl [0, 1, 2, 3, 8, 9, 39, 41, 46, 50, 51] rfl (v := pp 3 ((Int.toNat x9_3) * 2)) (v_idx (s := 2) (x := (src 53 (.tmp 37))) (y := (src 53 (.tmp 38))) (b := 3) (o := 0) (len := lh3_3.length) (cap := lh3_3.length) (ik := .i64) (i := x9_3) (off := (Int.toNat x9_3) * 2) (d := (some (path 12 51))) (by kernel_rfl) (by kernel_rfl) (by kernel_rfl) b2 (by omega)) (σ' := [(0, s0 3 lh3_3.length), (1, ii 0), (2, ii x2_1), (3, .func (.func 89) #[] #[]), (8, ii x8_2), (9, ii x9_3), (39, s0 3 lh3_3.length), (41, ii (w64 (x9_3 - 1))), (46, .agg #[ii ((List.getD lh3_3 (Int.toNat (w64 (x9_3 - 1))) (0, 0)).1), ii ((List.getD lh3_3 (Int.toNat (w64 (x9_3 - 1))) (0, 0)).2)]), (50, .agg #[ii ((List.getD lh3_3 (Int.toNat x9_3) (0, 0)).1), ii ((List.getD lh3_3 (Int.toNat x9_3) (0, 0)).2)]), (51, pp 3 ((Int.toNat x9_3) * 2))]) (by kernel_rfl) ?_
      refine XS.done (by kernel_rfl) ?_
      refine XR.ef E0_ok [0, 1, 2, 3, 8, 9, 39, 41, 50] rfl (e_store encP_ok (size := 2) (x := (src 53 (.tmp 51))) (y := (src 53 (.tmp 46))) (b := 3) (off := (Int.toNat x9_3) * 2) (xs := lh3_3) (e := 61) (es := 2) (d := none) (h' := [(3, rc encP (List.set lh3_3 (Int.toNat x9_3) ((List.getD lh3_3 (Int.toNat (w64 (x9_3 - 1))) (0, 0)).1, (List.getD lh3_3 (Int.toNat (w64 (x9_3 - 1))) (0, 0)).2)) 0 61 2), (1, .cells [ii b] 0 3 0), (0, rc encP a z0 y0 2)]) (w := .agg #[ii ((List.getD lh3_3 (Int.toNat (w64 (x9_3 - 1))) (0, 0)).1), ii ((List.getD lh3_3 (Int.toNat (w64 (x9_3 - 1))) (0, 0)).2)]) (ws := [ii ((List.getD lh3_3 (Int.toNat (w64 (x9_3 - 1))) (0, 0)).1), ii ((List.getD lh3_3 (Int.toNat (w64 (x9_3 - 1))) (0, 0)).2)]) (a := ((List.getD lh3_3 (Int.toNat (w64 (x9_3 - 1))) (0, 0)).1, (List.getD lh3_3 (Int.toNat (w64 (x9_3 - 1))) (0, 0)).2)) (by kernel_rfl) (by kernel_rfl) (by kernel_rfl) (Int.toNat x9_3) 0 (0, 0) (by first | rfl | omega) (row_len (inRow_toNat b2) (by simp)) (by kernel_rfl) rfl rfl rfl rfl rfl (by kernel_rfl)) (σ' := [(0, s0 3 lh3_3.length), (1, ii 0), (2, ii x2_1), (3, .func (.func 89) #[] #[]), (8, ii x8_2), (9, ii x9_3), (39, s0 3 lh3_3.length), (41, ii (w64 (x9_3 - 1))), (50, .agg #[ii ((List.getD lh3_3 (Int.toNat x9_3) (0, 0)).1), ii ((List.getD lh3_3 (Int.toNat x9_3) (0, 0)).2)])]) (by kernel_rfl) ?_
      refine XR.rd E0_ok [0, 1, 2, 3, 8, 9, 50, 52] rfl (v := pp 3 ((Int.toNat (w64 (x9_3 - 1))) * 2)) (v_idx (s := 2) (x := (src 53 (.tmp 39))) (y := (src 53 (.tmp 41))) (b := 3) (o := 0) (len := lh3_3.length) (cap := lh3_3.length) (ik := .i64) (i := w64 (x9_3 - 1)) (off := (Int.toNat (w64 (x9_3 - 1))) * 2) (d := (some (path 12 52))) (by kernel_rfl) (by kernel_rfl) (by kernel_rfl) b3 (by omega)) (σ' := [(0, s0 3 lh3_3.length), (1, ii 0), (2, ii x2_1), (3, .func (.func 89) #[] #[]), (8, ii x8_2), (9, ii x9_3), (50, .agg #[ii ((List.getD lh3_3 (Int.toNat x9_3) (0, 0)).1), ii ((List.getD lh3_3 (Int.toNat x9_3) (0, 0)).2)]), (52, pp 3 ((Int.toNat (w64 (x9_3 - 1))) * 2))]) (by kernel_rfl) ?_
      refine XR.ef E0_ok [0, 1, 2, 3, 8, 9] rfl (e_store encP_ok (size := 2) (x := (src 53 (.tmp 52))) (y := (src 53 (.tmp 50))) (b := 3) (off := (Int.toNat (w64 (x9_3 - 1))) * 2) (xs := List.set lh3_3 (Int.toNat x9_3) ((List.getD lh3_3 (Int.toNat (w64 (x9_3 - 1))) (0, 0)).1, (List.getD lh3_3 (Int.toNat (w64 (x9_3 - 1))) (0, 0)).2)) (e := 61) (es := 2) (d := none) (h' := [(3, rc encP (List.set (List.set lh3_3 (Int.toNat x9_3) ((List.getD lh3_3 (Int.toNat (w64 (x9_3 - 1))) (0, 0)).1, (List.getD lh3_3 (Int.toNat (w64 (x9_3 - 1))) (0, 0)).2)) (Int.toNat (w64 (x9_3 - 1))) ((List.getD lh3_3 (Int.toNat x9_3) (0, 0)).1, (List.getD lh3_3 (Int.toNat x9_3) (0, 0)).2)) 0 61 2), (1, .cells [ii b] 0 3 0), (0, rc encP a z0 y0 2)]) (w := .agg #[ii ((List.getD lh3_3 (Int.toNat x9_3) (0, 0)).1), ii ((List.getD lh3_3 (Int.toNat x9_3) (0, 0)).2)]) (ws := [ii ((List.getD lh3_3 (Int.toNat x9_3) (0, 0)).1), ii ((List.getD lh3_3 (Int.toNat x9_3) (0, 0)).2)]) (a := ((List.getD lh3_3 (Int.toNat x9_3) (0, 0)).1, (List.getD lh3_3 (Int.toNat x9_3) (0, 0)).2)) (by kernel_rfl) (by kernel_rfl) (by kernel_rfl) (Int.toNat (w64 (x9_3 - 1))) 0 (0, 0) (by first | rfl | omega) (row_len (inRow_toNat b3) (by simp)) (by kernel_rfl) rfl rfl rfl rfl rfl (by kernel_rfl)) (σ' := [(0, s0 3 lh3_3.length), (1, ii 0), (2, ii x2_1), (3, .func (.func 89) #[] #[]), (8, ii x8_2), (9, ii x9_3)]) (by kernel_rfl) ?_
      refine dQ ?_
      show XQ _ _ _ _ _ _ _ _
      refine rQ ?_
      refine rS 3 [(0, s0 3 lh3_3.length), (1, ii 0), (2, ii x2_1), (3, .func (.func 89) #[] #[]), (8, ii x8_2), (9, ii (w64 (x9_3 - 1)))] ?_
      refine dQ ?_
      show XL _ _ _ _ _ _ _ _ _
      refine XL.ren (σ' := [(0, s0 3 lh3_3.length), (1, ii 0), (2, ii x2_1), (3, .func (.func 89) #[] #[]), (8, ii x8_2), (9, ii (w64 (x9_3 - 1)))]) (h' := [(3, rc encP (List.set (List.set lh3_3 (Int.toNat x9_3) ((List.getD lh3_3 (Int.toNat (w64 (x9_3 - 1))) (0, 0)).1, (List.getD lh3_3 (Int.toNat (w64 (x9_3 - 1))) (0, 0)).2)) (Int.toNat (w64 (x9_3 - 1))) ((List.getD lh3_3 (Int.toNat x9_3) (0, 0)).1, (List.getD lh3_3 (Int.toNat x9_3) (0, 0)).2)) 0 61 2), (1, .cells [ii b] 0 3 0), (0, rc encP a z0 y0 2)]) (c' := 4) [0, 1, 2, 3] (by decide) rfl ⟨rfl, rfl, rfl, rfl, rfl, rfl, trivial⟩ ⟨⟨_, _, rfl, rfl, .inl ⟨rfl, rwP⟩⟩, ⟨_, _, rfl, rfl, .inr ⟨_, _, _, _, rfl, rfl⟩⟩, ⟨_, _, rfl, rfl, .inl ⟨rfl, rwP⟩⟩, trivial⟩ rfl ?_
      refine XL.conv (f58_3_ok m fuel z0 y0 a b x2_1 x8_2 (w64 (x9_3 - 1)) (List.set (List.set lh3_3 (Int.toNat x9_3) ((List.getD lh3_3 (Int.toNat (w64 (x9_3 - 1))) (0, 0)).1, (List.getD lh3_3 (Int.toNat (w64 (x9_3 - 1))) (0, 0)).2)) (Int.toNat (w64 (x9_3 - 1))) ((List.getD lh3_3 (Int.toNat x9_3) (0, 0)).1, (List.getD lh3_3 (Int.toNat x9_3) (0, 0)).2)) o h Q hQ) (by first | rfl | simp)
     | false =>
      have h := cF b4 h
      refine iF (.tmp 34) ?_
      refine XQ.ren (σ' := [(0, s0 3 lh3_3.length), (1, ii 0), (2, ii x2_1), (3, .func (.func 89) #[] #[]), (8, ii x8_2)]) (h' := [(3, rc encP lh3_3 0 61 2), (1, .cells [ii b] 0 3 0), (0, rc encP a z0 y0 2)]) (c' := 4) [0, 1, 2, 3] (by decide) rfl ⟨rfl, rfl, rfl, rfl, rfl, trivial⟩ ⟨⟨_, _, rfl, rfl, .inl ⟨rfl, rwP⟩⟩, ⟨_, _, rfl, rfl, .inr ⟨_, _, _, _, rfl, rfl⟩⟩, ⟨_, _, rfl, rfl, .inl ⟨rfl, rwP⟩⟩, trivial⟩ rfl ?_
      refine XQ.exit (i := 2) (by kernel_rfl) ?_
      cases h
      exact hQ
  | false =>
   have h := cF b1 h
   refine XU.run E0_ok 1 13 [0, 1, 2, 3, 8, 9, 34] rfl (σ' := [(0, s0 3 lh3_3.length), (1, ii 0), (2, ii x2_1), (3, .func (.func 89) #[] #[]), (8, ii x8_2), (9, ii x9_3), (34, .bool false)]) (by kernel_rfl) ?_
   refine XU.done (by kernel_rfl) ?_
   show XQ _ _ _ _ _ _ _ _
   refine iF (.tmp 34) ?_
   refine XQ.ren (σ' := [(0, s0 3 lh3_3.length), (1, ii 0), (2, ii x2_1), (3, .func (.func 89) #[] #[]), (8, ii x8_2)]) (h' := [(3, rc encP lh3_3 0 61 2), (1, .cells [ii b] 0 3 0), (0, rc encP a z0 y0 2)]) (c' := 4) [0, 1, 2, 3] (by decide) rfl ⟨rfl, rfl, rfl, rfl, rfl, trivial⟩ ⟨⟨_, _, rfl, rfl, .inl ⟨rfl, rwP⟩⟩, ⟨_, _, rfl, rfl, .inr ⟨_, _, _, _, rfl, rfl⟩⟩, ⟨_, _, rfl, rfl, .inl ⟨rfl, rwP⟩⟩, trivial⟩ rfl ?_
   refine XQ.exit (i := 2) (by kernel_rfl) ?_
   cases h
   exact hQ
def f58_2 (m : Nat) : Nat → List (Int × Int) → Int → Int → Int → List (Int × Int) → Option (List (Int × Int))
 | 0, _, _, _, _, _ => none
 | fuel + 1, a, b, x2_1, x8_2, lh3_2 =>
  cond (decide (x8_2 < x2_1)) (
   (f58_3 m m a b x2_1 x8_2 x8_2 lh3_2).bind fun o3 =>
    f58_2 m fuel a b x2_1 (w64 (x8_2 + 1)) o3
  ) (
   some (lh3_2)
  )
theorem f58_2_ok (m : Nat) : ∀ (fuel : Nat) (z0 : Nat) (y0 : Nat) (a : List (Int × Int)) (b : Int) (x2_1 : Int) (x8_2 : Int) (lh3_2 : List (Int × Int)) (o : (List (Int × Int))), f58_2 m fuel a b x2_1 x8_2 lh3_2 = some o → ∀ Q : QP, Q (.exit 0) [] [(3, rc encP o 0 61 2), (1, .cells [ii b] 0 3 0), (0, rc encP a z0 y0 2)] 4 → XL E0 53 4 fuel f58_L2 [(0, s0 3 lh3_2.length), (1, ii 0), (2, ii x2_1), (3, .func (.func 89) #[] #[]), (8, ii x8_2)] [(3, rc encP lh3_2 0 61 2), (1, .cells [ii b] 0 3 0), (0, rc encP a z0 y0 2)] 4 Q
 | 0, z0, y0, a, b, x2_1, x8_2, lh3_2, o, h, Q, hQ => by cases h
 | fuel + 1, z0, y0, a, b, x2_1, x8_2, lh3_2, o, h, Q, hQ => by
  unfold f58_2 at h
  refine XL.succ E0_ok ?_
  refine sQ ?_
  refine qQ ?_
  refine rS 3 [(0, s0 3 lh3_2.length), (1, ii 0), (2, ii x2_1), (3, .func (.func 89) #[] #[]), (8, ii x8_2), (14, .bool (decide (x8_2 < x2_1)))] ?_
  refine dQ ?_
  show XQ _ _ _ _ _ _ _ _
  cases b1 : (decide (x8_2 < x2_1) : Bool) with
  | true =>
   have h := cT b1 h
   refine iT (.tmp 14) ?_
   refine kQ ?_
   show XQ _ _ _ _ _ _ _ _
   refine sQ ?_
   refine XQ.block (id := 1) (by kernel_rfl) ?_
   refine qQ ?_
   refine rS 2 [(0, s0 3 lh3_2.length), (1, ii 0), (2, ii x2_1), (3, .func (.func 89) #[] #[]), (8, ii x8_2), (9, ii x8_2)] ?_
   refine dQ ?_
   show XQ _ _ _ _ _ _ _ _
   refine XQ.block (id := 2) (by kernel_rfl) ?_
   refine XQ.loop m (by kernel_rfl) ?_
   obtain ⟨o3, o3_h, h⟩ := bS h
   refine XL.ren (σ' := [(0, s0 3 lh3_2.length), (1, ii 0), (2, ii x2_1), (3, .func (.func 89) #[] #[]), (8, ii x8_2), (9, ii x8_2)]) (h' := [(3, rc encP lh3_2 0 61 2), (1, .cells [ii b] 0 3 0), (0, rc encP a z0 y0 2)]) (c' := 4) [0, 1, 2, 3] (by decide) rfl ⟨rfl, rfl, rfl, rfl, rfl, rfl, trivial⟩ ⟨⟨_, _, rfl, rfl, .inl ⟨rfl, rwP⟩⟩, ⟨_, _, rfl, rfl, .inr ⟨_, _, _, _, rfl, rfl⟩⟩, ⟨_, _, rfl, rfl, .inl ⟨rfl, rwP⟩⟩, trivial⟩ rfl ?_
   refine XL.conv (f58_3_ok m m z0 y0 a b x2_1 x8_2 x8_2 lh3_2 o3 o3_h _ ?_) (by first | rfl | simp)
   show XQ _ _ _ _ _ _ _ _
   refine rQ ?_
   refine rS 3 [(0, s0 3 o3.length), (1, ii 0), (2, ii x2_1), (3, .func (.func 89) #[] #[]), (8, ii (w64 (x8_2 + 1)))] ?_
   refine dQ ?_
   show XL _ _ _ _ _ _ _ _ _
   refine XL.ren (σ' := [(0, s0 3 o3.length), (1, ii 0), (2, ii x2_1), (3, .func (.func 89) #[] #[]), (8, ii (w64 (x8_2 + 1)))]) (h' := [(3, rc encP o3 0 61 2), (1, .cells [ii b] 0 3 0), (0, rc encP a z0 y0 2)]) (c' := 4) [0, 1, 2, 3] (by decide) rfl ⟨rfl, rfl, rfl, rfl, rfl, trivial⟩ ⟨⟨_, _, rfl, rfl, .inl ⟨rfl, rwP⟩⟩, ⟨_, _, rfl, rfl, .inr ⟨_, _, _, _, rfl, rfl⟩⟩, ⟨_, _, rfl, rfl, .inl ⟨rfl, rwP⟩⟩, trivial⟩ rfl ?_
   refine XL.conv (f58_2_ok m fuel z0 y0 a b x2_1 (w64 (x8_2 + 1)) o3 o h Q hQ) (by first | rfl | simp)
  | false =>
   have h := cF b1 h
   refine iF (.tmp 14) ?_
   refine XQ.ren (σ' := []) (h' := [(3, rc encP lh3_2 0 61 2), (1, .cells [ii b] 0 3 0), (0, rc encP a z0 y0 2)]) (c' := 4) [0, 1, 2, 3] (by decide) rfl trivial ⟨⟨_, _, rfl, rfl, .inl ⟨rfl, rwP⟩⟩, ⟨_, _, rfl, rfl, .inr ⟨_, _, _, _, rfl, rfl⟩⟩, ⟨_, _, rfl, rfl, .inl ⟨rfl, rwP⟩⟩, trivial⟩ rfl ?_
   refine XQ.exit (i := 0) (by kernel_rfl) ?_
   cases h
   exact hQ
def f58_1 (m : Nat) : Nat → List (Int × Int) → Int → Int → Int → Option (List (Int × Int))
 | 0, _, _, _, _ => none
 | fuel + 1, a, b, x2_1, x3_1 =>
  cond (decide ((w64 (x2_1 - 0)) ≤ 12)) (
   (f58_2 m m a b x2_1 1 a).bind fun o2 =>
    some (o2)
  ) none
theorem f58_1_ok (m : Nat) : ∀ (fuel : Nat) (z0 : Nat) (y0 : Nat) (a : List (Int × Int)) (b : Int) (x2_1 : Int) (x3_1 : Int) (o : (List (Int × Int))), f58_1 m fuel a b x2_1 x3_1 = some o → ∀ Q : QP, Q .ret [] [(3, rc encP o 0 61 2), (1, .cells [ii b] 0 3 0), (0, rc encP a z0 y0 2)] 4 → XL E0 148 4 fuel f58_L1 [(0, s0 3 a.length), (1, ii 0), (2, ii x2_1), (3, ii x3_1), (4, .func (.func 89) #[] #[]), (10, .bool true), (11, .bool true)] [(3, rc encP a 0 61 2), (1, .cells [ii b] 0 3 0), (0, rc encP a z0 y0 2)] 4 Q
 | 0, z0, y0, a, b, x2_1, x3_1, o, h, Q, hQ => by cases h
 | fuel + 1, z0, y0, a, b, x2_1, x3_1, o, h, Q, hQ => by
  unfold f58_1 at h
  refine XL.succ E0_ok ?_
  refine XQ.block (id := 1) (by kernel_rfl) ?_
  refine qQ ?_
  refine rS 4 [(0, s0 3 a.length), (1, ii 0), (2, ii x2_1), (3, ii x3_1), (4, .func (.func 89) #[] #[]), (10, .bool true), (11, .bool true), (12, ii (w64 (x2_1 - 0)))] ?_
  refine dQ ?_
  show XQ _ _ _ _ _ _ _ _
  refine sQ ?_
  refine qQ ?_
  refine rS 2 [(0, s0 3 a.length), (1, ii 0), (2, ii x2_1), (3, ii x3_1), (4, .func (.func 89) #[] #[]), (10, .bool true), (11, .bool true), (12, ii (w64 (x2_1 - 0))), (25, .bool (decide ((w64 (x2_1 - 0)) ≤ 12)))] ?_
  refine dQ ?_
  show XQ _ _ _ _ _ _ _ _
  cases b1 : (decide ((w64 (x2_1 - 0)) ≤ 12) : Bool) with
  | false => cases (cF b1 h)
  | true =>
   have h := cT b1 h
   refine iT (.tmp 25) ?_
   refine qQ ?_
   refine rS 4 [(26, s0 3 a.length), (27, ii 0), (28, ii x2_1), (29, .func (.func 89) #[] #[])] ?_
   refine XR.callK E0_ok [] rfl (K := 100) (args := [s0 3 a.length, ii 0, ii x2_1, .func (.func 89) #[] #[]]) (d := (some (path 12 30))) (by kernel_rfl) ?_
   refine KC.bodyN E0_ok (F := Proofs.Try.f100) (by kernel_rfl) (code := f58_C100) (by kernel_rfl) (nt := 53) (by kernel_rfl) (rs := []) (by kernel_rfl) (by kernel_rfl) (σ := [(0, s0 3 a.length), (1, ii 0), (2, ii x2_1), (3, .func (.func 89) #[] #[])]) (by kernel_rfl) ?_
   refine qQ ?_
   refine rS 3 [(0, s0 3 a.length), (1, ii 0), (2, ii x2_1), (3, .func (.func 89) #[] #[]), (8, ii 1)] ?_
   refine dQ ?_
   show XQ _ _ _ _ _ _ _ _
   refine XQ.block (id := 0) (by kernel_rfl) ?_
   refine XQ.loop m (by kernel_rfl) ?_
   obtain ⟨o2, o2_h, h⟩ := bS h
   refine XL.ren (σ' := [(0, s0 3 a.length), (1, ii 0), (2, ii x2_1), (3, .func (.func 89) #[] #[]), (8, ii 1)]) (h' := [(3, rc encP a 0 61 2), (1, .cells [ii b] 0 3 0), (0, rc encP a z0 y0 2)]) (c' := 4) [0, 1, 2, 3] (by decide) rfl ⟨rfl, rfl, rfl, rfl, rfl, trivial⟩ ⟨⟨_, _, rfl, rfl, .inl ⟨rfl, rwP⟩⟩, ⟨_, _, rfl, rfl, .inr ⟨_, _, _, _, rfl, rfl⟩⟩, ⟨_, _, rfl, rfl, .inl ⟨rfl, rwP⟩⟩, trivial⟩ rfl ?_
   refine XL.conv (f58_2_ok m m z0 y0 a b x2_1 1 a o2 o2_h _ ?_) (by first | rfl | simp)
   refine ⟨fun i q => (by cases q), .tuple #[], (by kernel_rfl), ?_⟩
   refine XR.conv (σ' := []) (h' := [(3, rc encP o2 0 61 2), (1, .cells [ii b] 0 3 0), (0, rc encP a z0 y0 2)]) (c' := 4) ?_ (by kernel_rfl)
   refine dQ ?_
   show XQ _ _ _ _ _ _ _ _
   refine XQ.ren (σ' := []) (h' := [(3, rc encP o2 0 61 2), (1, .cells [ii b] 0 3 0), (0, rc encP a z0 y0 2)]) (c' := 4) [0, 1, 2, 3] (by decide) rfl trivial ⟨⟨_, _, rfl, rfl, .inl ⟨rfl, rwP⟩⟩, ⟨_, _, rfl, rfl, .inr ⟨_, _, _, _, rfl, rfl⟩⟩, ⟨_, _, rfl, rfl, .inl ⟨rfl, rwP⟩⟩, trivial⟩ rfl ?_
   refine XQ.ret (by kernel_rfl) ?_
   cases h
   exact hQ
inductive Of58_5 where
 | r (x4_r5 : Int) (xh4_0_r5 : Int)
 | x0 (xh4_0_x05 : Int)
def f58_5 (m : Nat) : Nat → List (Int × Int) → Int → Nat → Nat → List (Int × Int) → Int → Int → Int → Int → Option Of58_5
 | 0, _, _, _, _, _, _, _, _, _ => none
 | fuel + 1, a, b, n5_4, c5_4, lh2_4, xh3_0_4, x7_5, x8_5, xh4_0_5 =>
  cond (decide (x8_5 < x7_5)) (
   cond (inRow x8_5 n5_4) (
    cond (decide (Int.toNat x8_5 < lh2_4.length)) (
     cond (decide (((List.getD lh2_4 (Int.toNat x8_5) (0, 0)).1) ≤ xh3_0_4)) (
      cond (decide (xh4_0_5 < b)) (
       some (.r x8_5 (cond true (w64 (xh4_0_5 + 1)) xh4_0_5))
      ) (
       f58_5 m fuel a b n5_4 c5_4 lh2_4 xh3_0_4 x7_5 (w64 (x8_5 + 1)) (cond false (w64 (xh4_0_5 + 1)) xh4_0_5)
      )
     ) (
      f58_5 m fuel a b n5_4 c5_4 lh2_4 xh3_0_4 x7_5 (w64 (x8_5 + 1)) xh4_0_5
     )
    ) none
   ) none
  ) (
   some (.x0 xh4_0_5)
  )
theorem f58_5_ok (m : Nat) : ∀ (fuel : Nat) (z0 : Nat) (y0 : Nat) (a : List (Int × Int)) (b : Int) (n5_4 : Nat) (c5_4 : Nat) (lh2_4 : List (Int × Int)) (xh3_0_4 : Int) (x7_5 : Int) (x8_5 : Int) (xh4_0_5 : Int) (o : Of58_5), f58_5 m fuel a b n5_4 c5_4 lh2_4 xh3_0_4 x7_5 x8_5 xh4_0_5 = some o → ∀ Q : QP, (match o with | .r x4_r5 xh4_0_r5 => Q .ret [(4, ii x4_r5)] [(4, .cells [ii xh4_0_r5] 0 3 0), (3, .cells [ii xh3_0_4] 0 3 0), (2, rc encP lh2_4 0 61 2), (1, .cells [ii b] 0 3 0), (0, rc encP a z0 y0 2)] 5 | .x0 xh4_0_x05 => Q (.exit 0) [] [(4, .cells [ii xh4_0_x05] 0 3 0), (3, .cells [ii xh3_0_4] 0 3 0), (2, rc encP lh2_4 0 61 2), (1, .cells [ii b] 0 3 0), (0, rc encP a z0 y0 2)] 5) → XL E0 19 5 fuel f58_L5 [(0, sl 2 0 n5_4 c5_4), (1, .func (.func 90) #[] #[pp 3 0, pp 4 0, pp 1 0]), (7, ii x7_5), (8, ii x8_5)] [(4, .cells [ii xh4_0_5] 0 3 0), (3, .cells [ii xh3_0_4] 0 3 0), (2, rc encP lh2_4 0 61 2), (1, .cells [ii b] 0 3 0), (0, rc encP a z0 y0 2)] 5 Q
 | 0, z0, y0, a, b, n5_4, c5_4, lh2_4, xh3_0_4, x7_5, x8_5, xh4_0_5, o, h, Q, hQ => by cases h
 | fuel + 1, z0, y0, a, b, n5_4, c5_4, lh2_4, xh3_0_4, x7_5, x8_5, xh4_0_5, o, h, Q, hQ => by
  unfold f58_5 at h
  refine XL.succ E0_ok ?_
  refine qQ ?_
  refine rS 1 [(0, sl 2 0 n5_4 c5_4), (1, .func (.func 90) #[] #[pp 3 0, pp 4 0, pp 1 0]), (7, ii x7_5), (8, ii x8_5), (9, .bool (decide (x8_5 < x7_5)))] ?_
  refine dQ ?_
  show XQ _ _ _ _ _ _ _ _
  refine sQ ?_
  cases b1 : (decide (x8_5 < x7_5) : Bool) with
  | true =>
   have h := cT b1 h
   refine iT (.tmp 9) ?_
   refine kQ ?_
   show XQ _ _ _ _ _ _ _ _
   refine sQ ?_
   refine XQ.block (id := 1) (by kernel_rfl) ?_
   refine qQ ?_
   refine rS 2 [(0, sl 2 0 n5_4 c5_4), (1, .func (.func 90) #[] #[pp 3 0, pp 4 0, pp 1 0]), (5, ii x8_5), (7, ii x7_5), (8, ii x8_5)] ?_
   refine nQ id ?_
   refine rS 3 [(0, sl 2 0 n5_4 c5_4), (1, .func (.func 90) #[] #[pp 3 0, pp 4 0, pp 1 0]), (5, ii x8_5), (7, ii x7_5), (8, ii x8_5), (11, .func (.func 90) #[] #[pp 3 0, pp 4 0, pp 1 0]), (12, sl 2 0 n5_4 c5_4), (13, ii x8_5)] ?_
   cases b2 : (inRow x8_5 n5_4 : Bool) with
   | false => cases (cF b2 h)
   | true =>
    have h := cT b2 h
    refine XR.rd E0_ok [0, 1, 5, 7, 8, 11, 14] rfl (v := pp 2 ((Int.toNat x8_5) * 2)) (v_idx (s := 2) (x := (src 19 (.tmp 12))) (y := (src 19 (.tmp 13))) (b := 2) (o := 0) (len := n5_4) (cap := c5_4) (ik := .i64) (i := x8_5) (off := (Int.toNat x8_5) * 2) (d := (some (path 12 14))) (by kernel_rfl) (by kernel_rfl) (by kernel_rfl) b2 (by omega)) (σ' := [(0, sl 2 0 n5_4 c5_4), (1, .func (.func 90) #[] #[pp 3 0, pp 4 0, pp 1 0]), (5, ii x8_5), (7, ii x7_5), (8, ii x8_5), (11, .func (.func 90) #[] #[pp 3 0, pp 4 0, pp 1 0]), (14, pp 2 ((Int.toNat x8_5) * 2))]) (by kernel_rfl) ?_
    cases b3 : (decide (Int.toNat x8_5 < lh2_4.length) : Bool) with
    | false => cases (cF b3 h)
    | true =>
     have h := cT b3 h
     refine XR.rd E0_ok [0, 1, 5, 7, 8, 11, 15] rfl (v := .agg #[ii ((List.getD lh2_4 (Int.toNat x8_5) (0, 0)).1), ii ((List.getD lh2_4 (Int.toNat x8_5) (0, 0)).2)]) (v_loadN encP_ok (x := (src 19 (.tmp 14))) (b := 2) (off := (Int.toNat x8_5) * 2) (xs := lh2_4) (fz := 0) (e := 61) (es := 2) (d := (some (path 12 15))) (by kernel_rfl) (by kernel_rfl) (by kernel_rfl) (Int.toNat x8_5) (0, 0) (by first | rfl | omega) (row_len b3 (by simp)) rfl) (σ' := [(0, sl 2 0 n5_4 c5_4), (1, .func (.func 90) #[] #[pp 3 0, pp 4 0, pp 1 0]), (5, ii x8_5), (7, ii x7_5), (8, ii x8_5), (11, .func (.func 90) #[] #[pp 3 0, pp 4 0, pp 1 0]), (15, .agg #[ii ((List.getD lh2_4 (Int.toNat x8_5) (0, 0)).1), ii ((List.getD lh2_4 (Int.toNat x8_5) (0, 0)).2)])]) (by kernel_rfl) ?_
     refine XR.callK E0_ok [0, 1, 5, 7, 8, 16] rfl (K := 90) (args := [.agg #[ii ((List.getD lh2_4 (Int.toNat x8_5) (0, 0)).1), ii ((List.getD lh2_4 (Int.toNat x8_5) (0, 0)).2)], pp 3 0, pp 4 0, pp 1 0]) (d := (some (path 12 16))) (by kernel_rfl) ?_
     refine KC.bodyN E0_ok (F := Proofs.Try.f90) (by kernel_rfl) (code := f58_C90) (by kernel_rfl) (nt := 20) (by kernel_rfl) (rs := [.tmp 5]) (by kernel_rfl) (by kernel_rfl) (σ := [(0, .agg #[ii ((List.getD lh2_4 (Int.toNat x8_5) (0, 0)).1), ii ((List.getD lh2_4 (Int.toNat x8_5) (0, 0)).2)]), (1, pp 3 0), (2, pp 4 0), (3, pp 1 0)]) (by kernel_rfl) ?_
     refine qQ ?_
     refine rT 2 [(1, pp 3 0), (2, pp 4 0), (3, pp 1 0), (4, pp 5 0)] [(5, .cells [ii ((List.getD lh2_4 (Int.toNat x8_5) (0, 0)).1), ii ((List.getD lh2_4 (Int.toNat x8_5) (0, 0)).2)] 0 61 0), (4, .cells [ii xh4_0_5] 0 3 0), (3, .cells [ii xh3_0_4] 0 3 0), (2, rc encP lh2_4 0 61 2), (1, .cells [ii b] 0 3 0), (0, rc encP a z0 y0 2)] 6 ?_
     refine nQ id ?_
     refine rS 5 [(2, pp 4 0), (3, pp 1 0), (11, .bool (decide (((List.getD lh2_4 (Int.toNat x8_5) (0, 0)).1) ≤ xh3_0_4)))] ?_
     cases b4 : (decide (((List.getD lh2_4 (Int.toNat x8_5) (0, 0)).1) ≤ xh3_0_4) : Bool) with
     | true =>
      have h := cT b4 h
      refine rS 5 [(2, pp 4 0), (6, .bool (decide (xh4_0_5 < b)))] ?_
      refine dQ ?_
      show XQ _ _ _ _ _ _ _ _
      refine sQ ?_
      refine qQ ?_
      refine rS 1 [(2, pp 4 0), (6, .bool (decide (xh4_0_5 < b))), (16, .bool (decide (xh4_0_5 < b)))] ?_
      refine dQ ?_
      show XQ _ _ _ _ _ _ _ _
      refine XQ.meetC (σ' := [(6, .bool (decide (xh4_0_5 < b)))]) (h' := [(5, .cells [ii ((List.getD lh2_4 (Int.toNat x8_5) (0, 0)).1), ii ((List.getD lh2_4 (Int.toNat x8_5) (0, 0)).2)] 0 61 0), (4, .cells [ii (cond (decide (xh4_0_5 < b)) (w64 (xh4_0_5 + 1)) xh4_0_5)] 0 3 0), (3, .cells [ii xh3_0_4] 0 3 0), (2, rc encP lh2_4 0 61 2), (1, .cells [ii b] 0 3 0), (0, rc encP a z0 y0 2)]) (c' := 6) ?_ ?_
      rotate_left
      ·refine XQ.cond (s := (.tmp 16)) (b := decide (xh4_0_5 < b)) (by kernel_rfl) (by kernel_rfl) (fun b5 => ?_) (fun b5 => ?_)
       ·refine rQ ?_
        refine rT 3 [(6, .bool (decide (xh4_0_5 < b)))] [(5, .cells [ii ((List.getD lh2_4 (Int.toNat x8_5) (0, 0)).1), ii ((List.getD lh2_4 (Int.toNat x8_5) (0, 0)).2)] 0 61 0), (4, .cells [ii (w64 (xh4_0_5 + 1))] 0 3 0), (3, .cells [ii xh3_0_4] 0 3 0), (2, rc encP lh2_4 0 61 2), (1, .cells [ii b] 0 3 0), (0, rc encP a z0 y0 2)] 6 ?_
        refine dQ ?_
        refine ⟨rfl, ?_, ?_⟩
        ·try rw [b5]
         exact ⟨rfl, trivial⟩
        ·try rw [b5]
         kernel_rfl
       ·refine kQ ?_
        refine ⟨rfl, ?_, ?_⟩
        ·try rw [b5]
         exact ⟨rfl, trivial⟩
        ·try rw [b5]
         kernel_rfl
      show XQ _ _ _ _ _ _ _ _
      refine qQ ?_
      refine rS 2 [(5, .bool (decide (xh4_0_5 < b)))] ?_
      refine dQ ?_
      show XQ _ _ _ _ _ _ _ _
      refine XQ.ret (by kernel_rfl) ?_
      refine ⟨fun i q => (by cases q), .bool (decide (xh4_0_5 < b)), (by kernel_rfl), ?_⟩
      refine XR.conv (σ' := [(0, sl 2 0 n5_4 c5_4), (1, .func (.func 90) #[] #[pp 3 0, pp 4 0, pp 1 0]), (5, ii x8_5), (7, ii x7_5), (8, ii x8_5), (16, .bool (decide (xh4_0_5 < b)))]) (h' := [(5, .cells [ii ((List.getD lh2_4 (Int.toNat x8_5) (0, 0)).1), ii ((List.getD lh2_4 (Int.toNat x8_5) (0, 0)).2)] 0 61 0), (4, .cells [ii (cond (decide (xh4_0_5 < b)) (w64 (xh4_0_5 + 1)) xh4_0_5)] 0 3 0), (3, .cells [ii xh3_0_4] 0 3 0), (2, rc encP lh2_4 0 61 2), (1, .cells [ii b] 0 3 0), (0, rc encP a z0 y0 2)]) (c' := 6) ?_ (by kernel_rfl)
      refine dQ ?_
      show XQ _ _ _ _ _ _ _ _
      cases b6 : (decide (xh4_0_5 < b) : Bool) with
      | true =>
       have h := cT b6 h
       refine iT (.tmp 16) ?_
       refine qQ ?_
       refine rS 2 [(4, ii x8_5)] ?_
       refine dQ ?_
       show XQ _ _ _ _ _ _ _ _
       refine XQ.ren (σ' := [(4, ii x8_5)]) (h' := [(4, .cells [ii (cond true (w64 (xh4_0_5 + 1)) xh4_0_5)] 0 3 0), (3, .cells [ii xh3_0_4] 0 3 0), (2, rc encP lh2_4 0 61 2), (1, .cells [ii b] 0 3 0), (0, rc encP a z0 y0 2)]) (c' := 5) [0, 1, 2, 3, 4] (by decide) rfl ⟨rfl, trivial⟩ ⟨⟨_, _, rfl, rfl, .inr ⟨_, _, _, _, rfl, rfl⟩⟩, ⟨_, _, rfl, rfl, .inr ⟨_, _, _, _, rfl, rfl⟩⟩, ⟨_, _, rfl, rfl, .inl ⟨rfl, rwP⟩⟩, ⟨_, _, rfl, rfl, .inr ⟨_, _, _, _, rfl, rfl⟩⟩, ⟨_, _, rfl, rfl, .inl ⟨rfl, rwP⟩⟩, trivial⟩ rfl ?_
       refine XQ.ret (by kernel_rfl) ?_
       cases h
       exact hQ
      | false =>
       have h := cF b6 h
       refine iF (.tmp 16) ?_
       refine kQ ?_
       show XQ _ _ _ _ _ _ _ _
       refine rQ ?_
       refine rS 2 [(0, sl 2 0 n5_4 c5_4), (1, .func (.func 90) #[] #[pp 3 0, pp 4 0, pp 1 0]), (7, ii x7_5), (8, ii (w64 (x8_5 + 1)))] ?_
       refine dQ ?_
       show XL _ _ _ _ _ _ _ _ _
       refine XL.ren (σ' := [(0, sl 2 0 n5_4 c5_4), (1, .func (.func 90) #[] #[pp 3 0, pp 4 0, pp 1 0]), (7, ii x7_5), (8, ii (w64 (x8_5 + 1)))]) (h' := [(4, .cells [ii (cond false (w64 (xh4_0_5 + 1)) xh4_0_5)] 0 3 0), (3, .cells [ii xh3_0_4] 0 3 0), (2, rc encP lh2_4 0 61 2), (1, .cells [ii b] 0 3 0), (0, rc encP a z0 y0 2)]) (c' := 5) [0, 1, 2, 3, 4] (by decide) rfl ⟨rfl, rfl, rfl, rfl, trivial⟩ ⟨⟨_, _, rfl, rfl, .inr ⟨_, _, _, _, rfl, rfl⟩⟩, ⟨_, _, rfl, rfl, .inr ⟨_, _, _, _, rfl, rfl⟩⟩, ⟨_, _, rfl, rfl, .inl ⟨rfl, rwP⟩⟩, ⟨_, _, rfl, rfl, .inr ⟨_, _, _, _, rfl, rfl⟩⟩, ⟨_, _, rfl, rfl, .inl ⟨rfl, rwP⟩⟩, trivial⟩ rfl ?_
       refine XL.conv (f58_5_ok m fuel z0 y0 a b n5_4 c5_4 lh2_4 xh3_0_4 x7_5 (w64 (x8_5 + 1)) (cond false (w64 (xh4_0_5 + 1)) xh4_0_5) o h Q hQ) (by first | rfl | simp)
     | false =>
      have h := cF b4 h
      refine rS 5 [(2, pp 4 0), (6, .bool false)] ?_
      refine dQ ?_
      show XQ _ _ _ _ _ _ _ _
      refine sQ ?_
      refine qQ ?_
      refine rS 1 [(2, pp 4 0), (6, .bool false), (16, .bool false)] ?_
      refine dQ ?_
      show XQ _ _ _ _ _ _ _ _
      refine iF (.tmp 16) ?_
      refine kQ ?_
      show XQ _ _ _ _ _ _ _ _
      refine qQ ?_
      refine rS 2 [(5, .bool false)] ?_
      refine dQ ?_
      show XQ _ _ _ _ _ _ _ _
      refine XQ.ret (by kernel_rfl) ?_
      refine ⟨fun i q => (by cases q), .bool false, (by kernel_rfl), ?_⟩
      refine XR.conv (σ' := [(0, sl 2 0 n5_4 c5_4), (1, .func (.func 90) #[] #[pp 3 0, pp 4 0, pp 1 0]), (5, ii x8_5), (7, ii x7_5), (8, ii x8_5), (16, .bool false)]) (h' := [(5, .cells [ii ((List.getD lh2_4 (Int.toNat x8_5) (0, 0)).1), ii ((List.getD lh2_4 (Int.toNat x8_5) (0, 0)).2)] 0 61 0), (4, .cells [ii xh4_0_5] 0 3 0), (3, .cells [ii xh3_0_4] 0 3 0), (2, rc encP lh2_4 0 61 2), (1, .cells [ii b] 0 3 0), (0, rc encP a z0 y0 2)]) (c' := 6) ?_ (by kernel_rfl)
      refine dQ ?_
      show XQ _ _ _ _ _ _ _ _
      refine iF (.tmp 16) ?_
      refine kQ ?_
      show XQ _ _ _ _ _ _ _ _
      refine rQ ?_
      refine rS 2 [(0, sl 2 0 n5_4 c5_4), (1, .func (.func 90) #[] #[pp 3 0, pp 4 0, pp 1 0]), (7, ii x7_5), (8, ii (w64 (x8_5 + 1)))] ?_
      refine dQ ?_
      show XL _ _ _ _ _ _ _ _ _
      refine XL.ren (σ' := [(0, sl 2 0 n5_4 c5_4), (1, .func (.func 90) #[] #[pp 3 0, pp 4 0, pp 1 0]), (7, ii x7_5), (8, ii (w64 (x8_5 + 1)))]) (h' := [(4, .cells [ii xh4_0_5] 0 3 0), (3, .cells [ii xh3_0_4] 0 3 0), (2, rc encP lh2_4 0 61 2), (1, .cells [ii b] 0 3 0), (0, rc encP a z0 y0 2)]) (c' := 5) [0, 1, 2, 3, 4] (by decide) rfl ⟨rfl, rfl, rfl, rfl, trivial⟩ ⟨⟨_, _, rfl, rfl, .inr ⟨_, _, _, _, rfl, rfl⟩⟩, ⟨_, _, rfl, rfl, .inr ⟨_, _, _, _, rfl, rfl⟩⟩, ⟨_, _, rfl, rfl, .inl ⟨rfl, rwP⟩⟩, ⟨_, _, rfl, rfl, .inr ⟨_, _, _, _, rfl, rfl⟩⟩, ⟨_, _, rfl, rfl, .inl ⟨rfl, rwP⟩⟩, trivial⟩ rfl ?_
      refine XL.conv (f58_5_ok m fuel z0 y0 a b n5_4 c5_4 lh2_4 xh3_0_4 x7_5 (w64 (x8_5 + 1)) xh4_0_5 o h Q hQ) (by first | rfl | simp)
  | false =>
   have h := cF b1 h
   refine iF (.tmp 9) ?_
   refine XQ.ren (σ' := []) (h' := [(4, .cells [ii xh4_0_5] 0 3 0), (3, .cells [ii xh3_0_4] 0 3 0), (2, rc encP lh2_4 0 61 2), (1, .cells [ii b] 0 3 0), (0, rc encP a z0 y0 2)]) (c' := 5) [0, 1, 2, 3, 4] (by decide) rfl trivial ⟨⟨_, _, rfl, rfl, .inr ⟨_, _, _, _, rfl, rfl⟩⟩, ⟨_, _, rfl, rfl, .inr ⟨_, _, _, _, rfl, rfl⟩⟩, ⟨_, _, rfl, rfl, .inl ⟨rfl, rwP⟩⟩, ⟨_, _, rfl, rfl, .inr ⟨_, _, _, _, rfl, rfl⟩⟩, ⟨_, _, rfl, rfl, .inl ⟨rfl, rwP⟩⟩, trivial⟩ rfl ?_
   refine XQ.exit (i := 0) (by kernel_rfl) ?_
   cases h
   exact hQ
def f58_6 (m : Nat) : Nat → List (Int × Int) → Int → Nat → Nat → Int → Int → Int → List (Int × Int) → Int → Option (Int × (List (Int × Int)) × Int)
 | 0, _, _, _, _, _, _, _, _, _ => none
 | fuel + 1, a, b, n5_4, c5_4, xh3_0_4, x5_6, x6_6, lh2_6, xh4_0_6 =>
  cond (decide (x6_6 < ((n5_4 : Nat) : Int))) (
   cond (inRow x6_6 n5_4) (
    cond (decide (Int.toNat x6_6 < lh2_6.length)) (
     cond (decide (((List.getD lh2_6 (Int.toNat x6_6) (0, 0)).1) ≤ xh3_0_4)) (
      cond (!(decide (xh4_0_6 < b))) (
       cond (inRow x5_6 n5_4) (
        cond (decide (Int.toNat x5_6 < lh2_6.length)) (
         f58_6 m fuel a b n5_4 c5_4 xh3_0_4 (w64 (x5_6 + 1)) (w64 (x6_6 + 1)) (List.set lh2_6 (Int.toNat x5_6) ((List.getD lh2_6 (Int.toNat x6_6) (0, 0)).1, (List.getD lh2_6 (Int.toNat x6_6) (0, 0)).2)) (cond (decide (xh4_0_6 < b)) (w64 (xh4_0_6 + 1)) xh4_0_6)
        ) none
       ) none
      ) (
       f58_6 m fuel a b n5_4 c5_4 xh3_0_4 x5_6 (w64 (x6_6 + 1)) lh2_6 (cond (decide (xh4_0_6 < b)) (w64 (xh4_0_6 + 1)) xh4_0_6)
      )
     ) (
      cond (inRow x5_6 n5_4) (
       cond (decide (Int.toNat x5_6 < lh2_6.length)) (
        f58_6 m fuel a b n5_4 c5_4 xh3_0_4 (w64 (x5_6 + 1)) (w64 (x6_6 + 1)) (List.set lh2_6 (Int.toNat x5_6) ((List.getD lh2_6 (Int.toNat x6_6) (0, 0)).1, (List.getD lh2_6 (Int.toNat x6_6) (0, 0)).2)) xh4_0_6
       ) none
      ) none
     )
    ) none
   ) none
  ) (
   some (x5_6, lh2_6, xh4_0_6)
  )
theorem f58_6_ok (m : Nat) : ∀ (fuel : Nat) (z0 : Nat) (y0 : Nat) (a : List (Int × Int)) (b : Int) (n5_4 : Nat) (c5_4 : Nat) (xh3_0_4 : Int) (x5_6 : Int) (x6_6 : Int) (lh2_6 : List (Int × Int)) (xh4_0_6 : Int) (o : (Int × (List (Int × Int)) × Int)), f58_6 m fuel a b n5_4 c5_4 xh3_0_4 x5_6 x6_6 lh2_6 xh4_0_6 = some o → ∀ Q : QP, Q (.exit 0) [(0, sl 2 0 n5_4 c5_4), (5, ii o.1)] [(4, .cells [ii o.2.2] 0 3 0), (3, .cells [ii xh3_0_4] 0 3 0), (2, rc encP o.2.1 0 61 2), (1, .cells [ii b] 0 3 0), (0, rc encP a z0 y0 2)] 5 → XL E0 42 5 fuel f58_L6 [(0, sl 2 0 n5_4 c5_4), (1, .func (.func 90) #[] #[pp 3 0, pp 4 0, pp 1 0]), (5, ii x5_6), (6, ii x6_6)] [(4, .cells [ii xh4_0_6] 0 3 0), (3, .cells [ii xh3_0_4] 0 3 0), (2, rc encP lh2_6 0 61 2), (1, .cells [ii b] 0 3 0), (0, rc encP a z0 y0 2)] 5 Q
 | 0, z0, y0, a, b, n5_4, c5_4, xh3_0_4, x5_6, x6_6, lh2_6, xh4_0_6, o, h, Q, hQ => by cases h
 | fuel + 1, z0, y0, a, b, n5_4, c5_4, xh3_0_4, x5_6, x6_6, lh2_6, xh4_0_6, o, h, Q, hQ => by
  unfold f58_6 at h
  refine XL.succ E0_ok ?_
  refine sQ ?_
  refine qQ ?_
  refine rS 4 [(0, sl 2 0 n5_4 c5_4), (1, .func (.func 90) #[] #[pp 3 0, pp 4 0, pp 1 0]), (5, ii x5_6), (6, ii x6_6), (19, .bool (decide (x6_6 < ((n5_4 : Nat) : Int))))] ?_
  refine dQ ?_
  show XQ _ _ _ _ _ _ _ _
  cases b1 : (decide (x6_6 < ((n5_4 : Nat) : Int)) : Bool) with
  | true =>
   have h := cT b1 h
   refine iT (.tmp 19) ?_
   refine kQ ?_
   show XQ _ _ _ _ _ _ _ _
   refine sQ ?_
   refine XQ.block (id := 1) (by kernel_rfl) ?_
   refine qQ ?_
   refine rS 2 [(0, sl 2 0 n5_4 c5_4), (1, .func (.func 90) #[] #[pp 3 0, pp 4 0, pp 1 0]), (5, ii x5_6), (6, ii x6_6), (22, sl 2 0 n5_4 c5_4), (23, ii x6_6)] ?_
   cases b2 : (inRow x6_6 n5_4 : Bool) with
   | false => cases (cF b2 h)
   | true =>
    have h := cT b2 h
    refine XR.rd E0_ok [0, 1, 5, 6, 24] rfl (v := pp 2 ((Int.toNat x6_6) * 2)) (v_idx (s := 2) (x := (src 42 (.tmp 22))) (y := (src 42 (.tmp 23))) (b := 2) (o := 0) (len := n5_4) (cap := c5_4) (ik := .i64) (i := x6_6) (off := (Int.toNat x6_6) * 2) (d := (some (path 12 24))) (by kernel_rfl) (by kernel_rfl) (by kernel_rfl) b2 (by omega)) (σ' := [(0, sl 2 0 n5_4 c5_4), (1, .func (.func 90) #[] #[pp 3 0, pp 4 0, pp 1 0]), (5, ii x5_6), (6, ii x6_6), (24, pp 2 ((Int.toNat x6_6) * 2))]) (by kernel_rfl) ?_
    cases b3 : (decide (Int.toNat x6_6 < lh2_6.length) : Bool) with
    | false => cases (cF b3 h)
    | true =>
     have h := cT b3 h
     refine XR.rd E0_ok [0, 1, 5, 6, 25] rfl (v := .agg #[ii ((List.getD lh2_6 (Int.toNat x6_6) (0, 0)).1), ii ((List.getD lh2_6 (Int.toNat x6_6) (0, 0)).2)]) (v_loadN encP_ok (x := (src 42 (.tmp 24))) (b := 2) (off := (Int.toNat x6_6) * 2) (xs := lh2_6) (fz := 0) (e := 61) (es := 2) (d := (some (path 12 25))) (by kernel_rfl) (by kernel_rfl) (by kernel_rfl) (Int.toNat x6_6) (0, 0) (by first | rfl | omega) (row_len b3 (by simp)) rfl) (σ' := [(0, sl 2 0 n5_4 c5_4), (1, .func (.func 90) #[] #[pp 3 0, pp 4 0, pp 1 0]), (5, ii x5_6), (6, ii x6_6), (25, .agg #[ii ((List.getD lh2_6 (Int.toNat x6_6) (0, 0)).1), ii ((List.getD lh2_6 (Int.toNat x6_6) (0, 0)).2)])]) (by kernel_rfl) ?_
     refine rT 2 [(0, sl 2 0 n5_4 c5_4), (1, .func (.func 90) #[] #[pp 3 0, pp 4 0, pp 1 0]), (5, ii x5_6), (6, ii x6_6), (7, pp 5 0)] [(5, .cells [ii ((List.getD lh2_6 (Int.toNat x6_6) (0, 0)).1), ii ((List.getD lh2_6 (Int.toNat x6_6) (0, 0)).2)] 0 61 0), (4, .cells [ii xh4_0_6] 0 3 0), (3, .cells [ii xh3_0_4] 0 3 0), (2, rc encP lh2_6 0 61 2), (1, .cells [ii b] 0 3 0), (0, rc encP a z0 y0 2)] 6 ?_
     refine nQ id ?_
     refine rS 2 [(0, sl 2 0 n5_4 c5_4), (1, .func (.func 90) #[] #[pp 3 0, pp 4 0, pp 1 0]), (5, ii x5_6), (6, ii x6_6), (7, pp 5 0), (26, .func (.func 90) #[] #[pp 3 0, pp 4 0, pp 1 0]), (27, .agg #[ii ((List.getD lh2_6 (Int.toNat x6_6) (0, 0)).1), ii ((List.getD lh2_6 (Int.toNat x6_6) (0, 0)).2)])] ?_
     refine XR.callK E0_ok [0, 1, 5, 6, 7, 28] rfl (K := 90) (args := [.agg #[ii ((List.getD lh2_6 (Int.toNat x6_6) (0, 0)).1), ii ((List.getD lh2_6 (Int.toNat x6_6) (0, 0)).2)], pp 3 0, pp 4 0, pp 1 0]) (d := (some (path 12 28))) (by kernel_rfl) ?_
     refine KC.bodyN E0_ok (F := Proofs.Try.f90) (by kernel_rfl) (code := f58_C90) (by kernel_rfl) (nt := 20) (by kernel_rfl) (rs := [.tmp 5]) (by kernel_rfl) (by kernel_rfl) (σ := [(0, .agg #[ii ((List.getD lh2_6 (Int.toNat x6_6) (0, 0)).1), ii ((List.getD lh2_6 (Int.toNat x6_6) (0, 0)).2)]), (1, pp 3 0), (2, pp 4 0), (3, pp 1 0)]) (by kernel_rfl) ?_
     refine qQ ?_
     refine rT 2 [(1, pp 3 0), (2, pp 4 0), (3, pp 1 0), (4, pp 6 0)] [(6, .cells [ii ((List.getD lh2_6 (Int.toNat x6_6) (0, 0)).1), ii ((List.getD lh2_6 (Int.toNat x6_6) (0, 0)).2)] 0 61 0), (5, .cells [ii ((List.getD lh2_6 (Int.toNat x6_6) (0, 0)).1), ii ((List.getD lh2_6 (Int.toNat x6_6) (0, 0)).2)] 0 61 0), (4, .cells [ii xh4_0_6] 0 3 0), (3, .cells [ii xh3_0_4] 0 3 0), (2, rc encP lh2_6 0 61 2), (1, .cells [ii b] 0 3 0), (0, rc encP a z0 y0 2)] 7 ?_
     refine nQ id ?_
     refine rS 5 [(2, pp 4 0), (3, pp 1 0), (11, .bool (decide (((List.getD lh2_6 (Int.toNat x6_6) (0, 0)).1) ≤ xh3_0_4)))] ?_
     cases b4 : (decide (((List.getD lh2_6 (Int.toNat x6_6) (0, 0)).1) ≤ xh3_0_4) : Bool) with
     | true =>
      have h := cT b4 h
      refine rS 5 [(2, pp 4 0), (6, .bool (decide (xh4_0_6 < b)))] ?_
      refine dQ ?_
      show XQ _ _ _ _ _ _ _ _
      refine sQ ?_
      refine qQ ?_
      refine rS 1 [(2, pp 4 0), (6, .bool (decide (xh4_0_6 < b))), (16, .bool (decide (xh4_0_6 < b)))] ?_
      refine dQ ?_
      show XQ _ _ _ _ _ _ _ _
      refine XQ.meetC (σ' := [(6, .bool (decide (xh4_0_6 < b)))]) (h' := [(6, .cells [ii ((List.getD lh2_6 (Int.toNat x6_6) (0, 0)).1), ii ((List.getD lh2_6 (Int.toNat x6_6) (0, 0)).2)] 0 61 0), (5, .cells [ii ((List.getD lh2_6 (Int.toNat x6_6) (0, 0)).1), ii ((List.getD lh2_6 (Int.toNat x6_6) (0, 0)).2)] 0 61 0), (4, .cells [ii (cond (decide (xh4_0_6 < b)) (w64 (xh4_0_6 + 1)) xh4_0_6)] 0 3 0), (3, .cells [ii xh3_0_4] 0 3 0), (2, rc encP lh2_6 0 61 2), (1, .cells [ii b] 0 3 0), (0, rc encP a z0 y0 2)]) (c' := 7) ?_ ?_
      rotate_left
      ·refine XQ.cond (s := (.tmp 16)) (b := decide (xh4_0_6 < b)) (by kernel_rfl) (by kernel_rfl) (fun b5 => ?_) (fun b5 => ?_)
       ·refine rQ ?_
        refine rT 3 [(6, .bool (decide (xh4_0_6 < b)))] [(6, .cells [ii ((List.getD lh2_6 (Int.toNat x6_6) (0, 0)).1), ii ((List.getD lh2_6 (Int.toNat x6_6) (0, 0)).2)] 0 61 0), (5, .cells [ii ((List.getD lh2_6 (Int.toNat x6_6) (0, 0)).1), ii ((List.getD lh2_6 (Int.toNat x6_6) (0, 0)).2)] 0 61 0), (4, .cells [ii (w64 (xh4_0_6 + 1))] 0 3 0), (3, .cells [ii xh3_0_4] 0 3 0), (2, rc encP lh2_6 0 61 2), (1, .cells [ii b] 0 3 0), (0, rc encP a z0 y0 2)] 7 ?_
        refine dQ ?_
        refine ⟨rfl, ?_, ?_⟩
        ·try rw [b5]
         exact ⟨rfl, trivial⟩
        ·try rw [b5]
         kernel_rfl
       ·refine kQ ?_
        refine ⟨rfl, ?_, ?_⟩
        ·try rw [b5]
         exact ⟨rfl, trivial⟩
        ·try rw [b5]
         kernel_rfl
      show XQ _ _ _ _ _ _ _ _
      refine qQ ?_
      refine rS 2 [(5, .bool (decide (xh4_0_6 < b)))] ?_
      refine dQ ?_
      show XQ _ _ _ _ _ _ _ _
      refine XQ.ret (by kernel_rfl) ?_
      refine ⟨fun i q => (by cases q), .bool (decide (xh4_0_6 < b)), (by kernel_rfl), ?_⟩
      refine XR.conv (σ' := [(0, sl 2 0 n5_4 c5_4), (1, .func (.func 90) #[] #[pp 3 0, pp 4 0, pp 1 0]), (5, ii x5_6), (6, ii x6_6), (7, pp 5 0), (28, .bool (decide (xh4_0_6 < b)))]) (h' := [(6, .cells [ii ((List.getD lh2_6 (Int.toNat x6_6) (0, 0)).1), ii ((List.getD lh2_6 (Int.toNat x6_6) (0, 0)).2)] 0 61 0), (5, .cells [ii ((List.getD lh2_6 (Int.toNat x6_6) (0, 0)).1), ii ((List.getD lh2_6 (Int.toNat x6_6) (0, 0)).2)] 0 61 0), (4, .cells [ii (cond (decide (xh4_0_6 < b)) (w64 (xh4_0_6 + 1)) xh4_0_6)] 0 3 0), (3, .cells [ii xh3_0_4] 0 3 0), (2, rc encP lh2_6 0 61 2), (1, .cells [ii b] 0 3 0), (0, rc encP a z0 y0 2)]) (c' := 7) ?_ (by kernel_rfl)
      refine rS 1 [(0, sl 2 0 n5_4 c5_4), (1, .func (.func 90) #[] #[pp 3 0, pp 4 0, pp 1 0]), (5, ii x5_6), (6, ii x6_6), (7, pp 5 0), (29, .bool (!(decide (xh4_0_6 < b))))] ?_
      refine dQ ?_
      show XQ _ _ _ _ _ _ _ _
      cases b6 : (!(decide (xh4_0_6 < b)) : Bool) with
      | true =>
       have h := cT b6 h
       refine iT (.tmp 29) ?_
       refine qQ ?_
       refine rS 3 [(0, sl 2 0 n5_4 c5_4), (1, .func (.func 90) #[] #[pp 3 0, pp 4 0, pp 1 0]), (5, ii x5_6), (6, ii x6_6), (30, sl 2 0 n5_4 c5_4), (31, ii x5_6), (32, .agg #[ii ((List.getD lh2_6 (Int.toNat x6_6) (0, 0)).1), ii ((List.getD lh2_6 (Int.toNat x6_6) (0, 0)).2)])] ?_
       cases b7 : (inRow x5_6 n5_4 : Bool) with
       | false => cases (cF b7 h)
       | true =>
        have h := cT b7 h
        refine XR.rd E0_ok [0, 1, 5, 6, 32, 33] rfl (v := pp 2 ((Int.toNat x5_6) * 2)) (v_idx (s := 2) (x := (src 42 (.tmp 30))) (y := (src 42 (.tmp 31))) (b := 2) (o := 0) (len := n5_4) (cap := c5_4) (ik := .i64) (i := x5_6) (off := (Int.toNat x5_6) * 2) (d := (some (path 12 33))) (by kernel_rfl) (by kernel_rfl) (by kernel_rfl) b7 (by omega)) (σ' := [(0, sl 2 0 n5_4 c5_4), (1, .func (.func 90) #[] #[pp 3 0, pp 4 0, pp 1 0]), (5, ii x5_6), (6, ii x6_6), (32, .agg #[ii ((List.getD lh2_6 (Int.toNat x6_6) (0, 0)).1), ii ((List.getD lh2_6 (Int.toNat x6_6) (0, 0)).2)]), (33, pp 2 ((Int.toNat x5_6) * 2))]) (by kernel_rfl) ?_
        cases b8 : (decide (Int.toNat x5_6 < lh2_6.length) : Bool) with
        | false => cases (cF b8 h)
        | true =>
         have h := cT b8 h
         refine XR.ef E0_ok [0, 1, 5, 6] rfl (e_store encP_ok (size := 2) (x := (src 42 (.tmp 33))) (y := (src 42 (.tmp 32))) (b := 2) (off := (Int.toNat x5_6) * 2) (xs := lh2_6) (e := 61) (es := 2) (d := none) (h' := [(6, .cells [ii ((List.getD lh2_6 (Int.toNat x6_6) (0, 0)).1), ii ((List.getD lh2_6 (Int.toNat x6_6) (0, 0)).2)] 0 61 0), (5, .cells [ii ((List.getD lh2_6 (Int.toNat x6_6) (0, 0)).1), ii ((List.getD lh2_6 (Int.toNat x6_6) (0, 0)).2)] 0 61 0), (4, .cells [ii (cond (decide (xh4_0_6 < b)) (w64 (xh4_0_6 + 1)) xh4_0_6)] 0 3 0), (3, .cells [ii xh3_0_4] 0 3 0), (2, rc encP (List.set lh2_6 (Int.toNat x5_6) ((List.getD lh2_6 (Int.toNat x6_6) (0, 0)).1, (List.getD lh2_6 (Int.toNat x6_6) (0, 0)).2)) 0 61 2), (1, .cells [ii b] 0 3 0), (0, rc encP a z0 y0 2)]) (w := .agg #[ii ((List.getD lh2_6 (Int.toNat x6_6) (0, 0)).1), ii ((List.getD lh2_6 (Int.toNat x6_6) (0, 0)).2)]) (ws := [ii ((List.getD lh2_6 (Int.toNat x6_6) (0, 0)).1), ii ((List.getD lh2_6 (Int.toNat x6_6) (0, 0)).2)]) (a := ((List.getD lh2_6 (Int.toNat x6_6) (0, 0)).1, (List.getD lh2_6 (Int.toNat x6_6) (0, 0)).2)) (by kernel_rfl) (by kernel_rfl) (by kernel_rfl) (Int.toNat x5_6) 0 (0, 0) (by first | rfl | omega) (row_len b8 (by simp)) (by kernel_rfl) rfl rfl rfl rfl rfl (by kernel_rfl)) (σ' := [(0, sl 2 0 n5_4 c5_4), (1, .func (.func 90) #[] #[pp 3 0, pp 4 0, pp 1 0]), (5, ii x5_6), (6, ii x6_6)]) (by kernel_rfl) ?_
         refine dQ ?_
         show XQ _ _ _ _ _ _ _ _
         refine rQ ?_
         refine rS 3 [(0, sl 2 0 n5_4 c5_4), (1, .func (.func 90) #[] #[pp 3 0, pp 4 0, pp 1 0]), (5, ii (w64 (x5_6 + 1))), (6, ii x6_6)] ?_
         refine dQ ?_
         show XQ _ _ _ _ _ _ _ _
         refine rQ ?_
         refine rS 3 [(0, sl 2 0 n5_4 c5_4), (1, .func (.func 90) #[] #[pp 3 0, pp 4 0, pp 1 0]), (5, ii (w64 (x5_6 + 1))), (6, ii (w64 (x6_6 + 1)))] ?_
         refine dQ ?_
         show XL _ _ _ _ _ _ _ _ _
         refine XL.ren (σ' := [(0, sl 2 0 n5_4 c5_4), (1, .func (.func 90) #[] #[pp 3 0, pp 4 0, pp 1 0]), (5, ii (w64 (x5_6 + 1))), (6, ii (w64 (x6_6 + 1)))]) (h' := [(4, .cells [ii (cond (decide (xh4_0_6 < b)) (w64 (xh4_0_6 + 1)) xh4_0_6)] 0 3 0), (3, .cells [ii xh3_0_4] 0 3 0), (2, rc encP (List.set lh2_6 (Int.toNat x5_6) ((List.getD lh2_6 (Int.toNat x6_6) (0, 0)).1, (List.getD lh2_6 (Int.toNat x6_6) (0, 0)).2)) 0 61 2), (1, .cells [ii b] 0 3 0), (0, rc encP a z0 y0 2)]) (c' := 5) [0, 1, 2, 3, 4] (by decide) rfl ⟨rfl, rfl, rfl, rfl, trivial⟩ ⟨⟨_, _, rfl, rfl, .inr ⟨_, _, _, _, rfl, rfl⟩⟩, ⟨_, _, rfl, rfl, .inr ⟨_, _, _, _, rfl, rfl⟩⟩, ⟨_, _, rfl, rfl, .inl ⟨rfl, rwP⟩⟩, ⟨_, _, rfl, rfl, .inr ⟨_, _, _, _, rfl, rfl⟩⟩, ⟨_, _, rfl, rfl, .inl ⟨rfl, rwP⟩⟩, trivial⟩ rfl ?_
         refine XL.conv (f58_6_ok m fuel z0 y0 a b n5_4 c5_4 xh3_0_4 (w64 (x5_6 + 1)) (w64 (x6_6 + 1)) (List.set lh2_6 (Int.toNat x5_6) ((List.getD lh2_6 (Int.toNat x6_6) (0, 0)).1, (List.getD lh2_6 (Int.toNat x6_6) (0, 0)).2)) (cond (decide (xh4_0_6 < b)) (w64 (xh4_0_6 + 1)) xh4_0_6) o h Q hQ) (by first | rfl | simp)
      | false =>
       have h := cF b6 h
       refine iF (.tmp 29) ?_
       refine kQ ?_
       show XQ _ _ _ _ _ _ _ _
       refine rQ ?_
       refine rS 3 [(0, sl 2 0 n5_4 c5_4), (1, .func (.func 90) #[] #[pp 3 0, pp 4 0, pp 1 0]), (5, ii x5_6), (6, ii (w64 (x6_6 + 1)))] ?_
       refine dQ ?_
       show XL _ _ _ _ _ _ _ _ _
       refine XL.ren (σ' := [(0, sl 2 0 n5_4 c5_4), (1, .func (.func 90) #[] #[pp 3 0, pp 4 0, pp 1 0]), (5, ii x5_6), (6, ii (w64 (x6_6 + 1)))]) (h' := [(4, .cells [ii (cond (decide (xh4_0_6 < b)) (w64 (xh4_0_6 + 1)) xh4_0_6)] 0 3 0), (3, .cells [ii xh3_0_4] 0 3 0), (2, rc encP lh2_6 0 61 2), (1, .cells [ii b] 0 3 0), (0, rc encP a z0 y0 2)]) (c' := 5) [0, 1, 2, 3, 4] (by decide) rfl ⟨rfl, rfl, rfl, rfl, trivial⟩ ⟨⟨_, _, rfl, rfl, .inr ⟨_, _, _, _, rfl, rfl⟩⟩, ⟨_, _, rfl, rfl, .inr ⟨_, _, _, _, rfl, rfl⟩⟩, ⟨_, _, rfl, rfl, .inl ⟨rfl, rwP⟩⟩, ⟨_, _, rfl, rfl, .inr ⟨_, _, _, _, rfl, rfl⟩⟩, ⟨_, _, rfl, rfl, .inl ⟨rfl, rwP⟩⟩, trivial⟩ rfl ?_
       refine XL.conv (f58_6_ok m fuel z0 y0 a b n5_4 c5_4 xh3_0_4 x5_6 (w64 (x6_6 + 1)) lh2_6 (cond (decide (xh4_0_6 < b)) (w64 (xh4_0_6 + 1)) xh4_0_6) o h Q hQ) (by first | rfl | simp)
     | false =>
      have h := cF b4 h
      refine rS 5 [(2, pp 4 0), (6, .bool false)] ?_
      refine dQ ?_
      show XQ _ _ _ _ _ _ _ _
      refine sQ ?_
      refine qQ ?_
      refine rS 1 [(2, pp 4 0), (6, .bool false), (16, .bool false)] ?_
      refine dQ ?_
      show XQ _ _ _ _ _ _ _ _
      refine iF (.tmp 16) ?_
      refine kQ ?_
      show XQ _ _ _ _ _ _ _ _
      refine qQ ?_
      refine rS 2 [(5, .bool false)] ?_
      refine dQ ?_
      show XQ _ _ _ _ _ _ _ _
      refine XQ.ret (by kernel_rfl) ?_
      refine ⟨fun i q => (by cases q), .bool false, (by kernel_rfl), ?_⟩
      refine XR.conv (σ' := [(0, sl 2 0 n5_4 c5_4), (1, .func (.func 90) #[] #[pp 3 0, pp 4 0, pp 1 0]), (5, ii x5_6), (6, ii x6_6), (7, pp 5 0), (28, .bool false)]) (h' := [(6, .cells [ii ((List.getD lh2_6 (Int.toNat x6_6) (0, 0)).1), ii ((List.getD lh2_6 (Int.toNat x6_6) (0, 0)).2)] 0 61 0), (5, .cells [ii ((List.getD lh2_6 (Int.toNat x6_6) (0, 0)).1), ii ((List.getD lh2_6 (Int.toNat x6_6) (0, 0)).2)] 0 61 0), (4, .cells [ii xh4_0_6] 0 3 0), (3, .cells [ii xh3_0_4] 0 3 0), (2, rc encP lh2_6 0 61 2), (1, .cells [ii b] 0 3 0), (0, rc encP a z0 y0 2)]) (c' := 7) ?_ (by kernel_rfl)
      refine rS 1 [(0, sl 2 0 n5_4 c5_4), (1, .func (.func 90) #[] #[pp 3 0, pp 4 0, pp 1 0]), (5, ii x5_6), (6, ii x6_6), (7, pp 5 0), (29, .bool true)] ?_
      refine dQ ?_
      show XQ _ _ _ _ _ _ _ _
      refine iT (.tmp 29) ?_
      refine qQ ?_
      refine rS 3 [(0, sl 2 0 n5_4 c5_4), (1, .func (.func 90) #[] #[pp 3 0, pp 4 0, pp 1 0]), (5, ii x5_6), (6, ii x6_6), (30, sl 2 0 n5_4 c5_4), (31, ii x5_6), (32, .agg #[ii ((List.getD lh2_6 (Int.toNat x6_6) (0, 0)).1), ii ((List.getD lh2_6 (Int.toNat x6_6) (0, 0)).2)])] ?_
      cases b9 : (inRow x5_6 n5_4 : Bool) with
      | false => cases (cF b9 h)
      | true =>
       have h := cT b9 h
       refine XR.rd E0_ok [0, 1, 5, 6, 32, 33] rfl (v := pp 2 ((Int.toNat x5_6) * 2)) (v_idx (s := 2) (x := (src 42 (.tmp 30))) (y := (src 42 (.tmp 31))) (b := 2) (o := 0) (len := n5_4) (cap := c5_4) (ik := .i64) (i := x5_6) (off := (Int.toNat x5_6) * 2) (d := (some (path 12 33))) (by kernel_rfl) (by kernel_rfl) (by kernel_rfl) b9 (by omega)) (σ' := [(0, sl 2 0 n5_4 c5_4), (1, .func (.func 90) #[] #[pp 3 0, pp 4 0, pp 1 0]), (5, ii x5_6), (6, ii x6_6), (32, .agg #[ii ((List.getD lh2_6 (Int.toNat x6_6) (0, 0)).1), ii ((List.getD lh2_6 (Int.toNat x6_6) (0, 0)).2)]), (33, pp 2 ((Int.toNat x5_6) * 2))]) (by kernel_rfl) ?_
       cases b10 : (decide (Int.toNat x5_6 < lh2_6.length) : Bool) with
       | false => cases (cF b10 h)
       | true =>
        have h := cT b10 h
        refine XR.ef E0_ok [0, 1, 5, 6] rfl (e_store encP_ok (size := 2) (x := (src 42 (.tmp 33))) (y := (src 42 (.tmp 32))) (b := 2) (off := (Int.toNat x5_6) * 2) (xs := lh2_6) (e := 61) (es := 2) (d := none) (h' := [(6, .cells [ii ((List.getD lh2_6 (Int.toNat x6_6) (0, 0)).1), ii ((List.getD lh2_6 (Int.toNat x6_6) (0, 0)).2)] 0 61 0), (5, .cells [ii ((List.getD lh2_6 (Int.toNat x6_6) (0, 0)).1), ii ((List.getD lh2_6 (Int.toNat x6_6) (0, 0)).2)] 0 61 0), (4, .cells [ii xh4_0_6] 0 3 0), (3, .cells [ii xh3_0_4] 0 3 0), (2, rc encP (List.set lh2_6 (Int.toNat x5_6) ((List.getD lh2_6 (Int.toNat x6_6) (0, 0)).1, (List.getD lh2_6 (Int.toNat x6_6) (0, 0)).2)) 0 61 2), (1, .cells [ii b] 0 3 0), (0, rc encP a z0 y0 2)]) (w := .agg #[ii ((List.getD lh2_6 (Int.toNat x6_6) (0, 0)).1), ii ((List.getD lh2_6 (Int.toNat x6_6) (0, 0)).2)]) (ws := [ii ((List.getD lh2_6 (Int.toNat x6_6) (0, 0)).1), ii ((List.getD lh2_6 (Int.toNat x6_6) (0, 0)).2)]) (a := ((List.getD lh2_6 (Int.toNat x6_6) (0, 0)).1, (List.getD lh2_6 (Int.toNat x6_6) (0, 0)).2)) (by kernel_rfl) (by kernel_rfl) (by kernel_rfl) (Int.toNat x5_6) 0 (0, 0) (by first | rfl | omega) (row_len b10 (by simp)) (by kernel_rfl) rfl rfl rfl rfl rfl (by kernel_rfl)) (σ' := [(0, sl 2 0 n5_4 c5_4), (1, .func (.func 90) #[] #[pp 3 0, pp 4 0, pp 1 0]), (5, ii x5_6), (6, ii x6_6)]) (by kernel_rfl) ?_
        refine dQ ?_
        show XQ _ _ _ _ _ _ _ _
        refine rQ ?_
        refine rS 3 [(0, sl 2 0 n5_4 c5_4), (1, .func (.func 90) #[] #[pp 3 0, pp 4 0, pp 1 0]), (5, ii (w64 (x5_6 + 1))), (6, ii x6_6)] ?_
        refine dQ ?_
        show XQ _ _ _ _ _ _ _ _
        refine rQ ?_
        refine rS 3 [(0, sl 2 0 n5_4 c5_4), (1, .func (.func 90) #[] #[pp 3 0, pp 4 0, pp 1 0]), (5, ii (w64 (x5_6 + 1))), (6, ii (w64 (x6_6 + 1)))] ?_
        refine dQ ?_
        show XL _ _ _ _ _ _ _ _ _
        refine XL.ren (σ' := [(0, sl 2 0 n5_4 c5_4), (1, .func (.func 90) #[] #[pp 3 0, pp 4 0, pp 1 0]), (5, ii (w64 (x5_6 + 1))), (6, ii (w64 (x6_6 + 1)))]) (h' := [(4, .cells [ii xh4_0_6] 0 3 0), (3, .cells [ii xh3_0_4] 0 3 0), (2, rc encP (List.set lh2_6 (Int.toNat x5_6) ((List.getD lh2_6 (Int.toNat x6_6) (0, 0)).1, (List.getD lh2_6 (Int.toNat x6_6) (0, 0)).2)) 0 61 2), (1, .cells [ii b] 0 3 0), (0, rc encP a z0 y0 2)]) (c' := 5) [0, 1, 2, 3, 4] (by decide) rfl ⟨rfl, rfl, rfl, rfl, trivial⟩ ⟨⟨_, _, rfl, rfl, .inr ⟨_, _, _, _, rfl, rfl⟩⟩, ⟨_, _, rfl, rfl, .inr ⟨_, _, _, _, rfl, rfl⟩⟩, ⟨_, _, rfl, rfl, .inl ⟨rfl, rwP⟩⟩, ⟨_, _, rfl, rfl, .inr ⟨_, _, _, _, rfl, rfl⟩⟩, ⟨_, _, rfl, rfl, .inl ⟨rfl, rwP⟩⟩, trivial⟩ rfl ?_
        refine XL.conv (f58_6_ok m fuel z0 y0 a b n5_4 c5_4 xh3_0_4 (w64 (x5_6 + 1)) (w64 (x6_6 + 1)) (List.set lh2_6 (Int.toNat x5_6) ((List.getD lh2_6 (Int.toNat x6_6) (0, 0)).1, (List.getD lh2_6 (Int.toNat x6_6) (0, 0)).2)) xh4_0_6 o h Q hQ) (by first | rfl | simp)
  | false =>
   have h := cF b1 h
   refine iF (.tmp 19) ?_
   refine XQ.ren (σ' := [(0, sl 2 0 n5_4 c5_4), (5, ii x5_6)]) (h' := [(4, .cells [ii xh4_0_6] 0 3 0), (3, .cells [ii xh3_0_4] 0 3 0), (2, rc encP lh2_6 0 61 2), (1, .cells [ii b] 0 3 0), (0, rc encP a z0 y0 2)]) (c' := 5) [0, 1, 2, 3, 4] (by decide) rfl ⟨rfl, rfl, trivial⟩ ⟨⟨_, _, rfl, rfl, .inr ⟨_, _, _, _, rfl, rfl⟩⟩, ⟨_, _, rfl, rfl, .inr ⟨_, _, _, _, rfl, rfl⟩⟩, ⟨_, _, rfl, rfl, .inl ⟨rfl, rwP⟩⟩, ⟨_, _, rfl, rfl, .inr ⟨_, _, _, _, rfl, rfl⟩⟩, ⟨_, _, rfl, rfl, .inl ⟨rfl, rwP⟩⟩, trivial⟩ rfl ?_
   refine XQ.exit (i := 0) (by kernel_rfl) ?_
   cases h
   exact hQ
inductive Of58_4 where
 | r
 | x0
def f58_4 (m : Nat) : Nat → List (Int × Int) → Int → Nat → Nat → List (Int × Int) → Int → Option Of58_4
 | 0, _, _, _, _, _, _ => none
 | fuel + 1, a, b, n5_4, c5_4, lh2_4, xh3_0_4 =>
  cond (decide (((n5_4 : Nat) : Int) > 0)) (
   (f58_5 m m a b n5_4 c5_4 lh2_4 xh3_0_4 ((n5_4 : Nat) : Int) 0 0).bind fun o5 =>
    match o5 with
    | .r x4_r5 xh4_0_r5 =>
     cond (x4_r5 == (-1)) (
      cond (inRow 0 n5_4) (
       cond (decide (0 < lh2_4.length)) (
        cond (decide (((List.getD lh2_4 0 (0, 0)).2) ≤ xh3_0_4)) (
         some (.r)
        ) (
         f58_4 m fuel a b n5_4 c5_4 lh2_4 (w64 (xh3_0_4 + 1))
        )
       ) none
      ) none
     ) (
      (f58_6 m m a b n5_4 c5_4 xh3_0_4 x4_r5 (w64 (x4_r5 + 1)) lh2_4 xh4_0_r5).bind fun o6 =>
       cond (cutOK o6.1 ((n5_4 : Nat) : Int) ((c5_4 : Nat) : Int) c5_4) (
        cond (decide ((Int.toNat o6.1) + (n5_4 - (Int.toNat o6.1)) ≤ o6.2.1.length)) (
         cond (cutOK 0 o6.1 ((c5_4 : Nat) : Int) c5_4) (
          cond (decide (((Int.toNat o6.1 : Nat) : Int) > 0)) (
           cond (inRow 0 (Int.toNat o6.1)) (
            cond (decide (0 < (clearL (0, 0) o6.2.1 (Int.toNat o6.1) (n5_4 - (Int.toNat o6.1))).length)) (
             cond (decide (((List.getD (clearL (0, 0) o6.2.1 (Int.toNat o6.1) (n5_4 - (Int.toNat o6.1))) 0 (0, 0)).2) ≤ xh3_0_4)) (
              some (.r)
             ) (
              f58_4 m fuel a b (Int.toNat o6.1) c5_4 (clearL (0, 0) o6.2.1 (Int.toNat o6.1) (n5_4 - (Int.toNat o6.1))) (w64 (xh3_0_4 + 1))
             )
            ) none
           ) none
          ) (
           f58_4 m fuel a b (Int.toNat o6.1) c5_4 (clearL (0, 0) o6.2.1 (Int.toNat o6.1) (n5_4 - (Int.toNat o6.1))) (w64 (xh3_0_4 + 1))
          )
         ) none
        ) none
       ) none
     )
    | .x0 xh4_0_x05 =>
     cond (inRow 0 n5_4) (
      cond (decide (0 < lh2_4.length)) (
       cond (decide (((List.getD lh2_4 0 (0, 0)).2) ≤ xh3_0_4)) (
        some (.r)
       ) (
        f58_4 m fuel a b n5_4 c5_4 lh2_4 (w64 (xh3_0_4 + 1))
       )
      ) none
     ) none
  ) (
   some (.x0)
  )
theorem f58_4_ok (m : Nat) : ∀ (fuel : Nat) (z0 : Nat) (y0 : Nat) (a : List (Int × Int)) (b : Int) (n5_4 : Nat) (c5_4 : Nat) (lh2_4 : List (Int × Int)) (xh3_0_4 : Int) (o : Of58_4), f58_4 m fuel a b n5_4 c5_4 lh2_4 xh3_0_4 = some o → ∀ Q : QP, (match o with | .r => Q .ret [(4, .bool false)] [(0, rc encP a z0 y0 2)] 1 | .x0 => Q (.exit 0) [] [(0, rc encP a z0 y0 2)] 1) → XL E0 32 1 fuel f58_L4 [(3, pp 1 0), (5, sl 2 0 n5_4 c5_4), (6, pp 3 0)] [(3, .cells [ii xh3_0_4] 0 3 0), (2, rc encP lh2_4 0 61 2), (1, .cells [ii b] 0 3 0), (0, rc encP a z0 y0 2)] 4 Q
 | 0, z0, y0, a, b, n5_4, c5_4, lh2_4, xh3_0_4, o, h, Q, hQ => by cases h
 | fuel + 1, z0, y0, a, b, n5_4, c5_4, lh2_4, xh3_0_4, o, h, Q, hQ => by
  unfold f58_4 at h
  refine XL.succ E0_ok ?_
  refine sQ ?_
  refine qQ ?_
  refine rS 3 [(3, pp 1 0), (5, sl 2 0 n5_4 c5_4), (6, pp 3 0), (14, .bool (decide (((n5_4 : Nat) : Int) > 0)))] ?_
  refine dQ ?_
  show XQ _ _ _ _ _ _ _ _
  cases b1 : (decide (((n5_4 : Nat) : Int) > 0) : Bool) with
  | true =>
   have h := cT b1 h
   refine iT (.tmp 14) ?_
   refine kQ ?_
   show XQ _ _ _ _ _ _ _ _
   refine sQ ?_
   refine XQ.block (id := 1) (by kernel_rfl) ?_
   refine qQ ?_
   refine rT 2 [(3, pp 1 0), (5, sl 2 0 n5_4 c5_4), (6, pp 3 0), (7, pp 4 0)] [(4, .cells [ii 0] 0 3 0), (3, .cells [ii xh3_0_4] 0 3 0), (2, rc encP lh2_4 0 61 2), (1, .cells [ii b] 0 3 0), (0, rc encP a z0 y0 2)] 5 ?_
   refine nQ id ?_
   refine rS 2 [(3, pp 1 0), (6, pp 3 0), (17, sl 2 0 n5_4 c5_4), (18, .func (.func 90) #[] #[pp 3 0, pp 4 0, pp 1 0])] ?_
   refine XR.callK E0_ok [3, 6, 19] rfl (K := 73) (args := [sl 2 0 n5_4 c5_4, .func (.func 90) #[] #[pp 3 0, pp 4 0, pp 1 0]]) (d := (some (path 12 19))) (by kernel_rfl) ?_
   refine KC.bodyN E0_ok (F := Proofs.Try.f73) (by kernel_rfl) (code := f58_C73) (by kernel_rfl) (nt := 42) (by kernel_rfl) (rs := [.tmp 4]) (by kernel_rfl) (by kernel_rfl) (σ := [(0, sl 2 0 n5_4 c5_4), (1, .func (.func 90) #[] #[pp 3 0, pp 4 0, pp 1 0])]) (by kernel_rfl) ?_
   refine qQ ?_
   refine rS 1 [(0, sl 2 0 n5_4 c5_4), (1, .func (.func 90) #[] #[pp 3 0, pp 4 0, pp 1 0])] ?_
   refine nQ id ?_
   refine rS 2 [(0, sl 2 0 n5_4 c5_4), (1, .func (.func 90) #[] #[pp 3 0, pp 4 0, pp 1 0]), (8, sl 2 0 n5_4 c5_4), (9, .func (.func 90) #[] #[pp 3 0, pp 4 0, pp 1 0])] ?_
   refine XR.callK E0_ok [0, 1, 10] rfl (K := 93) (args := [sl 2 0 n5_4 c5_4, .func (.func 90) #[] #[pp 3 0, pp 4 0, pp 1 0]]) (d := (some (path 12 10))) (by kernel_rfl) ?_
   refine KC.bodyN E0_ok (F := Proofs.Try.f93) (by kernel_rfl) (code := f58_C93) (by kernel_rfl) (nt := 19) (by kernel_rfl) (rs := [.tmp 4]) (by kernel_rfl) (by kernel_rfl) (σ := [(0, sl 2 0 n5_4 c5_4), (1, .func (.func 90) #[] #[pp 3 0, pp 4 0, pp 1 0])]) (by kernel_rfl) ?_
   refine qQ ?_
   refine rS 1 [(0, sl 2 0 n5_4 c5_4), (1, .func (.func 90) #[] #[pp 3 0, pp 4 0, pp 1 0])] ?_
   refine dQ ?_
   show XQ _ _ _ _ _ _ _ _
   refine sQ ?_
   refine qQ ?_
   refine rS 3 [(0, sl 2 0 n5_4 c5_4), (1, .func (.func 90) #[] #[pp 3 0, pp 4 0, pp 1 0]), (7, ii ((n5_4 : Nat) : Int)), (8, ii 0)] ?_
   refine dQ ?_
   show XQ _ _ _ _ _ _ _ _
   refine XQ.block (id := 0) (by kernel_rfl) ?_
   refine XQ.loop m (by kernel_rfl) ?_
   obtain ⟨o5, o5_h, h⟩ := bS h
   refine XL.ren (σ' := [(0, sl 2 0 n5_4 c5_4), (1, .func (.func 90) #[] #[pp 3 0, pp 4 0, pp 1 0]), (7, ii ((n5_4 : Nat) : Int)), (8, ii 0)]) (h' := [(4, .cells [ii 0] 0 3 0), (3, .cells [ii xh3_0_4] 0 3 0), (2, rc encP lh2_4 0 61 2), (1, .cells [ii b] 0 3 0), (0, rc encP a z0 y0 2)]) (c' := 5) [0, 1, 2, 3, 4] (by decide) rfl ⟨rfl, rfl, rfl, rfl, trivial⟩ ⟨⟨_, _, rfl, rfl, .inr ⟨_, _, _, _, rfl, rfl⟩⟩, ⟨_, _, rfl, rfl, .inr ⟨_, _, _, _, rfl, rfl⟩⟩, ⟨_, _, rfl, rfl, .inl ⟨rfl, rwP⟩⟩, ⟨_, _, rfl, rfl, .inr ⟨_, _, _, _, rfl, rfl⟩⟩, ⟨_, _, rfl, rfl, .inl ⟨rfl, rwP⟩⟩, trivial⟩ rfl ?_
   cases o5 with
   | r x4_r5 xh4_0_r5 =>
    dsimp only at h
    refine XL.conv (f58_5_ok m m z0 y0 a b n5_4 c5_4 lh2_4 xh3_0_4 ((n5_4 : Nat) : Int) 0 0 (.r x4_r5 xh4_0_r5) o5_h _ ?_) (by first | rfl | simp)
    refine ⟨fun i q => (by cases q), ii x4_r5, (by kernel_rfl), ?_⟩
    refine XR.conv (σ' := [(0, sl 2 0 n5_4 c5_4), (1, .func (.func 90) #[] #[pp 3 0, pp 4 0, pp 1 0]), (10, ii x4_r5)]) (h' := [(4, .cells [ii xh4_0_r5] 0 3 0), (3, .cells [ii xh3_0_4] 0 3 0), (2, rc encP lh2_4 0 61 2), (1, .cells [ii b] 0 3 0), (0, rc encP a z0 y0 2)]) (c' := 5) ?_ (by kernel_rfl)
    refine rS 1 [(0, sl 2 0 n5_4 c5_4), (1, .func (.func 90) #[] #[pp 3 0, pp 4 0, pp 1 0]), (5, ii x4_r5)] ?_
    refine dQ ?_
    show XQ _ _ _ _ _ _ _ _
    refine sQ ?_
    refine qQ ?_
    refine rS 2 [(0, sl 2 0 n5_4 c5_4), (1, .func (.func 90) #[] #[pp 3 0, pp 4 0, pp 1 0]), (5, ii x4_r5), (12, .bool (x4_r5 == (-1)))] ?_
    refine dQ ?_
    show XQ _ _ _ _ _ _ _ _
    cases b3 : (x4_r5 == (-1) : Bool) with
    | true =>
     have h := cT b3 h
     refine iT (.tmp 12) ?_
     refine qQ ?_
     refine rS 2 [(4, sl 2 0 n5_4 c5_4)] ?_
     refine dQ ?_
     show XQ _ _ _ _ _ _ _ _
     refine XQ.ret (by kernel_rfl) ?_
     refine ⟨fun i q => (by cases q), sl 2 0 n5_4 c5_4, (by kernel_rfl), ?_⟩
     refine XR.conv (σ' := [(3, pp 1 0), (6, pp 3 0), (19, sl 2 0 n5_4 c5_4)]) (h' := [(4, .cells [ii xh4_0_r5] 0 3 0), (3, .cells [ii xh3_0_4] 0 3 0), (2, rc encP lh2_4 0 61 2), (1, .cells [ii b] 0 3 0), (0, rc encP a z0 y0 2)]) (c' := 5) ?_ (by kernel_rfl)
     refine rS 1 [(3, pp 1 0), (5, sl 2 0 n5_4 c5_4), (6, pp 3 0)] ?_
     refine dQ ?_
     show XQ _ _ _ _ _ _ _ _
     refine sQ ?_
     refine XQ.quiet E0_ok (by kernel_rfl) (by kernel_rfl) ?_
     refine XU.run E0_ok 1 4 [3, 5, 6, 23] rfl (σ' := [(3, pp 1 0), (5, sl 2 0 n5_4 c5_4), (6, pp 3 0), (23, .bool (decide (((n5_4 : Nat) : Int) > 0)))]) (by kernel_rfl) ?_
     rw [b1]
     refine XU.run E0_ok 1 1 [3, 5, 6, 23, 24] rfl (σ' := [(3, pp 1 0), (5, sl 2 0 n5_4 c5_4), (6, pp 3 0), (23, .bool true), (24, sl 2 0 n5_4 c5_4)]) (by kernel_rfl) ?_
     cases b4 : (inRow 0 n5_4 : Bool) with
     | false => cases (cF b4 h)
     | true =>
      have h := cT b4 h
      refine XU.rd E0_ok [3, 5, 6, 23, 25] rfl (v := pp 2 (0 * 2)) (v_idx (s := 2) (x := (src 32 (.tmp 24))) (y := (src 32 (.const (ii 0)))) (b := 2) (o := 0) (len := n5_4) (cap := c5_4) (ik := .i64) (i := 0) (off := 0 * 2) (d := (some (path 12 25))) (by kernel_rfl) (by kernel_rfl) (by kernel_rfl) b4 (by omega)) (σ' := [(3, pp 1 0), (5, sl 2 0 n5_4 c5_4), (6, pp 3 0), (23, .bool true), (25, pp 2 (0 * 2))]) (by kernel_rfl) ?_
      refine XU.run E0_ok 1 1 [3, 5, 6, 23, 26] rfl (σ' := [(3, pp 1 0), (5, sl 2 0 n5_4 c5_4), (6, pp 3 0), (23, .bool true), (26, pp 2 (0 * 2 + 1))]) (by kernel_rfl) ?_
      cases b5 : (decide (0 < lh2_4.length) : Bool) with
      | false => cases (cF b5 h)
      | true =>
       have h := cT b5 h
       refine XU.rd E0_ok [3, 5, 6, 23, 27] rfl (v := ii ((List.getD lh2_4 0 (0, 0)).2)) (v_load1 encP_ok (x := (src 32 (.tmp 26))) (b := 2) (off := 0 * 2 + 1) (xs := lh2_4) (fz := 0) (e := 61) (es := 2) (d := (some (path 12 27))) (by kernel_rfl) (by kernel_rfl) (by kernel_rfl) 0 1 (0, 0) (by first | rfl | omega) (row_len b5 (by simp)) rfl rfl) (σ' := [(3, pp 1 0), (5, sl 2 0 n5_4 c5_4), (6, pp 3 0), (23, .bool true), (27, ii ((List.getD lh2_4 0 (0, 0)).2))]) (by kernel_rfl) ?_
       refine XU.run E0_ok 1 3 [3, 5, 6, 30] rfl (σ' := [(3, pp 1 0), (5, sl 2 0 n5_4 c5_4), (6, pp 3 0), (30, .bool (decide (((List.getD lh2_4 0 (0, 0)).2) ≤ xh3_0_4)))]) (by kernel_rfl) ?_
       refine XU.done (by kernel_rfl) ?_
       show XQ _ _ _ _ _ _ _ _
       cases b6 : (decide (((List.getD lh2_4 0 (0, 0)).2) ≤ xh3_0_4) : Bool) with
       | true =>
        have h := cT b6 h
        refine iT (.tmp 30) ?_
        refine qQ ?_
        refine rS 1 [(4, .bool false)] ?_
        refine dQ ?_
        show XQ _ _ _ _ _ _ _ _
        refine XQ.ren (σ' := [(4, .bool false)]) (h' := [(0, rc encP a z0 y0 2)]) (c' := 1) [0] (by decide) rfl ⟨rfl, trivial⟩ ⟨⟨_, _, rfl, rfl, .inl ⟨rfl, rwP⟩⟩, trivial⟩ rfl ?_
        refine XQ.ret (by kernel_rfl) ?_
        cases h
        exact hQ
       | false =>
        have h := cF b6 h
        refine iF (.tmp 30) ?_
        refine kQ ?_
        show XQ _ _ _ _ _ _ _ _
        refine sQ ?_
        refine qQ ?_
        refine rS 1 [(3, pp 1 0), (5, sl 2 0 n5_4 c5_4), (31, ii xh3_0_4)] ?_
        refine dQ ?_
        show XQ _ _ _ _ _ _ _ _
        refine rQ ?_
        refine rT 2 [(3, pp 1 0), (5, sl 2 0 n5_4 c5_4), (6, pp 5 0)] [(5, .cells [ii xh3_0_4] 0 3 0), (4, .cells [ii xh4_0_r5] 0 3 0), (3, .cells [ii xh3_0_4] 0 3 0), (2, rc encP lh2_4 0 61 2), (1, .cells [ii b] 0 3 0), (0, rc encP a z0 y0 2)] 6 ?_
        refine dQ ?_
        show XQ _ _ _ _ _ _ _ _
        refine rQ ?_
        refine rT 3 [(3, pp 1 0), (5, sl 2 0 n5_4 c5_4), (6, pp 5 0)] [(5, .cells [ii (w64 (xh3_0_4 + 1))] 0 3 0), (4, .cells [ii xh4_0_r5] 0 3 0), (3, .cells [ii xh3_0_4] 0 3 0), (2, rc encP lh2_4 0 61 2), (1, .cells [ii b] 0 3 0), (0, rc encP a z0 y0 2)] 6 ?_
        refine dQ ?_
        show XL _ _ _ _ _ _ _ _ _
        refine XL.ren (σ' := [(3, pp 1 0), (5, sl 2 0 n5_4 c5_4), (6, pp 3 0)]) (h' := [(3, .cells [ii (w64 (xh3_0_4 + 1))] 0 3 0), (2, rc encP lh2_4 0 61 2), (1, .cells [ii b] 0 3 0), (0, rc encP a z0 y0 2)]) (c' := 4) [0, 1, 2, 5] (by decide) rfl ⟨rfl, rfl, rfl, trivial⟩ ⟨⟨_, _, rfl, rfl, .inr ⟨_, _, _, _, rfl, rfl⟩⟩, ⟨_, _, rfl, rfl, .inl ⟨rfl, rwP⟩⟩, ⟨_, _, rfl, rfl, .inr ⟨_, _, _, _, rfl, rfl⟩⟩, ⟨_, _, rfl, rfl, .inl ⟨rfl, rwP⟩⟩, trivial⟩ rfl ?_
        refine XL.conv (f58_4_ok m fuel z0 y0 a b n5_4 c5_4 lh2_4 (w64 (xh3_0_4 + 1)) o h Q hQ) (by first | rfl | simp)
    | false =>
     have h := cF b3 h
     refine iF (.tmp 12) ?_
     refine kQ ?_
     show XQ _ _ _ _ _ _ _ _
     refine sQ ?_
     refine qQ ?_
     refine rS 3 [(0, sl 2 0 n5_4 c5_4), (1, .func (.func 90) #[] #[pp 3 0, pp 4 0, pp 1 0]), (5, ii x4_r5), (6, ii (w64 (x4_r5 + 1)))] ?_
     refine dQ ?_
     show XQ _ _ _ _ _ _ _ _
     refine XQ.block (id := 0) (by kernel_rfl) ?_
     refine XQ.loop m (by kernel_rfl) ?_
     obtain ⟨o6, o6_h, h⟩ := bS h
     refine XL.ren (σ' := [(0, sl 2 0 n5_4 c5_4), (1, .func (.func 90) #[] #[pp 3 0, pp 4 0, pp 1 0]), (5, ii x4_r5), (6, ii (w64 (x4_r5 + 1)))]) (h' := [(4, .cells [ii xh4_0_r5] 0 3 0), (3, .cells [ii xh3_0_4] 0 3 0), (2, rc encP lh2_4 0 61 2), (1, .cells [ii b] 0 3 0), (0, rc encP a z0 y0 2)]) (c' := 5) [0, 1, 2, 3, 4] (by decide) rfl ⟨rfl, rfl, rfl, rfl, trivial⟩ ⟨⟨_, _, rfl, rfl, .inr ⟨_, _, _, _, rfl, rfl⟩⟩, ⟨_, _, rfl, rfl, .inr ⟨_, _, _, _, rfl, rfl⟩⟩, ⟨_, _, rfl, rfl, .inl ⟨rfl, rwP⟩⟩, ⟨_, _, rfl, rfl, .inr ⟨_, _, _, _, rfl, rfl⟩⟩, ⟨_, _, rfl, rfl, .inl ⟨rfl, rwP⟩⟩, trivial⟩ rfl ?_
     refine XL.conv (f58_6_ok m m z0 y0 a b n5_4 c5_4 xh3_0_4 x4_r5 (w64 (x4_r5 + 1)) lh2_4 xh4_0_r5 o6 o6_h _ ?_) (by first | rfl | simp)
     show XQ _ _ _ _ _ _ _ _
     refine qQ ?_
     refine rS 2 [(0, sl 2 0 n5_4 c5_4), (5, ii o6.1), (36, sl 2 0 n5_4 c5_4), (37, ii o6.1)] ?_
     cases b8 : (cutOK o6.1 ((n5_4 : Nat) : Int) ((c5_4 : Nat) : Int) c5_4 : Bool) with
     | false => cases (cF b8 h)
     | true =>
      have h := cT b8 h
      refine XR.rd E0_ok [0, 5, 38] rfl (v := sl 2 ((Int.toNat o6.1) * 2) (n5_4 - (Int.toNat o6.1)) (c5_4 - (Int.toNat o6.1))) (v_cut (nt := 42) (s := 2) (x := (src 42 (.tmp 36))) (lo := (some (.tmp 37))) (hi := none) (mx := none) (b := 2) (o := 0) (len := n5_4) (cap := c5_4) (l := (some o6.1)) (u := none) (m := none) (cs := rowC encP o6.2.1) (fz := 0) (e := 61) (es := 2) (o' := (Int.toNat o6.1) * 2) (len' := n5_4 - (Int.toNat o6.1)) (cap' := c5_4 - (Int.toNat o6.1)) (d := (some (path 12 38))) (by kernel_rfl) (by kernel_rfl) (by kernel_rfl) (by kernel_rfl) (by kernel_rfl) (by kernel_rfl) (by kernel_rfl) rfl b8 (by simp only [Option.getD_none, Option.getD_some] <;> omega) (by simp only [Option.getD_none, Option.getD_some] <;> omega) (by simp only [Option.getD_none, Option.getD_some] <;> omega)) (σ' := [(0, sl 2 0 n5_4 c5_4), (5, ii o6.1), (38, sl 2 ((Int.toNat o6.1) * 2) (n5_4 - (Int.toNat o6.1)) (c5_4 - (Int.toNat o6.1)))]) (by kernel_rfl) ?_
      cases b9 : (decide ((Int.toNat o6.1) + (n5_4 - (Int.toNat o6.1)) ≤ o6.2.1.length) : Bool) with
      | false => cases (cF b9 h)
      | true =>
       have h := cT b9 h
       refine XR.ef E0_ok [0, 5] rfl (e_clear encP_ok (z := #[ii 0, ii 0]) (x := (src 42 (.tmp 38))) (b := 2) (o := (Int.toNat o6.1) * 2) (len := n5_4 - (Int.toNat o6.1)) (cap := c5_4 - (Int.toNat o6.1)) (xs := o6.2.1) (e := 61) (es := 2) (d := none) (h' := [(4, .cells [ii o6.2.2] 0 3 0), (3, .cells [ii xh3_0_4] 0 3 0), (2, rc encP (clearL (0, 0) o6.2.1 (Int.toNat o6.1) (n5_4 - (Int.toNat o6.1))) 0 61 2), (1, .cells [ii b] 0 3 0), (0, rc encP a z0 y0 2)]) (by kernel_rfl) (by kernel_rfl) (by kernel_rfl) (Int.toNat o6.1) (0, 0) rfl rfl (by first | rfl | omega) b9 (by kernel_rfl)) (σ' := [(0, sl 2 0 n5_4 c5_4), (5, ii o6.1)]) (by kernel_rfl) ?_
       refine nQ id ?_
       refine rS 2 [(39, sl 2 0 n5_4 c5_4), (40, ii o6.1)] ?_
       cases b10 : (cutOK 0 o6.1 ((c5_4 : Nat) : Int) c5_4 : Bool) with
       | false => cases (cF b10 h)
       | true =>
        have h := cT b10 h
        refine XR.rd E0_ok [41] rfl (v := sl 2 0 (Int.toNat o6.1) c5_4) (v_cut (nt := 42) (s := 2) (x := (src 42 (.tmp 39))) (lo := none) (hi := (some (.tmp 40))) (mx := none) (b := 2) (o := 0) (len := n5_4) (cap := c5_4) (l := none) (u := (some o6.1)) (m := none) (cs := rowC encP (clearL (0, 0) o6.2.1 (Int.toNat o6.1) (n5_4 - (Int.toNat o6.1)))) (fz := 0) (e := 61) (es := 2) (o' := 0) (len' := Int.toNat o6.1) (cap' := c5_4) (d := (some (path 12 41))) (by kernel_rfl) (by kernel_rfl) (by kernel_rfl) (by kernel_rfl) (by kernel_rfl) (by kernel_rfl) (by kernel_rfl) rfl b10 (by simp only [Option.getD_none, Option.getD_some] <;> omega) (by simp only [Option.getD_none, Option.getD_some] <;> omega) (by simp only [Option.getD_none, Option.getD_some] <;> omega)) (σ' := [(41, sl 2 0 (Int.toNat o6.1) c5_4)]) (by kernel_rfl) ?_
        refine rS 1 [(4, sl 2 0 (Int.toNat o6.1) c5_4)] ?_
        refine dQ ?_
        show XQ _ _ _ _ _ _ _ _
        refine XQ.ret (by kernel_rfl) ?_
        refine ⟨fun i q => (by cases q), sl 2 0 (Int.toNat o6.1) c5_4, (by kernel_rfl), ?_⟩
        refine XR.conv (σ' := [(3, pp 1 0), (6, pp 3 0), (19, sl 2 0 (Int.toNat o6.1) c5_4)]) (h' := [(4, .cells [ii o6.2.2] 0 3 0), (3, .cells [ii xh3_0_4] 0 3 0), (2, rc encP (clearL (0, 0) o6.2.1 (Int.toNat o6.1) (n5_4 - (Int.toNat o6.1))) 0 61 2), (1, .cells [ii b] 0 3 0), (0, rc encP a z0 y0 2)]) (c' := 5) ?_ (by kernel_rfl)
        refine rS 1 [(3, pp 1 0), (5, sl 2 0 (Int.toNat o6.1) c5_4), (6, pp 3 0)] ?_
        refine dQ ?_
        show XQ _ _ _ _ _ _ _ _
        refine sQ ?_
        refine XQ.quiet E0_ok (by kernel_rfl) (by kernel_rfl) ?_
        refine XU.run E0_ok 1 4 [3, 5, 6, 23] rfl (σ' := [(3, pp 1 0), (5, sl 2 0 (Int.toNat o6.1) c5_4), (6, pp 3 0), (23, .bool (decide (((Int.toNat o6.1 : Nat) : Int) > 0)))]) (by kernel_rfl) ?_
        cases b11 : (decide (((Int.toNat o6.1 : Nat) : Int) > 0) : Bool) with
        | true =>
         have h := cT b11 h
         refine XU.run E0_ok 1 1 [3, 5, 6, 23, 24] rfl (σ' := [(3, pp 1 0), (5, sl 2 0 (Int.toNat o6.1) c5_4), (6, pp 3 0), (23, .bool true), (24, sl 2 0 (Int.toNat o6.1) c5_4)]) (by kernel_rfl) ?_
         cases b12 : (inRow 0 (Int.toNat o6.1) : Bool) with
         | false => cases (cF b12 h)
         | true =>
          have h := cT b12 h
          refine XU.rd E0_ok [3, 5, 6, 23, 25] rfl (v := pp 2 (0 * 2)) (v_idx (s := 2) (x := (src 32 (.tmp 24))) (y := (src 32 (.const (ii 0)))) (b := 2) (o := 0) (len := Int.toNat o6.1) (cap := c5_4) (ik := .i64) (i := 0) (off := 0 * 2) (d := (some (path 12 25))) (by kernel_rfl) (by kernel_rfl) (by kernel_rfl) b12 (by omega)) (σ' := [(3, pp 1 0), (5, sl 2 0 (Int.toNat o6.1) c5_4), (6, pp 3 0), (23, .bool true), (25, pp 2 (0 * 2))]) (by kernel_rfl) ?_
          refine XU.run E0_ok 1 1 [3, 5, 6, 23, 26] rfl (σ' := [(3, pp 1 0), (5, sl 2 0 (Int.toNat o6.1) c5_4), (6, pp 3 0), (23, .bool true), (26, pp 2 (0 * 2 + 1))]) (by kernel_rfl) ?_
          cases b13 : (decide (0 < (clearL (0, 0) o6.2.1 (Int.toNat o6.1) (n5_4 - (Int.toNat o6.1))).length) : Bool) with
          | false => cases (cF b13 h)
          | true =>
           have h := cT b13 h
           refine XU.rd E0_ok [3, 5, 6, 23, 27] rfl (v := ii ((List.getD (clearL (0, 0) o6.2.1 (Int.toNat o6.1) (n5_4 - (Int.toNat o6.1))) 0 (0, 0)).2)) (v_load1 encP_ok (x := (src 32 (.tmp 26))) (b := 2) (off := 0 * 2 + 1) (xs := clearL (0, 0) o6.2.1 (Int.toNat o6.1) (n5_4 - (Int.toNat o6.1))) (fz := 0) (e := 61) (es := 2) (d := (some (path 12 27))) (by kernel_rfl) (by kernel_rfl) (by kernel_rfl) 0 1 (0, 0) (by first | rfl | omega) (row_len b13 (by simp)) rfl rfl) (σ' := [(3, pp 1 0), (5, sl 2 0 (Int.toNat o6.1) c5_4), (6, pp 3 0), (23, .bool true), (27, ii ((List.getD (clearL (0, 0) o6.2.1 (Int.toNat o6.1) (n5_4 - (Int.toNat o6.1))) 0 (0, 0)).2))]) (by kernel_rfl) ?_
           refine XU.run E0_ok 1 3 [3, 5, 6, 30] rfl (σ' := [(3, pp 1 0), (5, sl 2 0 (Int.toNat o6.1) c5_4), (6, pp 3 0), (30, .bool (decide (((List.getD (clearL (0, 0) o6.2.1 (Int.toNat o6.1) (n5_4 - (Int.toNat o6.1))) 0 (0, 0)).2) ≤ xh3_0_4)))]) (by kernel_rfl) ?_
           refine XU.done (by kernel_rfl) ?_
           show XQ _ _ _ _ _ _ _ _
           cases b14 : (decide (((List.getD (clearL (0, 0) o6.2.1 (Int.toNat o6.1) (n5_4 - (Int.toNat o6.1))) 0 (0, 0)).2) ≤ xh3_0_4) : Bool) with
           | true =>
            have h := cT b14 h
            refine iT (.tmp 30) ?_
            refine qQ ?_
            refine rS 1 [(4, .bool false)] ?_
            refine dQ ?_
            show XQ _ _ _ _ _ _ _ _
            refine XQ.ren (σ' := [(4, .bool false)]) (h' := [(0, rc encP a z0 y0 2)]) (c' := 1) [0] (by decide) rfl ⟨rfl, trivial⟩ ⟨⟨_, _, rfl, rfl, .inl ⟨rfl, rwP⟩⟩, trivial⟩ rfl ?_
            refine XQ.ret (by kernel_rfl) ?_
            cases h
            exact hQ
           | false =>
            have h := cF b14 h
            refine iF (.tmp 30) ?_
            refine kQ ?_
            show XQ _ _ _ _ _ _ _ _
            refine sQ ?_
            refine qQ ?_
            refine rS 1 [(3, pp 1 0), (5, sl 2 0 (Int.toNat o6.1) c5_4), (31, ii xh3_0_4)] ?_
            refine dQ ?_
            show XQ _ _ _ _ _ _ _ _
            refine rQ ?_
            refine rT 2 [(3, pp 1 0), (5, sl 2 0 (Int.toNat o6.1) c5_4), (6, pp 5 0)] [(5, .cells [ii xh3_0_4] 0 3 0), (4, .cells [ii o6.2.2] 0 3 0), (3, .cells [ii xh3_0_4] 0 3 0), (2, rc encP (clearL (0, 0) o6.2.1 (Int.toNat o6.1) (n5_4 - (Int.toNat o6.1))) 0 61 2), (1, .cells [ii b] 0 3 0), (0, rc encP a z0 y0 2)] 6 ?_
            refine dQ ?_
            show XQ _ _ _ _ _ _ _ _
            refine rQ ?_
            refine rT 3 [(3, pp 1 0), (5, sl 2 0 (Int.toNat o6.1) c5_4), (6, pp 5 0)] [(5, .cells [ii (w64 (xh3_0_4 + 1))] 0 3 0), (4, .cells [ii o6.2.2] 0 3 0), (3, .cells [ii xh3_0_4] 0 3 0), (2, rc encP (clearL (0, 0) o6.2.1 (Int.toNat o6.1) (n5_4 - (Int.toNat o6.1))) 0 61 2), (1, .cells [ii b] 0 3 0), (0, rc encP a z0 y0 2)] 6 ?_
            refine dQ ?_
            show XL _ _ _ _ _ _ _ _ _
            refine XL.ren (σ' := [(3, pp 1 0), (5, sl 2 0 (Int.toNat o6.1) c5_4), (6, pp 3 0)]) (h' := [(3, .cells [ii (w64 (xh3_0_4 + 1))] 0 3 0), (2, rc encP (clearL (0, 0) o6.2.1 (Int.toNat o6.1) (n5_4 - (Int.toNat o6.1))) 0 61 2), (1, .cells [ii b] 0 3 0), (0, rc encP a z0 y0 2)]) (c' := 4) [0, 1, 2, 5] (by decide) rfl ⟨rfl, rfl, rfl, trivial⟩ ⟨⟨_, _, rfl, rfl, .inr ⟨_, _, _, _, rfl, rfl⟩⟩, ⟨_, _, rfl, rfl, .inl ⟨rfl, rwP⟩⟩, ⟨_, _, rfl, rfl, .inr ⟨_, _, _, _, rfl, rfl⟩⟩, ⟨_, _, rfl, rfl, .inl ⟨rfl, rwP⟩⟩, trivial⟩ rfl ?_
            refine XL.conv (f58_4_ok m fuel z0 y0 a b (Int.toNat o6.1) c5_4 (clearL (0, 0) o6.2.1 (Int.toNat o6.1) (n5_4 - (Int.toNat o6.1))) (w64 (xh3_0_4 + 1)) o h Q hQ) (by first | rfl | simp)
        | false =>
         have h := cF b11 h
         refine XU.run E0_ok 1 7 [3, 5, 6, 30] rfl (σ' := [(3, pp 1 0), (5, sl 2 0 (Int.toNat o6.1) c5_4), (6, pp 3 0), (30, .bool false)]) (by kernel_rfl) ?_
         refine XU.done (by kernel_rfl) ?_
         show XQ _ _ _ _ _ _ _ _
         refine iF (.tmp 30) ?_
         refine kQ ?_
         show XQ _ _ _ _ _ _ _ _
         refine sQ ?_
         refine qQ ?_
         refine rS 1 [(3, pp 1 0), (5, sl 2 0 (Int.toNat o6.1) c5_4), (31, ii xh3_0_4)] ?_
         refine dQ ?_
         show XQ _ _ _ _ _ _ _ _
         refine rQ ?_
         refine rT 2 [(3, pp 1 0), (5, sl 2 0 (Int.toNat o6.1) c5_4), (6, pp 5 0)] [(5, .cells [ii xh3_0_4] 0 3 0), (4, .cells [ii o6.2.2] 0 3 0), (3, .cells [ii xh3_0_4] 0 3 0), (2, rc encP (clearL (0, 0) o6.2.1 (Int.toNat o6.1) (n5_4 - (Int.toNat o6.1))) 0 61 2), (1, .cells [ii b] 0 3 0), (0, rc encP a z0 y0 2)] 6 ?_
         refine dQ ?_
         show XQ _ _ _ _ _ _ _ _
         refine rQ ?_
         refine rT 3 [(3, pp 1 0), (5, sl 2 0 (Int.toNat o6.1) c5_4), (6, pp 5 0)] [(5, .cells [ii (w64 (xh3_0_4 + 1))] 0 3 0), (4, .cells [ii o6.2.2] 0 3 0), (3, .cells [ii xh3_0_4] 0 3 0), (2, rc encP (clearL (0, 0) o6.2.1 (Int.toNat o6.1) (n5_4 - (Int.toNat o6.1))) 0 61 2), (1, .cells [ii b] 0 3 0), (0, rc encP a z0 y0 2)] 6 ?_
         refine dQ ?_
         show XL _ _ _ _ _ _ _ _ _
         refine XL.ren (σ' := [(3, pp 1 0), (5, sl 2 0 (Int.toNat o6.1) c5_4), (6, pp 3 0)]) (h' := [(3, .cells [ii (w64 (xh3_0_4 + 1))] 0 3 0), (2, rc encP (clearL (0, 0) o6.2.1 (Int.toNat o6.1) (n5_4 - (Int.toNat o6.1))) 0 61 2), (1, .cells [ii b] 0 3 0), (0, rc encP a z0 y0 2)]) (c' := 4) [0, 1, 2, 5] (by decide) rfl ⟨rfl, rfl, rfl, trivial⟩ ⟨⟨_, _, rfl, rfl, .inr ⟨_, _, _, _, rfl, rfl⟩⟩, ⟨_, _, rfl, rfl, .inl ⟨rfl, rwP⟩⟩, ⟨_, _, rfl, rfl, .inr ⟨_, _, _, _, rfl, rfl⟩⟩, ⟨_, _, rfl, rfl, .inl ⟨rfl, rwP⟩⟩, trivial⟩ rfl ?_
         refine XL.conv (f58_4_ok m fuel z0 y0 a b (Int.toNat o6.1) c5_4 (clearL (0, 0) o6.2.1 (Int.toNat o6.1) (n5_4 - (Int.toNat o6.1))) (w64 (xh3_0_4 + 1)) o h Q hQ) (by first | rfl | simp)
   | x0 xh4_0_x05 =>
    dsimp only at h
    refine XL.conv (f58_5_ok m m z0 y0 a b n5_4 c5_4 lh2_4 xh3_0_4 ((n5_4 : Nat) : Int) 0 0 (.x0 xh4_0_x05) o5_h _ ?_) (by first | rfl | simp)
    show XQ _ _ _ _ _ _ _ _
    refine qQ ?_
    refine rS 1 [(4, ii (-1))] ?_
    refine dQ ?_
    show XQ _ _ _ _ _ _ _ _
    refine XQ.ret (by kernel_rfl) ?_
    refine ⟨fun i q => (by cases q), ii (-1), (by kernel_rfl), ?_⟩
    refine XR.conv (σ' := [(0, sl 2 0 n5_4 c5_4), (1, .func (.func 90) #[] #[pp 3 0, pp 4 0, pp 1 0]), (10, ii (-1))]) (h' := [(4, .cells [ii xh4_0_x05] 0 3 0), (3, .cells [ii xh3_0_4] 0 3 0), (2, rc encP lh2_4 0 61 2), (1, .cells [ii b] 0 3 0), (0, rc encP a z0 y0 2)]) (c' := 5) ?_ (by kernel_rfl)
    refine rS 1 [(0, sl 2 0 n5_4 c5_4), (1, .func (.func 90) #[] #[pp 3 0, pp 4 0, pp 1 0]), (5, ii (-1))] ?_
    refine dQ ?_
    show XQ _ _ _ _ _ _ _ _
    refine sQ ?_
    refine qQ ?_
    refine rS 2 [(0, sl 2 0 n5_4 c5_4), (1, .func (.func 90) #[] #[pp 3 0, pp 4 0, pp 1 0]), (5, ii (-1)), (12, .bool true)] ?_
    refine dQ ?_
    show XQ _ _ _ _ _ _ _ _
    refine iT (.tmp 12) ?_
    refine qQ ?_
    refine rS 2 [(4, sl 2 0 n5_4 c5_4)] ?_
    refine dQ ?_
    show XQ _ _ _ _ _ _ _ _
    refine XQ.ret (by kernel_rfl) ?_
    refine ⟨fun i q => (by cases q), sl 2 0 n5_4 c5_4, (by kernel_rfl), ?_⟩
    refine XR.conv (σ' := [(3, pp 1 0), (6, pp 3 0), (19, sl 2 0 n5_4 c5_4)]) (h' := [(4, .cells [ii xh4_0_x05] 0 3 0), (3, .cells [ii xh3_0_4] 0 3 0), (2, rc encP lh2_4 0 61 2), (1, .cells [ii b] 0 3 0), (0, rc encP a z0 y0 2)]) (c' := 5) ?_ (by kernel_rfl)
    refine rS 1 [(3, pp 1 0), (5, sl 2 0 n5_4 c5_4), (6, pp 3 0)] ?_
    refine dQ ?_
    show XQ _ _ _ _ _ _ _ _
    refine sQ ?_
    refine XQ.quiet E0_ok (by kernel_rfl) (by kernel_rfl) ?_
    refine XU.run E0_ok 1 4 [3, 5, 6, 23] rfl (σ' := [(3, pp 1 0), (5, sl 2 0 n5_4 c5_4), (6, pp 3 0), (23, .bool (decide (((n5_4 : Nat) : Int) > 0)))]) (by kernel_rfl) ?_
    rw [b1]
    refine XU.run E0_ok 1 1 [3, 5, 6, 23, 24] rfl (σ' := [(3, pp 1 0), (5, sl 2 0 n5_4 c5_4), (6, pp 3 0), (23, .bool true), (24, sl 2 0 n5_4 c5_4)]) (by kernel_rfl) ?_
    cases b15 : (inRow 0 n5_4 : Bool) with
    | false => cases (cF b15 h)
    | true =>
     have h := cT b15 h
     refine XU.rd E0_ok [3, 5, 6, 23, 25] rfl (v := pp 2 (0 * 2)) (v_idx (s := 2) (x := (src 32 (.tmp 24))) (y := (src 32 (.const (ii 0)))) (b := 2) (o := 0) (len := n5_4) (cap := c5_4) (ik := .i64) (i := 0) (off := 0 * 2) (d := (some (path 12 25))) (by kernel_rfl) (by kernel_rfl) (by kernel_rfl) b15 (by omega)) (σ' := [(3, pp 1 0), (5, sl 2 0 n5_4 c5_4), (6, pp 3 0), (23, .bool true), (25, pp 2 (0 * 2))]) (by kernel_rfl) ?_
     refine XU.run E0_ok 1 1 [3, 5, 6, 23, 26] rfl (σ' := [(3, pp 1 0), (5, sl 2 0 n5_4 c5_4), (6, pp 3 0), (23, .bool true), (26, pp 2 (0 * 2 + 1))]) (by kernel_rfl) ?_
     cases b16 : (decide (0 < lh2_4.length) : Bool) with
     | false => cases (cF b16 h)
     | true =>
      have h := cT b16 h
      refine XU.rd E0_ok [3, 5, 6, 23, 27] rfl (v := ii ((List.getD lh2_4 0 (0, 0)).2)) (v_load1 encP_ok (x := (src 32 (.tmp 26))) (b := 2) (off := 0 * 2 + 1) (xs := lh2_4) (fz := 0) (e := 61) (es := 2) (d := (some (path 12 27))) (by kernel_rfl) (by kernel_rfl) (by kernel_rfl) 0 1 (0, 0) (by first | rfl | omega) (row_len b16 (by simp)) rfl rfl) (σ' := [(3, pp 1 0), (5, sl 2 0 n5_4 c5_4), (6, pp 3 0), (23, .bool true), (27, ii ((List.getD lh2_4 0 (0, 0)).2))]) (by kernel_rfl) ?_
      refine XU.run E0_ok 1 3 [3, 5, 6, 30] rfl (σ' := [(3, pp 1 0), (5, sl 2 0 n5_4 c5_4), (6, pp 3 0), (30, .bool (decide (((List.getD lh2_4 0 (0, 0)).2) ≤ xh3_0_4)))]) (by kernel_rfl) ?_
      refine XU.done (by kernel_rfl) ?_
      show XQ _ _ _ _ _ _ _ _
      cases b17 : (decide (((List.getD lh2_4 0 (0, 0)).2) ≤ xh3_0_4) : Bool) with
      | true =>
       have h := cT b17 h
       refine iT (.tmp 30) ?_
       refine qQ ?_
       refine rS 1 [(4, .bool false)] ?_
       refine dQ ?_
       show XQ _ _ _ _ _ _ _ _
       refine XQ.ren (σ' := [(4, .bool false)]) (h' := [(0, rc encP a z0 y0 2)]) (c' := 1) [0] (by decide) rfl ⟨rfl, trivial⟩ ⟨⟨_, _, rfl, rfl, .inl ⟨rfl, rwP⟩⟩, trivial⟩ rfl ?_
       refine XQ.ret (by kernel_rfl) ?_
       cases h
       exact hQ
      | false =>
       have h := cF b17 h
       refine iF (.tmp 30) ?_
       refine kQ ?_
       show XQ _ _ _ _ _ _ _ _
       refine sQ ?_
       refine qQ ?_
       refine rS 1 [(3, pp 1 0), (5, sl 2 0 n5_4 c5_4), (31, ii xh3_0_4)] ?_
       refine dQ ?_
       show XQ _ _ _ _ _ _ _ _
       refine rQ ?_
       refine rT 2 [(3, pp 1 0), (5, sl 2 0 n5_4 c5_4), (6, pp 5 0)] [(5, .cells [ii xh3_0_4] 0 3 0), (4, .cells [ii xh4_0_x05] 0 3 0), (3, .cells [ii xh3_0_4] 0 3 0), (2, rc encP lh2_4 0 61 2), (1, .cells [ii b] 0 3 0), (0, rc encP a z0 y0 2)] 6 ?_
       refine dQ ?_
       show XQ _ _ _ _ _ _ _ _
       refine rQ ?_
       refine rT 3 [(3, pp 1 0), (5, sl 2 0 n5_4 c5_4), (6, pp 5 0)] [(5, .cells [ii (w64 (xh3_0_4 + 1))] 0 3 0), (4, .cells [ii xh4_0_x05] 0 3 0), (3, .cells [ii xh3_0_4] 0 3 0), (2, rc encP lh2_4 0 61 2), (1, .cells [ii b] 0 3 0), (0, rc encP a z0 y0 2)] 6 ?_
       refine dQ ?_
       show XL _ _ _ _ _ _ _ _ _
       refine XL.ren (σ' := [(3, pp 1 0), (5, sl 2 0 n5_4 c5_4), (6, pp 3 0)]) (h' := [(3, .cells [ii (w64 (xh3_0_4 + 1))] 0 3 0), (2, rc encP lh2_4 0 61 2), (1, .cells [ii b] 0 3 0), (0, rc encP a z0 y0 2)]) (c' := 4) [0, 1, 2, 5] (by decide) rfl ⟨rfl, rfl, rfl, trivial⟩ ⟨⟨_, _, rfl, rfl, .inr ⟨_, _, _, _, rfl, rfl⟩⟩, ⟨_, _, rfl, rfl, .inl ⟨rfl, rwP⟩⟩, ⟨_, _, rfl, rfl, .inr ⟨_, _, _, _, rfl, rfl⟩⟩, ⟨_, _, rfl, rfl, .inl ⟨rfl, rwP⟩⟩, trivial⟩ rfl ?_
       refine XL.conv (f58_4_ok m fuel z0 y0 a b n5_4 c5_4 lh2_4 (w64 (xh3_0_4 + 1)) o h Q hQ) (by first | rfl | simp)
  | false =>
   have h := cF b1 h
   refine iF (.tmp 14) ?_
   refine XQ.ren (σ' := []) (h' := [(0, rc encP a z0 y0 2)]) (c' := 1) [0] (by decide) rfl trivial ⟨⟨_, _, rfl, rfl, .inl ⟨rfl, rwP⟩⟩, trivial⟩ rfl ?_
   refine XQ.exit (i := 0) (by kernel_rfl) ?_
   cases h
   exact hQ
def f58 (m : Nat) (a : List (Int × Int)) (b : Int) : Option (Bool) :=
 cond (fitsB a.length 16) (
  (f98 m (IntKind.wrap .u64 ((a.length : Nat) : Int))).bind fun r1 =>
   (f58_1 m m a b ((a.length : Nat) : Int) r1).bind fun o1 =>
    cond (decide (a.length = o1.length)) (
     (f58_4 m m a b o1.length o1.length o1 0).bind fun o4 =>
      match o4 with
      | .r =>
       some (false)
      | .x0 =>
       some (true)
    ) none
 ) none
theorem f58_ok (m : Nat) (z0 : Nat) (y0 : Nat) (a : List (Int × Int)) (b : Int) (o : Bool) (h : f58 m a b = some o) : KC E0 58 [s0 0 a.length, ii b] [(0, rc encP a z0 y0 2)] 1 (fun v _ _ => v = .bool o) := by
 refine KC.bodyN E0_ok (F := Proofs.Try.f58) (by kernel_rfl) (code := f58_C58) (by kernel_rfl) (nt := 32) (by kernel_rfl) (rs := [.tmp 4]) (by kernel_rfl) (by kernel_rfl) (σ := [(0, s0 0 a.length), (1, ii b)]) (by kernel_rfl) ?_
 unfold f58 at h
 refine qQ ?_
 refine rT 2 [(0, s0 0 a.length), (3, pp 1 0)] [(1, .cells [ii b] 0 3 0), (0, rc encP a z0 y0 2)] 2 ?_
 refine nQ id ?_
 refine rS 1 [(3, pp 1 0), (8, s0 0 a.length)] ?_
 cases b1 : (fitsB a.length 16 : Bool) with
 | false => cases (cF b1 h)
 | true =>
  have h := cT b1 h
  refine XR.call E0_ok [3, 9] rfl (K := 50) (args := [s0 0 a.length]) (d := (some (path 12 9))) (by kernel_rfl) (clone50_all (xs := a) (fz := z0) (e0 := y0) (es0 := 2) (c := 2) (by kernel_rfl) (by simp) (Nat.le_refl _) b1) ?_
  rintro _ _ _ ⟨rfl, rfl, rfl⟩
  refine XR.conv (σ' := [(3, pp 1 0), (9, s0 3 a.length)]) (h' := [(3, rc encP a 0 61 2), (1, .cells [ii b] 0 3 0), (0, rc encP a z0 y0 2)]) (c' := 4) ?_ (by kernel_rfl)
  refine rS 1 [(3, pp 1 0), (5, s0 3 a.length)] ?_
  refine nQ id ?_
  refine rS 1 [(3, pp 1 0), (5, s0 3 a.length), (10, s0 3 a.length)] ?_
  refine XR.callK E0_ok [3, 5] rfl (K := 88) (args := [s0 3 a.length, .func (.func 89) #[] #[]]) (d := (some (path 12 11))) (by kernel_rfl) ?_
  refine KC.bodyN E0_ok (F := Proofs.Try.f88) (by kernel_rfl) (code := f58_C88) (by kernel_rfl) (nt := 14) (by kernel_rfl) (rs := []) (by kernel_rfl) (by kernel_rfl) (σ := [(0, s0 3 a.length), (1, .func (.func 89) #[] #[])]) (by kernel_rfl) ?_
  refine qQ ?_
  refine rS 3 [(0, s0 3 a.length), (1, .func (.func 89) #[] #[]), (4, ii ((a.length : Nat) : Int))] ?_
  refine dQ ?_
  show XQ _ _ _ _ _ _ _ _
  refine rQ ?_
  refine rS 4 [(1, .func (.func 89) #[] #[]), (7, s0 3 a.length), (8, ii ((a.length : Nat) : Int)), (10, .int .u64 (IntKind.wrap .u64 ((a.length : Nat) : Int)))] ?_
  obtain ⟨r1, r1_h, h⟩ := bS h
  refine XR.call E0_ok [1, 7, 8, 11] rfl (K := 98) (args := [.int .u64 (IntKind.wrap .u64 ((a.length : Nat) : Int))]) (d := (some (path 12 11))) (by kernel_rfl) (KC.of_calls E0_ok (F := Proofs.Try.f98) (v := ii r1) (by kernel_rfl) rfl rfl (fun w hI => f98_ok m (IntKind.wrap .u64 ((a.length : Nat) : Int)) r1 r1_h w hI)) ?_
  rintro _ _ _ ⟨rfl, rfl, rfl⟩
  refine XR.conv (σ' := [(1, .func (.func 89) #[] #[]), (7, s0 3 a.length), (8, ii ((a.length : Nat) : Int)), (11, ii r1)]) (h' := [(3, rc encP a 0 61 2), (1, .cells [ii b] 0 3 0), (0, rc encP a z0 y0 2)]) (c' := 4) ?_ (by kernel_rfl)
  refine rS 1 [(7, s0 3 a.length), (8, ii ((a.length : Nat) : Int)), (11, ii r1), (12, .func (.func 89) #[] #[])] ?_
  refine XR.callK E0_ok [] rfl (K := 97) (args := [s0 3 a.length, ii 0, ii ((a.length : Nat) : Int), ii r1, .func (.func 89) #[] #[]]) (d := (some (path 12 13))) (by kernel_rfl) ?_
  refine KC.bodyN E0_ok (F := Proofs.Try.f97) (by kernel_rfl) (code := f58_C97) (by kernel_rfl) (nt := 148) (by kernel_rfl) (rs := []) (by kernel_rfl) (by kernel_rfl) (σ := [(0, s0 3 a.length), (1, ii 0), (2, ii ((a.length : Nat) : Int)), (3, ii r1), (4, .func (.func 89) #[] #[])]) (by kernel_rfl) ?_
  refine qQ ?_
  refine rS 1 [(0, s0 3 a.length), (1, ii 0), (2, ii ((a.length : Nat) : Int)), (3, ii r1), (4, .func (.func 89) #[] #[]), (10, .bool true)] ?_
  refine nQ id ?_
  refine rS 1 [(0, s0 3 a.length), (1, ii 0), (2, ii ((a.length : Nat) : Int)), (3, ii r1), (4, .func (.func 89) #[] #[]), (10, .bool true), (11, .bool true)] ?_
  refine dQ ?_
  show XQ _ _ _ _ _ _ _ _
  refine XQ.block (id := 0) (by kernel_rfl) ?_
  refine XQ.loop m (by kernel_rfl) ?_
  obtain ⟨o1, o1_h, h⟩ := bS h
  refine XL.ren (σ' := [(0, s0 3 a.length), (1, ii 0), (2, ii ((a.length : Nat) : Int)), (3, ii r1), (4, .func (.func 89) #[] #[]), (10, .bool true), (11, .bool true)]) (h' := [(3, rc encP a 0 61 2), (1, .cells [ii b] 0 3 0), (0, rc encP a z0 y0 2)]) (c' := 4) [0, 1, 2, 3] (by decide) rfl ⟨rfl, rfl, rfl, rfl, rfl, rfl, rfl, trivial⟩ ⟨⟨_, _, rfl, rfl, .inl ⟨rfl, rwP⟩⟩, ⟨_, _, rfl, rfl, .inr ⟨_, _, _, _, rfl, rfl⟩⟩, ⟨_, _, rfl, rfl, .inl ⟨rfl, rwP⟩⟩, trivial⟩ rfl ?_
  refine XL.conv (f58_1_ok m m z0 y0 a b ((a.length : Nat) : Int) r1 o1 o1_h _ ?_) (by first | rfl | simp)
  refine ⟨fun i q => (by cases q), .tuple #[], (by kernel_rfl), ?_⟩
  refine XR.conv (σ' := []) (h' := [(3, rc encP o1 0 61 2), (1, .cells [ii b] 0 3 0), (0, rc encP a z0 y0 2)]) (c' := 4) ?_ (by kernel_rfl)
  refine dQ ?_
  refine ⟨fun i q => (by cases q), .tuple #[], (by kernel_rfl), ?_⟩
  refine XR.conv (σ' := [(3, pp 1 0), (5, s0 3 a.length)]) (h' := [(3, rc encP o1 0 61 2), (1, .cells [ii b] 0 3 0), (0, rc encP a z0 y0 2)]) (c' := 4) ?_ (by kernel_rfl)
  cases b3 : (decide (a.length = o1.length) : Bool) with
  | false => cases (cF b3 h)
  | true =>
   have h := cT b3 h
   refine XR.conv (σ' := [(3, pp 1 0), (5, s0 3 o1.length)]) (h' := [(3, rc encP o1 0 61 2), (1, .cells [ii b] 0 3 0), (0, rc encP a z0 y0 2)]) (c' := 4) ?_ (by rw [of_decide_eq_true b3])
   refine dQ ?_
   show XQ _ _ _ _ _ _ _ _
   refine sQ ?_
   refine qQ ?_
   refine rT 2 [(3, pp 1 0), (5, s0 3 o1.length), (6, pp 4 0)] [(4, .cells [ii 0] 0 3 0), (3, rc encP o1 0 61 2), (1, .cells [ii b] 0 3 0), (0, rc encP a z0 y0 2)] 5 ?_
   refine dQ ?_
   show XQ _ _ _ _ _ _ _ _
   refine XQ.block (id := 0) (by kernel_rfl) ?_
   refine XQ.loop m (by kernel_rfl) ?_
   obtain ⟨o4, o4_h, h⟩ := bS h
   refine XL.ren (σ' := [(3, pp 1 0), (5, s0 2 o1.length), (6, pp 3 0)]) (h' := [(3, .cells [ii 0] 0 3 0), (2, rc encP o1 0 61 2), (1, .cells [ii b] 0 3 0), (0, rc encP a z0 y0 2)]) (c' := 4) [0, 1, 3, 4] (by decide) rfl ⟨rfl, rfl, rfl, trivial⟩ ⟨⟨_, _, rfl, rfl, .inr ⟨_, _, _, _, rfl, rfl⟩⟩, ⟨_, _, rfl, rfl, .inl ⟨rfl, rwP⟩⟩, ⟨_, _, rfl, rfl, .inr ⟨_, _, _, _, rfl, rfl⟩⟩, ⟨_, _, rfl, rfl, .inl ⟨rfl, rwP⟩⟩, trivial⟩ rfl ?_
   cases o4 with
   | r =>
    dsimp only at h
    refine XL.conv (f58_4_ok m m z0 y0 a b o1.length o1.length o1 0 (.r) o4_h _ ?_) (by first | rfl | simp)
    have h := Option.some.inj h
    subst h
    exact ⟨fun i q => (by cases q), .bool false, (by kernel_rfl), rfl⟩
   | x0 =>
    dsimp only at h
    refine XL.conv (f58_4_ok m m z0 y0 a b o1.length o1.length o1 0 (.x0) o4_h _ ?_) (by first | rfl | simp)
    show XQ _ _ _ _ _ _ _ _
    refine qQ ?_
    refine rS 1 [(4, .bool true)] ?_
    refine dQ ?_
    show XQ _ _ _ _ _ _ _ _
    refine XQ.ret (by kernel_rfl) ?_
    have h := Option.some.inj h
    subst h
    exact ⟨fun i q => (by cases q), .bool true, (by kernel_rfl), rfl⟩
end Go.Xm
