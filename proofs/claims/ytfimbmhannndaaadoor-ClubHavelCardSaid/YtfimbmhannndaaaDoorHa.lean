/- What these functions of the program compute, as functions in Lean, and the proofs that they do: vitolalaw12.ClubHavel$1, bits.Len64, bits.Len, vitolalaw12.ClubHavel. Conditions: the library's variables hold what their texts lay. -/
import Derived.Test.YtfimbmhannndaaaDoorDd
import Derived.Test.YtfimbmhannndaaaDoorCl
import Derived.Test.YtfimbmhannndaaaDoorMs
import Derived.Test.YtfimbmhannndaaaDoorMt
namespace Go.Xm
open Go.RowKit
set_option linter.unusedVariables false
set_option linter.unusedSimpArgs false
set_option maxRecDepth 20000

/-! vitola/vitolalaw12.ClubHavel 1 -/
noncomputable def f57_C57 : Code := Proofs.Tryd.f57.body.getD .skip

def f57 (m : Nat) (a : Int) (b : Int) : Option (Int) :=
  some (w64 (b - a))

theorem f57_ok (m : Nat) (a : Int) (b : Int) (o : Int) (h : f57 m a b = some o) (w : World) (hI : seatInv w) : Calls Proofs.Tryd.prog 57 #[ii a, ii b] w fun e w' => e = .returned (ii o) ∧ Below w.heap.size w w' := by
  refine KC.calls (E := E0) (args := [ii a, ii b]) (v := ii o) rfl rfl (KC.bodyN E0_ok (F := Proofs.Tryd.f57) (by kernel_rfl) (code := f57_C57) (by kernel_rfl) (nt := 8) (by kernel_rfl) (rs := [.tmp 4]) (by kernel_rfl) (by kernel_rfl) (σ := [(0, ii a), (1, ii b)]) (by kernel_rfl) ?_) w (seatInv_size hI) hI
  unfold f57 at h
  refine XQ.seq E0_ok (by kernel_rfl) ?_
  refine XQ.region (by kernel_rfl) ?_
  refine XR.runS E0_ok 1 1 [(0, ii a), (1, ii b)] rfl (by kernel_rfl) ?_
  refine XR.done (by kernel_rfl) ?_
  show XQ _ _ _ _ _ _ _ _
  refine XQ.seq E0_ok (by kernel_rfl) ?_
  refine XQ.region (by kernel_rfl) ?_
  refine XR.runS E0_ok 1 4 [(4, ii (w64 (b - a)))] rfl (by kernel_rfl) ?_
  refine XR.done (by kernel_rfl) ?_
  show XQ _ _ _ _ _ _ _ _
  refine XQ.ret (by kernel_rfl) ?_
  have h := Option.some.inj h
  subst h
  exact ⟨fun i q => (by cases q), ii (w64 (b - a)), (by kernel_rfl), rfl⟩

/-! math/bits.Len64 -/
noncomputable def f116_C116 : Code := Proofs.Tryd.f116.body.getD .skip

def f116 (m : Nat) (a : Int) : Option (Int) :=
  cond (inRow (IntKind.wrap .u8 (cond (decide ((cond (decide ((cond (decide (a ≥ 4294967296)) (shV false .u64 a 32) a : Int) ≥ 65536)) (shV false .u64 (cond (decide (a ≥ 4294967296)) (shV false .u64 a 32) a) 16) (cond (decide (a ≥ 4294967296)) (shV false .u64 a 32) a) : Int) ≥ 256)) (shV false .u64 (cond (decide ((cond (decide (a ≥ 4294967296)) (shV false .u64 a 32) a : Int) ≥ 65536)) (shV false .u64 (cond (decide (a ≥ 4294967296)) (shV false .u64 a 32) a) 16) (cond (decide (a ≥ 4294967296)) (shV false .u64 a 32) a)) 8) (cond (decide ((cond (decide (a ≥ 4294967296)) (shV false .u64 a 32) a : Int) ≥ 65536)) (shV false .u64 (cond (decide (a ≥ 4294967296)) (shV false .u64 a 32) a) 16) (cond (decide (a ≥ 4294967296)) (shV false .u64 a 32) a)))) (bs [0, 1, 2, 2, 3, 3, 3, 3, 4, 4, 4, 4, 4, 4, 4, 4, 5, 5, 5, 5, 5, 5, 5, 5, 5, 5, 5, 5, 5, 5, 5, 5, 6, 6, 6, 6, 6, 6, 6, 6, 6, 6, 6, 6, 6, 6, 6, 6, 6, 6, 6, 6, 6, 6, 6, 6, 6, 6, 6, 6, 6, 6, 6, 6, 7, 7, 7, 7, 7, 7, 7, 7, 7, 7, 7, 7, 7, 7, 7, 7, 7, 7, 7, 7, 7, 7, 7, 7, 7, 7, 7, 7, 7, 7, 7, 7, 7, 7, 7, 7, 7, 7, 7, 7, 7, 7, 7, 7, 7, 7, 7, 7, 7, 7, 7, 7, 7, 7, 7, 7, 7, 7, 7, 7, 7, 7, 7, 7, 8, 8, 8, 8, 8, 8, 8, 8, 8, 8, 8, 8, 8, 8, 8, 8, 8, 8, 8, 8, 8, 8, 8, 8, 8, 8, 8, 8, 8, 8, 8, 8, 8, 8, 8, 8, 8, 8, 8, 8, 8, 8, 8, 8, 8, 8, 8, 8, 8, 8, 8, 8, 8, 8, 8, 8, 8, 8, 8, 8, 8, 8, 8, 8, 8, 8, 8, 8, 8, 8, 8, 8, 8, 8, 8, 8, 8, 8, 8, 8, 8, 8, 8, 8, 8, 8, 8, 8, 8, 8, 8, 8, 8, 8, 8, 8, 8, 8, 8, 8, 8, 8, 8, 8, 8, 8, 8, 8, 8, 8, 8, 8, 8, 8, 8, 8, 8, 8, 8, 8, 8, 8, 8, 8, 8, 8, 8, 8]).size) (
    some (w64 ((cond (decide ((cond (decide ((cond (decide (a ≥ 4294967296)) (shV false .u64 a 32) a : Int) ≥ 65536)) (shV false .u64 (cond (decide (a ≥ 4294967296)) (shV false .u64 a 32) a) 16) (cond (decide (a ≥ 4294967296)) (shV false .u64 a 32) a) : Int) ≥ 256)) (w64 ((cond (decide ((cond (decide (a ≥ 4294967296)) (shV false .u64 a 32) a : Int) ≥ 65536)) (w64 ((cond (decide (a ≥ 4294967296)) 32 0) + 16)) (cond (decide (a ≥ 4294967296)) 32 0)) + 8)) (cond (decide ((cond (decide (a ≥ 4294967296)) (shV false .u64 a 32) a : Int) ≥ 65536)) (w64 ((cond (decide (a ≥ 4294967296)) 32 0) + 16)) (cond (decide (a ≥ 4294967296)) 32 0))) + (w64 (byteAt (bs [0, 1, 2, 2, 3, 3, 3, 3, 4, 4, 4, 4, 4, 4, 4, 4, 5, 5, 5, 5, 5, 5, 5, 5, 5, 5, 5, 5, 5, 5, 5, 5, 6, 6, 6, 6, 6, 6, 6, 6, 6, 6, 6, 6, 6, 6, 6, 6, 6, 6, 6, 6, 6, 6, 6, 6, 6, 6, 6, 6, 6, 6, 6, 6, 7, 7, 7, 7, 7, 7, 7, 7, 7, 7, 7, 7, 7, 7, 7, 7, 7, 7, 7, 7, 7, 7, 7, 7, 7, 7, 7, 7, 7, 7, 7, 7, 7, 7, 7, 7, 7, 7, 7, 7, 7, 7, 7, 7, 7, 7, 7, 7, 7, 7, 7, 7, 7, 7, 7, 7, 7, 7, 7, 7, 7, 7, 7, 7, 8, 8, 8, 8, 8, 8, 8, 8, 8, 8, 8, 8, 8, 8, 8, 8, 8, 8, 8, 8, 8, 8, 8, 8, 8, 8, 8, 8, 8, 8, 8, 8, 8, 8, 8, 8, 8, 8, 8, 8, 8, 8, 8, 8, 8, 8, 8, 8, 8, 8, 8, 8, 8, 8, 8, 8, 8, 8, 8, 8, 8, 8, 8, 8, 8, 8, 8, 8, 8, 8, 8, 8, 8, 8, 8, 8, 8, 8, 8, 8, 8, 8, 8, 8, 8, 8, 8, 8, 8, 8, 8, 8, 8, 8, 8, 8, 8, 8, 8, 8, 8, 8, 8, 8, 8, 8, 8, 8, 8, 8, 8, 8, 8, 8, 8, 8, 8, 8, 8, 8, 8, 8, 8, 8, 8, 8, 8, 8]) (IntKind.wrap .u8 (cond (decide ((cond (decide ((cond (decide (a ≥ 4294967296)) (shV false .u64 a 32) a : Int) ≥ 65536)) (shV false .u64 (cond (decide (a ≥ 4294967296)) (shV false .u64 a 32) a) 16) (cond (decide (a ≥ 4294967296)) (shV false .u64 a 32) a) : Int) ≥ 256)) (shV false .u64 (cond (decide ((cond (decide (a ≥ 4294967296)) (shV false .u64 a 32) a : Int) ≥ 65536)) (shV false .u64 (cond (decide (a ≥ 4294967296)) (shV false .u64 a 32) a) 16) (cond (decide (a ≥ 4294967296)) (shV false .u64 a 32) a)) 8) (cond (decide ((cond (decide (a ≥ 4294967296)) (shV false .u64 a 32) a : Int) ≥ 65536)) (shV false .u64 (cond (decide (a ≥ 4294967296)) (shV false .u64 a 32) a) 16) (cond (decide (a ≥ 4294967296)) (shV false .u64 a 32) a))))))))
  ) none

theorem f116_ok (m : Nat) (a : Int) (o : Int) (h : f116 m a = some o) (w : World) (hI : seatInv w) : Calls Proofs.Tryd.prog 116 #[.int .u64 a] w fun e w' => e = .returned (ii o) ∧ Below w.heap.size w w' := by
  refine KC.calls (E := E0) (args := [.int .u64 a]) (v := ii o) rfl rfl (KC.bodyN E0_ok (F := Proofs.Tryd.f116) (by kernel_rfl) (code := f116_C116) (by kernel_rfl) (nt := 25) (by kernel_rfl) (rs := [.tmp 2]) (by kernel_rfl) (by kernel_rfl) (σ := [(0, .int .u64 a)]) (by kernel_rfl) ?_) w (seatInv_size hI) hI
  unfold f116 at h
  refine XQ.seq E0_ok (by kernel_rfl) ?_
  refine XQ.region (by kernel_rfl) ?_
  refine XR.runS E0_ok 1 1 [(0, .int .u64 a), (2, ii 0)] rfl (by kernel_rfl) ?_
  refine XR.done (by kernel_rfl) ?_
  show XQ _ _ _ _ _ _ _ _
  refine XQ.seq E0_ok (by kernel_rfl) ?_
  refine XQ.seq E0_ok (by kernel_rfl) ?_
  refine XQ.region (by kernel_rfl) ?_
  refine XR.runS E0_ok 1 2 [(0, .int .u64 a), (2, ii 0), (4, .bool (decide (a ≥ 4294967296)))] rfl (by kernel_rfl) ?_
  refine XR.done (by kernel_rfl) ?_
  show XQ _ _ _ _ _ _ _ _
  refine XQ.meetC (σ' := [(0, .int .u64 (cond (decide (a ≥ 4294967296)) (shV false .u64 a 32) a)), (2, ii (cond (decide (a ≥ 4294967296)) 32 0))]) (h' := []) (c' := 0) ?_ ?_
  rotate_left
  · refine XQ.cond (s := (.tmp 4)) (b := decide (a ≥ 4294967296)) (by kernel_rfl) (by kernel_rfl) (fun b1 => ?_) (fun b1 => ?_)
    · refine XQ.seq E0_ok (by kernel_rfl) ?_
      refine XQ.region (by kernel_rfl) ?_
      refine XR.runS E0_ok 1 3 [(0, .int .u64 (shV false .u64 a 32))] rfl (by kernel_rfl) ?_
      refine XR.done (by kernel_rfl) ?_
      show XQ _ _ _ _ _ _ _ _
      refine XQ.region (by kernel_rfl) ?_
      refine XR.runS E0_ok 1 1 [(0, .int .u64 (shV false .u64 a 32)), (2, ii 32)] rfl (by kernel_rfl) ?_
      refine XR.done (by kernel_rfl) ?_
      refine ⟨rfl, ?_, ?_⟩
      · try rw [b1]
        exact ⟨by kernel_rfl, by kernel_rfl, trivial⟩
      · try rw [b1]
        kernel_rfl
    · refine XQ.skip (by kernel_rfl) ?_
      refine ⟨rfl, ?_, ?_⟩
      · try rw [b1]
        exact ⟨by kernel_rfl, by kernel_rfl, trivial⟩
      · try rw [b1]
        kernel_rfl
  show XQ _ _ _ _ _ _ _ _
  refine XQ.seq E0_ok (by kernel_rfl) ?_
  refine XQ.seq E0_ok (by kernel_rfl) ?_
  refine XQ.region (by kernel_rfl) ?_
  refine XR.runS E0_ok 1 2 [(0, .int .u64 (cond (decide (a ≥ 4294967296)) (shV false .u64 a 32) a)), (2, ii (cond (decide (a ≥ 4294967296)) 32 0)), (8, .bool (decide ((cond (decide (a ≥ 4294967296)) (shV false .u64 a 32) a : Int) ≥ 65536)))] rfl (by kernel_rfl) ?_
  refine XR.done (by kernel_rfl) ?_
  show XQ _ _ _ _ _ _ _ _
  refine XQ.meetC (σ' := [(0, .int .u64 (cond (decide ((cond (decide (a ≥ 4294967296)) (shV false .u64 a 32) a : Int) ≥ 65536)) (shV false .u64 (cond (decide (a ≥ 4294967296)) (shV false .u64 a 32) a) 16) (cond (decide (a ≥ 4294967296)) (shV false .u64 a 32) a))), (2, ii (cond (decide ((cond (decide (a ≥ 4294967296)) (shV false .u64 a 32) a : Int) ≥ 65536)) (w64 ((cond (decide (a ≥ 4294967296)) 32 0) + 16)) (cond (decide (a ≥ 4294967296)) 32 0)))]) (h' := []) (c' := 0) ?_ ?_
  rotate_left
  · refine XQ.cond (s := (.tmp 8)) (b := decide ((cond (decide (a ≥ 4294967296)) (shV false .u64 a 32) a : Int) ≥ 65536)) (by kernel_rfl) (by kernel_rfl) (fun b2 => ?_) (fun b2 => ?_)
    · refine XQ.seq E0_ok (by kernel_rfl) ?_
      refine XQ.region (by kernel_rfl) ?_
      refine XR.runS E0_ok 1 3 [(0, .int .u64 (shV false .u64 (cond (decide (a ≥ 4294967296)) (shV false .u64 a 32) a) 16)), (2, ii (cond (decide (a ≥ 4294967296)) 32 0))] rfl (by kernel_rfl) ?_
      refine XR.done (by kernel_rfl) ?_
      show XQ _ _ _ _ _ _ _ _
      refine XQ.region (by kernel_rfl) ?_
      refine XR.runS E0_ok 1 3 [(0, .int .u64 (shV false .u64 (cond (decide (a ≥ 4294967296)) (shV false .u64 a 32) a) 16)), (2, ii (w64 ((cond (decide (a ≥ 4294967296)) 32 0) + 16)))] rfl (by kernel_rfl) ?_
      refine XR.done (by kernel_rfl) ?_
      refine ⟨rfl, ?_, ?_⟩
      · try rw [b2]
        exact ⟨by kernel_rfl, by kernel_rfl, trivial⟩
      · try rw [b2]
        kernel_rfl
    · refine XQ.skip (by kernel_rfl) ?_
      refine ⟨rfl, ?_, ?_⟩
      · try rw [b2]
        exact ⟨by kernel_rfl, by kernel_rfl, trivial⟩
      · try rw [b2]
        kernel_rfl
  show XQ _ _ _ _ _ _ _ _
  refine XQ.seq E0_ok (by kernel_rfl) ?_
  refine XQ.seq E0_ok (by kernel_rfl) ?_
  refine XQ.region (by kernel_rfl) ?_
  refine XR.runS E0_ok 1 2 [(0, .int .u64 (cond (decide ((cond (decide (a ≥ 4294967296)) (shV false .u64 a 32) a : Int) ≥ 65536)) (shV false .u64 (cond (decide (a ≥ 4294967296)) (shV false .u64 a 32) a) 16) (cond (decide (a ≥ 4294967296)) (shV false .u64 a 32) a))), (2, ii (cond (decide ((cond (decide (a ≥ 4294967296)) (shV false .u64 a 32) a : Int) ≥ 65536)) (w64 ((cond (decide (a ≥ 4294967296)) 32 0) + 16)) (cond (decide (a ≥ 4294967296)) 32 0))), (14, .bool (decide ((cond (decide ((cond (decide (a ≥ 4294967296)) (shV false .u64 a 32) a : Int) ≥ 65536)) (shV false .u64 (cond (decide (a ≥ 4294967296)) (shV false .u64 a 32) a) 16) (cond (decide (a ≥ 4294967296)) (shV false .u64 a 32) a) : Int) ≥ 256)))] rfl (by kernel_rfl) ?_
  refine XR.done (by kernel_rfl) ?_
  show XQ _ _ _ _ _ _ _ _
  refine XQ.meetC (σ' := [(0, .int .u64 (cond (decide ((cond (decide ((cond (decide (a ≥ 4294967296)) (shV false .u64 a 32) a : Int) ≥ 65536)) (shV false .u64 (cond (decide (a ≥ 4294967296)) (shV false .u64 a 32) a) 16) (cond (decide (a ≥ 4294967296)) (shV false .u64 a 32) a) : Int) ≥ 256)) (shV false .u64 (cond (decide ((cond (decide (a ≥ 4294967296)) (shV false .u64 a 32) a : Int) ≥ 65536)) (shV false .u64 (cond (decide (a ≥ 4294967296)) (shV false .u64 a 32) a) 16) (cond (decide (a ≥ 4294967296)) (shV false .u64 a 32) a)) 8) (cond (decide ((cond (decide (a ≥ 4294967296)) (shV false .u64 a 32) a : Int) ≥ 65536)) (shV false .u64 (cond (decide (a ≥ 4294967296)) (shV false .u64 a 32) a) 16) (cond (decide (a ≥ 4294967296)) (shV false .u64 a 32) a)))), (2, ii (cond (decide ((cond (decide ((cond (decide (a ≥ 4294967296)) (shV false .u64 a 32) a : Int) ≥ 65536)) (shV false .u64 (cond (decide (a ≥ 4294967296)) (shV false .u64 a 32) a) 16) (cond (decide (a ≥ 4294967296)) (shV false .u64 a 32) a) : Int) ≥ 256)) (w64 ((cond (decide ((cond (decide (a ≥ 4294967296)) (shV false .u64 a 32) a : Int) ≥ 65536)) (w64 ((cond (decide (a ≥ 4294967296)) 32 0) + 16)) (cond (decide (a ≥ 4294967296)) 32 0)) + 8)) (cond (decide ((cond (decide (a ≥ 4294967296)) (shV false .u64 a 32) a : Int) ≥ 65536)) (w64 ((cond (decide (a ≥ 4294967296)) 32 0) + 16)) (cond (decide (a ≥ 4294967296)) 32 0))))]) (h' := []) (c' := 0) ?_ ?_
  rotate_left
  · refine XQ.cond (s := (.tmp 14)) (b := decide ((cond (decide ((cond (decide (a ≥ 4294967296)) (shV false .u64 a 32) a : Int) ≥ 65536)) (shV false .u64 (cond (decide (a ≥ 4294967296)) (shV false .u64 a 32) a) 16) (cond (decide (a ≥ 4294967296)) (shV false .u64 a 32) a) : Int) ≥ 256)) (by kernel_rfl) (by kernel_rfl) (fun b3 => ?_) (fun b3 => ?_)
    · refine XQ.seq E0_ok (by kernel_rfl) ?_
      refine XQ.region (by kernel_rfl) ?_
      refine XR.runS E0_ok 1 3 [(0, .int .u64 (shV false .u64 (cond (decide ((cond (decide (a ≥ 4294967296)) (shV false .u64 a 32) a : Int) ≥ 65536)) (shV false .u64 (cond (decide (a ≥ 4294967296)) (shV false .u64 a 32) a) 16) (cond (decide (a ≥ 4294967296)) (shV false .u64 a 32) a)) 8)), (2, ii (cond (decide ((cond (decide (a ≥ 4294967296)) (shV false .u64 a 32) a : Int) ≥ 65536)) (w64 ((cond (decide (a ≥ 4294967296)) 32 0) + 16)) (cond (decide (a ≥ 4294967296)) 32 0)))] rfl (by kernel_rfl) ?_
      refine XR.done (by kernel_rfl) ?_
      show XQ _ _ _ _ _ _ _ _
      refine XQ.region (by kernel_rfl) ?_
      refine XR.runS E0_ok 1 3 [(0, .int .u64 (shV false .u64 (cond (decide ((cond (decide (a ≥ 4294967296)) (shV false .u64 a 32) a : Int) ≥ 65536)) (shV false .u64 (cond (decide (a ≥ 4294967296)) (shV false .u64 a 32) a) 16) (cond (decide (a ≥ 4294967296)) (shV false .u64 a 32) a)) 8)), (2, ii (w64 ((cond (decide ((cond (decide (a ≥ 4294967296)) (shV false .u64 a 32) a : Int) ≥ 65536)) (w64 ((cond (decide (a ≥ 4294967296)) 32 0) + 16)) (cond (decide (a ≥ 4294967296)) 32 0)) + 8)))] rfl (by kernel_rfl) ?_
      refine XR.done (by kernel_rfl) ?_
      refine ⟨rfl, ?_, ?_⟩
      · try rw [b3]
        exact ⟨by kernel_rfl, by kernel_rfl, trivial⟩
      · try rw [b3]
        kernel_rfl
    · refine XQ.skip (by kernel_rfl) ?_
      refine ⟨rfl, ?_, ?_⟩
      · try rw [b3]
        exact ⟨by kernel_rfl, by kernel_rfl, trivial⟩
      · try rw [b3]
        kernel_rfl
  show XQ _ _ _ _ _ _ _ _
  refine XQ.seq E0_ok (by kernel_rfl) ?_
  refine XQ.region (by kernel_rfl) ?_
  refine XR.runS E0_ok 1 3 [(19, ii (cond (decide ((cond (decide ((cond (decide (a ≥ 4294967296)) (shV false .u64 a 32) a : Int) ≥ 65536)) (shV false .u64 (cond (decide (a ≥ 4294967296)) (shV false .u64 a 32) a) 16) (cond (decide (a ≥ 4294967296)) (shV false .u64 a 32) a) : Int) ≥ 256)) (w64 ((cond (decide ((cond (decide (a ≥ 4294967296)) (shV false .u64 a 32) a : Int) ≥ 65536)) (w64 ((cond (decide (a ≥ 4294967296)) 32 0) + 16)) (cond (decide (a ≥ 4294967296)) 32 0)) + 8)) (cond (decide ((cond (decide (a ≥ 4294967296)) (shV false .u64 a 32) a : Int) ≥ 65536)) (w64 ((cond (decide (a ≥ 4294967296)) 32 0) + 16)) (cond (decide (a ≥ 4294967296)) 32 0)))), (21, .int .u8 (IntKind.wrap .u8 (cond (decide ((cond (decide ((cond (decide (a ≥ 4294967296)) (shV false .u64 a 32) a : Int) ≥ 65536)) (shV false .u64 (cond (decide (a ≥ 4294967296)) (shV false .u64 a 32) a) 16) (cond (decide (a ≥ 4294967296)) (shV false .u64 a 32) a) : Int) ≥ 256)) (shV false .u64 (cond (decide ((cond (decide (a ≥ 4294967296)) (shV false .u64 a 32) a : Int) ≥ 65536)) (shV false .u64 (cond (decide (a ≥ 4294967296)) (shV false .u64 a 32) a) 16) (cond (decide (a ≥ 4294967296)) (shV false .u64 a 32) a)) 8) (cond (decide ((cond (decide (a ≥ 4294967296)) (shV false .u64 a 32) a : Int) ≥ 65536)) (shV false .u64 (cond (decide (a ≥ 4294967296)) (shV false .u64 a 32) a) 16) (cond (decide (a ≥ 4294967296)) (shV false .u64 a 32) a)))))] rfl (by kernel_rfl) ?_
  cases b4 : (inRow (IntKind.wrap .u8 (cond (decide ((cond (decide ((cond (decide (a ≥ 4294967296)) (shV false .u64 a 32) a : Int) ≥ 65536)) (shV false .u64 (cond (decide (a ≥ 4294967296)) (shV false .u64 a 32) a) 16) (cond (decide (a ≥ 4294967296)) (shV false .u64 a 32) a) : Int) ≥ 256)) (shV false .u64 (cond (decide ((cond (decide (a ≥ 4294967296)) (shV false .u64 a 32) a : Int) ≥ 65536)) (shV false .u64 (cond (decide (a ≥ 4294967296)) (shV false .u64 a 32) a) 16) (cond (decide (a ≥ 4294967296)) (shV false .u64 a 32) a)) 8) (cond (decide ((cond (decide (a ≥ 4294967296)) (shV false .u64 a 32) a : Int) ≥ 65536)) (shV false .u64 (cond (decide (a ≥ 4294967296)) (shV false .u64 a 32) a) 16) (cond (decide (a ≥ 4294967296)) (shV false .u64 a 32) a)))) (bs [0, 1, 2, 2, 3, 3, 3, 3, 4, 4, 4, 4, 4, 4, 4, 4, 5, 5, 5, 5, 5, 5, 5, 5, 5, 5, 5, 5, 5, 5, 5, 5, 6, 6, 6, 6, 6, 6, 6, 6, 6, 6, 6, 6, 6, 6, 6, 6, 6, 6, 6, 6, 6, 6, 6, 6, 6, 6, 6, 6, 6, 6, 6, 6, 7, 7, 7, 7, 7, 7, 7, 7, 7, 7, 7, 7, 7, 7, 7, 7, 7, 7, 7, 7, 7, 7, 7, 7, 7, 7, 7, 7, 7, 7, 7, 7, 7, 7, 7, 7, 7, 7, 7, 7, 7, 7, 7, 7, 7, 7, 7, 7, 7, 7, 7, 7, 7, 7, 7, 7, 7, 7, 7, 7, 7, 7, 7, 7, 8, 8, 8, 8, 8, 8, 8, 8, 8, 8, 8, 8, 8, 8, 8, 8, 8, 8, 8, 8, 8, 8, 8, 8, 8, 8, 8, 8, 8, 8, 8, 8, 8, 8, 8, 8, 8, 8, 8, 8, 8, 8, 8, 8, 8, 8, 8, 8, 8, 8, 8, 8, 8, 8, 8, 8, 8, 8, 8, 8, 8, 8, 8, 8, 8, 8, 8, 8, 8, 8, 8, 8, 8, 8, 8, 8, 8, 8, 8, 8, 8, 8, 8, 8, 8, 8, 8, 8, 8, 8, 8, 8, 8, 8, 8, 8, 8, 8, 8, 8, 8, 8, 8, 8, 8, 8, 8, 8, 8, 8, 8, 8, 8, 8, 8, 8, 8, 8, 8, 8, 8, 8, 8, 8, 8, 8, 8, 8]).size : Bool) with
  | false => cases (cF b4 h)
  | true =>
    have h := cT b4 h
    have e5 : insV (headI ((gsOf E0 25 (opsOf (lft (rgt (rgt (rgt (rgt f116_C116))))))).drop 3) (trS 25 [(19, ii (cond (decide ((cond (decide ((cond (decide (a ≥ 4294967296)) (shV false .u64 a 32) a : Int) ≥ 65536)) (shV false .u64 (cond (decide (a ≥ 4294967296)) (shV false .u64 a 32) a) 16) (cond (decide (a ≥ 4294967296)) (shV false .u64 a 32) a) : Int) ≥ 256)) (w64 ((cond (decide ((cond (decide (a ≥ 4294967296)) (shV false .u64 a 32) a : Int) ≥ 65536)) (w64 ((cond (decide (a ≥ 4294967296)) 32 0) + 16)) (cond (decide (a ≥ 4294967296)) 32 0)) + 8)) (cond (decide ((cond (decide (a ≥ 4294967296)) (shV false .u64 a 32) a : Int) ≥ 65536)) (w64 ((cond (decide (a ≥ 4294967296)) 32 0) + 16)) (cond (decide (a ≥ 4294967296)) 32 0)))), (21, .int .u8 (IntKind.wrap .u8 (cond (decide ((cond (decide ((cond (decide (a ≥ 4294967296)) (shV false .u64 a 32) a : Int) ≥ 65536)) (shV false .u64 (cond (decide (a ≥ 4294967296)) (shV false .u64 a 32) a) 16) (cond (decide (a ≥ 4294967296)) (shV false .u64 a 32) a) : Int) ≥ 256)) (shV false .u64 (cond (decide ((cond (decide (a ≥ 4294967296)) (shV false .u64 a 32) a : Int) ≥ 65536)) (shV false .u64 (cond (decide (a ≥ 4294967296)) (shV false .u64 a 32) a) 16) (cond (decide (a ≥ 4294967296)) (shV false .u64 a 32) a)) 8) (cond (decide ((cond (decide (a ≥ 4294967296)) (shV false .u64 a 32) a : Int) ≥ 65536)) (shV false .u64 (cond (decide (a ≥ 4294967296)) (shV false .u64 a 32) a) 16) (cond (decide (a ≥ 4294967296)) (shV false .u64 a 32) a)))))])) (trS 25 [(19, ii (cond (decide ((cond (decide ((cond (decide (a ≥ 4294967296)) (shV false .u64 a 32) a : Int) ≥ 65536)) (shV false .u64 (cond (decide (a ≥ 4294967296)) (shV false .u64 a 32) a) 16) (cond (decide (a ≥ 4294967296)) (shV false .u64 a 32) a) : Int) ≥ 256)) (w64 ((cond (decide ((cond (decide (a ≥ 4294967296)) (shV false .u64 a 32) a : Int) ≥ 65536)) (w64 ((cond (decide (a ≥ 4294967296)) 32 0) + 16)) (cond (decide (a ≥ 4294967296)) 32 0)) + 8)) (cond (decide ((cond (decide (a ≥ 4294967296)) (shV false .u64 a 32) a : Int) ≥ 65536)) (w64 ((cond (decide (a ≥ 4294967296)) 32 0) + 16)) (cond (decide (a ≥ 4294967296)) 32 0)))), (21, .int .u8 (IntKind.wrap .u8 (cond (decide ((cond (decide ((cond (decide (a ≥ 4294967296)) (shV false .u64 a 32) a : Int) ≥ 65536)) (shV false .u64 (cond (decide (a ≥ 4294967296)) (shV false .u64 a 32) a) 16) (cond (decide (a ≥ 4294967296)) (shV false .u64 a 32) a) : Int) ≥ 256)) (shV false .u64 (cond (decide ((cond (decide (a ≥ 4294967296)) (shV false .u64 a 32) a : Int) ≥ 65536)) (shV false .u64 (cond (decide (a ≥ 4294967296)) (shV false .u64 a 32) a) 16) (cond (decide (a ≥ 4294967296)) (shV false .u64 a 32) a)) 8) (cond (decide ((cond (decide (a ≥ 4294967296)) (shV false .u64 a 32) a : Int) ≥ 65536)) (shV false .u64 (cond (decide (a ≥ 4294967296)) (shV false .u64 a 32) a) 16) (cond (decide (a ≥ 4294967296)) (shV false .u64 a 32) a)))))]) [] = (match (inRow (IntKind.wrap .u8 (cond (decide ((cond (decide ((cond (decide (a ≥ 4294967296)) (shV false .u64 a 32) a : Int) ≥ 65536)) (shV false .u64 (cond (decide (a ≥ 4294967296)) (shV false .u64 a 32) a) 16) (cond (decide (a ≥ 4294967296)) (shV false .u64 a 32) a) : Int) ≥ 256)) (shV false .u64 (cond (decide ((cond (decide (a ≥ 4294967296)) (shV false .u64 a 32) a : Int) ≥ 65536)) (shV false .u64 (cond (decide (a ≥ 4294967296)) (shV false .u64 a 32) a) 16) (cond (decide (a ≥ 4294967296)) (shV false .u64 a 32) a)) 8) (cond (decide ((cond (decide (a ≥ 4294967296)) (shV false .u64 a 32) a : Int) ≥ 65536)) (shV false .u64 (cond (decide (a ≥ 4294967296)) (shV false .u64 a 32) a) 16) (cond (decide (a ≥ 4294967296)) (shV false .u64 a 32) a)))) (bs [0, 1, 2, 2, 3, 3, 3, 3, 4, 4, 4, 4, 4, 4, 4, 4, 5, 5, 5, 5, 5, 5, 5, 5, 5, 5, 5, 5, 5, 5, 5, 5, 6, 6, 6, 6, 6, 6, 6, 6, 6, 6, 6, 6, 6, 6, 6, 6, 6, 6, 6, 6, 6, 6, 6, 6, 6, 6, 6, 6, 6, 6, 6, 6, 7, 7, 7, 7, 7, 7, 7, 7, 7, 7, 7, 7, 7, 7, 7, 7, 7, 7, 7, 7, 7, 7, 7, 7, 7, 7, 7, 7, 7, 7, 7, 7, 7, 7, 7, 7, 7, 7, 7, 7, 7, 7, 7, 7, 7, 7, 7, 7, 7, 7, 7, 7, 7, 7, 7, 7, 7, 7, 7, 7, 7, 7, 7, 7, 8, 8, 8, 8, 8, 8, 8, 8, 8, 8, 8, 8, 8, 8, 8, 8, 8, 8, 8, 8, 8, 8, 8, 8, 8, 8, 8, 8, 8, 8, 8, 8, 8, 8, 8, 8, 8, 8, 8, 8, 8, 8, 8, 8, 8, 8, 8, 8, 8, 8, 8, 8, 8, 8, 8, 8, 8, 8, 8, 8, 8, 8, 8, 8, 8, 8, 8, 8, 8, 8, 8, 8, 8, 8, 8, 8, 8, 8, 8, 8, 8, 8, 8, 8, 8, 8, 8, 8, 8, 8, 8, 8, 8, 8, 8, 8, 8, 8, 8, 8, 8, 8, 8, 8, 8, 8, 8, 8, 8, 8, 8, 8, 8, 8, 8, 8, 8, 8, 8, 8, 8, 8, 8, 8, 8, 8, 8, 8]).size : Bool) with | true => some (.int .u8 (byteAt (bs [0, 1, 2, 2, 3, 3, 3, 3, 4, 4, 4, 4, 4, 4, 4, 4, 5, 5, 5, 5, 5, 5, 5, 5, 5, 5, 5, 5, 5, 5, 5, 5, 6, 6, 6, 6, 6, 6, 6, 6, 6, 6, 6, 6, 6, 6, 6, 6, 6, 6, 6, 6, 6, 6, 6, 6, 6, 6, 6, 6, 6, 6, 6, 6, 7, 7, 7, 7, 7, 7, 7, 7, 7, 7, 7, 7, 7, 7, 7, 7, 7, 7, 7, 7, 7, 7, 7, 7, 7, 7, 7, 7, 7, 7, 7, 7, 7, 7, 7, 7, 7, 7, 7, 7, 7, 7, 7, 7, 7, 7, 7, 7, 7, 7, 7, 7, 7, 7, 7, 7, 7, 7, 7, 7, 7, 7, 7, 7, 8, 8, 8, 8, 8, 8, 8, 8, 8, 8, 8, 8, 8, 8, 8, 8, 8, 8, 8, 8, 8, 8, 8, 8, 8, 8, 8, 8, 8, 8, 8, 8, 8, 8, 8, 8, 8, 8, 8, 8, 8, 8, 8, 8, 8, 8, 8, 8, 8, 8, 8, 8, 8, 8, 8, 8, 8, 8, 8, 8, 8, 8, 8, 8, 8, 8, 8, 8, 8, 8, 8, 8, 8, 8, 8, 8, 8, 8, 8, 8, 8, 8, 8, 8, 8, 8, 8, 8, 8, 8, 8, 8, 8, 8, 8, 8, 8, 8, 8, 8, 8, 8, 8, 8, 8, 8, 8, 8, 8, 8, 8, 8, 8, 8, 8, 8, 8, 8, 8, 8, 8, 8, 8, 8, 8, 8, 8, 8]) (IntKind.wrap .u8 (cond (decide ((cond (decide ((cond (decide (a ≥ 4294967296)) (shV false .u64 a 32) a : Int) ≥ 65536)) (shV false .u64 (cond (decide (a ≥ 4294967296)) (shV false .u64 a 32) a) 16) (cond (decide (a ≥ 4294967296)) (shV false .u64 a 32) a) : Int) ≥ 256)) (shV false .u64 (cond (decide ((cond (decide (a ≥ 4294967296)) (shV false .u64 a 32) a : Int) ≥ 65536)) (shV false .u64 (cond (decide (a ≥ 4294967296)) (shV false .u64 a 32) a) 16) (cond (decide (a ≥ 4294967296)) (shV false .u64 a 32) a)) 8) (cond (decide ((cond (decide (a ≥ 4294967296)) (shV false .u64 a 32) a : Int) ≥ 65536)) (shV false .u64 (cond (decide (a ≥ 4294967296)) (shV false .u64 a 32) a) 16) (cond (decide (a ≥ 4294967296)) (shV false .u64 a 32) a)))))) | false => none) := by kernel_rfl
    refine XR.rd E0_ok [19, 22] rfl (e5.trans (by rw [b4])) (σ' := [(19, ii (cond (decide ((cond (decide ((cond (decide (a ≥ 4294967296)) (shV false .u64 a 32) a : Int) ≥ 65536)) (shV false .u64 (cond (decide (a ≥ 4294967296)) (shV false .u64 a 32) a) 16) (cond (decide (a ≥ 4294967296)) (shV false .u64 a 32) a) : Int) ≥ 256)) (w64 ((cond (decide ((cond (decide (a ≥ 4294967296)) (shV false .u64 a 32) a : Int) ≥ 65536)) (w64 ((cond (decide (a ≥ 4294967296)) 32 0) + 16)) (cond (decide (a ≥ 4294967296)) 32 0)) + 8)) (cond (decide ((cond (decide (a ≥ 4294967296)) (shV false .u64 a 32) a : Int) ≥ 65536)) (w64 ((cond (decide (a ≥ 4294967296)) 32 0) + 16)) (cond (decide (a ≥ 4294967296)) 32 0)))), (22, .int .u8 (byteAt (bs [0, 1, 2, 2, 3, 3, 3, 3, 4, 4, 4, 4, 4, 4, 4, 4, 5, 5, 5, 5, 5, 5, 5, 5, 5, 5, 5, 5, 5, 5, 5, 5, 6, 6, 6, 6, 6, 6, 6, 6, 6, 6, 6, 6, 6, 6, 6, 6, 6, 6, 6, 6, 6, 6, 6, 6, 6, 6, 6, 6, 6, 6, 6, 6, 7, 7, 7, 7, 7, 7, 7, 7, 7, 7, 7, 7, 7, 7, 7, 7, 7, 7, 7, 7, 7, 7, 7, 7, 7, 7, 7, 7, 7, 7, 7, 7, 7, 7, 7, 7, 7, 7, 7, 7, 7, 7, 7, 7, 7, 7, 7, 7, 7, 7, 7, 7, 7, 7, 7, 7, 7, 7, 7, 7, 7, 7, 7, 7, 8, 8, 8, 8, 8, 8, 8, 8, 8, 8, 8, 8, 8, 8, 8, 8, 8, 8, 8, 8, 8, 8, 8, 8, 8, 8, 8, 8, 8, 8, 8, 8, 8, 8, 8, 8, 8, 8, 8, 8, 8, 8, 8, 8, 8, 8, 8, 8, 8, 8, 8, 8, 8, 8, 8, 8, 8, 8, 8, 8, 8, 8, 8, 8, 8, 8, 8, 8, 8, 8, 8, 8, 8, 8, 8, 8, 8, 8, 8, 8, 8, 8, 8, 8, 8, 8, 8, 8, 8, 8, 8, 8, 8, 8, 8, 8, 8, 8, 8, 8, 8, 8, 8, 8, 8, 8, 8, 8, 8, 8, 8, 8, 8, 8, 8, 8, 8, 8, 8, 8, 8, 8, 8, 8, 8, 8, 8, 8]) (IntKind.wrap .u8 (cond (decide ((cond (decide ((cond (decide (a ≥ 4294967296)) (shV false .u64 a 32) a : Int) ≥ 65536)) (shV false .u64 (cond (decide (a ≥ 4294967296)) (shV false .u64 a 32) a) 16) (cond (decide (a ≥ 4294967296)) (shV false .u64 a 32) a) : Int) ≥ 256)) (shV false .u64 (cond (decide ((cond (decide (a ≥ 4294967296)) (shV false .u64 a 32) a : Int) ≥ 65536)) (shV false .u64 (cond (decide (a ≥ 4294967296)) (shV false .u64 a 32) a) 16) (cond (decide (a ≥ 4294967296)) (shV false .u64 a 32) a)) 8) (cond (decide ((cond (decide (a ≥ 4294967296)) (shV false .u64 a 32) a : Int) ≥ 65536)) (shV false .u64 (cond (decide (a ≥ 4294967296)) (shV false .u64 a 32) a) 16) (cond (decide (a ≥ 4294967296)) (shV false .u64 a 32) a))))))]) (by kernel_rfl) ?_
    refine XR.runS E0_ok 1 3 [(2, ii (w64 ((cond (decide ((cond (decide ((cond (decide (a ≥ 4294967296)) (shV false .u64 a 32) a : Int) ≥ 65536)) (shV false .u64 (cond (decide (a ≥ 4294967296)) (shV false .u64 a 32) a) 16) (cond (decide (a ≥ 4294967296)) (shV false .u64 a 32) a) : Int) ≥ 256)) (w64 ((cond (decide ((cond (decide (a ≥ 4294967296)) (shV false .u64 a 32) a : Int) ≥ 65536)) (w64 ((cond (decide (a ≥ 4294967296)) 32 0) + 16)) (cond (decide (a ≥ 4294967296)) 32 0)) + 8)) (cond (decide ((cond (decide (a ≥ 4294967296)) (shV false .u64 a 32) a : Int) ≥ 65536)) (w64 ((cond (decide (a ≥ 4294967296)) 32 0) + 16)) (cond (decide (a ≥ 4294967296)) 32 0))) + (w64 (byteAt (bs [0, 1, 2, 2, 3, 3, 3, 3, 4, 4, 4, 4, 4, 4, 4, 4, 5, 5, 5, 5, 5, 5, 5, 5, 5, 5, 5, 5, 5, 5, 5, 5, 6, 6, 6, 6, 6, 6, 6, 6, 6, 6, 6, 6, 6, 6, 6, 6, 6, 6, 6, 6, 6, 6, 6, 6, 6, 6, 6, 6, 6, 6, 6, 6, 7, 7, 7, 7, 7, 7, 7, 7, 7, 7, 7, 7, 7, 7, 7, 7, 7, 7, 7, 7, 7, 7, 7, 7, 7, 7, 7, 7, 7, 7, 7, 7, 7, 7, 7, 7, 7, 7, 7, 7, 7, 7, 7, 7, 7, 7, 7, 7, 7, 7, 7, 7, 7, 7, 7, 7, 7, 7, 7, 7, 7, 7, 7, 7, 8, 8, 8, 8, 8, 8, 8, 8, 8, 8, 8, 8, 8, 8, 8, 8, 8, 8, 8, 8, 8, 8, 8, 8, 8, 8, 8, 8, 8, 8, 8, 8, 8, 8, 8, 8, 8, 8, 8, 8, 8, 8, 8, 8, 8, 8, 8, 8, 8, 8, 8, 8, 8, 8, 8, 8, 8, 8, 8, 8, 8, 8, 8, 8, 8, 8, 8, 8, 8, 8, 8, 8, 8, 8, 8, 8, 8, 8, 8, 8, 8, 8, 8, 8, 8, 8, 8, 8, 8, 8, 8, 8, 8, 8, 8, 8, 8, 8, 8, 8, 8, 8, 8, 8, 8, 8, 8, 8, 8, 8, 8, 8, 8, 8, 8, 8, 8, 8, 8, 8, 8, 8, 8, 8, 8, 8, 8, 8]) (IntKind.wrap .u8 (cond (decide ((cond (decide ((cond (decide (a ≥ 4294967296)) (shV false .u64 a 32) a : Int) ≥ 65536)) (shV false .u64 (cond (decide (a ≥ 4294967296)) (shV false .u64 a 32) a) 16) (cond (decide (a ≥ 4294967296)) (shV false .u64 a 32) a) : Int) ≥ 256)) (shV false .u64 (cond (decide ((cond (decide (a ≥ 4294967296)) (shV false .u64 a 32) a : Int) ≥ 65536)) (shV false .u64 (cond (decide (a ≥ 4294967296)) (shV false .u64 a 32) a) 16) (cond (decide (a ≥ 4294967296)) (shV false .u64 a 32) a)) 8) (cond (decide ((cond (decide (a ≥ 4294967296)) (shV false .u64 a 32) a : Int) ≥ 65536)) (shV false .u64 (cond (decide (a ≥ 4294967296)) (shV false .u64 a 32) a) 16) (cond (decide (a ≥ 4294967296)) (shV false .u64 a 32) a)))))))))] rfl (by kernel_rfl) ?_
    refine XR.done (by kernel_rfl) ?_
    show XQ _ _ _ _ _ _ _ _
    refine XQ.ret (by kernel_rfl) ?_
    have h := Option.some.inj h
    subst h
    exact ⟨fun i q => (by cases q), ii (w64 ((cond (decide ((cond (decide ((cond (decide (a ≥ 4294967296)) (shV false .u64 a 32) a : Int) ≥ 65536)) (shV false .u64 (cond (decide (a ≥ 4294967296)) (shV false .u64 a 32) a) 16) (cond (decide (a ≥ 4294967296)) (shV false .u64 a 32) a) : Int) ≥ 256)) (w64 ((cond (decide ((cond (decide (a ≥ 4294967296)) (shV false .u64 a 32) a : Int) ≥ 65536)) (w64 ((cond (decide (a ≥ 4294967296)) 32 0) + 16)) (cond (decide (a ≥ 4294967296)) 32 0)) + 8)) (cond (decide ((cond (decide (a ≥ 4294967296)) (shV false .u64 a 32) a : Int) ≥ 65536)) (w64 ((cond (decide (a ≥ 4294967296)) 32 0) + 16)) (cond (decide (a ≥ 4294967296)) 32 0))) + (w64 (byteAt (bs [0, 1, 2, 2, 3, 3, 3, 3, 4, 4, 4, 4, 4, 4, 4, 4, 5, 5, 5, 5, 5, 5, 5, 5, 5, 5, 5, 5, 5, 5, 5, 5, 6, 6, 6, 6, 6, 6, 6, 6, 6, 6, 6, 6, 6, 6, 6, 6, 6, 6, 6, 6, 6, 6, 6, 6, 6, 6, 6, 6, 6, 6, 6, 6, 7, 7, 7, 7, 7, 7, 7, 7, 7, 7, 7, 7, 7, 7, 7, 7, 7, 7, 7, 7, 7, 7, 7, 7, 7, 7, 7, 7, 7, 7, 7, 7, 7, 7, 7, 7, 7, 7, 7, 7, 7, 7, 7, 7, 7, 7, 7, 7, 7, 7, 7, 7, 7, 7, 7, 7, 7, 7, 7, 7, 7, 7, 7, 7, 8, 8, 8, 8, 8, 8, 8, 8, 8, 8, 8, 8, 8, 8, 8, 8, 8, 8, 8, 8, 8, 8, 8, 8, 8, 8, 8, 8, 8, 8, 8, 8, 8, 8, 8, 8, 8, 8, 8, 8, 8, 8, 8, 8, 8, 8, 8, 8, 8, 8, 8, 8, 8, 8, 8, 8, 8, 8, 8, 8, 8, 8, 8, 8, 8, 8, 8, 8, 8, 8, 8, 8, 8, 8, 8, 8, 8, 8, 8, 8, 8, 8, 8, 8, 8, 8, 8, 8, 8, 8, 8, 8, 8, 8, 8, 8, 8, 8, 8, 8, 8, 8, 8, 8, 8, 8, 8, 8, 8, 8, 8, 8, 8, 8, 8, 8, 8, 8, 8, 8, 8, 8, 8, 8, 8, 8, 8, 8]) (IntKind.wrap .u8 (cond (decide ((cond (decide ((cond (decide (a ≥ 4294967296)) (shV false .u64 a 32) a : Int) ≥ 65536)) (shV false .u64 (cond (decide (a ≥ 4294967296)) (shV false .u64 a 32) a) 16) (cond (decide (a ≥ 4294967296)) (shV false .u64 a 32) a) : Int) ≥ 256)) (shV false .u64 (cond (decide ((cond (decide (a ≥ 4294967296)) (shV false .u64 a 32) a : Int) ≥ 65536)) (shV false .u64 (cond (decide (a ≥ 4294967296)) (shV false .u64 a 32) a) 16) (cond (decide (a ≥ 4294967296)) (shV false .u64 a 32) a)) 8) (cond (decide ((cond (decide (a ≥ 4294967296)) (shV false .u64 a 32) a : Int) ≥ 65536)) (shV false .u64 (cond (decide (a ≥ 4294967296)) (shV false .u64 a 32) a) 16) (cond (decide (a ≥ 4294967296)) (shV false .u64 a 32) a)))))))), (by kernel_rfl), rfl⟩

/-! math/bits.Len -/
noncomputable def f91_C91 : Code := Proofs.Tryd.f91.body.getD .skip

def f91 (m : Nat) (a : Int) : Option (Int) :=
  (f116 m a).bind fun r1 =>
    some (r1)

theorem f91_ok (m : Nat) (a : Int) (o : Int) (h : f91 m a = some o) (w : World) (hI : seatInv w) : Calls Proofs.Tryd.prog 91 #[.int .u64 a] w fun e w' => e = .returned (ii o) ∧ Below w.heap.size w w' := by
  refine KC.calls (E := E0) (args := [.int .u64 a]) (v := ii o) rfl rfl (KC.bodyN E0_ok (F := Proofs.Tryd.f91) (by kernel_rfl) (code := f91_C91) (by kernel_rfl) (nt := 8) (by kernel_rfl) (rs := [.tmp 2]) (by kernel_rfl) (by kernel_rfl) (σ := [(0, .int .u64 a)]) (by kernel_rfl) ?_) w (seatInv_size hI) hI
  unfold f91 at h
  refine XQ.seq E0_ok (by kernel_rfl) ?_
  refine XQ.region (by kernel_rfl) ?_
  refine XR.runS E0_ok 1 1 [(0, .int .u64 a)] rfl (by kernel_rfl) ?_
  refine XR.done (by kernel_rfl) ?_
  show XQ _ _ _ _ _ _ _ _
  refine XQ.seq E0_ok (by kernel_rfl) ?_
  refine XQ.cond (s := (.const (.bool false))) (b := false) (by kernel_rfl) (by kernel_rfl) (fun q => by cases q) (fun _ => ?_)
  refine XQ.skip (by kernel_rfl) ?_
  show XQ _ _ _ _ _ _ _ _
  refine XQ.seq E0_ok (by kernel_rfl) ?_
  refine XQ.region (by kernel_rfl) ?_
  refine XR.runS E0_ok 1 1 [(6, .int .u64 a)] rfl (by kernel_rfl) ?_
  obtain ⟨r1, r1_h, h⟩ := bS h
  refine XR.call E0_ok [7] rfl (K := 116) (args := [.int .u64 a]) (d := (some (path 12 7))) (by kernel_rfl) (KC.of_calls E0_ok (F := Proofs.Tryd.f116) (v := ii r1) (by kernel_rfl) rfl rfl (fun w hI => f116_ok m a r1 r1_h w hI)) ?_
  rintro _ _ _ ⟨rfl, rfl, rfl⟩
  refine XR.conv (σ' := [(7, ii r1)]) (h' := []) (c' := 0) ?_ (by kernel_rfl)
  refine XR.runS E0_ok 1 1 [(2, ii r1)] rfl (by kernel_rfl) ?_
  refine XR.done (by kernel_rfl) ?_
  show XQ _ _ _ _ _ _ _ _
  refine XQ.ret (by kernel_rfl) ?_
  have h := Option.some.inj h
  subst h
  exact ⟨fun i q => (by cases q), ii r1, (by kernel_rfl), rfl⟩

/-! vitola/vitolalaw12.ClubHavel -/
noncomputable def f13_C13 : Code := Proofs.Tryd.f13.body.getD .skip
noncomputable def f13_C51 : Code := Proofs.Tryd.f51.body.getD .skip
noncomputable def f13_C56 : Code := Proofs.Tryd.f56.body.getD .skip
noncomputable def f13_C90 : Code := Proofs.Tryd.f90.body.getD .skip
noncomputable def f13_C107 : Code := Proofs.Tryd.f107.body.getD .skip
noncomputable def f13_C58 : Code := Proofs.Tryd.f58.body.getD .skip
noncomputable def f13_L1 : Code := lft (lft (rgt (lft (rgt (rgt (rgt f13_C13))))))
noncomputable def f13_L2 : Code := lft (lft (rgt (rgt f13_C90)))
noncomputable def f13_L3 : Code := lft (lft (rgt f13_C107))
noncomputable def f13_L4 : Code := lft (lft (rgt (lft (lft (rgt f13_L3)))))
noncomputable def f13_L5 : Code := lft (lft (rgt (lft (rgt (rgt (rgt (rgt (rgt (rgt (rgt (rgt (rgt (rgt f13_C13)))))))))))))
noncomputable def f13_L6 : Code := lft (lft (rgt (lft (rgt (rgt (rgt f13_C58))))))
noncomputable def f13_L7 : Code := lft (lft (rgt (lft (rgt (rgt (rgt (rgt (rgt (rgt (rgt (rgt (rgt (rgt f13_C13)))))))))))))
noncomputable def f13_L8 : Code := lft (lft (rgt (lft (rgt (rgt (rgt f13_C58))))))

def f13_1 (m : Nat) : Nat → Int → Int → Int → Int → List Int → List Int → Option (Int × (List Int))
  | 0, _, _, _, _, _, _ => none
  | fuel + 1, c, x7_1, x24_1, x25_1, lh0_1, lh1_1 =>
    cond (decide (x25_1 < x24_1)) (
      cond (inRow x25_1 8) (
        cond (decide (Int.toNat x25_1 < lh0_1.length)) (
          cond (x7_1 != 0) (
            cond (inRow x25_1 lh1_1.length) (
              f13_1 m fuel c x7_1 x24_1 (w64 (x25_1 + 1)) lh0_1 (List.set lh1_1 (Int.toNat x25_1) (Int.tmod (w64 (List.getD lh0_1 (Int.toNat x25_1) 0)) x7_1))
            ) none
          ) none
        ) none
      ) none
    ) (
      some (x7_1, lh1_1)
    )

theorem f13_1_ok (m : Nat) : ∀ (fuel : Nat) (c : Int) (x7_1 : Int) (x24_1 : Int) (x25_1 : Int) (lh0_1 : List Int) (lh1_1 : List Int) (o : (Int × (List Int))), f13_1 m fuel c x7_1 x24_1 x25_1 lh0_1 lh1_1 = some o → ∀ Q : QP, Q (.exit 0) [(2, .int .u8 c), (7, ii o.1), (8, s0 0 o.2.length)] [(0, rc (encI .i64) o.2 0 3 1)] 1 → XL E0 117 0 fuel f13_L1 [(2, .int .u8 c), (3, pp 0 0), (7, ii x7_1), (8, s0 1 lh1_1.length), (24, ii x24_1), (25, ii x25_1)] [(1, rc (encI .i64) lh1_1 0 3 1), (0, rc (encI .u8) lh0_1 0 76 0)] 2 Q
  | 0, c, x7_1, x24_1, x25_1, lh0_1, lh1_1, o, h, Q, hQ => by cases h
  | fuel + 1, c, x7_1, x24_1, x25_1, lh0_1, lh1_1, o, h, Q, hQ => by
    unfold f13_1 at h
    refine XL.succ E0_ok ?_
    refine XQ.seq E0_ok (by kernel_rfl) ?_
    refine XQ.region (by kernel_rfl) ?_
    refine XR.runS E0_ok 1 1 [(2, .int .u8 c), (3, pp 0 0), (7, ii x7_1), (8, s0 1 lh1_1.length), (24, ii x24_1), (25, ii x25_1), (26, .bool (decide (x25_1 < x24_1)))] rfl (by kernel_rfl) ?_
    refine XR.done (by kernel_rfl) ?_
    show XQ _ _ _ _ _ _ _ _
    refine XQ.seq E0_ok (by kernel_rfl) ?_
    cases b1 : (decide (x25_1 < x24_1) : Bool) with
    | true =>
      have h := cT b1 h
      refine XQ.cond (s := (.tmp 26)) (b := true) (by kernel_rfl) (by kernel_rfl) (fun _ => ?_) (fun q => by cases q)
      refine XQ.skip (by kernel_rfl) ?_
      show XQ _ _ _ _ _ _ _ _
      refine XQ.seq E0_ok (by kernel_rfl) ?_
      refine XQ.block (id := 1) (by kernel_rfl) ?_
      refine XQ.seq E0_ok (by kernel_rfl) ?_
      refine XQ.region (by kernel_rfl) ?_
      refine XR.runS E0_ok 1 2 [(2, .int .u8 c), (3, pp 0 0), (7, ii x7_1), (8, s0 1 lh1_1.length), (9, ii x25_1), (24, ii x24_1), (25, ii x25_1)] rfl (by kernel_rfl) ?_
      refine XR.done (by kernel_rfl) ?_
      show XQ _ _ _ _ _ _ _ _
      refine XQ.region (by kernel_rfl) ?_
      refine XR.runS E0_ok 1 3 [(2, .int .u8 c), (3, pp 0 0), (7, ii x7_1), (8, s0 1 lh1_1.length), (24, ii x24_1), (25, ii x25_1), (28, s0 1 lh1_1.length), (29, ii x25_1), (30, ii x25_1)] rfl (by kernel_rfl) ?_
      cases b2 : (inRow x25_1 8 : Bool) with
      | false => cases (cF b2 h)
      | true =>
        have h := cT b2 h
        refine XR.rd E0_ok [2, 3, 7, 8, 24, 25, 28, 29, 31] rfl (v := pp 0 ((Int.toNat x25_1) * 1)) (v_idxA (s := 1) (len := 8) (x := (src 117 (.tmp 3))) (y := (src 117 (.tmp 30))) (b := 0) (o := 0) (ik := .i64) (i := x25_1) (off := (Int.toNat x25_1) * 1) (d := (some (path 12 31))) (by kernel_rfl) (by kernel_rfl) (by kernel_rfl) b2 (by omega)) (σ' := [(2, .int .u8 c), (3, pp 0 0), (7, ii x7_1), (8, s0 1 lh1_1.length), (24, ii x24_1), (25, ii x25_1), (28, s0 1 lh1_1.length), (29, ii x25_1), (31, pp 0 ((Int.toNat x25_1) * 1))]) (by kernel_rfl) ?_
        cases b3 : (decide (Int.toNat x25_1 < lh0_1.length) : Bool) with
        | false => cases (cF b3 h)
        | true =>
          have h := cT b3 h
          refine XR.rd E0_ok [2, 3, 7, 8, 24, 25, 28, 29, 32] rfl (v := .int .u8 (List.getD lh0_1 (Int.toNat x25_1) 0)) (v_load1 (encI_ok .u8) (x := (src 117 (.tmp 31))) (b := 0) (off := (Int.toNat x25_1) * 1) (xs := lh0_1) (fz := 0) (e := 76) (es := 0) (d := (some (path 12 32))) (by kernel_rfl) (by kernel_rfl) (by kernel_rfl) (Int.toNat x25_1) 0 0 (by first | rfl | omega) (row_len b3 (by simp)) rfl rfl) (σ' := [(2, .int .u8 c), (3, pp 0 0), (7, ii x7_1), (8, s0 1 lh1_1.length), (24, ii x24_1), (25, ii x25_1), (28, s0 1 lh1_1.length), (29, ii x25_1), (32, .int .u8 (List.getD lh0_1 (Int.toNat x25_1) 0))]) (by kernel_rfl) ?_
          refine XR.runS E0_ok 1 2 [(2, .int .u8 c), (3, pp 0 0), (7, ii x7_1), (8, s0 1 lh1_1.length), (24, ii x24_1), (25, ii x25_1), (28, s0 1 lh1_1.length), (29, ii x25_1), (33, ii (w64 (List.getD lh0_1 (Int.toNat x25_1) 0))), (34, ii x7_1)] rfl (by kernel_rfl) ?_
          cases b4 : (x7_1 != 0 : Bool) with
          | false => cases (cF b4 h)
          | true =>
            have h := cT b4 h
            have e5 : insV (headI ((gsOf E0 117 (opsOf (rgt (lft (lft (rgt (rgt f13_L1))))))).drop 7) (trS 117 [(2, .int .u8 c), (3, pp 0 0), (7, ii x7_1), (8, s0 1 lh1_1.length), (24, ii x24_1), (25, ii x25_1), (28, s0 1 lh1_1.length), (29, ii x25_1), (33, ii (w64 (List.getD lh0_1 (Int.toNat x25_1) 0))), (34, ii x7_1)])) (trS 117 [(2, .int .u8 c), (3, pp 0 0), (7, ii x7_1), (8, s0 1 lh1_1.length), (24, ii x24_1), (25, ii x25_1), (28, s0 1 lh1_1.length), (29, ii x25_1), (33, ii (w64 (List.getD lh0_1 (Int.toNat x25_1) 0))), (34, ii x7_1)]) [(1, rc (encI .i64) lh1_1 0 3 1), (0, rc (encI .u8) lh0_1 0 76 0)] = (match (x7_1 != 0 : Bool) with | true => some (ii (Int.tmod (w64 (List.getD lh0_1 (Int.toNat x25_1) 0)) x7_1)) | false => none) := by kernel_rfl
            refine XR.rd E0_ok [2, 3, 7, 8, 24, 25, 28, 29, 35] rfl (e5.trans (by rw [b4])) (σ' := [(2, .int .u8 c), (3, pp 0 0), (7, ii x7_1), (8, s0 1 lh1_1.length), (24, ii x24_1), (25, ii x25_1), (28, s0 1 lh1_1.length), (29, ii x25_1), (35, ii (Int.tmod (w64 (List.getD lh0_1 (Int.toNat x25_1) 0)) x7_1))]) (by kernel_rfl) ?_
            cases b6 : (inRow x25_1 lh1_1.length : Bool) with
            | false => cases (cF b6 h)
            | true =>
              have h := cT b6 h
              refine XR.rd E0_ok [2, 3, 7, 8, 24, 25, 35, 36] rfl (v := pp 1 ((Int.toNat x25_1) * 1)) (v_idx (s := 1) (x := (src 117 (.tmp 28))) (y := (src 117 (.tmp 29))) (b := 1) (o := 0) (len := lh1_1.length) (cap := lh1_1.length) (ik := .i64) (i := x25_1) (off := (Int.toNat x25_1) * 1) (d := (some (path 12 36))) (by kernel_rfl) (by kernel_rfl) (by kernel_rfl) b6 (by omega)) (σ' := [(2, .int .u8 c), (3, pp 0 0), (7, ii x7_1), (8, s0 1 lh1_1.length), (24, ii x24_1), (25, ii x25_1), (35, ii (Int.tmod (w64 (List.getD lh0_1 (Int.toNat x25_1) 0)) x7_1)), (36, pp 1 ((Int.toNat x25_1) * 1))]) (by kernel_rfl) ?_
              refine XR.ef E0_ok [2, 3, 7, 8, 24, 25] rfl (e_store (encI_ok .i64) (size := 1) (x := (src 117 (.tmp 36))) (y := (src 117 (.tmp 35))) (b := 1) (off := (Int.toNat x25_1) * 1) (xs := lh1_1) (e := 3) (es := 1) (d := none) (h' := [(1, rc (encI .i64) (List.set lh1_1 (Int.toNat x25_1) (Int.tmod (w64 (List.getD lh0_1 (Int.toNat x25_1) 0)) x7_1)) 0 3 1), (0, rc (encI .u8) lh0_1 0 76 0)]) (w := ii (Int.tmod (w64 (List.getD lh0_1 (Int.toNat x25_1) 0)) x7_1)) (ws := [ii (Int.tmod (w64 (List.getD lh0_1 (Int.toNat x25_1) 0)) x7_1)]) (a := Int.tmod (w64 (List.getD lh0_1 (Int.toNat x25_1) 0)) x7_1) (by kernel_rfl) (by kernel_rfl) (by kernel_rfl) (Int.toNat x25_1) 0 0 (by first | rfl | omega) (row_len (inRow_toNat b6) (by simp)) (by kernel_rfl) rfl rfl rfl rfl rfl (by kernel_rfl)) (σ' := [(2, .int .u8 c), (3, pp 0 0), (7, ii x7_1), (8, s0 1 lh1_1.length), (24, ii x24_1), (25, ii x25_1)]) (by kernel_rfl) ?_
              refine XR.done (by kernel_rfl) ?_
              show XQ _ _ _ _ _ _ _ _
              refine XQ.region (by kernel_rfl) ?_
              refine XR.runS E0_ok 1 2 [(2, .int .u8 c), (3, pp 0 0), (7, ii x7_1), (8, s0 1 lh1_1.length), (24, ii x24_1), (25, ii (w64 (x25_1 + 1)))] rfl (by kernel_rfl) ?_
              refine XR.done (by kernel_rfl) ?_
              show XL _ _ _ _ _ _ _ _ _
              refine XL.ren (σ' := [(2, .int .u8 c), (3, pp 0 0), (7, ii x7_1), (8, s0 1 lh1_1.length), (24, ii x24_1), (25, ii (w64 (x25_1 + 1)))]) (h' := [(1, rc (encI .i64) (List.set lh1_1 (Int.toNat x25_1) (Int.tmod (w64 (List.getD lh0_1 (Int.toNat x25_1) 0)) x7_1)) 0 3 1), (0, rc (encI .u8) lh0_1 0 76 0)]) (c' := 2) [0, 1] (by decide) rfl ⟨by kernel_rfl, by kernel_rfl, by kernel_rfl, by kernel_rfl, by kernel_rfl, by kernel_rfl, trivial⟩ ⟨⟨_, _, rfl, rfl, .inl ⟨rfl, rowC_scal (encI_ok .i64) _⟩⟩, ⟨_, _, rfl, rfl, .inl ⟨rfl, rowC_scal (encI_ok .u8) _⟩⟩, trivial⟩ rfl ?_
              refine XL.conv (f13_1_ok m fuel c x7_1 x24_1 (w64 (x25_1 + 1)) lh0_1 (List.set lh1_1 (Int.toNat x25_1) (Int.tmod (w64 (List.getD lh0_1 (Int.toNat x25_1) 0)) x7_1)) o h Q hQ) (by first | rfl | simp)
    | false =>
      have h := cF b1 h
      refine XQ.cond (s := (.tmp 26)) (b := false) (by kernel_rfl) (by kernel_rfl) (fun q => by cases q) (fun _ => ?_)
      refine XQ.ren (σ' := [(2, .int .u8 c), (7, ii x7_1), (8, s0 0 lh1_1.length)]) (h' := [(0, rc (encI .i64) lh1_1 0 3 1)]) (c' := 1) [1] (by decide) rfl ⟨by kernel_rfl, by kernel_rfl, by kernel_rfl, trivial⟩ ⟨⟨_, _, rfl, rfl, .inl ⟨rfl, rowC_scal (encI_ok .i64) _⟩⟩, trivial⟩ rfl ?_
      refine XQ.exit (i := 0) (by kernel_rfl) ?_
      cases h
      exact hQ

def f13_2 (m : Nat) (x1_2 : Int) (x2_2 : Int) (lh0_2 : List Int) (lh2_2 : List Int) : Option (List Int) :=
  cond (cutOK x1_2 x2_2 ((lh2_2.length : Nat) : Int) lh2_2.length) (
    cond (decide (0 < Int.toNat ((lh2_2.length : Nat) : Int) - (Int.toNat x1_2))) (
      cond (x1_2 == x2_2) (
        some (List.take lh2_2.length lh2_2)
      ) (
        cond (cutOK 0 x1_2 ((lh2_2.length : Nat) : Int) lh2_2.length) (
          cond (cutOK x2_2 ((lh2_2.length : Nat) : Int) ((lh2_2.length : Nat) : Int) lh2_2.length) (
            cond (decide (1 ≤ lh2_2.length)) (
              cond (decide ((Int.toNat x1_2) + (lh2_2.length - (Int.toNat x2_2)) ≤ lh2_2.length)) (
                cond (decide ((lh2_2.length - (Int.toNat x2_2)) ≤ (lh2_2.length - (Int.toNat x2_2)))) (
                  cond (decide ((Int.toNat x2_2) + (lh2_2.length - (Int.toNat x2_2)) ≤ lh2_2.length)) (
                    cond (cutOK (((Int.toNat x1_2) + (lh2_2.length - (Int.toNat x2_2)) : Nat) : Int) ((lh2_2.length : Nat) : Int) ((lh2_2.length : Nat) : Int) lh2_2.length) (
                      cond (decide ((Int.toNat (((Int.toNat x1_2) + (lh2_2.length - (Int.toNat x2_2)) : Nat) : Int)) + (Int.toNat ((lh2_2.length : Nat) : Int) - (Int.toNat (((Int.toNat x1_2) + (lh2_2.length - (Int.toNat x2_2)) : Nat) : Int))) ≤ (List.take (Int.toNat x1_2) lh2_2 ++ List.take (lh2_2.length - (Int.toNat x2_2)) (List.drop (Int.toNat x2_2) lh2_2) ++ List.drop ((Int.toNat x1_2) + (lh2_2.length - (Int.toNat x2_2))) lh2_2).length)) (
                        cond (decide ((Int.toNat x1_2) + (lh2_2.length - (Int.toNat x2_2)) ≤ (clearL 0 (List.take (Int.toNat x1_2) lh2_2 ++ List.take (lh2_2.length - (Int.toNat x2_2)) (List.drop (Int.toNat x2_2) lh2_2) ++ List.drop ((Int.toNat x1_2) + (lh2_2.length - (Int.toNat x2_2))) lh2_2) (Int.toNat (((Int.toNat x1_2) + (lh2_2.length - (Int.toNat x2_2)) : Nat) : Int)) (Int.toNat ((lh2_2.length : Nat) : Int) - (Int.toNat (((Int.toNat x1_2) + (lh2_2.length - (Int.toNat x2_2)) : Nat) : Int)))).length)) (
                          cond (decide ((Int.toNat x1_2) + (lh2_2.length - (Int.toNat x2_2)) ≤ lh2_2.length)) (
                            some (List.take ((Int.toNat x1_2) + (lh2_2.length - (Int.toNat x2_2))) (clearL 0 (List.take (Int.toNat x1_2) lh2_2 ++ List.take (lh2_2.length - (Int.toNat x2_2)) (List.drop (Int.toNat x2_2) lh2_2) ++ List.drop ((Int.toNat x1_2) + (lh2_2.length - (Int.toNat x2_2))) lh2_2) (Int.toNat (((Int.toNat x1_2) + (lh2_2.length - (Int.toNat x2_2)) : Nat) : Int)) (Int.toNat ((lh2_2.length : Nat) : Int) - (Int.toNat (((Int.toNat x1_2) + (lh2_2.length - (Int.toNat x2_2)) : Nat) : Int)))))
                          ) none
                        ) none
                      ) none
                    ) none
                  ) none
                ) none
              ) none
            ) none
          ) none
        ) none
      )
    ) none
  ) none

theorem f13_2_ok (m : Nat) (x1_2 : Int) (x2_2 : Int) (lh0_2 : List Int) (lh2_2 : List Int) (o : (List Int)) (h : f13_2 m x1_2 x2_2 lh0_2 lh2_2 = some o) (R : Value → Heap → Nat → Prop) (hR : R (s0 2 o.length) [(2, rc (encI .i64) o 0 3 1), (0, rc (encI .i64) lh0_2 0 3 1)] 3) : KC E0 51 [s0 2 lh2_2.length, ii x1_2, ii x2_2] [(2, rc (encI .i64) lh2_2 0 3 1), (0, rc (encI .i64) lh0_2 0 3 1)] 3 R := by
  refine KC.shrink (encI_ok .i64) rfl (e := 3) 2 ?_
  refine KC.bodyN E0_ok (F := Proofs.Tryd.f51) (by kernel_rfl) (code := f13_C51) (by kernel_rfl) (nt := 33) (by kernel_rfl) (rs := [.tmp 6]) (by kernel_rfl) (by kernel_rfl) (σ := [(0, s0 2 lh2_2.length), (1, ii x1_2), (2, ii x2_2)]) (by kernel_rfl) ?_
  unfold f13_2 at h
  refine XQ.seq E0_ok (by kernel_rfl) ?_
  refine XQ.region (by kernel_rfl) ?_
  refine XR.runS E0_ok 1 1 [(0, s0 2 lh2_2.length), (1, ii x1_2), (2, ii x2_2)] rfl (by kernel_rfl) ?_
  refine XR.done (by kernel_rfl) ?_
  show XQ _ _ _ _ _ _ _ _
  refine XQ.seq E0_ok (by kernel_rfl) ?_
  refine XQ.region (by kernel_rfl) ?_
  refine XR.runS E0_ok 1 5 [(0, s0 2 lh2_2.length), (1, ii x1_2), (2, ii x2_2), (8, s0 2 lh2_2.length), (9, ii x1_2), (10, ii x2_2), (12, ii ((lh2_2.length : Nat) : Int))] rfl (by kernel_rfl) ?_
  cases b1 : (cutOK x1_2 x2_2 ((lh2_2.length : Nat) : Int) lh2_2.length : Bool) with
  | false => cases (cF b1 h)
  | true =>
    have h := cT b1 h
    cases b2 : (decide (0 < Int.toNat ((lh2_2.length : Nat) : Int) - (Int.toNat x1_2)) : Bool) with
    | false => cases (cF b2 h)
    | true =>
      have h := cT b2 h
      refine XR.rd E0_ok [0, 1, 2] rfl (v := sl 2 ((Int.toNat x1_2) * 1) (Int.toNat x2_2 - (Int.toNat x1_2)) (Int.toNat ((lh2_2.length : Nat) : Int) - (Int.toNat x1_2))) (v_cutM (nt := 33) (s := 1) (x := (src 33 (.tmp 8))) (lo := (some (.tmp 9))) (hi := (some (.tmp 10))) (mx := (some (.tmp 12))) (b := 2) (o := 0) (len := lh2_2.length) (cap := lh2_2.length) (l := (some x1_2)) (u := (some x2_2)) (m := (some ((lh2_2.length : Nat) : Int))) (cs := rowC (encI .i64) lh2_2) (fz := 0) (e := 3) (es := 1) (o' := (Int.toNat x1_2) * 1) (len' := Int.toNat x2_2 - (Int.toNat x1_2)) (cap' := Int.toNat ((lh2_2.length : Nat) : Int) - (Int.toNat x1_2)) (d := (some (path 12 13))) (by kernel_rfl) (by kernel_rfl) (by kernel_rfl) (by kernel_rfl) (by kernel_rfl) (by kernel_rfl) (by kernel_rfl) rfl b1 (by simpa using b2) (by simp only [Option.getD_none, Option.getD_some] <;> omega) (by simp only [Option.getD_none, Option.getD_some] <;> omega) (by simp only [Option.getD_none, Option.getD_some] <;> omega)) (σ' := [(0, s0 2 lh2_2.length), (1, ii x1_2), (2, ii x2_2)]) (by kernel_rfl) ?_
      refine XR.done (by kernel_rfl) ?_
      show XQ _ _ _ _ _ _ _ _
      refine XQ.seq E0_ok (by kernel_rfl) ?_
      refine XQ.seq E0_ok (by kernel_rfl) ?_
      refine XQ.region (by kernel_rfl) ?_
      refine XR.runS E0_ok 1 3 [(0, s0 2 lh2_2.length), (1, ii x1_2), (2, ii x2_2), (16, .bool (x1_2 == x2_2))] rfl (by kernel_rfl) ?_
      refine XR.done (by kernel_rfl) ?_
      show XQ _ _ _ _ _ _ _ _
      cases b3 : (x1_2 == x2_2 : Bool) with
      | true =>
        have h := cT b3 h
        refine XQ.cond (s := (.tmp 16)) (b := true) (by kernel_rfl) (by kernel_rfl) (fun _ => ?_) (fun q => by cases q)
        refine XQ.seq E0_ok (by kernel_rfl) ?_
        refine XQ.region (by kernel_rfl) ?_
        refine XR.runS E0_ok 1 2 [(6, s0 2 lh2_2.length)] rfl (by kernel_rfl) ?_
        refine XR.done (by kernel_rfl) ?_
        show XQ _ _ _ _ _ _ _ _
        refine XQ.ren (σ' := [(6, s0 2 lh2_2.length)]) (h' := [(2, rc (encI .i64) lh2_2 0 3 1), (0, rc (encI .i64) lh0_2 0 3 1)]) (c' := 3) [0, 1, 2] (by decide) rfl ⟨by kernel_rfl, trivial⟩ ⟨⟨_, _, rfl, rfl, .inl ⟨rfl, rowC_scal (encI_ok .i64) _⟩⟩, ⟨_, _, rfl, rfl, .inl ⟨rfl, rowC_scal (encI_ok .i64) _⟩⟩, trivial⟩ rfl ?_
        refine XQ.ret (by kernel_rfl) ?_
        cases h
        exact ⟨fun i q => (by cases q), s0 2 lh2_2.length, (by kernel_rfl), lh2_2, lh2_2.length, lh2_2.length, [(2, rc (encI .i64) (List.take lh2_2.length lh2_2) 0 3 1), (0, rc (encI .i64) lh0_2 0 3 1)], rfl, (by kernel_rfl), (Nat.le_refl _), (Nat.le_refl _), (by kernel_rfl), (by first | exact hR | simpa only [List.length_set] using hR)⟩
      | false =>
        have h := cF b3 h
        refine XQ.cond (s := (.tmp 16)) (b := false) (by kernel_rfl) (by kernel_rfl) (fun q => by cases q) (fun _ => ?_)
        refine XQ.skip (by kernel_rfl) ?_
        show XQ _ _ _ _ _ _ _ _
        refine XQ.seq E0_ok (by kernel_rfl) ?_
        refine XQ.region (by kernel_rfl) ?_
        refine XR.runS E0_ok 1 3 [(0, s0 2 lh2_2.length), (1, ii x1_2), (2, ii x2_2), (7, ii ((lh2_2.length : Nat) : Int))] rfl (by kernel_rfl) ?_
        refine XR.done (by kernel_rfl) ?_
        show XQ _ _ _ _ _ _ _ _
        refine XQ.seq E0_ok (by kernel_rfl) ?_
        refine XQ.tail E0_ok 6 (by kernel_rfl) (by kernel_rfl) ?_
        refine XS.step E0_ok 2 rfl [0, 2, 7, 20, 21] rfl (σ' := [(0, s0 2 lh2_2.length), (2, ii x2_2), (7, ii ((lh2_2.length : Nat) : Int)), (20, s0 2 lh2_2.length), (21, ii x1_2)]) (by kernel_rfl) ?_
        cases b4 : (cutOK 0 x1_2 ((lh2_2.length : Nat) : Int) lh2_2.length : Bool) with
        | false => cases (cF b4 h)
        | true =>
          have h := cT b4 h
          refine XS.rd E0_ok rfl [0, 2, 7, 22] rfl (v := sl 2 0 (Int.toNat x1_2) lh2_2.length) (v_cut (nt := 33) (s := 1) (x := (src 33 (.tmp 20))) (lo := none) (hi := (some (.tmp 21))) (mx := none) (b := 2) (o := 0) (len := lh2_2.length) (cap := lh2_2.length) (l := none) (u := (some x1_2)) (m := none) (cs := rowC (encI .i64) lh2_2) (fz := 0) (e := 3) (es := 1) (o' := 0) (len' := Int.toNat x1_2) (cap' := lh2_2.length) (d := (some (path 12 22))) (by kernel_rfl) (by kernel_rfl) (by kernel_rfl) (by kernel_rfl) (by kernel_rfl) (by kernel_rfl) (by kernel_rfl) rfl b4 (by simp only [Option.getD_none, Option.getD_some] <;> omega) (by simp only [Option.getD_none, Option.getD_some] <;> omega) (by simp only [Option.getD_none, Option.getD_some] <;> omega)) (σ' := [(0, s0 2 lh2_2.length), (2, ii x2_2), (7, ii ((lh2_2.length : Nat) : Int)), (22, sl 2 0 (Int.toNat x1_2) lh2_2.length)]) (by kernel_rfl) ?_
          refine XS.step E0_ok 2 rfl [7, 22, 23, 24] rfl (σ' := [(7, ii ((lh2_2.length : Nat) : Int)), (22, sl 2 0 (Int.toNat x1_2) lh2_2.length), (23, s0 2 lh2_2.length), (24, ii x2_2)]) (by kernel_rfl) ?_
          cases b5 : (cutOK x2_2 ((lh2_2.length : Nat) : Int) ((lh2_2.length : Nat) : Int) lh2_2.length : Bool) with
          | false => cases (cF b5 h)
          | true =>
            have h := cT b5 h
            refine XS.rd E0_ok rfl [7, 22, 25] rfl (v := sl 2 ((Int.toNat x2_2) * 1) (lh2_2.length - (Int.toNat x2_2)) (lh2_2.length - (Int.toNat x2_2))) (v_cut (nt := 33) (s := 1) (x := (src 33 (.tmp 23))) (lo := (some (.tmp 24))) (hi := none) (mx := none) (b := 2) (o := 0) (len := lh2_2.length) (cap := lh2_2.length) (l := (some x2_2)) (u := none) (m := none) (cs := rowC (encI .i64) lh2_2) (fz := 0) (e := 3) (es := 1) (o' := (Int.toNat x2_2) * 1) (len' := lh2_2.length - (Int.toNat x2_2)) (cap' := lh2_2.length - (Int.toNat x2_2)) (d := (some (path 12 25))) (by kernel_rfl) (by kernel_rfl) (by kernel_rfl) (by kernel_rfl) (by kernel_rfl) (by kernel_rfl) (by kernel_rfl) rfl b5 (by simp only [Option.getD_none, Option.getD_some] <;> omega) (by simp only [Option.getD_none, Option.getD_some] <;> omega) (by simp only [Option.getD_none, Option.getD_some] <;> omega)) (σ' := [(7, ii ((lh2_2.length : Nat) : Int)), (22, sl 2 0 (Int.toNat x1_2) lh2_2.length), (25, sl 2 ((Int.toNat x2_2) * 1) (lh2_2.length - (Int.toNat x2_2)) (lh2_2.length - (Int.toNat x2_2)))]) (by kernel_rfl) ?_
            refine XS.done (by kernel_rfl) ?_
            cases b6 : (decide (1 ≤ lh2_2.length) : Bool) with
            | false => cases (cF b6 h)
            | true =>
              have h := cT b6 h
              cases b7 : (decide ((Int.toNat x1_2) + (lh2_2.length - (Int.toNat x2_2)) ≤ lh2_2.length) : Bool) with
              | false => cases (cF b7 h)
              | true =>
                have h := cT b7 h
                cases b8 : (decide ((lh2_2.length - (Int.toNat x2_2)) ≤ (lh2_2.length - (Int.toNat x2_2))) : Bool) with
                | false => cases (cF b8 h)
                | true =>
                  have h := cT b8 h
                  cases b9 : (decide ((Int.toNat x2_2) + (lh2_2.length - (Int.toNat x2_2)) ≤ lh2_2.length) : Bool) with
                  | false => cases (cF b9 h)
                  | true =>
                    have h := cT b9 h
                    refine XR.appF E0_ok [7, 26] (d := (some (path 12 26))) (f := eAppend false 1 8 3 (src 33 (.tmp 22)) (src 33 (.tmp 25))) (.tmp 22) (.tmp 25) 22 22 1 rfl (by kernel_rfl) (by kernel_rfl) (by kernel_rfl) (e_appendF (encI_ok .i64) (x := (src 33 (.tmp 22))) (y := (src 33 (.tmp 25))) (b := 2) (n := Int.toNat x1_2) (cap := lh2_2.length) (xs := lh2_2) (e := 3) (Y := sl 2 ((Int.toNat x2_2) * 1) (lh2_2.length - (Int.toNat x2_2)) (lh2_2.length - (Int.toNat x2_2))) (m := lh2_2.length - (Int.toNat x2_2)) (ys := List.take (lh2_2.length - (Int.toNat x2_2)) (List.drop (Int.toNat x2_2) lh2_2)) (n' := (Int.toNat x1_2) + (lh2_2.length - (Int.toNat x2_2))) (h' := [(2, rc (encI .i64) (List.take (Int.toNat x1_2) lh2_2 ++ List.take (lh2_2.length - (Int.toNat x2_2)) (List.drop (Int.toNat x2_2) lh2_2) ++ List.drop ((Int.toNat x1_2) + (lh2_2.length - (Int.toNat x2_2))) lh2_2) 0 3 1), (0, rc (encI .i64) lh0_2 0 3 1)]) (by kernel_rfl) (by kernel_rfl) (by kernel_rfl) (fetch_row (encI_ok .i64) (ys := lh2_2) (fz := 0) (e := 3) (es := 1) (by kernel_rfl) (Int.toNat x2_2) (lh2_2.length - (Int.toNat x2_2)) (lh2_2.length - (Int.toNat x2_2)) (lh2_2.length - (Int.toNat x2_2)) rfl (Nat.ble_eq_true_of_le (of_decide_eq_true b8)) (of_decide_eq_true b9) rfl) (by have := of_decide_eq_true b9; simp only [List.length_take, List.length_drop]; omega) rfl (of_decide_eq_true b6) (of_decide_eq_true b7) (of_decide_eq_true b7) rfl (by kernel_rfl)) (σ' := [(7, ii ((lh2_2.length : Nat) : Int)), (26, sl 2 0 ((Int.toNat x1_2) + (lh2_2.length - (Int.toNat x2_2))) lh2_2.length)]) (by kernel_rfl) ?_
                    refine XR.runS E0_ok 1 1 [(0, sl 2 0 ((Int.toNat x1_2) + (lh2_2.length - (Int.toNat x2_2))) lh2_2.length), (7, ii ((lh2_2.length : Nat) : Int))] rfl (by kernel_rfl) ?_
                    refine XR.done (by kernel_rfl) ?_
                    show XQ _ _ _ _ _ _ _ _
                    refine XQ.seq E0_ok (by kernel_rfl) ?_
                    refine XQ.region (by kernel_rfl) ?_
                    refine XR.runS E0_ok 1 4 [(0, sl 2 0 ((Int.toNat x1_2) + (lh2_2.length - (Int.toNat x2_2))) lh2_2.length), (27, sl 2 0 ((Int.toNat x1_2) + (lh2_2.length - (Int.toNat x2_2))) lh2_2.length), (29, ii (((Int.toNat x1_2) + (lh2_2.length - (Int.toNat x2_2)) : Nat) : Int)), (30, ii ((lh2_2.length : Nat) : Int))] rfl (by kernel_rfl) ?_
                    cases b10 : (cutOK (((Int.toNat x1_2) + (lh2_2.length - (Int.toNat x2_2)) : Nat) : Int) ((lh2_2.length : Nat) : Int) ((lh2_2.length : Nat) : Int) lh2_2.length : Bool) with
                    | false => cases (cF b10 h)
                    | true =>
                      have h := cT b10 h
                      refine XR.rd E0_ok [0, 31] rfl (v := sl 2 ((Int.toNat (((Int.toNat x1_2) + (lh2_2.length - (Int.toNat x2_2)) : Nat) : Int)) * 1) (Int.toNat ((lh2_2.length : Nat) : Int) - (Int.toNat (((Int.toNat x1_2) + (lh2_2.length - (Int.toNat x2_2)) : Nat) : Int))) (lh2_2.length - (Int.toNat (((Int.toNat x1_2) + (lh2_2.length - (Int.toNat x2_2)) : Nat) : Int)))) (v_cut (nt := 33) (s := 1) (x := (src 33 (.tmp 27))) (lo := (some (.tmp 29))) (hi := (some (.tmp 30))) (mx := none) (b := 2) (o := 0) (len := (Int.toNat x1_2) + (lh2_2.length - (Int.toNat x2_2))) (cap := lh2_2.length) (l := (some (((Int.toNat x1_2) + (lh2_2.length - (Int.toNat x2_2)) : Nat) : Int))) (u := (some ((lh2_2.length : Nat) : Int))) (m := none) (cs := rowC (encI .i64) (List.take (Int.toNat x1_2) lh2_2 ++ List.take (lh2_2.length - (Int.toNat x2_2)) (List.drop (Int.toNat x2_2) lh2_2) ++ List.drop ((Int.toNat x1_2) + (lh2_2.length - (Int.toNat x2_2))) lh2_2)) (fz := 0) (e := 3) (es := 1) (o' := (Int.toNat (((Int.toNat x1_2) + (lh2_2.length - (Int.toNat x2_2)) : Nat) : Int)) * 1) (len' := Int.toNat ((lh2_2.length : Nat) : Int) - (Int.toNat (((Int.toNat x1_2) + (lh2_2.length - (Int.toNat x2_2)) : Nat) : Int))) (cap' := lh2_2.length - (Int.toNat (((Int.toNat x1_2) + (lh2_2.length - (Int.toNat x2_2)) : Nat) : Int))) (d := (some (path 12 31))) (by kernel_rfl) (by kernel_rfl) (by kernel_rfl) (by kernel_rfl) (by kernel_rfl) (by kernel_rfl) (by kernel_rfl) rfl b10 (by simp only [Option.getD_none, Option.getD_some] <;> omega) (by simp only [Option.getD_none, Option.getD_some] <;> omega) (by simp only [Option.getD_none, Option.getD_some] <;> omega)) (σ' := [(0, sl 2 0 ((Int.toNat x1_2) + (lh2_2.length - (Int.toNat x2_2))) lh2_2.length), (31, sl 2 ((Int.toNat (((Int.toNat x1_2) + (lh2_2.length - (Int.toNat x2_2)) : Nat) : Int)) * 1) (Int.toNat ((lh2_2.length : Nat) : Int) - (Int.toNat (((Int.toNat x1_2) + (lh2_2.length - (Int.toNat x2_2)) : Nat) : Int))) (lh2_2.length - (Int.toNat (((Int.toNat x1_2) + (lh2_2.length - (Int.toNat x2_2)) : Nat) : Int))))]) (by kernel_rfl) ?_
                      cases b11 : (decide ((Int.toNat (((Int.toNat x1_2) + (lh2_2.length - (Int.toNat x2_2)) : Nat) : Int)) + (Int.toNat ((lh2_2.length : Nat) : Int) - (Int.toNat (((Int.toNat x1_2) + (lh2_2.length - (Int.toNat x2_2)) : Nat) : Int))) ≤ (List.take (Int.toNat x1_2) lh2_2 ++ List.take (lh2_2.length - (Int.toNat x2_2)) (List.drop (Int.toNat x2_2) lh2_2) ++ List.drop ((Int.toNat x1_2) + (lh2_2.length - (Int.toNat x2_2))) lh2_2).length) : Bool) with
                      | false => cases (cF b11 h)
                      | true =>
                        have h := cT b11 h
                        refine XR.ef E0_ok [0] rfl (e_clear (encI_ok .i64) (z := #[ii 0]) (x := (src 33 (.tmp 31))) (b := 2) (o := (Int.toNat (((Int.toNat x1_2) + (lh2_2.length - (Int.toNat x2_2)) : Nat) : Int)) * 1) (len := Int.toNat ((lh2_2.length : Nat) : Int) - (Int.toNat (((Int.toNat x1_2) + (lh2_2.length - (Int.toNat x2_2)) : Nat) : Int))) (cap := lh2_2.length - (Int.toNat (((Int.toNat x1_2) + (lh2_2.length - (Int.toNat x2_2)) : Nat) : Int))) (xs := List.take (Int.toNat x1_2) lh2_2 ++ List.take (lh2_2.length - (Int.toNat x2_2)) (List.drop (Int.toNat x2_2) lh2_2) ++ List.drop ((Int.toNat x1_2) + (lh2_2.length - (Int.toNat x2_2))) lh2_2) (e := 3) (es := 1) (d := none) (h' := [(2, rc (encI .i64) (clearL 0 (List.take (Int.toNat x1_2) lh2_2 ++ List.take (lh2_2.length - (Int.toNat x2_2)) (List.drop (Int.toNat x2_2) lh2_2) ++ List.drop ((Int.toNat x1_2) + (lh2_2.length - (Int.toNat x2_2))) lh2_2) (Int.toNat (((Int.toNat x1_2) + (lh2_2.length - (Int.toNat x2_2)) : Nat) : Int)) (Int.toNat ((lh2_2.length : Nat) : Int) - (Int.toNat (((Int.toNat x1_2) + (lh2_2.length - (Int.toNat x2_2)) : Nat) : Int)))) 0 3 1), (0, rc (encI .i64) lh0_2 0 3 1)]) (by kernel_rfl) (by kernel_rfl) (by kernel_rfl) (Int.toNat (((Int.toNat x1_2) + (lh2_2.length - (Int.toNat x2_2)) : Nat) : Int)) 0 rfl rfl (by first | rfl | omega) b11 (by kernel_rfl)) (σ' := [(0, sl 2 0 ((Int.toNat x1_2) + (lh2_2.length - (Int.toNat x2_2))) lh2_2.length)]) (by kernel_rfl) ?_
                        refine XR.done (by kernel_rfl) ?_
                        show XQ _ _ _ _ _ _ _ _
                        refine XQ.seq E0_ok (by kernel_rfl) ?_
                        refine XQ.region (by kernel_rfl) ?_
                        refine XR.runS E0_ok 1 2 [(6, sl 2 0 ((Int.toNat x1_2) + (lh2_2.length - (Int.toNat x2_2))) lh2_2.length)] rfl (by kernel_rfl) ?_
                        refine XR.done (by kernel_rfl) ?_
                        show XQ _ _ _ _ _ _ _ _
                        refine XQ.ren (σ' := [(6, sl 2 0 ((Int.toNat x1_2) + (lh2_2.length - (Int.toNat x2_2))) lh2_2.length)]) (h' := [(2, rc (encI .i64) (clearL 0 (List.take (Int.toNat x1_2) lh2_2 ++ List.take (lh2_2.length - (Int.toNat x2_2)) (List.drop (Int.toNat x2_2) lh2_2) ++ List.drop ((Int.toNat x1_2) + (lh2_2.length - (Int.toNat x2_2))) lh2_2) (Int.toNat (((Int.toNat x1_2) + (lh2_2.length - (Int.toNat x2_2)) : Nat) : Int)) (Int.toNat ((lh2_2.length : Nat) : Int) - (Int.toNat (((Int.toNat x1_2) + (lh2_2.length - (Int.toNat x2_2)) : Nat) : Int)))) 0 3 1), (0, rc (encI .i64) lh0_2 0 3 1)]) (c' := 3) [0, 1, 2] (by decide) rfl ⟨by kernel_rfl, trivial⟩ ⟨⟨_, _, rfl, rfl, .inl ⟨rfl, rowC_scal (encI_ok .i64) _⟩⟩, ⟨_, _, rfl, rfl, .inl ⟨rfl, rowC_scal (encI_ok .i64) _⟩⟩, trivial⟩ rfl ?_
                        refine XQ.ret (by kernel_rfl) ?_
                        cases b12 : (decide ((Int.toNat x1_2) + (lh2_2.length - (Int.toNat x2_2)) ≤ (clearL 0 (List.take (Int.toNat x1_2) lh2_2 ++ List.take (lh2_2.length - (Int.toNat x2_2)) (List.drop (Int.toNat x2_2) lh2_2) ++ List.drop ((Int.toNat x1_2) + (lh2_2.length - (Int.toNat x2_2))) lh2_2) (Int.toNat (((Int.toNat x1_2) + (lh2_2.length - (Int.toNat x2_2)) : Nat) : Int)) (Int.toNat ((lh2_2.length : Nat) : Int) - (Int.toNat (((Int.toNat x1_2) + (lh2_2.length - (Int.toNat x2_2)) : Nat) : Int)))).length) : Bool) with
                        | false => cases (cF b12 h)
                        | true =>
                          have h := cT b12 h
                          cases b13 : (decide ((Int.toNat x1_2) + (lh2_2.length - (Int.toNat x2_2)) ≤ lh2_2.length) : Bool) with
                          | false => cases (cF b13 h)
                          | true =>
                            have h := cT b13 h
                            cases h
                            exact ⟨fun i q => (by cases q), sl 2 0 ((Int.toNat x1_2) + (lh2_2.length - (Int.toNat x2_2))) lh2_2.length, (by kernel_rfl), clearL 0 (List.take (Int.toNat x1_2) lh2_2 ++ List.take (lh2_2.length - (Int.toNat x2_2)) (List.drop (Int.toNat x2_2) lh2_2) ++ List.drop ((Int.toNat x1_2) + (lh2_2.length - (Int.toNat x2_2))) lh2_2) (Int.toNat (((Int.toNat x1_2) + (lh2_2.length - (Int.toNat x2_2)) : Nat) : Int)) (Int.toNat ((lh2_2.length : Nat) : Int) - (Int.toNat (((Int.toNat x1_2) + (lh2_2.length - (Int.toNat x2_2)) : Nat) : Int))), (Int.toNat x1_2) + (lh2_2.length - (Int.toNat x2_2)), lh2_2.length, [(2, rc (encI .i64) (List.take ((Int.toNat x1_2) + (lh2_2.length - (Int.toNat x2_2))) (clearL 0 (List.take (Int.toNat x1_2) lh2_2 ++ List.take (lh2_2.length - (Int.toNat x2_2)) (List.drop (Int.toNat x2_2) lh2_2) ++ List.drop ((Int.toNat x1_2) + (lh2_2.length - (Int.toNat x2_2))) lh2_2) (Int.toNat (((Int.toNat x1_2) + (lh2_2.length - (Int.toNat x2_2)) : Nat) : Int)) (Int.toNat ((lh2_2.length : Nat) : Int) - (Int.toNat (((Int.toNat x1_2) + (lh2_2.length - (Int.toNat x2_2)) : Nat) : Int))))) 0 3 1), (0, rc (encI .i64) lh0_2 0 3 1)], rfl, (by kernel_rfl), (of_decide_eq_true b12), (of_decide_eq_true b13), (by kernel_rfl), (by first | exact hR | simpa only [List.length_set] using hR)⟩

def f13_5 (m : Nat) : Nat → Int → List Int → Int → Int → List Int → Option (List Int)
  | 0, _, _, _, _, _ => none
  | fuel + 1, x2_3, lh0_3, x8_4, x9_5, lh2_5 =>
    cond (decide (x9_5 > 0)) (
      cond (inRow x9_5 lh2_5.length) (
        cond (inRow (w64 (x9_5 - 1)) lh2_5.length) (
          (f57 m (List.getD lh2_5 (Int.toNat x9_5) 0) (List.getD lh2_5 (Int.toNat (w64 (x9_5 - 1))) 0)).bind fun r20 =>
            cond (decide (r20 < 0)) (
              f13_5 m fuel x2_3 lh0_3 x8_4 (w64 (x9_5 - 1)) (List.set (List.set lh2_5 (Int.toNat x9_5) (List.getD lh2_5 (Int.toNat (w64 (x9_5 - 1))) 0)) (Int.toNat (w64 (x9_5 - 1))) (List.getD lh2_5 (Int.toNat x9_5) 0))
            ) (
              some (lh2_5)
            )
        ) none
      ) none
    ) (
      some (lh2_5)
    )

theorem f13_5_ok (m : Nat) : ∀ (fuel : Nat) (x2_3 : Int) (lh0_3 : List Int) (x8_4 : Int) (x9_5 : Int) (lh2_5 : List Int) (o : (List Int)), f13_5 m fuel x2_3 lh0_3 x8_4 x9_5 lh2_5 = some o → ∀ Q : QP, Q (.exit 2) [(0, s0 2 o.length), (1, ii 0), (2, ii x2_3), (3, .func (.func 57) #[] #[]), (8, ii x8_4)] [(2, rc (encI .i64) o 0 3 1), (0, rc (encI .i64) lh0_3 0 3 1)] 3 → XL E0 53 3 fuel f13_L4 [(0, s0 2 lh2_5.length), (1, ii 0), (2, ii x2_3), (3, .func (.func 57) #[] #[]), (8, ii x8_4), (9, ii x9_5)] [(2, rc (encI .i64) lh2_5 0 3 1), (0, rc (encI .i64) lh0_3 0 3 1)] 3 Q
  | 0, x2_3, lh0_3, x8_4, x9_5, lh2_5, o, h, Q, hQ => by cases h
  | fuel + 1, x2_3, lh0_3, x8_4, x9_5, lh2_5, o, h, Q, hQ => by
    unfold f13_5 at h
    refine XL.succ E0_ok ?_
    refine XQ.seq E0_ok (by kernel_rfl) ?_
    refine XQ.seq E0_ok (by kernel_rfl) ?_
    refine XQ.quiet E0_ok (by kernel_rfl) (by kernel_rfl) ?_
    refine XU.run E0_ok 1 4 [0, 1, 2, 3, 8, 9, 21] rfl (σ' := [(0, s0 2 lh2_5.length), (1, ii 0), (2, ii x2_3), (3, .func (.func 57) #[] #[]), (8, ii x8_4), (9, ii x9_5), (21, .bool (decide (x9_5 > 0)))]) (by kernel_rfl) ?_
    cases b1 : (decide (x9_5 > 0) : Bool) with
    | true =>
      have h := cT b1 h
      refine XU.run E0_ok 1 3 [0, 1, 2, 3, 8, 9, 21, 22, 23, 24] rfl (σ' := [(0, s0 2 lh2_5.length), (1, ii 0), (2, ii x2_3), (3, .func (.func 57) #[] #[]), (8, ii x8_4), (9, ii x9_5), (21, .bool true), (22, .func (.func 57) #[] #[]), (23, s0 2 lh2_5.length), (24, ii x9_5)]) (by kernel_rfl) ?_
      cases b2 : (inRow x9_5 lh2_5.length : Bool) with
      | false => cases (cF b2 h)
      | true =>
        have h := cT b2 h
        refine XU.rd E0_ok [0, 1, 2, 3, 8, 9, 21, 22, 25] rfl (v := pp 2 ((Int.toNat x9_5) * 1)) (v_idx (s := 1) (x := (src 53 (.tmp 23))) (y := (src 53 (.tmp 24))) (b := 2) (o := 0) (len := lh2_5.length) (cap := lh2_5.length) (ik := .i64) (i := x9_5) (off := (Int.toNat x9_5) * 1) (d := (some (path 12 25))) (by kernel_rfl) (by kernel_rfl) (by kernel_rfl) b2 (by omega)) (σ' := [(0, s0 2 lh2_5.length), (1, ii 0), (2, ii x2_3), (3, .func (.func 57) #[] #[]), (8, ii x8_4), (9, ii x9_5), (21, .bool true), (22, .func (.func 57) #[] #[]), (25, pp 2 ((Int.toNat x9_5) * 1))]) (by kernel_rfl) ?_
        refine XU.rd E0_ok [0, 1, 2, 3, 8, 9, 21, 22, 26] rfl (v := ii (List.getD lh2_5 (Int.toNat x9_5) 0)) (v_load1 (encI_ok .i64) (x := (src 53 (.tmp 25))) (b := 2) (off := (Int.toNat x9_5) * 1) (xs := lh2_5) (fz := 0) (e := 3) (es := 1) (d := (some (path 12 26))) (by kernel_rfl) (by kernel_rfl) (by kernel_rfl) (Int.toNat x9_5) 0 0 (by first | rfl | omega) (row_len (inRow_toNat b2) (by simp)) rfl rfl) (σ' := [(0, s0 2 lh2_5.length), (1, ii 0), (2, ii x2_3), (3, .func (.func 57) #[] #[]), (8, ii x8_4), (9, ii x9_5), (21, .bool true), (22, .func (.func 57) #[] #[]), (26, ii (List.getD lh2_5 (Int.toNat x9_5) 0))]) (by kernel_rfl) ?_
        refine XU.run E0_ok 1 3 [0, 1, 2, 3, 8, 9, 21, 22, 26, 27, 29] rfl (σ' := [(0, s0 2 lh2_5.length), (1, ii 0), (2, ii x2_3), (3, .func (.func 57) #[] #[]), (8, ii x8_4), (9, ii x9_5), (21, .bool true), (22, .func (.func 57) #[] #[]), (26, ii (List.getD lh2_5 (Int.toNat x9_5) 0)), (27, s0 2 lh2_5.length), (29, ii (w64 (x9_5 - 1)))]) (by kernel_rfl) ?_
        cases b3 : (inRow (w64 (x9_5 - 1)) lh2_5.length : Bool) with
        | false => cases (cF b3 h)
        | true =>
          have h := cT b3 h
          refine XU.rd E0_ok [0, 1, 2, 3, 8, 9, 21, 22, 26, 30] rfl (v := pp 2 ((Int.toNat (w64 (x9_5 - 1))) * 1)) (v_idx (s := 1) (x := (src 53 (.tmp 27))) (y := (src 53 (.tmp 29))) (b := 2) (o := 0) (len := lh2_5.length) (cap := lh2_5.length) (ik := .i64) (i := w64 (x9_5 - 1)) (off := (Int.toNat (w64 (x9_5 - 1))) * 1) (d := (some (path 12 30))) (by kernel_rfl) (by kernel_rfl) (by kernel_rfl) b3 (by omega)) (σ' := [(0, s0 2 lh2_5.length), (1, ii 0), (2, ii x2_3), (3, .func (.func 57) #[] #[]), (8, ii x8_4), (9, ii x9_5), (21, .bool true), (22, .func (.func 57) #[] #[]), (26, ii (List.getD lh2_5 (Int.toNat x9_5) 0)), (30, pp 2 ((Int.toNat (w64 (x9_5 - 1))) * 1))]) (by kernel_rfl) ?_
          refine XU.rd E0_ok [0, 1, 2, 3, 8, 9, 21, 22, 26, 31] rfl (v := ii (List.getD lh2_5 (Int.toNat (w64 (x9_5 - 1))) 0)) (v_load1 (encI_ok .i64) (x := (src 53 (.tmp 30))) (b := 2) (off := (Int.toNat (w64 (x9_5 - 1))) * 1) (xs := lh2_5) (fz := 0) (e := 3) (es := 1) (d := (some (path 12 31))) (by kernel_rfl) (by kernel_rfl) (by kernel_rfl) (Int.toNat (w64 (x9_5 - 1))) 0 0 (by first | rfl | omega) (row_len (inRow_toNat b3) (by simp)) rfl rfl) (σ' := [(0, s0 2 lh2_5.length), (1, ii 0), (2, ii x2_3), (3, .func (.func 57) #[] #[]), (8, ii x8_4), (9, ii x9_5), (21, .bool true), (22, .func (.func 57) #[] #[]), (26, ii (List.getD lh2_5 (Int.toNat x9_5) 0)), (31, ii (List.getD lh2_5 (Int.toNat (w64 (x9_5 - 1))) 0))]) (by kernel_rfl) ?_
          obtain ⟨r20, r20_h, h⟩ := bS h
          refine XU.call E0_ok [0, 1, 2, 3, 8, 9, 21, 32] rfl (K := 57) (F := Proofs.Tryd.f57) (args := [ii (List.getD lh2_5 (Int.toNat x9_5) 0), ii (List.getD lh2_5 (Int.toNat (w64 (x9_5 - 1))) 0)]) (d := (some (path 12 32))) (v := ii r20) (by kernel_rfl) (by kernel_rfl) rfl rfl (fun w hI => f57_ok m (List.getD lh2_5 (Int.toNat x9_5) 0) (List.getD lh2_5 (Int.toNat (w64 (x9_5 - 1))) 0) r20 r20_h w hI) (σ' := [(0, s0 2 lh2_5.length), (1, ii 0), (2, ii x2_3), (3, .func (.func 57) #[] #[]), (8, ii x8_4), (9, ii x9_5), (21, .bool true), (32, ii r20)]) (by kernel_rfl) ?_
          refine XU.run E0_ok 1 2 [0, 1, 2, 3, 8, 9, 34] rfl (σ' := [(0, s0 2 lh2_5.length), (1, ii 0), (2, ii x2_3), (3, .func (.func 57) #[] #[]), (8, ii x8_4), (9, ii x9_5), (34, .bool (decide (r20 < 0)))]) (by kernel_rfl) ?_
          refine XU.done (by kernel_rfl) ?_
          show XQ _ _ _ _ _ _ _ _
          cases b4 : (decide (r20 < 0) : Bool) with
          | true =>
            have h := cT b4 h
            refine XQ.cond (s := (.tmp 34)) (b := true) (by kernel_rfl) (by kernel_rfl) (fun _ => ?_) (fun q => by cases q)
            refine XQ.skip (by kernel_rfl) ?_
            show XQ _ _ _ _ _ _ _ _
            refine XQ.seq E0_ok (by kernel_rfl) ?_
            refine XQ.block (id := 3) (by kernel_rfl) ?_
            refine XQ.preP E0_ok [2, 3, 4] [0, 1, 5, 6, 7, 8, 9, 10, 11, 12, 13, 14] 15 [16, 17] (by kernel_rfl) (by kernel_rfl) (by kernel_rfl) ?_
            refine XP.step E0_ok 3 [0, 1, 2, 3, 8, 9, 39, 41] rfl (σ' := [(0, s0 2 lh2_5.length), (1, ii 0), (2, ii x2_3), (3, .func (.func 57) #[] #[]), (8, ii x8_4), (9, ii x9_5), (39, s0 2 lh2_5.length), (41, ii (w64 (x9_5 - 1)))]) (by kernel_rfl) ?_
            refine XP.done (by kernel_rfl) ?_
            show XS _ _ _ _ _ _ _ _ _ _
            refine XS.step E0_ok 5 rfl [0, 1, 2, 3, 8, 9, 37, 38, 39, 41, 42, 44] rfl (σ' := [(0, s0 2 lh2_5.length), (1, ii 0), (2, ii x2_3), (3, .func (.func 57) #[] #[]), (8, ii x8_4), (9, ii x9_5), (37, s0 2 lh2_5.length), (38, ii x9_5), (39, s0 2 lh2_5.length), (41, ii (w64 (x9_5 - 1))), (42, s0 2 lh2_5.length), (44, ii (w64 (x9_5 - 1)))]) (by kernel_rfl) ?_
            refine XS.rd E0_ok rfl [0, 1, 2, 3, 8, 9, 37, 38, 39, 41, 45] rfl (v := pp 2 ((Int.toNat (w64 (x9_5 - 1))) * 1)) (v_idx (s := 1) (x := (src 53 (.tmp 42))) (y := (src 53 (.tmp 44))) (b := 2) (o := 0) (len := lh2_5.length) (cap := lh2_5.length) (ik := .i64) (i := w64 (x9_5 - 1)) (off := (Int.toNat (w64 (x9_5 - 1))) * 1) (d := (some (path 12 45))) (by kernel_rfl) (by kernel_rfl) (by kernel_rfl) b3 (by omega)) (σ' := [(0, s0 2 lh2_5.length), (1, ii 0), (2, ii x2_3), (3, .func (.func 57) #[] #[]), (8, ii x8_4), (9, ii x9_5), (37, s0 2 lh2_5.length), (38, ii x9_5), (39, s0 2 lh2_5.length), (41, ii (w64 (x9_5 - 1))), (45, pp 2 ((Int.toNat (w64 (x9_5 - 1))) * 1))]) (by kernel_rfl) ?_
            refine XS.rd E0_ok rfl [0, 1, 2, 3, 8, 9, 37, 38, 39, 41, 46] rfl (v := ii (List.getD lh2_5 (Int.toNat (w64 (x9_5 - 1))) 0)) (v_load1 (encI_ok .i64) (x := (src 53 (.tmp 45))) (b := 2) (off := (Int.toNat (w64 (x9_5 - 1))) * 1) (xs := lh2_5) (fz := 0) (e := 3) (es := 1) (d := (some (path 12 46))) (by kernel_rfl) (by kernel_rfl) (by kernel_rfl) (Int.toNat (w64 (x9_5 - 1))) 0 0 (by first | rfl | omega) (row_len (inRow_toNat b3) (by simp)) rfl rfl) (σ' := [(0, s0 2 lh2_5.length), (1, ii 0), (2, ii x2_3), (3, .func (.func 57) #[] #[]), (8, ii x8_4), (9, ii x9_5), (37, s0 2 lh2_5.length), (38, ii x9_5), (39, s0 2 lh2_5.length), (41, ii (w64 (x9_5 - 1))), (46, ii (List.getD lh2_5 (Int.toNat (w64 (x9_5 - 1))) 0))]) (by kernel_rfl) ?_
            refine XS.step E0_ok 2 rfl [0, 1, 2, 3, 8, 9, 37, 38, 39, 41, 46, 47, 48] rfl (σ' := [(0, s0 2 lh2_5.length), (1, ii 0), (2, ii x2_3), (3, .func (.func 57) #[] #[]), (8, ii x8_4), (9, ii x9_5), (37, s0 2 lh2_5.length), (38, ii x9_5), (39, s0 2 lh2_5.length), (41, ii (w64 (x9_5 - 1))), (46, ii (List.getD lh2_5 (Int.toNat (w64 (x9_5 - 1))) 0)), (47, s0 2 lh2_5.length), (48, ii x9_5)]) (by kernel_rfl) ?_
            refine XS.rd E0_ok rfl [0, 1, 2, 3, 8, 9, 37, 38, 39, 41, 46, 49] rfl (v := pp 2 ((Int.toNat x9_5) * 1)) (v_idx (s := 1) (x := (src 53 (.tmp 47))) (y := (src 53 (.tmp 48))) (b := 2) (o := 0) (len := lh2_5.length) (cap := lh2_5.length) (ik := .i64) (i := x9_5) (off := (Int.toNat x9_5) * 1) (d := (some (path 12 49))) (by kernel_rfl) (by kernel_rfl) (by kernel_rfl) b2 (by omega)) (σ' := [(0, s0 2 lh2_5.length), (1, ii 0), (2, ii x2_3), (3, .func (.func 57) #[] #[]), (8, ii x8_4), (9, ii x9_5), (37, s0 2 lh2_5.length), (38, ii x9_5), (39, s0 2 lh2_5.length), (41, ii (w64 (x9_5 - 1))), (46, ii (List.getD lh2_5 (Int.toNat (w64 (x9_5 - 1))) 0)), (49, pp 2 ((Int.toNat x9_5) * 1))]) (by kernel_rfl) ?_
            refine XS.rd E0_ok rfl [0, 1, 2, 3, 8, 9, 37, 38, 39, 41, 46, 50] rfl (v := ii (List.getD lh2_5 (Int.toNat x9_5) 0)) (v_load1 (encI_ok .i64) (x := (src 53 (.tmp 49))) (b := 2) (off := (Int.toNat x9_5) * 1) (xs := lh2_5) (fz := 0) (e := 3) (es := 1) (d := (some (path 12 50))) (by kernel_rfl) (by kernel_rfl) (by kernel_rfl) (Int.toNat x9_5) 0 0 (by first | rfl | omega) (row_len (inRow_toNat b2) (by simp)) rfl rfl) (σ' := [(0, s0 2 lh2_5.length), (1, ii 0), (2, ii x2_3), (3, .func (.func 57) #[] #[]), (8, ii x8_4), (9, ii x9_5), (37, s0 2 lh2_5.length), (38, ii x9_5), (39, s0 2 lh2_5.length), (41, ii (w64 (x9_5 - 1))), (46, ii (List.getD lh2_5 (Int.toNat (w64 (x9_5 - 1))) 0)), (50, ii (List.getD lh2_5 (Int.toNat x9_5) 0))]) (by kernel_rfl) ?_
            refine XS.rd E0_ok rfl [0, 1, 2, 3, 8, 9, 39, 41, 46, 50, 51] rfl (v := pp 2 ((Int.toNat x9_5) * 1)) (v_idx (s := 1) (x := (src 53 (.tmp 37))) (y := (src 53 (.tmp 38))) (b := 2) (o := 0) (len := lh2_5.length) (cap := lh2_5.length) (ik := .i64) (i := x9_5) (off := (Int.toNat x9_5) * 1) (d := (some (path 12 51))) (by kernel_rfl) (by kernel_rfl) (by kernel_rfl) b2 (by omega)) (σ' := [(0, s0 2 lh2_5.length), (1, ii 0), (2, ii x2_3), (3, .func (.func 57) #[] #[]), (8, ii x8_4), (9, ii x9_5), (39, s0 2 lh2_5.length), (41, ii (w64 (x9_5 - 1))), (46, ii (List.getD lh2_5 (Int.toNat (w64 (x9_5 - 1))) 0)), (50, ii (List.getD lh2_5 (Int.toNat x9_5) 0)), (51, pp 2 ((Int.toNat x9_5) * 1))]) (by kernel_rfl) ?_
            refine XS.done (by kernel_rfl) ?_
            refine XR.ef E0_ok [0, 1, 2, 3, 8, 9, 39, 41, 50] rfl (e_store (encI_ok .i64) (size := 1) (x := (src 53 (.tmp 51))) (y := (src 53 (.tmp 46))) (b := 2) (off := (Int.toNat x9_5) * 1) (xs := lh2_5) (e := 3) (es := 1) (d := none) (h' := [(2, rc (encI .i64) (List.set lh2_5 (Int.toNat x9_5) (List.getD lh2_5 (Int.toNat (w64 (x9_5 - 1))) 0)) 0 3 1), (0, rc (encI .i64) lh0_3 0 3 1)]) (w := ii (List.getD lh2_5 (Int.toNat (w64 (x9_5 - 1))) 0)) (ws := [ii (List.getD lh2_5 (Int.toNat (w64 (x9_5 - 1))) 0)]) (a := List.getD lh2_5 (Int.toNat (w64 (x9_5 - 1))) 0) (by kernel_rfl) (by kernel_rfl) (by kernel_rfl) (Int.toNat x9_5) 0 0 (by first | rfl | omega) (row_len (inRow_toNat b2) (by simp)) (by kernel_rfl) rfl rfl rfl rfl rfl (by kernel_rfl)) (σ' := [(0, s0 2 lh2_5.length), (1, ii 0), (2, ii x2_3), (3, .func (.func 57) #[] #[]), (8, ii x8_4), (9, ii x9_5), (39, s0 2 lh2_5.length), (41, ii (w64 (x9_5 - 1))), (50, ii (List.getD lh2_5 (Int.toNat x9_5) 0))]) (by kernel_rfl) ?_
            refine XR.rd E0_ok [0, 1, 2, 3, 8, 9, 50, 52] rfl (v := pp 2 ((Int.toNat (w64 (x9_5 - 1))) * 1)) (v_idx (s := 1) (x := (src 53 (.tmp 39))) (y := (src 53 (.tmp 41))) (b := 2) (o := 0) (len := lh2_5.length) (cap := lh2_5.length) (ik := .i64) (i := w64 (x9_5 - 1)) (off := (Int.toNat (w64 (x9_5 - 1))) * 1) (d := (some (path 12 52))) (by kernel_rfl) (by kernel_rfl) (by kernel_rfl) b3 (by omega)) (σ' := [(0, s0 2 lh2_5.length), (1, ii 0), (2, ii x2_3), (3, .func (.func 57) #[] #[]), (8, ii x8_4), (9, ii x9_5), (50, ii (List.getD lh2_5 (Int.toNat x9_5) 0)), (52, pp 2 ((Int.toNat (w64 (x9_5 - 1))) * 1))]) (by kernel_rfl) ?_
            refine XR.ef E0_ok [0, 1, 2, 3, 8, 9] rfl (e_store (encI_ok .i64) (size := 1) (x := (src 53 (.tmp 52))) (y := (src 53 (.tmp 50))) (b := 2) (off := (Int.toNat (w64 (x9_5 - 1))) * 1) (xs := List.set lh2_5 (Int.toNat x9_5) (List.getD lh2_5 (Int.toNat (w64 (x9_5 - 1))) 0)) (e := 3) (es := 1) (d := none) (h' := [(2, rc (encI .i64) (List.set (List.set lh2_5 (Int.toNat x9_5) (List.getD lh2_5 (Int.toNat (w64 (x9_5 - 1))) 0)) (Int.toNat (w64 (x9_5 - 1))) (List.getD lh2_5 (Int.toNat x9_5) 0)) 0 3 1), (0, rc (encI .i64) lh0_3 0 3 1)]) (w := ii (List.getD lh2_5 (Int.toNat x9_5) 0)) (ws := [ii (List.getD lh2_5 (Int.toNat x9_5) 0)]) (a := List.getD lh2_5 (Int.toNat x9_5) 0) (by kernel_rfl) (by kernel_rfl) (by kernel_rfl) (Int.toNat (w64 (x9_5 - 1))) 0 0 (by first | rfl | omega) (row_len (inRow_toNat b3) (by simp)) (by kernel_rfl) rfl rfl rfl rfl rfl (by kernel_rfl)) (σ' := [(0, s0 2 lh2_5.length), (1, ii 0), (2, ii x2_3), (3, .func (.func 57) #[] #[]), (8, ii x8_4), (9, ii x9_5)]) (by kernel_rfl) ?_
            refine XR.done (by kernel_rfl) ?_
            show XQ _ _ _ _ _ _ _ _
            refine XQ.region (by kernel_rfl) ?_
            refine XR.runS E0_ok 1 3 [(0, s0 2 lh2_5.length), (1, ii 0), (2, ii x2_3), (3, .func (.func 57) #[] #[]), (8, ii x8_4), (9, ii (w64 (x9_5 - 1)))] rfl (by kernel_rfl) ?_
            refine XR.done (by kernel_rfl) ?_
            show XL _ _ _ _ _ _ _ _ _
            refine XL.ren (σ' := [(0, s0 2 lh2_5.length), (1, ii 0), (2, ii x2_3), (3, .func (.func 57) #[] #[]), (8, ii x8_4), (9, ii (w64 (x9_5 - 1)))]) (h' := [(2, rc (encI .i64) (List.set (List.set lh2_5 (Int.toNat x9_5) (List.getD lh2_5 (Int.toNat (w64 (x9_5 - 1))) 0)) (Int.toNat (w64 (x9_5 - 1))) (List.getD lh2_5 (Int.toNat x9_5) 0)) 0 3 1), (0, rc (encI .i64) lh0_3 0 3 1)]) (c' := 3) [0, 1, 2] (by decide) rfl ⟨by kernel_rfl, by kernel_rfl, by kernel_rfl, by kernel_rfl, by kernel_rfl, by kernel_rfl, trivial⟩ ⟨⟨_, _, rfl, rfl, .inl ⟨rfl, rowC_scal (encI_ok .i64) _⟩⟩, ⟨_, _, rfl, rfl, .inl ⟨rfl, rowC_scal (encI_ok .i64) _⟩⟩, trivial⟩ rfl ?_
            refine XL.conv (f13_5_ok m fuel x2_3 lh0_3 x8_4 (w64 (x9_5 - 1)) (List.set (List.set lh2_5 (Int.toNat x9_5) (List.getD lh2_5 (Int.toNat (w64 (x9_5 - 1))) 0)) (Int.toNat (w64 (x9_5 - 1))) (List.getD lh2_5 (Int.toNat x9_5) 0)) o h Q hQ) (by first | rfl | simp)
          | false =>
            have h := cF b4 h
            refine XQ.cond (s := (.tmp 34)) (b := false) (by kernel_rfl) (by kernel_rfl) (fun q => by cases q) (fun _ => ?_)
            refine XQ.ren (σ' := [(0, s0 2 lh2_5.length), (1, ii 0), (2, ii x2_3), (3, .func (.func 57) #[] #[]), (8, ii x8_4)]) (h' := [(2, rc (encI .i64) lh2_5 0 3 1), (0, rc (encI .i64) lh0_3 0 3 1)]) (c' := 3) [0, 1, 2] (by decide) rfl ⟨by kernel_rfl, by kernel_rfl, by kernel_rfl, by kernel_rfl, by kernel_rfl, trivial⟩ ⟨⟨_, _, rfl, rfl, .inl ⟨rfl, rowC_scal (encI_ok .i64) _⟩⟩, ⟨_, _, rfl, rfl, .inl ⟨rfl, rowC_scal (encI_ok .i64) _⟩⟩, trivial⟩ rfl ?_
            refine XQ.exit (i := 2) (by kernel_rfl) ?_
            cases h
            exact hQ
    | false =>
      have h := cF b1 h
      refine XU.run E0_ok 1 13 [0, 1, 2, 3, 8, 9, 34] rfl (σ' := [(0, s0 2 lh2_5.length), (1, ii 0), (2, ii x2_3), (3, .func (.func 57) #[] #[]), (8, ii x8_4), (9, ii x9_5), (34, .bool false)]) (by kernel_rfl) ?_
      refine XU.done (by kernel_rfl) ?_
      show XQ _ _ _ _ _ _ _ _
      refine XQ.cond (s := (.tmp 34)) (b := false) (by kernel_rfl) (by kernel_rfl) (fun q => by cases q) (fun _ => ?_)
      refine XQ.ren (σ' := [(0, s0 2 lh2_5.length), (1, ii 0), (2, ii x2_3), (3, .func (.func 57) #[] #[]), (8, ii x8_4)]) (h' := [(2, rc (encI .i64) lh2_5 0 3 1), (0, rc (encI .i64) lh0_3 0 3 1)]) (c' := 3) [0, 1, 2] (by decide) rfl ⟨by kernel_rfl, by kernel_rfl, by kernel_rfl, by kernel_rfl, by kernel_rfl, trivial⟩ ⟨⟨_, _, rfl, rfl, .inl ⟨rfl, rowC_scal (encI_ok .i64) _⟩⟩, ⟨_, _, rfl, rfl, .inl ⟨rfl, rowC_scal (encI_ok .i64) _⟩⟩, trivial⟩ rfl ?_
      refine XQ.exit (i := 2) (by kernel_rfl) ?_
      cases h
      exact hQ

def f13_4 (m : Nat) : Nat → Int → List Int → Int → List Int → Option (List Int)
  | 0, _, _, _, _ => none
  | fuel + 1, x2_3, lh0_3, x8_4, lh2_4 =>
    cond (decide (x8_4 < x2_3)) (
      (f13_5 m m x2_3 lh0_3 x8_4 x8_4 lh2_4).bind fun o5 =>
        f13_4 m fuel x2_3 lh0_3 (w64 (x8_4 + 1)) o5
    ) (
      some (lh2_4)
    )

theorem f13_4_ok (m : Nat) : ∀ (fuel : Nat) (x2_3 : Int) (lh0_3 : List Int) (x8_4 : Int) (lh2_4 : List Int) (o : (List Int)), f13_4 m fuel x2_3 lh0_3 x8_4 lh2_4 = some o → ∀ Q : QP, Q (.exit 0) [] [(2, rc (encI .i64) o 0 3 1), (0, rc (encI .i64) lh0_3 0 3 1)] 3 → XL E0 53 3 fuel f13_L3 [(0, s0 2 lh2_4.length), (1, ii 0), (2, ii x2_3), (3, .func (.func 57) #[] #[]), (8, ii x8_4)] [(2, rc (encI .i64) lh2_4 0 3 1), (0, rc (encI .i64) lh0_3 0 3 1)] 3 Q
  | 0, x2_3, lh0_3, x8_4, lh2_4, o, h, Q, hQ => by cases h
  | fuel + 1, x2_3, lh0_3, x8_4, lh2_4, o, h, Q, hQ => by
    unfold f13_4 at h
    refine XL.succ E0_ok ?_
    refine XQ.seq E0_ok (by kernel_rfl) ?_
    refine XQ.seq E0_ok (by kernel_rfl) ?_
    refine XQ.region (by kernel_rfl) ?_
    refine XR.runS E0_ok 1 3 [(0, s0 2 lh2_4.length), (1, ii 0), (2, ii x2_3), (3, .func (.func 57) #[] #[]), (8, ii x8_4), (14, .bool (decide (x8_4 < x2_3)))] rfl (by kernel_rfl) ?_
    refine XR.done (by kernel_rfl) ?_
    show XQ _ _ _ _ _ _ _ _
    cases b1 : (decide (x8_4 < x2_3) : Bool) with
    | true =>
      have h := cT b1 h
      refine XQ.cond (s := (.tmp 14)) (b := true) (by kernel_rfl) (by kernel_rfl) (fun _ => ?_) (fun q => by cases q)
      refine XQ.skip (by kernel_rfl) ?_
      show XQ _ _ _ _ _ _ _ _
      refine XQ.seq E0_ok (by kernel_rfl) ?_
      refine XQ.block (id := 1) (by kernel_rfl) ?_
      refine XQ.seq E0_ok (by kernel_rfl) ?_
      refine XQ.region (by kernel_rfl) ?_
      refine XR.runS E0_ok 1 2 [(0, s0 2 lh2_4.length), (1, ii 0), (2, ii x2_3), (3, .func (.func 57) #[] #[]), (8, ii x8_4), (9, ii x8_4)] rfl (by kernel_rfl) ?_
      refine XR.done (by kernel_rfl) ?_
      show XQ _ _ _ _ _ _ _ _
      refine XQ.block (id := 2) (by kernel_rfl) ?_
      refine XQ.loop m (by kernel_rfl) ?_
      obtain ⟨o5, o5_h, h⟩ := bS h
      refine XL.ren (σ' := [(0, s0 2 lh2_4.length), (1, ii 0), (2, ii x2_3), (3, .func (.func 57) #[] #[]), (8, ii x8_4), (9, ii x8_4)]) (h' := [(2, rc (encI .i64) lh2_4 0 3 1), (0, rc (encI .i64) lh0_3 0 3 1)]) (c' := 3) [0, 1, 2] (by decide) rfl ⟨by kernel_rfl, by kernel_rfl, by kernel_rfl, by kernel_rfl, by kernel_rfl, by kernel_rfl, trivial⟩ ⟨⟨_, _, rfl, rfl, .inl ⟨rfl, rowC_scal (encI_ok .i64) _⟩⟩, ⟨_, _, rfl, rfl, .inl ⟨rfl, rowC_scal (encI_ok .i64) _⟩⟩, trivial⟩ rfl ?_
      refine XL.conv (f13_5_ok m m x2_3 lh0_3 x8_4 x8_4 lh2_4 o5 o5_h _ ?_) (by first | rfl | simp)
      show XQ _ _ _ _ _ _ _ _
      refine XQ.region (by kernel_rfl) ?_
      refine XR.runS E0_ok 1 3 [(0, s0 2 o5.length), (1, ii 0), (2, ii x2_3), (3, .func (.func 57) #[] #[]), (8, ii (w64 (x8_4 + 1)))] rfl (by kernel_rfl) ?_
      refine XR.done (by kernel_rfl) ?_
      show XL _ _ _ _ _ _ _ _ _
      refine XL.ren (σ' := [(0, s0 2 o5.length), (1, ii 0), (2, ii x2_3), (3, .func (.func 57) #[] #[]), (8, ii (w64 (x8_4 + 1)))]) (h' := [(2, rc (encI .i64) o5 0 3 1), (0, rc (encI .i64) lh0_3 0 3 1)]) (c' := 3) [0, 1, 2] (by decide) rfl ⟨by kernel_rfl, by kernel_rfl, by kernel_rfl, by kernel_rfl, by kernel_rfl, trivial⟩ ⟨⟨_, _, rfl, rfl, .inl ⟨rfl, rowC_scal (encI_ok .i64) _⟩⟩, ⟨_, _, rfl, rfl, .inl ⟨rfl, rowC_scal (encI_ok .i64) _⟩⟩, trivial⟩ rfl ?_
      refine XL.conv (f13_4_ok m fuel x2_3 lh0_3 (w64 (x8_4 + 1)) o5 o h Q hQ) (by first | rfl | simp)
    | false =>
      have h := cF b1 h
      refine XQ.cond (s := (.tmp 14)) (b := false) (by kernel_rfl) (by kernel_rfl) (fun q => by cases q) (fun _ => ?_)
      refine XQ.ren (σ' := []) (h' := [(2, rc (encI .i64) lh2_4 0 3 1), (0, rc (encI .i64) lh0_3 0 3 1)]) (c' := 3) [0, 1, 2] (by decide) rfl trivial ⟨⟨_, _, rfl, rfl, .inl ⟨rfl, rowC_scal (encI_ok .i64) _⟩⟩, ⟨_, _, rfl, rfl, .inl ⟨rfl, rowC_scal (encI_ok .i64) _⟩⟩, trivial⟩ rfl ?_
      refine XQ.exit (i := 0) (by kernel_rfl) ?_
      cases h
      exact hQ

def f13_3 (m : Nat) : Nat → (List Int) → Int → Int → List Int → Option ((List Int) × (List Int))
  | 0, _, _, _, _ => none
  | fuel + 1, o2, x2_3, x3_3, lh0_3 =>
    cond (decide ((w64 (x2_3 - 0)) ≤ 12)) (
      (f13_4 m m x2_3 lh0_3 1 o2).bind fun o4 =>
        some (lh0_3, o4)
    ) none

theorem f13_3_ok (m : Nat) : ∀ (fuel : Nat) (o2 : (List Int)) (x2_3 : Int) (x3_3 : Int) (lh0_3 : List Int) (o : ((List Int) × (List Int))), f13_3 m fuel o2 x2_3 x3_3 lh0_3 = some o → ∀ Q : QP, Q .ret [] [(2, rc (encI .i64) o.2 0 3 1), (0, rc (encI .i64) o.1 0 3 1)] 3 → XL E0 148 3 fuel f13_L2 [(0, s0 2 o2.length), (1, ii 0), (2, ii x2_3), (3, ii x3_3), (4, .func (.func 57) #[] #[]), (10, .bool true), (11, .bool true)] [(2, rc (encI .i64) o2 0 3 1), (0, rc (encI .i64) lh0_3 0 3 1)] 3 Q
  | 0, o2, x2_3, x3_3, lh0_3, o, h, Q, hQ => by cases h
  | fuel + 1, o2, x2_3, x3_3, lh0_3, o, h, Q, hQ => by
    unfold f13_3 at h
    refine XL.succ E0_ok ?_
    refine XQ.block (id := 1) (by kernel_rfl) ?_
    refine XQ.seq E0_ok (by kernel_rfl) ?_
    refine XQ.region (by kernel_rfl) ?_
    refine XR.runS E0_ok 1 4 [(0, s0 2 o2.length), (1, ii 0), (2, ii x2_3), (3, ii x3_3), (4, .func (.func 57) #[] #[]), (10, .bool true), (11, .bool true), (12, ii (w64 (x2_3 - 0)))] rfl (by kernel_rfl) ?_
    refine XR.done (by kernel_rfl) ?_
    show XQ _ _ _ _ _ _ _ _
    refine XQ.seq E0_ok (by kernel_rfl) ?_
    refine XQ.seq E0_ok (by kernel_rfl) ?_
    refine XQ.region (by kernel_rfl) ?_
    refine XR.runS E0_ok 1 2 [(0, s0 2 o2.length), (1, ii 0), (2, ii x2_3), (3, ii x3_3), (4, .func (.func 57) #[] #[]), (10, .bool true), (11, .bool true), (12, ii (w64 (x2_3 - 0))), (25, .bool (decide ((w64 (x2_3 - 0)) ≤ 12)))] rfl (by kernel_rfl) ?_
    refine XR.done (by kernel_rfl) ?_
    show XQ _ _ _ _ _ _ _ _
    cases b1 : (decide ((w64 (x2_3 - 0)) ≤ 12) : Bool) with
    | false => cases (cF b1 h)
    | true =>
      have h := cT b1 h
      refine XQ.cond (s := (.tmp 25)) (b := true) (by kernel_rfl) (by kernel_rfl) (fun _ => ?_) (fun q => by cases q)
      refine XQ.seq E0_ok (by kernel_rfl) ?_
      refine XQ.region (by kernel_rfl) ?_
      refine XR.runS E0_ok 1 4 [(26, s0 2 o2.length), (27, ii 0), (28, ii x2_3), (29, .func (.func 57) #[] #[])] rfl (by kernel_rfl) ?_
      refine XR.callK E0_ok [] rfl (K := 107) (args := [s0 2 o2.length, ii 0, ii x2_3, .func (.func 57) #[] #[]]) (d := (some (path 12 30))) (by kernel_rfl) ?_
      refine KC.bodyN E0_ok (F := Proofs.Tryd.f107) (by kernel_rfl) (code := f13_C107) (by kernel_rfl) (nt := 53) (by kernel_rfl) (rs := []) (by kernel_rfl) (by kernel_rfl) (σ := [(0, s0 2 o2.length), (1, ii 0), (2, ii x2_3), (3, .func (.func 57) #[] #[])]) (by kernel_rfl) ?_
      refine XQ.seq E0_ok (by kernel_rfl) ?_
      refine XQ.region (by kernel_rfl) ?_
      refine XR.runS E0_ok 1 3 [(0, s0 2 o2.length), (1, ii 0), (2, ii x2_3), (3, .func (.func 57) #[] #[]), (8, ii 1)] rfl (by kernel_rfl) ?_
      refine XR.done (by kernel_rfl) ?_
      show XQ _ _ _ _ _ _ _ _
      refine XQ.block (id := 0) (by kernel_rfl) ?_
      refine XQ.loop m (by kernel_rfl) ?_
      obtain ⟨o4, o4_h, h⟩ := bS h
      refine XL.ren (σ' := [(0, s0 2 o2.length), (1, ii 0), (2, ii x2_3), (3, .func (.func 57) #[] #[]), (8, ii 1)]) (h' := [(2, rc (encI .i64) o2 0 3 1), (0, rc (encI .i64) lh0_3 0 3 1)]) (c' := 3) [0, 1, 2] (by decide) rfl ⟨by kernel_rfl, by kernel_rfl, by kernel_rfl, by kernel_rfl, by kernel_rfl, trivial⟩ ⟨⟨_, _, rfl, rfl, .inl ⟨rfl, rowC_scal (encI_ok .i64) _⟩⟩, ⟨_, _, rfl, rfl, .inl ⟨rfl, rowC_scal (encI_ok .i64) _⟩⟩, trivial⟩ rfl ?_
      refine XL.conv (f13_4_ok m m x2_3 lh0_3 1 o2 o4 o4_h _ ?_) (by first | rfl | simp)
      refine ⟨fun i q => (by cases q), .tuple #[], (by kernel_rfl), ?_⟩
      refine XR.conv (σ' := []) (h' := [(2, rc (encI .i64) o4 0 3 1), (0, rc (encI .i64) lh0_3 0 3 1)]) (c' := 3) ?_ (by kernel_rfl)
      refine XR.done (by kernel_rfl) ?_
      show XQ _ _ _ _ _ _ _ _
      refine XQ.ren (σ' := []) (h' := [(2, rc (encI .i64) o4 0 3 1), (0, rc (encI .i64) lh0_3 0 3 1)]) (c' := 3) [0, 1, 2] (by decide) rfl trivial ⟨⟨_, _, rfl, rfl, .inl ⟨rfl, rowC_scal (encI_ok .i64) _⟩⟩, ⟨_, _, rfl, rfl, .inl ⟨rfl, rowC_scal (encI_ok .i64) _⟩⟩, trivial⟩ rfl ?_
      refine XQ.ret (by kernel_rfl) ?_
      cases h
      exact hQ

def f13_6 (m : Nat) : Nat → Int → Bool → Int → Int → List Int → Option (Int × Bool × (List Int))
  | 0, _, _, _, _, _ => none
  | fuel + 1, x7_6, b11_6, x81_6, x82_6, lh0_6 =>
    cond (decide (x82_6 < x81_6)) (
      cond (inRow x82_6 lh0_6.length) (
        f13_6 m fuel x7_6 b11_6 x81_6 (w64 (x82_6 + 1)) (List.set lh0_6 (Int.toNat x82_6) (w64 ((List.getD lh0_6 (Int.toNat x82_6) 0) - 1)))
      ) none
    ) (
      some (x7_6, b11_6, lh0_6)
    )

theorem f13_6_ok (m : Nat) : ∀ (fuel : Nat) (x7_6 : Int) (b11_6 : Bool) (x81_6 : Int) (x82_6 : Int) (lh0_6 : List Int) (o : (Int × Bool × (List Int))), f13_6 m fuel x7_6 b11_6 x81_6 x82_6 lh0_6 = some o → ∀ Q : QP, Q (.exit 2) [(7, ii o.1), (11, .bool o.2.1), (13, s0 0 o.2.2.length)] [(0, rc (encI .i64) o.2.2 0 3 1)] 1 → XL E0 117 0 fuel f13_L5 [(7, ii x7_6), (11, .bool b11_6), (13, s0 0 lh0_6.length), (81, ii x81_6), (82, ii x82_6)] [(0, rc (encI .i64) lh0_6 0 3 1)] 1 Q
  | 0, x7_6, b11_6, x81_6, x82_6, lh0_6, o, h, Q, hQ => by cases h
  | fuel + 1, x7_6, b11_6, x81_6, x82_6, lh0_6, o, h, Q, hQ => by
    unfold f13_6 at h
    refine XL.succ E0_ok ?_
    refine XQ.seq E0_ok (by kernel_rfl) ?_
    refine XQ.region (by kernel_rfl) ?_
    refine XR.runS E0_ok 1 1 [(7, ii x7_6), (11, .bool b11_6), (13, s0 0 lh0_6.length), (81, ii x81_6), (82, ii x82_6), (83, .bool (decide (x82_6 < x81_6)))] rfl (by kernel_rfl) ?_
    refine XR.done (by kernel_rfl) ?_
    show XQ _ _ _ _ _ _ _ _
    refine XQ.seq E0_ok (by kernel_rfl) ?_
    cases b1 : (decide (x82_6 < x81_6) : Bool) with
    | true =>
      have h := cT b1 h
      refine XQ.cond (s := (.tmp 83)) (b := true) (by kernel_rfl) (by kernel_rfl) (fun _ => ?_) (fun q => by cases q)
      refine XQ.skip (by kernel_rfl) ?_
      show XQ _ _ _ _ _ _ _ _
      refine XQ.seq E0_ok (by kernel_rfl) ?_
      refine XQ.block (id := 3) (by kernel_rfl) ?_
      refine XQ.seq E0_ok (by kernel_rfl) ?_
      refine XQ.region (by kernel_rfl) ?_
      refine XR.runS E0_ok 1 2 [(7, ii x7_6), (11, .bool b11_6), (13, s0 0 lh0_6.length), (14, ii x82_6), (81, ii x81_6), (82, ii x82_6)] rfl (by kernel_rfl) ?_
      refine XR.done (by kernel_rfl) ?_
      show XQ _ _ _ _ _ _ _ _
      refine XQ.region (by kernel_rfl) ?_
      refine XR.runS E0_ok 1 2 [(7, ii x7_6), (11, .bool b11_6), (13, s0 0 lh0_6.length), (81, ii x81_6), (82, ii x82_6), (85, s0 0 lh0_6.length), (86, ii x82_6)] rfl (by kernel_rfl) ?_
      cases b2 : (inRow x82_6 lh0_6.length : Bool) with
      | false => cases (cF b2 h)
      | true =>
        have h := cT b2 h
        refine XR.rd E0_ok [7, 11, 13, 81, 82, 85, 86, 87] rfl (v := pp 0 ((Int.toNat x82_6) * 1)) (v_idx (s := 1) (x := (src 117 (.tmp 85))) (y := (src 117 (.tmp 86))) (b := 0) (o := 0) (len := lh0_6.length) (cap := lh0_6.length) (ik := .i64) (i := x82_6) (off := (Int.toNat x82_6) * 1) (d := (some (path 12 87))) (by kernel_rfl) (by kernel_rfl) (by kernel_rfl) b2 (by omega)) (σ' := [(7, ii x7_6), (11, .bool b11_6), (13, s0 0 lh0_6.length), (81, ii x81_6), (82, ii x82_6), (85, s0 0 lh0_6.length), (86, ii x82_6), (87, pp 0 ((Int.toNat x82_6) * 1))]) (by kernel_rfl) ?_
        refine XR.rd E0_ok [7, 11, 13, 81, 82, 85, 86, 88] rfl (v := ii (List.getD lh0_6 (Int.toNat x82_6) 0)) (v_load1 (encI_ok .i64) (x := (src 117 (.tmp 87))) (b := 0) (off := (Int.toNat x82_6) * 1) (xs := lh0_6) (fz := 0) (e := 3) (es := 1) (d := (some (path 12 88))) (by kernel_rfl) (by kernel_rfl) (by kernel_rfl) (Int.toNat x82_6) 0 0 (by first | rfl | omega) (row_len (inRow_toNat b2) (by simp)) rfl rfl) (σ' := [(7, ii x7_6), (11, .bool b11_6), (13, s0 0 lh0_6.length), (81, ii x81_6), (82, ii x82_6), (85, s0 0 lh0_6.length), (86, ii x82_6), (88, ii (List.getD lh0_6 (Int.toNat x82_6) 0))]) (by kernel_rfl) ?_
        refine XR.runS E0_ok 1 1 [(7, ii x7_6), (11, .bool b11_6), (13, s0 0 lh0_6.length), (81, ii x81_6), (82, ii x82_6), (85, s0 0 lh0_6.length), (86, ii x82_6), (89, ii (w64 ((List.getD lh0_6 (Int.toNat x82_6) 0) - 1)))] rfl (by kernel_rfl) ?_
        refine XR.rd E0_ok [7, 11, 13, 81, 82, 89, 90] rfl (v := pp 0 ((Int.toNat x82_6) * 1)) (v_idx (s := 1) (x := (src 117 (.tmp 85))) (y := (src 117 (.tmp 86))) (b := 0) (o := 0) (len := lh0_6.length) (cap := lh0_6.length) (ik := .i64) (i := x82_6) (off := (Int.toNat x82_6) * 1) (d := (some (path 12 90))) (by kernel_rfl) (by kernel_rfl) (by kernel_rfl) b2 (by omega)) (σ' := [(7, ii x7_6), (11, .bool b11_6), (13, s0 0 lh0_6.length), (81, ii x81_6), (82, ii x82_6), (89, ii (w64 ((List.getD lh0_6 (Int.toNat x82_6) 0) - 1))), (90, pp 0 ((Int.toNat x82_6) * 1))]) (by kernel_rfl) ?_
        refine XR.ef E0_ok [7, 11, 13, 81, 82] rfl (e_store (encI_ok .i64) (size := 1) (x := (src 117 (.tmp 90))) (y := (src 117 (.tmp 89))) (b := 0) (off := (Int.toNat x82_6) * 1) (xs := lh0_6) (e := 3) (es := 1) (d := none) (h' := [(0, rc (encI .i64) (List.set lh0_6 (Int.toNat x82_6) (w64 ((List.getD lh0_6 (Int.toNat x82_6) 0) - 1))) 0 3 1)]) (w := ii (w64 ((List.getD lh0_6 (Int.toNat x82_6) 0) - 1))) (ws := [ii (w64 ((List.getD lh0_6 (Int.toNat x82_6) 0) - 1))]) (a := w64 ((List.getD lh0_6 (Int.toNat x82_6) 0) - 1)) (by kernel_rfl) (by kernel_rfl) (by kernel_rfl) (Int.toNat x82_6) 0 0 (by first | rfl | omega) (row_len (inRow_toNat b2) (by simp)) (by kernel_rfl) rfl rfl rfl rfl rfl (by kernel_rfl)) (σ' := [(7, ii x7_6), (11, .bool b11_6), (13, s0 0 lh0_6.length), (81, ii x81_6), (82, ii x82_6)]) (by kernel_rfl) ?_
        refine XR.done (by kernel_rfl) ?_
        show XQ _ _ _ _ _ _ _ _
        refine XQ.region (by kernel_rfl) ?_
        refine XR.runS E0_ok 1 2 [(7, ii x7_6), (11, .bool b11_6), (13, s0 0 lh0_6.length), (81, ii x81_6), (82, ii (w64 (x82_6 + 1)))] rfl (by kernel_rfl) ?_
        refine XR.done (by kernel_rfl) ?_
        show XL _ _ _ _ _ _ _ _ _
        refine XL.ren (σ' := [(7, ii x7_6), (11, .bool b11_6), (13, s0 0 lh0_6.length), (81, ii x81_6), (82, ii (w64 (x82_6 + 1)))]) (h' := [(0, rc (encI .i64) (List.set lh0_6 (Int.toNat x82_6) (w64 ((List.getD lh0_6 (Int.toNat x82_6) 0) - 1))) 0 3 1)]) (c' := 1) [0] (by decide) rfl ⟨by kernel_rfl, by kernel_rfl, by kernel_rfl, by kernel_rfl, by kernel_rfl, trivial⟩ ⟨⟨_, _, rfl, rfl, .inl ⟨rfl, rowC_scal (encI_ok .i64) _⟩⟩, trivial⟩ rfl ?_
        refine XL.conv (f13_6_ok m fuel x7_6 b11_6 x81_6 (w64 (x82_6 + 1)) (List.set lh0_6 (Int.toNat x82_6) (w64 ((List.getD lh0_6 (Int.toNat x82_6) 0) - 1))) o h Q hQ) (by first | rfl | simp)
    | false =>
      have h := cF b1 h
      refine XQ.cond (s := (.tmp 83)) (b := false) (by kernel_rfl) (by kernel_rfl) (fun q => by cases q) (fun _ => ?_)
      refine XQ.ren (σ' := [(7, ii x7_6), (11, .bool b11_6), (13, s0 0 lh0_6.length)]) (h' := [(0, rc (encI .i64) lh0_6 0 3 1)]) (c' := 1) [0] (by decide) rfl ⟨by kernel_rfl, by kernel_rfl, by kernel_rfl, trivial⟩ ⟨⟨_, _, rfl, rfl, .inl ⟨rfl, rowC_scal (encI_ok .i64) _⟩⟩, trivial⟩ rfl ?_
      refine XQ.exit (i := 2) (by kernel_rfl) ?_
      cases h
      exact hQ

def f13_7 (m : Nat) : Nat → Int → Int → List Int → Option (Int × (List Int))
  | 0, _, _, _ => none
  | fuel + 1, x3_7, x4_7, lh0_7 =>
    cond (decide (x4_7 < ((lh0_7.length : Nat) : Int))) (
      cond (inRow x4_7 lh0_7.length) (
        f13_7 m fuel (iMax x3_7 (List.getD lh0_7 (Int.toNat x4_7) 0)) (w64 (x4_7 + 1)) lh0_7
      ) none
    ) (
      some (x3_7, lh0_7)
    )

theorem f13_7_ok (m : Nat) : ∀ (fuel : Nat) (x3_7 : Int) (x4_7 : Int) (lh0_7 : List Int) (o : (Int × (List Int))), f13_7 m fuel x3_7 x4_7 lh0_7 = some o → ∀ Q : QP, Q (.exit 0) [(3, ii o.1)] [(0, rc (encI .i64) o.2 0 3 1)] 1 → XL E0 25 1 fuel f13_L6 [(0, s0 0 lh0_7.length), (3, ii x3_7), (4, ii x4_7)] [(0, rc (encI .i64) lh0_7 0 3 1)] 1 Q
  | 0, x3_7, x4_7, lh0_7, o, h, Q, hQ => by cases h
  | fuel + 1, x3_7, x4_7, lh0_7, o, h, Q, hQ => by
    unfold f13_7 at h
    refine XL.succ E0_ok ?_
    refine XQ.seq E0_ok (by kernel_rfl) ?_
    refine XQ.seq E0_ok (by kernel_rfl) ?_
    refine XQ.region (by kernel_rfl) ?_
    refine XR.runS E0_ok 1 4 [(0, s0 0 lh0_7.length), (3, ii x3_7), (4, ii x4_7), (15, .bool (decide (x4_7 < ((lh0_7.length : Nat) : Int))))] rfl (by kernel_rfl) ?_
    refine XR.done (by kernel_rfl) ?_
    show XQ _ _ _ _ _ _ _ _
    cases b1 : (decide (x4_7 < ((lh0_7.length : Nat) : Int)) : Bool) with
    | true =>
      have h := cT b1 h
      refine XQ.cond (s := (.tmp 15)) (b := true) (by kernel_rfl) (by kernel_rfl) (fun _ => ?_) (fun q => by cases q)
      refine XQ.skip (by kernel_rfl) ?_
      show XQ _ _ _ _ _ _ _ _
      refine XQ.seq E0_ok (by kernel_rfl) ?_
      refine XQ.block (id := 1) (by kernel_rfl) ?_
      refine XQ.region (by kernel_rfl) ?_
      refine XR.runS E0_ok 1 3 [(0, s0 0 lh0_7.length), (4, ii x4_7), (18, ii x3_7), (19, s0 0 lh0_7.length), (20, ii x4_7)] rfl (by kernel_rfl) ?_
      cases b2 : (inRow x4_7 lh0_7.length : Bool) with
      | false => cases (cF b2 h)
      | true =>
        have h := cT b2 h
        refine XR.rd E0_ok [0, 4, 18, 21] rfl (v := pp 0 ((Int.toNat x4_7) * 1)) (v_idx (s := 1) (x := (src 25 (.tmp 19))) (y := (src 25 (.tmp 20))) (b := 0) (o := 0) (len := lh0_7.length) (cap := lh0_7.length) (ik := .i64) (i := x4_7) (off := (Int.toNat x4_7) * 1) (d := (some (path 12 21))) (by kernel_rfl) (by kernel_rfl) (by kernel_rfl) b2 (by omega)) (σ' := [(0, s0 0 lh0_7.length), (4, ii x4_7), (18, ii x3_7), (21, pp 0 ((Int.toNat x4_7) * 1))]) (by kernel_rfl) ?_
        refine XR.rd E0_ok [0, 4, 18, 22] rfl (v := ii (List.getD lh0_7 (Int.toNat x4_7) 0)) (v_load1 (encI_ok .i64) (x := (src 25 (.tmp 21))) (b := 0) (off := (Int.toNat x4_7) * 1) (xs := lh0_7) (fz := 0) (e := 3) (es := 1) (d := (some (path 12 22))) (by kernel_rfl) (by kernel_rfl) (by kernel_rfl) (Int.toNat x4_7) 0 0 (by first | rfl | omega) (row_len (inRow_toNat b2) (by simp)) rfl rfl) (σ' := [(0, s0 0 lh0_7.length), (4, ii x4_7), (18, ii x3_7), (22, ii (List.getD lh0_7 (Int.toNat x4_7) 0))]) (by kernel_rfl) ?_
        refine XR.runS E0_ok 1 2 [(0, s0 0 lh0_7.length), (3, ii (iMax x3_7 (List.getD lh0_7 (Int.toNat x4_7) 0))), (4, ii x4_7)] rfl (by kernel_rfl) ?_
        refine XR.done (by kernel_rfl) ?_
        show XQ _ _ _ _ _ _ _ _
        refine XQ.region (by kernel_rfl) ?_
        refine XR.runS E0_ok 1 3 [(0, s0 0 lh0_7.length), (3, ii (iMax x3_7 (List.getD lh0_7 (Int.toNat x4_7) 0))), (4, ii (w64 (x4_7 + 1)))] rfl (by kernel_rfl) ?_
        refine XR.done (by kernel_rfl) ?_
        show XL _ _ _ _ _ _ _ _ _
        refine XL.ren (σ' := [(0, s0 0 lh0_7.length), (3, ii (iMax x3_7 (List.getD lh0_7 (Int.toNat x4_7) 0))), (4, ii (w64 (x4_7 + 1)))]) (h' := [(0, rc (encI .i64) lh0_7 0 3 1)]) (c' := 1) [0] (by decide) rfl ⟨by kernel_rfl, by kernel_rfl, by kernel_rfl, trivial⟩ ⟨⟨_, _, rfl, rfl, .inl ⟨rfl, rowC_scal (encI_ok .i64) _⟩⟩, trivial⟩ rfl ?_
        refine XL.conv (f13_7_ok m fuel (iMax x3_7 (List.getD lh0_7 (Int.toNat x4_7) 0)) (w64 (x4_7 + 1)) lh0_7 o h Q hQ) (by first | rfl | simp)
    | false =>
      have h := cF b1 h
      refine XQ.cond (s := (.tmp 15)) (b := false) (by kernel_rfl) (by kernel_rfl) (fun q => by cases q) (fun _ => ?_)
      refine XQ.ren (σ' := [(3, ii x3_7)]) (h' := [(0, rc (encI .i64) lh0_7 0 3 1)]) (c' := 1) [0] (by decide) rfl ⟨by kernel_rfl, trivial⟩ ⟨⟨_, _, rfl, rfl, .inl ⟨rfl, rowC_scal (encI_ok .i64) _⟩⟩, trivial⟩ rfl ?_
      refine XQ.exit (i := 0) (by kernel_rfl) ?_
      cases h
      exact hQ

def f13_8 (m : Nat) : Nat → Int → Bool → Int → Int → List Int → Option (Int × Bool × (List Int))
  | 0, _, _, _, _, _ => none
  | fuel + 1, x7_8, b11_8, x81_8, x82_8, lh0_8 =>
    cond (decide (x82_8 < x81_8)) (
      cond (inRow x82_8 lh0_8.length) (
        f13_8 m fuel x7_8 b11_8 x81_8 (w64 (x82_8 + 1)) (List.set lh0_8 (Int.toNat x82_8) (w64 ((List.getD lh0_8 (Int.toNat x82_8) 0) - 1)))
      ) none
    ) (
      some (x7_8, b11_8, lh0_8)
    )

theorem f13_8_ok (m : Nat) : ∀ (fuel : Nat) (x7_8 : Int) (b11_8 : Bool) (x81_8 : Int) (x82_8 : Int) (lh0_8 : List Int) (o : (Int × Bool × (List Int))), f13_8 m fuel x7_8 b11_8 x81_8 x82_8 lh0_8 = some o → ∀ Q : QP, Q (.exit 2) [(7, ii o.1), (11, .bool o.2.1), (13, s0 0 o.2.2.length)] [(0, rc (encI .i64) o.2.2 0 3 1)] 1 → XL E0 117 0 fuel f13_L7 [(7, ii x7_8), (11, .bool b11_8), (13, s0 0 lh0_8.length), (81, ii x81_8), (82, ii x82_8)] [(0, rc (encI .i64) lh0_8 0 3 1)] 1 Q
  | 0, x7_8, b11_8, x81_8, x82_8, lh0_8, o, h, Q, hQ => by cases h
  | fuel + 1, x7_8, b11_8, x81_8, x82_8, lh0_8, o, h, Q, hQ => by
    unfold f13_8 at h
    refine XL.succ E0_ok ?_
    refine XQ.seq E0_ok (by kernel_rfl) ?_
    refine XQ.region (by kernel_rfl) ?_
    refine XR.runS E0_ok 1 1 [(7, ii x7_8), (11, .bool b11_8), (13, s0 0 lh0_8.length), (81, ii x81_8), (82, ii x82_8), (83, .bool (decide (x82_8 < x81_8)))] rfl (by kernel_rfl) ?_
    refine XR.done (by kernel_rfl) ?_
    show XQ _ _ _ _ _ _ _ _
    refine XQ.seq E0_ok (by kernel_rfl) ?_
    cases b1 : (decide (x82_8 < x81_8) : Bool) with
    | true =>
      have h := cT b1 h
      refine XQ.cond (s := (.tmp 83)) (b := true) (by kernel_rfl) (by kernel_rfl) (fun _ => ?_) (fun q => by cases q)
      refine XQ.skip (by kernel_rfl) ?_
      show XQ _ _ _ _ _ _ _ _
      refine XQ.seq E0_ok (by kernel_rfl) ?_
      refine XQ.block (id := 3) (by kernel_rfl) ?_
      refine XQ.seq E0_ok (by kernel_rfl) ?_
      refine XQ.region (by kernel_rfl) ?_
      refine XR.runS E0_ok 1 2 [(7, ii x7_8), (11, .bool b11_8), (13, s0 0 lh0_8.length), (14, ii x82_8), (81, ii x81_8), (82, ii x82_8)] rfl (by kernel_rfl) ?_
      refine XR.done (by kernel_rfl) ?_
      show XQ _ _ _ _ _ _ _ _
      refine XQ.region (by kernel_rfl) ?_
      refine XR.runS E0_ok 1 2 [(7, ii x7_8), (11, .bool b11_8), (13, s0 0 lh0_8.length), (81, ii x81_8), (82, ii x82_8), (85, s0 0 lh0_8.length), (86, ii x82_8)] rfl (by kernel_rfl) ?_
      cases b2 : (inRow x82_8 lh0_8.length : Bool) with
      | false => cases (cF b2 h)
      | true =>
        have h := cT b2 h
        refine XR.rd E0_ok [7, 11, 13, 81, 82, 85, 86, 87] rfl (v := pp 0 ((Int.toNat x82_8) * 1)) (v_idx (s := 1) (x := (src 117 (.tmp 85))) (y := (src 117 (.tmp 86))) (b := 0) (o := 0) (len := lh0_8.length) (cap := lh0_8.length) (ik := .i64) (i := x82_8) (off := (Int.toNat x82_8) * 1) (d := (some (path 12 87))) (by kernel_rfl) (by kernel_rfl) (by kernel_rfl) b2 (by omega)) (σ' := [(7, ii x7_8), (11, .bool b11_8), (13, s0 0 lh0_8.length), (81, ii x81_8), (82, ii x82_8), (85, s0 0 lh0_8.length), (86, ii x82_8), (87, pp 0 ((Int.toNat x82_8) * 1))]) (by kernel_rfl) ?_
        refine XR.rd E0_ok [7, 11, 13, 81, 82, 85, 86, 88] rfl (v := ii (List.getD lh0_8 (Int.toNat x82_8) 0)) (v_load1 (encI_ok .i64) (x := (src 117 (.tmp 87))) (b := 0) (off := (Int.toNat x82_8) * 1) (xs := lh0_8) (fz := 0) (e := 3) (es := 1) (d := (some (path 12 88))) (by kernel_rfl) (by kernel_rfl) (by kernel_rfl) (Int.toNat x82_8) 0 0 (by first | rfl | omega) (row_len (inRow_toNat b2) (by simp)) rfl rfl) (σ' := [(7, ii x7_8), (11, .bool b11_8), (13, s0 0 lh0_8.length), (81, ii x81_8), (82, ii x82_8), (85, s0 0 lh0_8.length), (86, ii x82_8), (88, ii (List.getD lh0_8 (Int.toNat x82_8) 0))]) (by kernel_rfl) ?_
        refine XR.runS E0_ok 1 1 [(7, ii x7_8), (11, .bool b11_8), (13, s0 0 lh0_8.length), (81, ii x81_8), (82, ii x82_8), (85, s0 0 lh0_8.length), (86, ii x82_8), (89, ii (w64 ((List.getD lh0_8 (Int.toNat x82_8) 0) - 1)))] rfl (by kernel_rfl) ?_
        refine XR.rd E0_ok [7, 11, 13, 81, 82, 89, 90] rfl (v := pp 0 ((Int.toNat x82_8) * 1)) (v_idx (s := 1) (x := (src 117 (.tmp 85))) (y := (src 117 (.tmp 86))) (b := 0) (o := 0) (len := lh0_8.length) (cap := lh0_8.length) (ik := .i64) (i := x82_8) (off := (Int.toNat x82_8) * 1) (d := (some (path 12 90))) (by kernel_rfl) (by kernel_rfl) (by kernel_rfl) b2 (by omega)) (σ' := [(7, ii x7_8), (11, .bool b11_8), (13, s0 0 lh0_8.length), (81, ii x81_8), (82, ii x82_8), (89, ii (w64 ((List.getD lh0_8 (Int.toNat x82_8) 0) - 1))), (90, pp 0 ((Int.toNat x82_8) * 1))]) (by kernel_rfl) ?_
        refine XR.ef E0_ok [7, 11, 13, 81, 82] rfl (e_store (encI_ok .i64) (size := 1) (x := (src 117 (.tmp 90))) (y := (src 117 (.tmp 89))) (b := 0) (off := (Int.toNat x82_8) * 1) (xs := lh0_8) (e := 3) (es := 1) (d := none) (h' := [(0, rc (encI .i64) (List.set lh0_8 (Int.toNat x82_8) (w64 ((List.getD lh0_8 (Int.toNat x82_8) 0) - 1))) 0 3 1)]) (w := ii (w64 ((List.getD lh0_8 (Int.toNat x82_8) 0) - 1))) (ws := [ii (w64 ((List.getD lh0_8 (Int.toNat x82_8) 0) - 1))]) (a := w64 ((List.getD lh0_8 (Int.toNat x82_8) 0) - 1)) (by kernel_rfl) (by kernel_rfl) (by kernel_rfl) (Int.toNat x82_8) 0 0 (by first | rfl | omega) (row_len (inRow_toNat b2) (by simp)) (by kernel_rfl) rfl rfl rfl rfl rfl (by kernel_rfl)) (σ' := [(7, ii x7_8), (11, .bool b11_8), (13, s0 0 lh0_8.length), (81, ii x81_8), (82, ii x82_8)]) (by kernel_rfl) ?_
        refine XR.done (by kernel_rfl) ?_
        show XQ _ _ _ _ _ _ _ _
        refine XQ.region (by kernel_rfl) ?_
        refine XR.runS E0_ok 1 2 [(7, ii x7_8), (11, .bool b11_8), (13, s0 0 lh0_8.length), (81, ii x81_8), (82, ii (w64 (x82_8 + 1)))] rfl (by kernel_rfl) ?_
        refine XR.done (by kernel_rfl) ?_
        show XL _ _ _ _ _ _ _ _ _
        refine XL.ren (σ' := [(7, ii x7_8), (11, .bool b11_8), (13, s0 0 lh0_8.length), (81, ii x81_8), (82, ii (w64 (x82_8 + 1)))]) (h' := [(0, rc (encI .i64) (List.set lh0_8 (Int.toNat x82_8) (w64 ((List.getD lh0_8 (Int.toNat x82_8) 0) - 1))) 0 3 1)]) (c' := 1) [0] (by decide) rfl ⟨by kernel_rfl, by kernel_rfl, by kernel_rfl, by kernel_rfl, by kernel_rfl, trivial⟩ ⟨⟨_, _, rfl, rfl, .inl ⟨rfl, rowC_scal (encI_ok .i64) _⟩⟩, trivial⟩ rfl ?_
        refine XL.conv (f13_8_ok m fuel x7_8 b11_8 x81_8 (w64 (x82_8 + 1)) (List.set lh0_8 (Int.toNat x82_8) (w64 ((List.getD lh0_8 (Int.toNat x82_8) 0) - 1))) o h Q hQ) (by first | rfl | simp)
    | false =>
      have h := cF b1 h
      refine XQ.cond (s := (.tmp 83)) (b := false) (by kernel_rfl) (by kernel_rfl) (fun q => by cases q) (fun _ => ?_)
      refine XQ.ren (σ' := [(7, ii x7_8), (11, .bool b11_8), (13, s0 0 lh0_8.length)]) (h' := [(0, rc (encI .i64) lh0_8 0 3 1)]) (c' := 1) [0] (by decide) rfl ⟨by kernel_rfl, by kernel_rfl, by kernel_rfl, trivial⟩ ⟨⟨_, _, rfl, rfl, .inl ⟨rfl, rowC_scal (encI_ok .i64) _⟩⟩, trivial⟩ rfl ?_
      refine XQ.exit (i := 2) (by kernel_rfl) ?_
      cases h
      exact hQ

def f13_9 (m : Nat) : Nat → Int → Int → List Int → Option (Int × (List Int))
  | 0, _, _, _ => none
  | fuel + 1, x3_9, x4_9, lh0_9 =>
    cond (decide (x4_9 < ((lh0_9.length : Nat) : Int))) (
      cond (inRow x4_9 lh0_9.length) (
        f13_9 m fuel (iMax x3_9 (List.getD lh0_9 (Int.toNat x4_9) 0)) (w64 (x4_9 + 1)) lh0_9
      ) none
    ) (
      some (x3_9, lh0_9)
    )

theorem f13_9_ok (m : Nat) : ∀ (fuel : Nat) (x3_9 : Int) (x4_9 : Int) (lh0_9 : List Int) (o : (Int × (List Int))), f13_9 m fuel x3_9 x4_9 lh0_9 = some o → ∀ Q : QP, Q (.exit 0) [(3, ii o.1)] [(0, rc (encI .i64) o.2 0 3 1)] 1 → XL E0 25 1 fuel f13_L8 [(0, s0 0 lh0_9.length), (3, ii x3_9), (4, ii x4_9)] [(0, rc (encI .i64) lh0_9 0 3 1)] 1 Q
  | 0, x3_9, x4_9, lh0_9, o, h, Q, hQ => by cases h
  | fuel + 1, x3_9, x4_9, lh0_9, o, h, Q, hQ => by
    unfold f13_9 at h
    refine XL.succ E0_ok ?_
    refine XQ.seq E0_ok (by kernel_rfl) ?_
    refine XQ.seq E0_ok (by kernel_rfl) ?_
    refine XQ.region (by kernel_rfl) ?_
    refine XR.runS E0_ok 1 4 [(0, s0 0 lh0_9.length), (3, ii x3_9), (4, ii x4_9), (15, .bool (decide (x4_9 < ((lh0_9.length : Nat) : Int))))] rfl (by kernel_rfl) ?_
    refine XR.done (by kernel_rfl) ?_
    show XQ _ _ _ _ _ _ _ _
    cases b1 : (decide (x4_9 < ((lh0_9.length : Nat) : Int)) : Bool) with
    | true =>
      have h := cT b1 h
      refine XQ.cond (s := (.tmp 15)) (b := true) (by kernel_rfl) (by kernel_rfl) (fun _ => ?_) (fun q => by cases q)
      refine XQ.skip (by kernel_rfl) ?_
      show XQ _ _ _ _ _ _ _ _
      refine XQ.seq E0_ok (by kernel_rfl) ?_
      refine XQ.block (id := 1) (by kernel_rfl) ?_
      refine XQ.region (by kernel_rfl) ?_
      refine XR.runS E0_ok 1 3 [(0, s0 0 lh0_9.length), (4, ii x4_9), (18, ii x3_9), (19, s0 0 lh0_9.length), (20, ii x4_9)] rfl (by kernel_rfl) ?_
      cases b2 : (inRow x4_9 lh0_9.length : Bool) with
      | false => cases (cF b2 h)
      | true =>
        have h := cT b2 h
        refine XR.rd E0_ok [0, 4, 18, 21] rfl (v := pp 0 ((Int.toNat x4_9) * 1)) (v_idx (s := 1) (x := (src 25 (.tmp 19))) (y := (src 25 (.tmp 20))) (b := 0) (o := 0) (len := lh0_9.length) (cap := lh0_9.length) (ik := .i64) (i := x4_9) (off := (Int.toNat x4_9) * 1) (d := (some (path 12 21))) (by kernel_rfl) (by kernel_rfl) (by kernel_rfl) b2 (by omega)) (σ' := [(0, s0 0 lh0_9.length), (4, ii x4_9), (18, ii x3_9), (21, pp 0 ((Int.toNat x4_9) * 1))]) (by kernel_rfl) ?_
        refine XR.rd E0_ok [0, 4, 18, 22] rfl (v := ii (List.getD lh0_9 (Int.toNat x4_9) 0)) (v_load1 (encI_ok .i64) (x := (src 25 (.tmp 21))) (b := 0) (off := (Int.toNat x4_9) * 1) (xs := lh0_9) (fz := 0) (e := 3) (es := 1) (d := (some (path 12 22))) (by kernel_rfl) (by kernel_rfl) (by kernel_rfl) (Int.toNat x4_9) 0 0 (by first | rfl | omega) (row_len (inRow_toNat b2) (by simp)) rfl rfl) (σ' := [(0, s0 0 lh0_9.length), (4, ii x4_9), (18, ii x3_9), (22, ii (List.getD lh0_9 (Int.toNat x4_9) 0))]) (by kernel_rfl) ?_
        refine XR.runS E0_ok 1 2 [(0, s0 0 lh0_9.length), (3, ii (iMax x3_9 (List.getD lh0_9 (Int.toNat x4_9) 0))), (4, ii x4_9)] rfl (by kernel_rfl) ?_
        refine XR.done (by kernel_rfl) ?_
        show XQ _ _ _ _ _ _ _ _
        refine XQ.region (by kernel_rfl) ?_
        refine XR.runS E0_ok 1 3 [(0, s0 0 lh0_9.length), (3, ii (iMax x3_9 (List.getD lh0_9 (Int.toNat x4_9) 0))), (4, ii (w64 (x4_9 + 1)))] rfl (by kernel_rfl) ?_
        refine XR.done (by kernel_rfl) ?_
        show XL _ _ _ _ _ _ _ _ _
        refine XL.ren (σ' := [(0, s0 0 lh0_9.length), (3, ii (iMax x3_9 (List.getD lh0_9 (Int.toNat x4_9) 0))), (4, ii (w64 (x4_9 + 1)))]) (h' := [(0, rc (encI .i64) lh0_9 0 3 1)]) (c' := 1) [0] (by decide) rfl ⟨by kernel_rfl, by kernel_rfl, by kernel_rfl, trivial⟩ ⟨⟨_, _, rfl, rfl, .inl ⟨rfl, rowC_scal (encI_ok .i64) _⟩⟩, trivial⟩ rfl ?_
        refine XL.conv (f13_9_ok m fuel (iMax x3_9 (List.getD lh0_9 (Int.toNat x4_9) 0)) (w64 (x4_9 + 1)) lh0_9 o h Q hQ) (by first | rfl | simp)
    | false =>
      have h := cF b1 h
      refine XQ.cond (s := (.tmp 15)) (b := false) (by kernel_rfl) (by kernel_rfl) (fun q => by cases q) (fun _ => ?_)
      refine XQ.ren (σ' := [(3, ii x3_9)]) (h' := [(0, rc (encI .i64) lh0_9 0 3 1)]) (c' := 1) [0] (by decide) rfl ⟨by kernel_rfl, trivial⟩ ⟨⟨_, _, rfl, rfl, .inl ⟨rfl, rowC_scal (encI_ok .i64) _⟩⟩, trivial⟩ rfl ?_
      refine XQ.exit (i := 0) (by kernel_rfl) ?_
      cases h
      exact hQ

def f13 (m : Nat) (a_0 : Int) (a_1 : Int) (a_2 : Int) (a_3 : Int) (a_4 : Int) (a_5 : Int) (a_6 : Int) (a_7 : Int) (b : Int) (c : Int) : Option (Bool) :=
  cond (mkOK (w64 (2 + (Int.tmod (w64 b) 7))) (w64 (2 + (Int.tmod (w64 b) 7))) 8) (
    (f13_1 m m c (w64 (2 + (Int.tmod (w64 b) 7))) (((Int.toNat (w64 (2 + (Int.tmod (w64 b) 7)))) : Nat) : Int) 0 [a_0, a_1, a_2, a_3, a_4, a_5, a_6, a_7] (List.replicate (Int.toNat (w64 (2 + (Int.tmod (w64 b) 7)))) 0)).bind fun o1 =>
      cond (o1.1 != 0) (
        (f15 m o1.2).bind fun r1 =>
          cond (r1.2 != 0) (
            some (false)
          ) (
            cond (fitsB o1.2.length 8) (
              (f13_2 m (Int.tmod (w64 c) o1.1) (w64 ((Int.tmod (w64 c) o1.1) + 1)) o1.2 o1.2).bind fun o2 =>
                (f91 m (IntKind.wrap .u64 ((o2.length : Nat) : Int))).bind fun r2 =>
                  (f13_3 m m o2 ((o2.length : Nat) : Int) r2 o1.2).bind fun o3 =>
                    cond (decide (o1.2.length = o3.1.length)) (
                      cond (decide (o2.length = o3.2.length)) (
                        cond (inRow (Int.tmod (w64 c) o1.1) o3.1.length) (
                          cond (decide ((List.getD o3.1 (Int.toNat (Int.tmod (w64 c) o1.1)) 0) > 0)) (
                            cond (inRow (w64 ((List.getD o3.1 (Int.toNat (Int.tmod (w64 c) o1.1)) 0) - 1)) o3.2.length) (
                              cond ((List.getD o3.2 (Int.toNat (w64 ((List.getD o3.1 (Int.toNat (Int.tmod (w64 c) o1.1)) 0) - 1))) 0) == 0) (
                                cond (!r1.1) (
                                  some (true)
                                ) (
                                  some (false)
                                )
                              ) (
                                (f13_6 m m o1.1 r1.1 (List.getD o3.1 (Int.toNat (Int.tmod (w64 c) o1.1)) 0) 0 o3.2).bind fun o6 =>
                                  cond (decide (((o6.2.2.length : Nat) : Int) < 1)) (
                                    none
                                  ) (
                                    cond (inRow 0 o6.2.2.length) (
                                      (f13_7 m m (List.getD o6.2.2 0 0) 1 o6.2.2).bind fun o7 =>
                                        cond (decide (o6.2.2.length = o7.2.length)) (
                                          cond (decide (o7.1 > (w64 (o6.1 - 2)))) (
                                            cond (!o6.2.1) (
                                              some (true)
                                            ) (
                                              some (false)
                                            )
                                          ) (
                                            (f15 m o7.2).bind fun r21 =>
                                              cond (r21.2 == 0) (
                                                cond (o6.2.1 == r21.1) (
                                                  some (true)
                                                ) (
                                                  some (false)
                                                )
                                              ) (
                                                some (false)
                                              )
                                          )
                                        ) none
                                    ) none
                                  )
                              )
                            ) none
                          ) (
                            (f13_8 m m o1.1 r1.1 (List.getD o3.1 (Int.toNat (Int.tmod (w64 c) o1.1)) 0) 0 o3.2).bind fun o8 =>
                              cond (decide (((o8.2.2.length : Nat) : Int) < 1)) (
                                none
                              ) (
                                cond (inRow 0 o8.2.2.length) (
                                  (f13_9 m m (List.getD o8.2.2 0 0) 1 o8.2.2).bind fun o9 =>
                                    cond (decide (o8.2.2.length = o9.2.length)) (
                                      cond (decide (o9.1 > (w64 (o8.1 - 2)))) (
                                        cond (!o8.2.1) (
                                          some (true)
                                        ) (
                                          some (false)
                                        )
                                      ) (
                                        (f15 m o9.2).bind fun r22 =>
                                          cond (r22.2 == 0) (
                                            cond (o8.2.1 == r22.1) (
                                              some (true)
                                            ) (
                                              some (false)
                                            )
                                          ) (
                                            some (false)
                                          )
                                      )
                                    ) none
                                ) none
                              )
                          )
                        ) none
                      ) none
                    ) none
            ) none
          )
      ) none
  ) none

theorem f13_ok (m : Nat) (a_0 : Int) (a_1 : Int) (a_2 : Int) (a_3 : Int) (a_4 : Int) (a_5 : Int) (a_6 : Int) (a_7 : Int) (b : Int) (c : Int) (o : Bool) (h : f13 m a_0 a_1 a_2 a_3 a_4 a_5 a_6 a_7 b c = some o) (w : World) (hI : seatInv w) : Calls Proofs.Tryd.prog 13 #[.agg #[.int .u8 a_0, .int .u8 a_1, .int .u8 a_2, .int .u8 a_3, .int .u8 a_4, .int .u8 a_5, .int .u8 a_6, .int .u8 a_7], .int .u8 b, .int .u8 c] w fun e w' => e = .returned (.bool o) ∧ Below w.heap.size w w' := by
  refine KC.calls (E := E0) (args := [.agg #[.int .u8 a_0, .int .u8 a_1, .int .u8 a_2, .int .u8 a_3, .int .u8 a_4, .int .u8 a_5, .int .u8 a_6, .int .u8 a_7], .int .u8 b, .int .u8 c]) (v := .bool o) rfl rfl (KC.bodyN E0_ok (F := Proofs.Tryd.f13) (by kernel_rfl) (code := f13_C13) (by kernel_rfl) (nt := 117) (by kernel_rfl) (rs := [.tmp 6]) (by kernel_rfl) (by kernel_rfl) (σ := [(0, .agg #[.int .u8 a_0, .int .u8 a_1, .int .u8 a_2, .int .u8 a_3, .int .u8 a_4, .int .u8 a_5, .int .u8 a_6, .int .u8 a_7]), (1, .int .u8 b), (2, .int .u8 c)]) (by kernel_rfl) ?_) w (seatInv_size hI) hI
  unfold f13 at h
  refine XQ.seq E0_ok (by kernel_rfl) ?_
  refine XQ.region (by kernel_rfl) ?_
  refine XR.runT E0_ok 1 2 [(1, .int .u8 b), (2, .int .u8 c), (3, pp 0 0)] [(0, .cells [.int .u8 a_0, .int .u8 a_1, .int .u8 a_2, .int .u8 a_3, .int .u8 a_4, .int .u8 a_5, .int .u8 a_6, .int .u8 a_7] 0 76 0)] 1 rfl (by kernel_rfl) ?_
  refine XR.done (by kernel_rfl) ?_
  show XQ _ _ _ _ _ _ _ _
  refine XQ.seq E0_ok (by kernel_rfl) ?_
  refine XQ.region (by kernel_rfl) ?_
  refine XR.runS E0_ok 1 5 [(2, .int .u8 c), (3, pp 0 0), (7, ii (w64 (2 + (Int.tmod (w64 b) 7))))] rfl (by kernel_rfl) ?_
  refine XR.done (by kernel_rfl) ?_
  show XQ _ _ _ _ _ _ _ _
  refine XQ.seq E0_ok (by kernel_rfl) ?_
  refine XQ.region (by kernel_rfl) ?_
  refine XR.runS E0_ok 1 1 [(2, .int .u8 c), (3, pp 0 0), (7, ii (w64 (2 + (Int.tmod (w64 b) 7)))), (21, ii (w64 (2 + (Int.tmod (w64 b) 7))))] rfl (by kernel_rfl) ?_
  cases b1 : (mkOK (w64 (2 + (Int.tmod (w64 b) 7))) (w64 (2 + (Int.tmod (w64 b) 7))) 8 : Bool) with
  | false => cases (cF b1 h)
  | true =>
    have h := cT b1 h
    refine XR.ef E0_ok [2, 3, 7, 22] rfl (e_make (encI_ok .i64) (x := (src 117 (.tmp 21))) (y := (src 117 (.tmp 21))) (l := w64 (2 + (Int.tmod (w64 b) 7))) (n := w64 (2 + (Int.tmod (w64 b) 7))) (bytes := 8) (e := 3) (z := #[ii 0]) (d := (some (path 12 22))) (by kernel_rfl) (by kernel_rfl) (by kernel_rfl) 0 rfl (by kernel_rfl) b1) (σ' := [(2, .int .u8 c), (3, pp 0 0), (7, ii (w64 (2 + (Int.tmod (w64 b) 7)))), (22, s0 1 (Int.toNat (w64 (2 + (Int.tmod (w64 b) 7)))))]) (by kernel_rfl) ?_
    refine XR.runS E0_ok 1 1 [(2, .int .u8 c), (3, pp 0 0), (7, ii (w64 (2 + (Int.tmod (w64 b) 7)))), (8, s0 1 (Int.toNat (w64 (2 + (Int.tmod (w64 b) 7)))))] rfl (by kernel_rfl) ?_
    refine XR.done (by kernel_rfl) ?_
    show XQ _ _ _ _ _ _ _ _
    refine XQ.seq E0_ok (by kernel_rfl) ?_
    refine XQ.seq E0_ok (by kernel_rfl) ?_
    refine XQ.region (by kernel_rfl) ?_
    refine XR.runS E0_ok 1 3 [(2, .int .u8 c), (3, pp 0 0), (7, ii (w64 (2 + (Int.tmod (w64 b) 7)))), (8, s0 1 (Int.toNat (w64 (2 + (Int.tmod (w64 b) 7))))), (24, ii (((Int.toNat (w64 (2 + (Int.tmod (w64 b) 7)))) : Nat) : Int)), (25, ii 0)] rfl (by kernel_rfl) ?_
    refine XR.done (by kernel_rfl) ?_
    show XQ _ _ _ _ _ _ _ _
    refine XQ.block (id := 0) (by kernel_rfl) ?_
    refine XQ.loop m (by kernel_rfl) ?_
    obtain ⟨o1, o1_h, h⟩ := bS h
    refine XL.ren (σ' := [(2, .int .u8 c), (3, pp 0 0), (7, ii (w64 (2 + (Int.tmod (w64 b) 7)))), (8, s0 1 (Int.toNat (w64 (2 + (Int.tmod (w64 b) 7))))), (24, ii (((Int.toNat (w64 (2 + (Int.tmod (w64 b) 7)))) : Nat) : Int)), (25, ii 0)]) (h' := [(1, rc (encI .i64) (List.replicate (Int.toNat (w64 (2 + (Int.tmod (w64 b) 7)))) 0) 0 3 1), (0, .cells [.int .u8 a_0, .int .u8 a_1, .int .u8 a_2, .int .u8 a_3, .int .u8 a_4, .int .u8 a_5, .int .u8 a_6, .int .u8 a_7] 0 76 0)]) (c' := 2) [0, 1] (by decide) rfl ⟨by kernel_rfl, by kernel_rfl, by kernel_rfl, by kernel_rfl, by kernel_rfl, by kernel_rfl, trivial⟩ ⟨⟨_, _, rfl, rfl, .inl ⟨rfl, rowC_scal (encI_ok .i64) _⟩⟩, ⟨_, _, rfl, rfl, .inr ⟨_, _, _, _, rfl, rfl⟩⟩, trivial⟩ rfl ?_
    refine XL.conv (σ' := [(2, .int .u8 c), (3, pp 0 0), (7, ii (w64 (2 + (Int.tmod (w64 b) 7)))), (8, s0 1 (Int.toNat (w64 (2 + (Int.tmod (w64 b) 7))))), (24, ii (((Int.toNat (w64 (2 + (Int.tmod (w64 b) 7)))) : Nat) : Int)), (25, ii 0)]) (h' := [(1, rc (encI .i64) (List.replicate (Int.toNat (w64 (2 + (Int.tmod (w64 b) 7)))) 0) 0 3 1), (0, rc (encI .u8) [a_0, a_1, a_2, a_3, a_4, a_5, a_6, a_7] 0 76 0)]) (c' := 2) ?_ (by kernel_rfl)
    refine XL.conv (f13_1_ok m m c (w64 (2 + (Int.tmod (w64 b) 7))) (((Int.toNat (w64 (2 + (Int.tmod (w64 b) 7)))) : Nat) : Int) 0 [a_0, a_1, a_2, a_3, a_4, a_5, a_6, a_7] (List.replicate (Int.toNat (w64 (2 + (Int.tmod (w64 b) 7)))) 0) o1 o1_h _ ?_) (by first | rfl | simp)
    show XQ _ _ _ _ _ _ _ _
    refine XQ.seq E0_ok (by kernel_rfl) ?_
    refine XQ.region (by kernel_rfl) ?_
    refine XR.runS E0_ok 1 3 [(7, ii o1.1), (8, s0 0 o1.2.length), (39, ii (w64 c)), (40, ii o1.1)] rfl (by kernel_rfl) ?_
    cases b3 : (o1.1 != 0 : Bool) with
    | false => cases (cF b3 h)
    | true =>
      have h := cT b3 h
      have e4 : insV (headI ((gsOf E0 117 (opsOf (lft (rgt (rgt (rgt (rgt f13_C13))))))).drop 3) (trS 117 [(7, ii o1.1), (8, s0 0 o1.2.length), (39, ii (w64 c)), (40, ii o1.1)])) (trS 117 [(7, ii o1.1), (8, s0 0 o1.2.length), (39, ii (w64 c)), (40, ii o1.1)]) [(0, rc (encI .i64) o1.2 0 3 1)] = (match (o1.1 != 0 : Bool) with | true => some (ii (Int.tmod (w64 c) o1.1)) | false => none) := by kernel_rfl
      refine XR.rd E0_ok [7, 8, 41] rfl (e4.trans (by rw [b3])) (σ' := [(7, ii o1.1), (8, s0 0 o1.2.length), (41, ii (Int.tmod (w64 c) o1.1))]) (by kernel_rfl) ?_
      refine XR.runS E0_ok 1 1 [(7, ii o1.1), (8, s0 0 o1.2.length), (10, ii (Int.tmod (w64 c) o1.1))] rfl (by kernel_rfl) ?_
      refine XR.done (by kernel_rfl) ?_
      show XQ _ _ _ _ _ _ _ _
      refine XQ.seq E0_ok (by kernel_rfl) ?_
      refine XQ.region (by kernel_rfl) ?_
      refine XR.runS E0_ok 1 1 [(7, ii o1.1), (8, s0 0 o1.2.length), (10, ii (Int.tmod (w64 c) o1.1)), (43, s0 0 o1.2.length)] rfl (by kernel_rfl) ?_
      obtain ⟨r1, r1_h, h⟩ := bS h
      refine XR.call E0_ok [7, 8, 10, 44] rfl (K := 15) (args := [s0 0 o1.2.length]) (d := (some (path 12 44))) (by kernel_rfl) (KQ.call (KC.quiet E0_ok (args0 := [s0 0 o1.2.length]) (h0 := [(0, rc (encI .i64) o1.2 (0 + ((rowC (encI .i64) o1.2).length + 1)) 3 1)]) (n := 1) (V := .tuple #[.bool r1.1, ii r1.2]) [0] (f15_ok m (0 + ((rowC (encI .i64) o1.2).length + 1)) 3 o1.2 r1 r1_h) rfl (by rfl) (by decide) rfl (by kernel_rfl) ⟨⟨_, _, rfl, rfl, .inl ⟨rfl, rowC_scal (encI_ok .i64) _⟩⟩, trivial⟩) rfl) ?_
      rintro _ _ _ ⟨rfl, rfl, rfl⟩
      refine XR.conv (σ' := [(7, ii o1.1), (8, s0 0 o1.2.length), (10, ii (Int.tmod (w64 c) o1.1)), (44, .tuple #[.bool r1.1, ii r1.2])]) (h' := [(0, rc (encI .i64) o1.2 0 3 1)]) (c' := 1) ?_ (by kernel_rfl)
      refine XR.runS E0_ok 1 5 [(7, ii o1.1), (8, s0 0 o1.2.length), (10, ii (Int.tmod (w64 c) o1.1)), (11, .bool r1.1), (12, ii r1.2)] rfl (by kernel_rfl) ?_
      refine XR.done (by kernel_rfl) ?_
      show XQ _ _ _ _ _ _ _ _
      refine XQ.seq E0_ok (by kernel_rfl) ?_
      refine XQ.seq E0_ok (by kernel_rfl) ?_
      refine XQ.region (by kernel_rfl) ?_
      refine XR.runS E0_ok 1 2 [(7, ii o1.1), (8, s0 0 o1.2.length), (10, ii (Int.tmod (w64 c) o1.1)), (11, .bool r1.1), (48, .bool (r1.2 != 0))] rfl (by kernel_rfl) ?_
      refine XR.done (by kernel_rfl) ?_
      show XQ _ _ _ _ _ _ _ _
      cases b5 : (r1.2 != 0 : Bool) with
      | true =>
        have h := cT b5 h
        refine XQ.cond (s := (.tmp 48)) (b := true) (by kernel_rfl) (by kernel_rfl) (fun _ => ?_) (fun q => by cases q)
        refine XQ.seq E0_ok (by kernel_rfl) ?_
        refine XQ.region (by kernel_rfl) ?_
        refine XR.runS E0_ok 1 1 [(6, .bool false)] rfl (by kernel_rfl) ?_
        refine XR.done (by kernel_rfl) ?_
        show XQ _ _ _ _ _ _ _ _
        refine XQ.ret (by kernel_rfl) ?_
        have h := Option.some.inj h
        subst h
        exact ⟨fun i q => (by cases q), .bool false, (by kernel_rfl), rfl⟩
      | false =>
        have h := cF b5 h
        refine XQ.cond (s := (.tmp 48)) (b := false) (by kernel_rfl) (by kernel_rfl) (fun q => by cases q) (fun _ => ?_)
        refine XQ.skip (by kernel_rfl) ?_
        show XQ _ _ _ _ _ _ _ _
        refine XQ.seq E0_ok (by kernel_rfl) ?_
        refine XQ.region (by kernel_rfl) ?_
        refine XR.runS E0_ok 1 1 [(7, ii o1.1), (8, s0 0 o1.2.length), (10, ii (Int.tmod (w64 c) o1.1)), (11, .bool r1.1), (49, s0 0 o1.2.length)] rfl (by kernel_rfl) ?_
        cases b6 : (fitsB o1.2.length 8 : Bool) with
        | false => cases (cF b6 h)
        | true =>
          have h := cT b6 h
          refine XR.call E0_ok [7, 8, 10, 11, 50] rfl (K := 55) (args := [s0 0 o1.2.length]) (d := (some (path 12 50))) (by kernel_rfl) (clone55_all (xs := o1.2) (fz := 0) (e0 := 3) (es0 := 1) (c := 1) (by kernel_rfl) (by simp) (Nat.le_refl _) b6) ?_
          rintro _ _ _ ⟨rfl, rfl, rfl⟩
          refine XR.conv (σ' := [(7, ii o1.1), (8, s0 0 o1.2.length), (10, ii (Int.tmod (w64 c) o1.1)), (11, .bool r1.1), (50, s0 2 o1.2.length)]) (h' := [(2, rc (encI .i64) o1.2 0 3 1), (0, rc (encI .i64) o1.2 0 3 1)]) (c' := 3) ?_ (by kernel_rfl)
          refine XR.runS E0_ok 1 3 [(7, ii o1.1), (8, s0 0 o1.2.length), (10, ii (Int.tmod (w64 c) o1.1)), (11, .bool r1.1), (50, s0 2 o1.2.length), (51, ii (Int.tmod (w64 c) o1.1)), (53, ii (w64 ((Int.tmod (w64 c) o1.1) + 1)))] rfl (by kernel_rfl) ?_
          obtain ⟨o2, o2_h, h⟩ := bS h
          refine XR.call E0_ok [7, 8, 10, 11, 54] rfl (K := 51) (args := [s0 2 o1.2.length, ii (Int.tmod (w64 c) o1.1), ii (w64 ((Int.tmod (w64 c) o1.1) + 1))]) (d := (some (path 12 54))) (by kernel_rfl) (f13_2_ok m (Int.tmod (w64 c) o1.1) (w64 ((Int.tmod (w64 c) o1.1) + 1)) o1.2 o1.2 o2 o2_h (fun v h' c' => v = s0 2 o2.length ∧ h' = [(2, rc (encI .i64) o2 0 3 1), (0, rc (encI .i64) o1.2 0 3 1)] ∧ c' = 3) ⟨rfl, rfl, rfl⟩) ?_
          rintro _ _ _ ⟨rfl, rfl, rfl⟩
          refine XR.conv (σ' := [(7, ii o1.1), (8, s0 0 o1.2.length), (10, ii (Int.tmod (w64 c) o1.1)), (11, .bool r1.1), (54, s0 2 o2.length)]) (h' := [(2, rc (encI .i64) o2 0 3 1), (0, rc (encI .i64) o1.2 0 3 1)]) (c' := 3) ?_ (by kernel_rfl)
          refine XR.runS E0_ok 1 1 [(7, ii o1.1), (8, s0 0 o1.2.length), (10, ii (Int.tmod (w64 c) o1.1)), (11, .bool r1.1), (13, s0 2 o2.length)] rfl (by kernel_rfl) ?_
          refine XR.done (by kernel_rfl) ?_
          show XQ _ _ _ _ _ _ _ _
          refine XQ.seq E0_ok (by kernel_rfl) ?_
          refine XQ.region (by kernel_rfl) ?_
          refine XR.runS E0_ok 1 1 [(7, ii o1.1), (8, s0 0 o1.2.length), (10, ii (Int.tmod (w64 c) o1.1)), (11, .bool r1.1), (13, s0 2 o2.length), (55, s0 2 o2.length)] rfl (by kernel_rfl) ?_
          refine XR.callK E0_ok [7, 8, 10, 11, 13] rfl (K := 56) (args := [s0 2 o2.length, .func (.func 57) #[] #[]]) (d := (some (path 12 56))) (by kernel_rfl) ?_
          refine KC.bodyN E0_ok (F := Proofs.Tryd.f56) (by kernel_rfl) (code := f13_C56) (by kernel_rfl) (nt := 14) (by kernel_rfl) (rs := []) (by kernel_rfl) (by kernel_rfl) (σ := [(0, s0 2 o2.length), (1, .func (.func 57) #[] #[])]) (by kernel_rfl) ?_
          refine XQ.seq E0_ok (by kernel_rfl) ?_
          refine XQ.region (by kernel_rfl) ?_
          refine XR.runS E0_ok 1 3 [(0, s0 2 o2.length), (1, .func (.func 57) #[] #[]), (4, ii ((o2.length : Nat) : Int))] rfl (by kernel_rfl) ?_
          refine XR.done (by kernel_rfl) ?_
          show XQ _ _ _ _ _ _ _ _
          refine XQ.region (by kernel_rfl) ?_
          refine XR.runS E0_ok 1 4 [(1, .func (.func 57) #[] #[]), (7, s0 2 o2.length), (8, ii ((o2.length : Nat) : Int)), (10, .int .u64 (IntKind.wrap .u64 ((o2.length : Nat) : Int)))] rfl (by kernel_rfl) ?_
          obtain ⟨r2, r2_h, h⟩ := bS h
          refine XR.call E0_ok [1, 7, 8, 11] rfl (K := 91) (args := [.int .u64 (IntKind.wrap .u64 ((o2.length : Nat) : Int))]) (d := (some (path 12 11))) (by kernel_rfl) (KC.of_calls E0_ok (F := Proofs.Tryd.f91) (v := ii r2) (by kernel_rfl) rfl rfl (fun w hI => f91_ok m (IntKind.wrap .u64 ((o2.length : Nat) : Int)) r2 r2_h w hI)) ?_
          rintro _ _ _ ⟨rfl, rfl, rfl⟩
          refine XR.conv (σ' := [(1, .func (.func 57) #[] #[]), (7, s0 2 o2.length), (8, ii ((o2.length : Nat) : Int)), (11, ii r2)]) (h' := [(2, rc (encI .i64) o2 0 3 1), (0, rc (encI .i64) o1.2 0 3 1)]) (c' := 3) ?_ (by kernel_rfl)
          refine XR.runS E0_ok 1 1 [(7, s0 2 o2.length), (8, ii ((o2.length : Nat) : Int)), (11, ii r2), (12, .func (.func 57) #[] #[])] rfl (by kernel_rfl) ?_
          refine XR.callK E0_ok [] rfl (K := 90) (args := [s0 2 o2.length, ii 0, ii ((o2.length : Nat) : Int), ii r2, .func (.func 57) #[] #[]]) (d := (some (path 12 13))) (by kernel_rfl) ?_
          refine KC.bodyN E0_ok (F := Proofs.Tryd.f90) (by kernel_rfl) (code := f13_C90) (by kernel_rfl) (nt := 148) (by kernel_rfl) (rs := []) (by kernel_rfl) (by kernel_rfl) (σ := [(0, s0 2 o2.length), (1, ii 0), (2, ii ((o2.length : Nat) : Int)), (3, ii r2), (4, .func (.func 57) #[] #[])]) (by kernel_rfl) ?_
          refine XQ.seq E0_ok (by kernel_rfl) ?_
          refine XQ.region (by kernel_rfl) ?_
          refine XR.runS E0_ok 1 1 [(0, s0 2 o2.length), (1, ii 0), (2, ii ((o2.length : Nat) : Int)), (3, ii r2), (4, .func (.func 57) #[] #[]), (10, .bool true)] rfl (by kernel_rfl) ?_
          refine XR.done (by kernel_rfl) ?_
          show XQ _ _ _ _ _ _ _ _
          refine XQ.seq E0_ok (by kernel_rfl) ?_
          refine XQ.region (by kernel_rfl) ?_
          refine XR.runS E0_ok 1 1 [(0, s0 2 o2.length), (1, ii 0), (2, ii ((o2.length : Nat) : Int)), (3, ii r2), (4, .func (.func 57) #[] #[]), (10, .bool true), (11, .bool true)] rfl (by kernel_rfl) ?_
          refine XR.done (by kernel_rfl) ?_
          show XQ _ _ _ _ _ _ _ _
          refine XQ.block (id := 0) (by kernel_rfl) ?_
          refine XQ.loop m (by kernel_rfl) ?_
          obtain ⟨o3, o3_h, h⟩ := bS h
          refine XL.ren (σ' := [(0, s0 2 o2.length), (1, ii 0), (2, ii ((o2.length : Nat) : Int)), (3, ii r2), (4, .func (.func 57) #[] #[]), (10, .bool true), (11, .bool true)]) (h' := [(2, rc (encI .i64) o2 0 3 1), (0, rc (encI .i64) o1.2 0 3 1)]) (c' := 3) [0, 1, 2] (by decide) rfl ⟨by kernel_rfl, by kernel_rfl, by kernel_rfl, by kernel_rfl, by kernel_rfl, by kernel_rfl, by kernel_rfl, trivial⟩ ⟨⟨_, _, rfl, rfl, .inl ⟨rfl, rowC_scal (encI_ok .i64) _⟩⟩, ⟨_, _, rfl, rfl, .inl ⟨rfl, rowC_scal (encI_ok .i64) _⟩⟩, trivial⟩ rfl ?_
          refine XL.conv (f13_3_ok m m o2 ((o2.length : Nat) : Int) r2 o1.2 o3 o3_h _ ?_) (by first | rfl | simp)
          refine ⟨fun i q => (by cases q), .tuple #[], (by kernel_rfl), ?_⟩
          refine XR.conv (σ' := []) (h' := [(2, rc (encI .i64) o3.2 0 3 1), (0, rc (encI .i64) o3.1 0 3 1)]) (c' := 3) ?_ (by kernel_rfl)
          refine XR.done (by kernel_rfl) ?_
          refine ⟨fun i q => (by cases q), .tuple #[], (by kernel_rfl), ?_⟩
          refine XR.conv (σ' := [(7, ii o1.1), (8, s0 0 o1.2.length), (10, ii (Int.tmod (w64 c) o1.1)), (11, .bool r1.1), (13, s0 2 o2.length)]) (h' := [(2, rc (encI .i64) o3.2 0 3 1), (0, rc (encI .i64) o3.1 0 3 1)]) (c' := 3) ?_ (by kernel_rfl)
          cases b9 : (decide (o1.2.length = o3.1.length) : Bool) with
          | false => cases (cF b9 h)
          | true =>
            have h := cT b9 h
            refine XR.conv (σ' := [(7, ii o1.1), (8, s0 0 o3.1.length), (10, ii (Int.tmod (w64 c) o1.1)), (11, .bool r1.1), (13, s0 2 o2.length)]) (h' := [(2, rc (encI .i64) o3.2 0 3 1), (0, rc (encI .i64) o3.1 0 3 1)]) (c' := 3) ?_ (by rw [of_decide_eq_true b9])
            cases b10 : (decide (o2.length = o3.2.length) : Bool) with
            | false => cases (cF b10 h)
            | true =>
              have h := cT b10 h
              refine XR.conv (σ' := [(7, ii o1.1), (8, s0 0 o3.1.length), (10, ii (Int.tmod (w64 c) o1.1)), (11, .bool r1.1), (13, s0 2 o3.2.length)]) (h' := [(2, rc (encI .i64) o3.2 0 3 1), (0, rc (encI .i64) o3.1 0 3 1)]) (c' := 3) ?_ (by rw [of_decide_eq_true b10])
              refine XR.done (by kernel_rfl) ?_
              show XQ _ _ _ _ _ _ _ _
              refine XQ.seq E0_ok (by kernel_rfl) ?_
              refine XQ.seq E0_ok (by kernel_rfl) ?_
              refine XQ.region (by kernel_rfl) ?_
              refine XR.runS E0_ok 1 2 [(7, ii o1.1), (8, s0 0 o3.1.length), (10, ii (Int.tmod (w64 c) o1.1)), (11, .bool r1.1), (13, s0 2 o3.2.length), (57, s0 0 o3.1.length), (58, ii (Int.tmod (w64 c) o1.1))] rfl (by kernel_rfl) ?_
              cases b11 : (inRow (Int.tmod (w64 c) o1.1) o3.1.length : Bool) with
              | false => cases (cF b11 h)
              | true =>
                have h := cT b11 h
                refine XR.rd E0_ok [7, 8, 10, 11, 13, 59] rfl (v := pp 0 ((Int.toNat (Int.tmod (w64 c) o1.1)) * 1)) (v_idx (s := 1) (x := (src 117 (.tmp 57))) (y := (src 117 (.tmp 58))) (b := 0) (o := 0) (len := o3.1.length) (cap := o3.1.length) (ik := .i64) (i := Int.tmod (w64 c) o1.1) (off := (Int.toNat (Int.tmod (w64 c) o1.1)) * 1) (d := (some (path 12 59))) (by kernel_rfl) (by kernel_rfl) (by kernel_rfl) b11 (by omega)) (σ' := [(7, ii o1.1), (8, s0 0 o3.1.length), (10, ii (Int.tmod (w64 c) o1.1)), (11, .bool r1.1), (13, s0 2 o3.2.length), (59, pp 0 ((Int.toNat (Int.tmod (w64 c) o1.1)) * 1))]) (by kernel_rfl) ?_
                refine XR.rd E0_ok [7, 8, 10, 11, 13, 60] rfl (v := ii (List.getD o3.1 (Int.toNat (Int.tmod (w64 c) o1.1)) 0)) (v_load1 (encI_ok .i64) (x := (src 117 (.tmp 59))) (b := 0) (off := (Int.toNat (Int.tmod (w64 c) o1.1)) * 1) (xs := o3.1) (fz := 0) (e := 3) (es := 1) (d := (some (path 12 60))) (by kernel_rfl) (by kernel_rfl) (by kernel_rfl) (Int.toNat (Int.tmod (w64 c) o1.1)) 0 0 (by first | rfl | omega) (row_len (inRow_toNat b11) (by simp)) rfl rfl) (σ' := [(7, ii o1.1), (8, s0 0 o3.1.length), (10, ii (Int.tmod (w64 c) o1.1)), (11, .bool r1.1), (13, s0 2 o3.2.length), (60, ii (List.getD o3.1 (Int.toNat (Int.tmod (w64 c) o1.1)) 0))]) (by kernel_rfl) ?_
                refine XR.runS E0_ok 1 2 [(7, ii o1.1), (8, s0 0 o3.1.length), (10, ii (Int.tmod (w64 c) o1.1)), (11, .bool r1.1), (13, s0 2 o3.2.length), (62, .bool (decide ((List.getD o3.1 (Int.toNat (Int.tmod (w64 c) o1.1)) 0) > 0)))] rfl (by kernel_rfl) ?_
                cases b12 : (decide ((List.getD o3.1 (Int.toNat (Int.tmod (w64 c) o1.1)) 0) > 0) : Bool) with
                | true =>
                  have h := cT b12 h
                  refine XR.runS E0_ok 1 3 [(7, ii o1.1), (8, s0 0 o3.1.length), (10, ii (Int.tmod (w64 c) o1.1)), (11, .bool r1.1), (13, s0 2 o3.2.length), (62, .bool true), (63, s0 2 o3.2.length), (64, s0 0 o3.1.length), (65, ii (Int.tmod (w64 c) o1.1))] rfl (by kernel_rfl) ?_
                  refine XR.rd E0_ok [7, 8, 10, 11, 13, 62, 63, 66] rfl (v := pp 0 ((Int.toNat (Int.tmod (w64 c) o1.1)) * 1)) (v_idx (s := 1) (x := (src 117 (.tmp 64))) (y := (src 117 (.tmp 65))) (b := 0) (o := 0) (len := o3.1.length) (cap := o3.1.length) (ik := .i64) (i := Int.tmod (w64 c) o1.1) (off := (Int.toNat (Int.tmod (w64 c) o1.1)) * 1) (d := (some (path 12 66))) (by kernel_rfl) (by kernel_rfl) (by kernel_rfl) b11 (by omega)) (σ' := [(7, ii o1.1), (8, s0 0 o3.1.length), (10, ii (Int.tmod (w64 c) o1.1)), (11, .bool r1.1), (13, s0 2 o3.2.length), (62, .bool true), (63, s0 2 o3.2.length), (66, pp 0 ((Int.toNat (Int.tmod (w64 c) o1.1)) * 1))]) (by kernel_rfl) ?_
                  refine XR.rd E0_ok [7, 8, 10, 11, 13, 62, 63, 67] rfl (v := ii (List.getD o3.1 (Int.toNat (Int.tmod (w64 c) o1.1)) 0)) (v_load1 (encI_ok .i64) (x := (src 117 (.tmp 66))) (b := 0) (off := (Int.toNat (Int.tmod (w64 c) o1.1)) * 1) (xs := o3.1) (fz := 0) (e := 3) (es := 1) (d := (some (path 12 67))) (by kernel_rfl) (by kernel_rfl) (by kernel_rfl) (Int.toNat (Int.tmod (w64 c) o1.1)) 0 0 (by first | rfl | omega) (row_len (inRow_toNat b11) (by simp)) rfl rfl) (σ' := [(7, ii o1.1), (8, s0 0 o3.1.length), (10, ii (Int.tmod (w64 c) o1.1)), (11, .bool r1.1), (13, s0 2 o3.2.length), (62, .bool true), (63, s0 2 o3.2.length), (67, ii (List.getD o3.1 (Int.toNat (Int.tmod (w64 c) o1.1)) 0))]) (by kernel_rfl) ?_
                  refine XR.runS E0_ok 1 1 [(7, ii o1.1), (8, s0 0 o3.1.length), (10, ii (Int.tmod (w64 c) o1.1)), (11, .bool r1.1), (13, s0 2 o3.2.length), (62, .bool true), (63, s0 2 o3.2.length), (68, ii (w64 ((List.getD o3.1 (Int.toNat (Int.tmod (w64 c) o1.1)) 0) - 1)))] rfl (by kernel_rfl) ?_
                  cases b13 : (inRow (w64 ((List.getD o3.1 (Int.toNat (Int.tmod (w64 c) o1.1)) 0) - 1)) o3.2.length : Bool) with
                  | false => cases (cF b13 h)
                  | true =>
                    have h := cT b13 h
                    refine XR.rd E0_ok [7, 8, 10, 11, 13, 62, 69] rfl (v := pp 2 ((Int.toNat (w64 ((List.getD o3.1 (Int.toNat (Int.tmod (w64 c) o1.1)) 0) - 1))) * 1)) (v_idx (s := 1) (x := (src 117 (.tmp 63))) (y := (src 117 (.tmp 68))) (b := 2) (o := 0) (len := o3.2.length) (cap := o3.2.length) (ik := .i64) (i := w64 ((List.getD o3.1 (Int.toNat (Int.tmod (w64 c) o1.1)) 0) - 1)) (off := (Int.toNat (w64 ((List.getD o3.1 (Int.toNat (Int.tmod (w64 c) o1.1)) 0) - 1))) * 1) (d := (some (path 12 69))) (by kernel_rfl) (by kernel_rfl) (by kernel_rfl) b13 (by omega)) (σ' := [(7, ii o1.1), (8, s0 0 o3.1.length), (10, ii (Int.tmod (w64 c) o1.1)), (11, .bool r1.1), (13, s0 2 o3.2.length), (62, .bool true), (69, pp 2 ((Int.toNat (w64 ((List.getD o3.1 (Int.toNat (Int.tmod (w64 c) o1.1)) 0) - 1))) * 1))]) (by kernel_rfl) ?_
                    refine XR.rd E0_ok [7, 8, 10, 11, 13, 62, 70] rfl (v := ii (List.getD o3.2 (Int.toNat (w64 ((List.getD o3.1 (Int.toNat (Int.tmod (w64 c) o1.1)) 0) - 1))) 0)) (v_load1 (encI_ok .i64) (x := (src 117 (.tmp 69))) (b := 2) (off := (Int.toNat (w64 ((List.getD o3.1 (Int.toNat (Int.tmod (w64 c) o1.1)) 0) - 1))) * 1) (xs := o3.2) (fz := 0) (e := 3) (es := 1) (d := (some (path 12 70))) (by kernel_rfl) (by kernel_rfl) (by kernel_rfl) (Int.toNat (w64 ((List.getD o3.1 (Int.toNat (Int.tmod (w64 c) o1.1)) 0) - 1))) 0 0 (by first | rfl | omega) (row_len (inRow_toNat b13) (by simp)) rfl rfl) (σ' := [(7, ii o1.1), (8, s0 0 o3.1.length), (10, ii (Int.tmod (w64 c) o1.1)), (11, .bool r1.1), (13, s0 2 o3.2.length), (62, .bool true), (70, ii (List.getD o3.2 (Int.toNat (w64 ((List.getD o3.1 (Int.toNat (Int.tmod (w64 c) o1.1)) 0) - 1))) 0))]) (by kernel_rfl) ?_
                    refine XR.runS E0_ok 1 2 [(7, ii o1.1), (8, s0 0 o3.1.length), (10, ii (Int.tmod (w64 c) o1.1)), (11, .bool r1.1), (13, s0 2 o3.2.length), (72, .bool ((List.getD o3.2 (Int.toNat (w64 ((List.getD o3.1 (Int.toNat (Int.tmod (w64 c) o1.1)) 0) - 1))) 0) == 0))] rfl (by kernel_rfl) ?_
                    refine XR.done (by kernel_rfl) ?_
                    show XQ _ _ _ _ _ _ _ _
                    cases b14 : ((List.getD o3.2 (Int.toNat (w64 ((List.getD o3.1 (Int.toNat (Int.tmod (w64 c) o1.1)) 0) - 1))) 0) == 0 : Bool) with
                    | true =>
                      have h := cT b14 h
                      refine XQ.cond (s := (.tmp 72)) (b := true) (by kernel_rfl) (by kernel_rfl) (fun _ => ?_) (fun q => by cases q)
                      refine XQ.seq E0_ok (by kernel_rfl) ?_
                      refine XQ.region (by kernel_rfl) ?_
                      refine XR.runS E0_ok 1 3 [(75, .bool (!r1.1))] rfl (by kernel_rfl) ?_
                      cases b15 : (!r1.1 : Bool) with
                      | true =>
                        have h := cT b15 h
                        refine XR.call E0_ok [75, 76] rfl (K := 14) (args := []) (d := (some (path 12 76))) (by kernel_rfl) (KC.of_calls E0_ok (F := Proofs.Tryd.f14) (v := .bool true) (by kernel_rfl) rfl rfl (works_ok)) ?_
                        rintro _ _ _ ⟨rfl, rfl, rfl⟩
                        refine XR.conv (σ' := [(75, .bool true), (76, .bool true)]) (h' := [(2, rc (encI .i64) o3.2 0 3 1), (0, rc (encI .i64) o3.1 0 3 1)]) (c' := 3) ?_ (by kernel_rfl)
                        refine XR.runS E0_ok 1 2 [(6, .bool true)] rfl (by kernel_rfl) ?_
                        refine XR.done (by kernel_rfl) ?_
                        show XQ _ _ _ _ _ _ _ _
                        refine XQ.ret (by kernel_rfl) ?_
                        have h := Option.some.inj h
                        subst h
                        exact ⟨fun i q => (by cases q), .bool true, (by kernel_rfl), rfl⟩
                      | false =>
                        have h := cF b15 h
                        refine XR.runS E0_ok 1 3 [(6, .bool false)] rfl (by kernel_rfl) ?_
                        refine XR.done (by kernel_rfl) ?_
                        show XQ _ _ _ _ _ _ _ _
                        refine XQ.ret (by kernel_rfl) ?_
                        have h := Option.some.inj h
                        subst h
                        exact ⟨fun i q => (by cases q), .bool false, (by kernel_rfl), rfl⟩
                    | false =>
                      have h := cF b14 h
                      refine XQ.cond (s := (.tmp 72)) (b := false) (by kernel_rfl) (by kernel_rfl) (fun q => by cases q) (fun _ => ?_)
                      refine XQ.skip (by kernel_rfl) ?_
                      show XQ _ _ _ _ _ _ _ _
                      refine XQ.seq E0_ok (by kernel_rfl) ?_
                      refine XQ.seq E0_ok (by kernel_rfl) ?_
                      refine XQ.region (by kernel_rfl) ?_
                      refine XR.runS E0_ok 1 2 [(7, ii o1.1), (11, .bool r1.1), (13, s0 2 o3.2.length), (78, s0 0 o3.1.length), (79, ii (Int.tmod (w64 c) o1.1))] rfl (by kernel_rfl) ?_
                      refine XR.rd E0_ok [7, 11, 13, 80] rfl (v := pp 0 ((Int.toNat (Int.tmod (w64 c) o1.1)) * 1)) (v_idx (s := 1) (x := (src 117 (.tmp 78))) (y := (src 117 (.tmp 79))) (b := 0) (o := 0) (len := o3.1.length) (cap := o3.1.length) (ik := .i64) (i := Int.tmod (w64 c) o1.1) (off := (Int.toNat (Int.tmod (w64 c) o1.1)) * 1) (d := (some (path 12 80))) (by kernel_rfl) (by kernel_rfl) (by kernel_rfl) b11 (by omega)) (σ' := [(7, ii o1.1), (11, .bool r1.1), (13, s0 2 o3.2.length), (80, pp 0 ((Int.toNat (Int.tmod (w64 c) o1.1)) * 1))]) (by kernel_rfl) ?_
                      refine XR.rd E0_ok [7, 11, 13, 81] rfl (v := ii (List.getD o3.1 (Int.toNat (Int.tmod (w64 c) o1.1)) 0)) (v_load1 (encI_ok .i64) (x := (src 117 (.tmp 80))) (b := 0) (off := (Int.toNat (Int.tmod (w64 c) o1.1)) * 1) (xs := o3.1) (fz := 0) (e := 3) (es := 1) (d := (some (path 12 81))) (by kernel_rfl) (by kernel_rfl) (by kernel_rfl) (Int.toNat (Int.tmod (w64 c) o1.1)) 0 0 (by first | rfl | omega) (row_len (inRow_toNat b11) (by simp)) rfl rfl) (σ' := [(7, ii o1.1), (11, .bool r1.1), (13, s0 2 o3.2.length), (81, ii (List.getD o3.1 (Int.toNat (Int.tmod (w64 c) o1.1)) 0))]) (by kernel_rfl) ?_
                      refine XR.runS E0_ok 1 1 [(7, ii o1.1), (11, .bool r1.1), (13, s0 2 o3.2.length), (81, ii (List.getD o3.1 (Int.toNat (Int.tmod (w64 c) o1.1)) 0)), (82, ii 0)] rfl (by kernel_rfl) ?_
                      refine XR.done (by kernel_rfl) ?_
                      show XQ _ _ _ _ _ _ _ _
                      refine XQ.block (id := 2) (by kernel_rfl) ?_
                      refine XQ.loop m (by kernel_rfl) ?_
                      obtain ⟨o6, o6_h, h⟩ := bS h
                      refine XL.ren (σ' := [(7, ii o1.1), (11, .bool r1.1), (13, s0 0 o3.2.length), (81, ii (List.getD o3.1 (Int.toNat (Int.tmod (w64 c) o1.1)) 0)), (82, ii 0)]) (h' := [(0, rc (encI .i64) o3.2 0 3 1)]) (c' := 1) [2] (by decide) rfl ⟨by kernel_rfl, by kernel_rfl, by kernel_rfl, by kernel_rfl, by kernel_rfl, trivial⟩ ⟨⟨_, _, rfl, rfl, .inl ⟨rfl, rowC_scal (encI_ok .i64) _⟩⟩, trivial⟩ rfl ?_
                      refine XL.conv (f13_6_ok m m o1.1 r1.1 (List.getD o3.1 (Int.toNat (Int.tmod (w64 c) o1.1)) 0) 0 o3.2 o6 o6_h _ ?_) (by first | rfl | simp)
                      show XQ _ _ _ _ _ _ _ _
                      refine XQ.seq E0_ok (by kernel_rfl) ?_
                      refine XQ.seq E0_ok (by kernel_rfl) ?_
                      refine XQ.region (by kernel_rfl) ?_
                      refine XR.runS E0_ok 1 1 [(7, ii o6.1), (11, .bool o6.2.1), (13, s0 0 o6.2.2.length), (92, s0 0 o6.2.2.length)] rfl (by kernel_rfl) ?_
                      refine XR.callK E0_ok [7, 11, 13, 93] rfl (K := 58) (args := [s0 0 o6.2.2.length]) (d := (some (path 12 93))) (by kernel_rfl) ?_
                      refine KC.bodyN E0_ok (F := Proofs.Tryd.f58) (by kernel_rfl) (code := f13_C58) (by kernel_rfl) (nt := 25) (by kernel_rfl) (rs := [.tmp 2]) (by kernel_rfl) (by kernel_rfl) (σ := [(0, s0 0 o6.2.2.length)]) (by kernel_rfl) ?_
                      refine XQ.seq E0_ok (by kernel_rfl) ?_
                      refine XQ.region (by kernel_rfl) ?_
                      refine XR.runS E0_ok 1 1 [(0, s0 0 o6.2.2.length)] rfl (by kernel_rfl) ?_
                      refine XR.done (by kernel_rfl) ?_
                      show XQ _ _ _ _ _ _ _ _
                      refine XQ.seq E0_ok (by kernel_rfl) ?_
                      refine XQ.seq E0_ok (by kernel_rfl) ?_
                      refine XQ.region (by kernel_rfl) ?_
                      refine XR.runS E0_ok 1 3 [(0, s0 0 o6.2.2.length), (7, .bool (decide (((o6.2.2.length : Nat) : Int) < 1)))] rfl (by kernel_rfl) ?_
                      refine XR.done (by kernel_rfl) ?_
                      show XQ _ _ _ _ _ _ _ _
                      cases b17 : (decide (((o6.2.2.length : Nat) : Int) < 1) : Bool) with
                      | true =>
                        have h := cT b17 h
                        refine XQ.cond (s := (.tmp 7)) (b := true) (by kernel_rfl) (by kernel_rfl) (fun _ => ?_) (fun q => by cases q)
                        refine XQ.region (by kernel_rfl) ?_
                        cases h
                      | false =>
                        have h := cF b17 h
                        refine XQ.cond (s := (.tmp 7)) (b := false) (by kernel_rfl) (by kernel_rfl) (fun q => by cases q) (fun _ => ?_)
                        refine XQ.skip (by kernel_rfl) ?_
                        show XQ _ _ _ _ _ _ _ _
                        refine XQ.seq E0_ok (by kernel_rfl) ?_
                        refine XQ.region (by kernel_rfl) ?_
                        refine XR.runS E0_ok 1 1 [(0, s0 0 o6.2.2.length), (9, s0 0 o6.2.2.length)] rfl (by kernel_rfl) ?_
                        cases b18 : (inRow 0 o6.2.2.length : Bool) with
                        | false => cases (cF b18 h)
                        | true =>
                          have h := cT b18 h
                          refine XR.rd E0_ok [0, 10] rfl (v := pp 0 (0 * 1)) (v_idx (s := 1) (x := (src 25 (.tmp 9))) (y := (src 25 (.const (ii 0)))) (b := 0) (o := 0) (len := o6.2.2.length) (cap := o6.2.2.length) (ik := .i64) (i := 0) (off := 0 * 1) (d := (some (path 12 10))) (by kernel_rfl) (by kernel_rfl) (by kernel_rfl) b18 (by omega)) (σ' := [(0, s0 0 o6.2.2.length), (10, pp 0 (0 * 1))]) (by kernel_rfl) ?_
                          refine XR.rd E0_ok [0, 11] rfl (v := ii (List.getD o6.2.2 0 0)) (v_load1 (encI_ok .i64) (x := (src 25 (.tmp 10))) (b := 0) (off := 0 * 1) (xs := o6.2.2) (fz := 0) (e := 3) (es := 1) (d := (some (path 12 11))) (by kernel_rfl) (by kernel_rfl) (by kernel_rfl) 0 0 0 (by first | rfl | omega) (row_len (inRow_toNat b18) (by simp)) rfl rfl) (σ' := [(0, s0 0 o6.2.2.length), (11, ii (List.getD o6.2.2 0 0))]) (by kernel_rfl) ?_
                          refine XR.runS E0_ok 1 1 [(0, s0 0 o6.2.2.length), (3, ii (List.getD o6.2.2 0 0))] rfl (by kernel_rfl) ?_
                          refine XR.done (by kernel_rfl) ?_
                          show XQ _ _ _ _ _ _ _ _
                          refine XQ.seq E0_ok (by kernel_rfl) ?_
                          refine XQ.seq E0_ok (by kernel_rfl) ?_
                          refine XQ.region (by kernel_rfl) ?_
                          refine XR.runS E0_ok 1 1 [(0, s0 0 o6.2.2.length), (3, ii (List.getD o6.2.2 0 0)), (4, ii 1)] rfl (by kernel_rfl) ?_
                          refine XR.done (by kernel_rfl) ?_
                          show XQ _ _ _ _ _ _ _ _
                          refine XQ.block (id := 0) (by kernel_rfl) ?_
                          refine XQ.loop m (by kernel_rfl) ?_
                          obtain ⟨o7, o7_h, h⟩ := bS h
                          refine XL.ren (σ' := [(0, s0 0 o6.2.2.length), (3, ii (List.getD o6.2.2 0 0)), (4, ii 1)]) (h' := [(0, rc (encI .i64) o6.2.2 0 3 1)]) (c' := 1) [0] (by decide) rfl ⟨by kernel_rfl, by kernel_rfl, by kernel_rfl, trivial⟩ ⟨⟨_, _, rfl, rfl, .inl ⟨rfl, rowC_scal (encI_ok .i64) _⟩⟩, trivial⟩ rfl ?_
                          refine XL.conv (f13_7_ok m m (List.getD o6.2.2 0 0) 1 o6.2.2 o7 o7_h _ ?_) (by first | rfl | simp)
                          show XQ _ _ _ _ _ _ _ _
                          refine XQ.seq E0_ok (by kernel_rfl) ?_
                          refine XQ.region (by kernel_rfl) ?_
                          refine XR.runS E0_ok 1 2 [(2, ii o7.1)] rfl (by kernel_rfl) ?_
                          refine XR.done (by kernel_rfl) ?_
                          show XQ _ _ _ _ _ _ _ _
                          refine XQ.ret (by kernel_rfl) ?_
                          refine ⟨fun i q => (by cases q), ii o7.1, (by kernel_rfl), ?_⟩
                          refine XR.conv (σ' := [(7, ii o6.1), (11, .bool o6.2.1), (13, s0 0 o6.2.2.length), (93, ii o7.1)]) (h' := [(0, rc (encI .i64) o7.2 0 3 1)]) (c' := 1) ?_ (by kernel_rfl)
                          cases b20 : (decide (o6.2.2.length = o7.2.length) : Bool) with
                          | false => cases (cF b20 h)
                          | true =>
                            have h := cT b20 h
                            refine XR.conv (σ' := [(7, ii o6.1), (11, .bool o6.2.1), (13, s0 0 o7.2.length), (93, ii o7.1)]) (h' := [(0, rc (encI .i64) o7.2 0 3 1)]) (c' := 1) ?_ (by rw [of_decide_eq_true b20])
                            refine XR.runS E0_ok 1 3 [(11, .bool o6.2.1), (13, s0 0 o7.2.length), (96, .bool (decide (o7.1 > (w64 (o6.1 - 2)))))] rfl (by kernel_rfl) ?_
                            refine XR.done (by kernel_rfl) ?_
                            show XQ _ _ _ _ _ _ _ _
                            cases b21 : (decide (o7.1 > (w64 (o6.1 - 2))) : Bool) with
                            | true =>
                              have h := cT b21 h
                              refine XQ.cond (s := (.tmp 96)) (b := true) (by kernel_rfl) (by kernel_rfl) (fun _ => ?_) (fun q => by cases q)
                              refine XQ.seq E0_ok (by kernel_rfl) ?_
                              refine XQ.region (by kernel_rfl) ?_
                              refine XR.runS E0_ok 1 3 [(99, .bool (!o6.2.1))] rfl (by kernel_rfl) ?_
                              cases b22 : (!o6.2.1 : Bool) with
                              | true =>
                                have h := cT b22 h
                                refine XR.call E0_ok [99, 100] rfl (K := 14) (args := []) (d := (some (path 12 100))) (by kernel_rfl) (KC.of_calls E0_ok (F := Proofs.Tryd.f14) (v := .bool true) (by kernel_rfl) rfl rfl (works_ok)) ?_
                                rintro _ _ _ ⟨rfl, rfl, rfl⟩
                                refine XR.conv (σ' := [(99, .bool true), (100, .bool true)]) (h' := [(0, rc (encI .i64) o7.2 0 3 1)]) (c' := 1) ?_ (by kernel_rfl)
                                refine XR.runS E0_ok 1 2 [(6, .bool true)] rfl (by kernel_rfl) ?_
                                refine XR.done (by kernel_rfl) ?_
                                show XQ _ _ _ _ _ _ _ _
                                refine XQ.ret (by kernel_rfl) ?_
                                have h := Option.some.inj h
                                subst h
                                exact ⟨fun i q => (by cases q), .bool true, (by kernel_rfl), rfl⟩
                              | false =>
                                have h := cF b22 h
                                refine XR.runS E0_ok 1 3 [(6, .bool false)] rfl (by kernel_rfl) ?_
                                refine XR.done (by kernel_rfl) ?_
                                show XQ _ _ _ _ _ _ _ _
                                refine XQ.ret (by kernel_rfl) ?_
                                have h := Option.some.inj h
                                subst h
                                exact ⟨fun i q => (by cases q), .bool false, (by kernel_rfl), rfl⟩
                            | false =>
                              have h := cF b21 h
                              refine XQ.cond (s := (.tmp 96)) (b := false) (by kernel_rfl) (by kernel_rfl) (fun q => by cases q) (fun _ => ?_)
                              refine XQ.skip (by kernel_rfl) ?_
                              show XQ _ _ _ _ _ _ _ _
                              refine XQ.seq E0_ok (by kernel_rfl) ?_
                              refine XQ.region (by kernel_rfl) ?_
                              refine XR.runS E0_ok 1 1 [(11, .bool o6.2.1), (103, s0 0 o7.2.length)] rfl (by kernel_rfl) ?_
                              obtain ⟨r21, r21_h, h⟩ := bS h
                              refine XR.call E0_ok [11, 104] rfl (K := 15) (args := [s0 0 o7.2.length]) (d := (some (path 12 104))) (by kernel_rfl) (KQ.call (KC.quiet E0_ok (args0 := [s0 0 o7.2.length]) (h0 := [(0, rc (encI .i64) o7.2 (0 + ((rowC (encI .i64) o7.2).length + 1)) 3 1)]) (n := 1) (V := .tuple #[.bool r21.1, ii r21.2]) [0] (f15_ok m (0 + ((rowC (encI .i64) o7.2).length + 1)) 3 o7.2 r21 r21_h) rfl (by rfl) (by decide) rfl (by kernel_rfl) ⟨⟨_, _, rfl, rfl, .inl ⟨rfl, rowC_scal (encI_ok .i64) _⟩⟩, trivial⟩) rfl) ?_
                              rintro _ _ _ ⟨rfl, rfl, rfl⟩
                              refine XR.conv (σ' := [(11, .bool o6.2.1), (104, .tuple #[.bool r21.1, ii r21.2])]) (h' := [(0, rc (encI .i64) o7.2 0 3 1)]) (c' := 1) ?_ (by kernel_rfl)
                              refine XR.runS E0_ok 1 5 [(11, .bool o6.2.1), (15, .bool r21.1), (16, ii r21.2)] rfl (by kernel_rfl) ?_
                              refine XR.done (by kernel_rfl) ?_
                              show XQ _ _ _ _ _ _ _ _
                              refine XQ.seq E0_ok (by kernel_rfl) ?_
                              refine XQ.region (by kernel_rfl) ?_
                              refine XR.runS E0_ok 1 3 [(11, .bool o6.2.1), (15, .bool r21.1), (109, .bool (r21.2 == 0))] rfl (by kernel_rfl) ?_
                              cases b23 : (r21.2 == 0 : Bool) with
                              | true =>
                                have h := cT b23 h
                                refine XR.runS E0_ok 1 5 [(114, .bool (o6.2.1 == r21.1))] rfl (by kernel_rfl) ?_
                                cases b24 : (o6.2.1 == r21.1 : Bool) with
                                | true =>
                                  have h := cT b24 h
                                  refine XR.call E0_ok [114, 115] rfl (K := 14) (args := []) (d := (some (path 12 115))) (by kernel_rfl) (KC.of_calls E0_ok (F := Proofs.Tryd.f14) (v := .bool true) (by kernel_rfl) rfl rfl (works_ok)) ?_
                                  rintro _ _ _ ⟨rfl, rfl, rfl⟩
                                  refine XR.conv (σ' := [(114, .bool true), (115, .bool true)]) (h' := [(0, rc (encI .i64) o7.2 0 3 1)]) (c' := 1) ?_ (by kernel_rfl)
                                  refine XR.runS E0_ok 1 2 [(6, .bool true)] rfl (by kernel_rfl) ?_
                                  refine XR.done (by kernel_rfl) ?_
                                  show XQ _ _ _ _ _ _ _ _
                                  refine XQ.ret (by kernel_rfl) ?_
                                  have h := Option.some.inj h
                                  subst h
                                  exact ⟨fun i q => (by cases q), .bool true, (by kernel_rfl), rfl⟩
                                | false =>
                                  have h := cF b24 h
                                  refine XR.runS E0_ok 1 3 [(6, .bool false)] rfl (by kernel_rfl) ?_
                                  refine XR.done (by kernel_rfl) ?_
                                  show XQ _ _ _ _ _ _ _ _
                                  refine XQ.ret (by kernel_rfl) ?_
                                  have h := Option.some.inj h
                                  subst h
                                  exact ⟨fun i q => (by cases q), .bool false, (by kernel_rfl), rfl⟩
                              | false =>
                                have h := cF b23 h
                                refine XR.runS E0_ok 1 8 [(6, .bool false)] rfl (by kernel_rfl) ?_
                                refine XR.done (by kernel_rfl) ?_
                                show XQ _ _ _ _ _ _ _ _
                                refine XQ.ret (by kernel_rfl) ?_
                                have h := Option.some.inj h
                                subst h
                                exact ⟨fun i q => (by cases q), .bool false, (by kernel_rfl), rfl⟩
                | false =>
                  have h := cF b12 h
                  refine XR.runS E0_ok 1 10 [(7, ii o1.1), (8, s0 0 o3.1.length), (10, ii (Int.tmod (w64 c) o1.1)), (11, .bool r1.1), (13, s0 2 o3.2.length), (72, .bool false)] rfl (by kernel_rfl) ?_
                  refine XR.done (by kernel_rfl) ?_
                  show XQ _ _ _ _ _ _ _ _
                  refine XQ.cond (s := (.tmp 72)) (b := false) (by kernel_rfl) (by kernel_rfl) (fun q => by cases q) (fun _ => ?_)
                  refine XQ.skip (by kernel_rfl) ?_
                  show XQ _ _ _ _ _ _ _ _
                  refine XQ.seq E0_ok (by kernel_rfl) ?_
                  refine XQ.seq E0_ok (by kernel_rfl) ?_
                  refine XQ.region (by kernel_rfl) ?_
                  refine XR.runS E0_ok 1 2 [(7, ii o1.1), (11, .bool r1.1), (13, s0 2 o3.2.length), (78, s0 0 o3.1.length), (79, ii (Int.tmod (w64 c) o1.1))] rfl (by kernel_rfl) ?_
                  refine XR.rd E0_ok [7, 11, 13, 80] rfl (v := pp 0 ((Int.toNat (Int.tmod (w64 c) o1.1)) * 1)) (v_idx (s := 1) (x := (src 117 (.tmp 78))) (y := (src 117 (.tmp 79))) (b := 0) (o := 0) (len := o3.1.length) (cap := o3.1.length) (ik := .i64) (i := Int.tmod (w64 c) o1.1) (off := (Int.toNat (Int.tmod (w64 c) o1.1)) * 1) (d := (some (path 12 80))) (by kernel_rfl) (by kernel_rfl) (by kernel_rfl) b11 (by omega)) (σ' := [(7, ii o1.1), (11, .bool r1.1), (13, s0 2 o3.2.length), (80, pp 0 ((Int.toNat (Int.tmod (w64 c) o1.1)) * 1))]) (by kernel_rfl) ?_
                  refine XR.rd E0_ok [7, 11, 13, 81] rfl (v := ii (List.getD o3.1 (Int.toNat (Int.tmod (w64 c) o1.1)) 0)) (v_load1 (encI_ok .i64) (x := (src 117 (.tmp 80))) (b := 0) (off := (Int.toNat (Int.tmod (w64 c) o1.1)) * 1) (xs := o3.1) (fz := 0) (e := 3) (es := 1) (d := (some (path 12 81))) (by kernel_rfl) (by kernel_rfl) (by kernel_rfl) (Int.toNat (Int.tmod (w64 c) o1.1)) 0 0 (by first | rfl | omega) (row_len (inRow_toNat b11) (by simp)) rfl rfl) (σ' := [(7, ii o1.1), (11, .bool r1.1), (13, s0 2 o3.2.length), (81, ii (List.getD o3.1 (Int.toNat (Int.tmod (w64 c) o1.1)) 0))]) (by kernel_rfl) ?_
                  refine XR.runS E0_ok 1 1 [(7, ii o1.1), (11, .bool r1.1), (13, s0 2 o3.2.length), (81, ii (List.getD o3.1 (Int.toNat (Int.tmod (w64 c) o1.1)) 0)), (82, ii 0)] rfl (by kernel_rfl) ?_
                  refine XR.done (by kernel_rfl) ?_
                  show XQ _ _ _ _ _ _ _ _
                  refine XQ.block (id := 2) (by kernel_rfl) ?_
                  refine XQ.loop m (by kernel_rfl) ?_
                  obtain ⟨o8, o8_h, h⟩ := bS h
                  refine XL.ren (σ' := [(7, ii o1.1), (11, .bool r1.1), (13, s0 0 o3.2.length), (81, ii (List.getD o3.1 (Int.toNat (Int.tmod (w64 c) o1.1)) 0)), (82, ii 0)]) (h' := [(0, rc (encI .i64) o3.2 0 3 1)]) (c' := 1) [2] (by decide) rfl ⟨by kernel_rfl, by kernel_rfl, by kernel_rfl, by kernel_rfl, by kernel_rfl, trivial⟩ ⟨⟨_, _, rfl, rfl, .inl ⟨rfl, rowC_scal (encI_ok .i64) _⟩⟩, trivial⟩ rfl ?_
                  refine XL.conv (f13_8_ok m m o1.1 r1.1 (List.getD o3.1 (Int.toNat (Int.tmod (w64 c) o1.1)) 0) 0 o3.2 o8 o8_h _ ?_) (by first | rfl | simp)
                  show XQ _ _ _ _ _ _ _ _
                  refine XQ.seq E0_ok (by kernel_rfl) ?_
                  refine XQ.seq E0_ok (by kernel_rfl) ?_
                  refine XQ.region (by kernel_rfl) ?_
                  refine XR.runS E0_ok 1 1 [(7, ii o8.1), (11, .bool o8.2.1), (13, s0 0 o8.2.2.length), (92, s0 0 o8.2.2.length)] rfl (by kernel_rfl) ?_
                  refine XR.callK E0_ok [7, 11, 13, 93] rfl (K := 58) (args := [s0 0 o8.2.2.length]) (d := (some (path 12 93))) (by kernel_rfl) ?_
                  refine KC.bodyN E0_ok (F := Proofs.Tryd.f58) (by kernel_rfl) (code := f13_C58) (by kernel_rfl) (nt := 25) (by kernel_rfl) (rs := [.tmp 2]) (by kernel_rfl) (by kernel_rfl) (σ := [(0, s0 0 o8.2.2.length)]) (by kernel_rfl) ?_
                  refine XQ.seq E0_ok (by kernel_rfl) ?_
                  refine XQ.region (by kernel_rfl) ?_
                  refine XR.runS E0_ok 1 1 [(0, s0 0 o8.2.2.length)] rfl (by kernel_rfl) ?_
                  refine XR.done (by kernel_rfl) ?_
                  show XQ _ _ _ _ _ _ _ _
                  refine XQ.seq E0_ok (by kernel_rfl) ?_
                  refine XQ.seq E0_ok (by kernel_rfl) ?_
                  refine XQ.region (by kernel_rfl) ?_
                  refine XR.runS E0_ok 1 3 [(0, s0 0 o8.2.2.length), (7, .bool (decide (((o8.2.2.length : Nat) : Int) < 1)))] rfl (by kernel_rfl) ?_
                  refine XR.done (by kernel_rfl) ?_
                  show XQ _ _ _ _ _ _ _ _
                  cases b26 : (decide (((o8.2.2.length : Nat) : Int) < 1) : Bool) with
                  | true =>
                    have h := cT b26 h
                    refine XQ.cond (s := (.tmp 7)) (b := true) (by kernel_rfl) (by kernel_rfl) (fun _ => ?_) (fun q => by cases q)
                    refine XQ.region (by kernel_rfl) ?_
                    cases h
                  | false =>
                    have h := cF b26 h
                    refine XQ.cond (s := (.tmp 7)) (b := false) (by kernel_rfl) (by kernel_rfl) (fun q => by cases q) (fun _ => ?_)
                    refine XQ.skip (by kernel_rfl) ?_
                    show XQ _ _ _ _ _ _ _ _
                    refine XQ.seq E0_ok (by kernel_rfl) ?_
                    refine XQ.region (by kernel_rfl) ?_
                    refine XR.runS E0_ok 1 1 [(0, s0 0 o8.2.2.length), (9, s0 0 o8.2.2.length)] rfl (by kernel_rfl) ?_
                    cases b27 : (inRow 0 o8.2.2.length : Bool) with
                    | false => cases (cF b27 h)
                    | true =>
                      have h := cT b27 h
                      refine XR.rd E0_ok [0, 10] rfl (v := pp 0 (0 * 1)) (v_idx (s := 1) (x := (src 25 (.tmp 9))) (y := (src 25 (.const (ii 0)))) (b := 0) (o := 0) (len := o8.2.2.length) (cap := o8.2.2.length) (ik := .i64) (i := 0) (off := 0 * 1) (d := (some (path 12 10))) (by kernel_rfl) (by kernel_rfl) (by kernel_rfl) b27 (by omega)) (σ' := [(0, s0 0 o8.2.2.length), (10, pp 0 (0 * 1))]) (by kernel_rfl) ?_
                      refine XR.rd E0_ok [0, 11] rfl (v := ii (List.getD o8.2.2 0 0)) (v_load1 (encI_ok .i64) (x := (src 25 (.tmp 10))) (b := 0) (off := 0 * 1) (xs := o8.2.2) (fz := 0) (e := 3) (es := 1) (d := (some (path 12 11))) (by kernel_rfl) (by kernel_rfl) (by kernel_rfl) 0 0 0 (by first | rfl | omega) (row_len (inRow_toNat b27) (by simp)) rfl rfl) (σ' := [(0, s0 0 o8.2.2.length), (11, ii (List.getD o8.2.2 0 0))]) (by kernel_rfl) ?_
                      refine XR.runS E0_ok 1 1 [(0, s0 0 o8.2.2.length), (3, ii (List.getD o8.2.2 0 0))] rfl (by kernel_rfl) ?_
                      refine XR.done (by kernel_rfl) ?_
                      show XQ _ _ _ _ _ _ _ _
                      refine XQ.seq E0_ok (by kernel_rfl) ?_
                      refine XQ.seq E0_ok (by kernel_rfl) ?_
                      refine XQ.region (by kernel_rfl) ?_
                      refine XR.runS E0_ok 1 1 [(0, s0 0 o8.2.2.length), (3, ii (List.getD o8.2.2 0 0)), (4, ii 1)] rfl (by kernel_rfl) ?_
                      refine XR.done (by kernel_rfl) ?_
                      show XQ _ _ _ _ _ _ _ _
                      refine XQ.block (id := 0) (by kernel_rfl) ?_
                      refine XQ.loop m (by kernel_rfl) ?_
                      obtain ⟨o9, o9_h, h⟩ := bS h
                      refine XL.ren (σ' := [(0, s0 0 o8.2.2.length), (3, ii (List.getD o8.2.2 0 0)), (4, ii 1)]) (h' := [(0, rc (encI .i64) o8.2.2 0 3 1)]) (c' := 1) [0] (by decide) rfl ⟨by kernel_rfl, by kernel_rfl, by kernel_rfl, trivial⟩ ⟨⟨_, _, rfl, rfl, .inl ⟨rfl, rowC_scal (encI_ok .i64) _⟩⟩, trivial⟩ rfl ?_
                      refine XL.conv (f13_9_ok m m (List.getD o8.2.2 0 0) 1 o8.2.2 o9 o9_h _ ?_) (by first | rfl | simp)
                      show XQ _ _ _ _ _ _ _ _
                      refine XQ.seq E0_ok (by kernel_rfl) ?_
                      refine XQ.region (by kernel_rfl) ?_
                      refine XR.runS E0_ok 1 2 [(2, ii o9.1)] rfl (by kernel_rfl) ?_
                      refine XR.done (by kernel_rfl) ?_
                      show XQ _ _ _ _ _ _ _ _
                      refine XQ.ret (by kernel_rfl) ?_
                      refine ⟨fun i q => (by cases q), ii o9.1, (by kernel_rfl), ?_⟩
                      refine XR.conv (σ' := [(7, ii o8.1), (11, .bool o8.2.1), (13, s0 0 o8.2.2.length), (93, ii o9.1)]) (h' := [(0, rc (encI .i64) o9.2 0 3 1)]) (c' := 1) ?_ (by kernel_rfl)
                      cases b29 : (decide (o8.2.2.length = o9.2.length) : Bool) with
                      | false => cases (cF b29 h)
                      | true =>
                        have h := cT b29 h
                        refine XR.conv (σ' := [(7, ii o8.1), (11, .bool o8.2.1), (13, s0 0 o9.2.length), (93, ii o9.1)]) (h' := [(0, rc (encI .i64) o9.2 0 3 1)]) (c' := 1) ?_ (by rw [of_decide_eq_true b29])
                        refine XR.runS E0_ok 1 3 [(11, .bool o8.2.1), (13, s0 0 o9.2.length), (96, .bool (decide (o9.1 > (w64 (o8.1 - 2)))))] rfl (by kernel_rfl) ?_
                        refine XR.done (by kernel_rfl) ?_
                        show XQ _ _ _ _ _ _ _ _
                        cases b30 : (decide (o9.1 > (w64 (o8.1 - 2))) : Bool) with
                        | true =>
                          have h := cT b30 h
                          refine XQ.cond (s := (.tmp 96)) (b := true) (by kernel_rfl) (by kernel_rfl) (fun _ => ?_) (fun q => by cases q)
                          refine XQ.seq E0_ok (by kernel_rfl) ?_
                          refine XQ.region (by kernel_rfl) ?_
                          refine XR.runS E0_ok 1 3 [(99, .bool (!o8.2.1))] rfl (by kernel_rfl) ?_
                          cases b31 : (!o8.2.1 : Bool) with
                          | true =>
                            have h := cT b31 h
                            refine XR.call E0_ok [99, 100] rfl (K := 14) (args := []) (d := (some (path 12 100))) (by kernel_rfl) (KC.of_calls E0_ok (F := Proofs.Tryd.f14) (v := .bool true) (by kernel_rfl) rfl rfl (works_ok)) ?_
                            rintro _ _ _ ⟨rfl, rfl, rfl⟩
                            refine XR.conv (σ' := [(99, .bool true), (100, .bool true)]) (h' := [(0, rc (encI .i64) o9.2 0 3 1)]) (c' := 1) ?_ (by kernel_rfl)
                            refine XR.runS E0_ok 1 2 [(6, .bool true)] rfl (by kernel_rfl) ?_
                            refine XR.done (by kernel_rfl) ?_
                            show XQ _ _ _ _ _ _ _ _
                            refine XQ.ret (by kernel_rfl) ?_
                            have h := Option.some.inj h
                            subst h
                            exact ⟨fun i q => (by cases q), .bool true, (by kernel_rfl), rfl⟩
                          | false =>
                            have h := cF b31 h
                            refine XR.runS E0_ok 1 3 [(6, .bool false)] rfl (by kernel_rfl) ?_
                            refine XR.done (by kernel_rfl) ?_
                            show XQ _ _ _ _ _ _ _ _
                            refine XQ.ret (by kernel_rfl) ?_
                            have h := Option.some.inj h
                            subst h
                            exact ⟨fun i q => (by cases q), .bool false, (by kernel_rfl), rfl⟩
                        | false =>
                          have h := cF b30 h
                          refine XQ.cond (s := (.tmp 96)) (b := false) (by kernel_rfl) (by kernel_rfl) (fun q => by cases q) (fun _ => ?_)
                          refine XQ.skip (by kernel_rfl) ?_
                          show XQ _ _ _ _ _ _ _ _
                          refine XQ.seq E0_ok (by kernel_rfl) ?_
                          refine XQ.region (by kernel_rfl) ?_
                          refine XR.runS E0_ok 1 1 [(11, .bool o8.2.1), (103, s0 0 o9.2.length)] rfl (by kernel_rfl) ?_
                          obtain ⟨r22, r22_h, h⟩ := bS h
                          refine XR.call E0_ok [11, 104] rfl (K := 15) (args := [s0 0 o9.2.length]) (d := (some (path 12 104))) (by kernel_rfl) (KQ.call (KC.quiet E0_ok (args0 := [s0 0 o9.2.length]) (h0 := [(0, rc (encI .i64) o9.2 (0 + ((rowC (encI .i64) o9.2).length + 1)) 3 1)]) (n := 1) (V := .tuple #[.bool r22.1, ii r22.2]) [0] (f15_ok m (0 + ((rowC (encI .i64) o9.2).length + 1)) 3 o9.2 r22 r22_h) rfl (by rfl) (by decide) rfl (by kernel_rfl) ⟨⟨_, _, rfl, rfl, .inl ⟨rfl, rowC_scal (encI_ok .i64) _⟩⟩, trivial⟩) rfl) ?_
                          rintro _ _ _ ⟨rfl, rfl, rfl⟩
                          refine XR.conv (σ' := [(11, .bool o8.2.1), (104, .tuple #[.bool r22.1, ii r22.2])]) (h' := [(0, rc (encI .i64) o9.2 0 3 1)]) (c' := 1) ?_ (by kernel_rfl)
                          refine XR.runS E0_ok 1 5 [(11, .bool o8.2.1), (15, .bool r22.1), (16, ii r22.2)] rfl (by kernel_rfl) ?_
                          refine XR.done (by kernel_rfl) ?_
                          show XQ _ _ _ _ _ _ _ _
                          refine XQ.seq E0_ok (by kernel_rfl) ?_
                          refine XQ.region (by kernel_rfl) ?_
                          refine XR.runS E0_ok 1 3 [(11, .bool o8.2.1), (15, .bool r22.1), (109, .bool (r22.2 == 0))] rfl (by kernel_rfl) ?_
                          cases b32 : (r22.2 == 0 : Bool) with
                          | true =>
                            have h := cT b32 h
                            refine XR.runS E0_ok 1 5 [(114, .bool (o8.2.1 == r22.1))] rfl (by kernel_rfl) ?_
                            cases b33 : (o8.2.1 == r22.1 : Bool) with
                            | true =>
                              have h := cT b33 h
                              refine XR.call E0_ok [114, 115] rfl (K := 14) (args := []) (d := (some (path 12 115))) (by kernel_rfl) (KC.of_calls E0_ok (F := Proofs.Tryd.f14) (v := .bool true) (by kernel_rfl) rfl rfl (works_ok)) ?_
                              rintro _ _ _ ⟨rfl, rfl, rfl⟩
                              refine XR.conv (σ' := [(114, .bool true), (115, .bool true)]) (h' := [(0, rc (encI .i64) o9.2 0 3 1)]) (c' := 1) ?_ (by kernel_rfl)
                              refine XR.runS E0_ok 1 2 [(6, .bool true)] rfl (by kernel_rfl) ?_
                              refine XR.done (by kernel_rfl) ?_
                              show XQ _ _ _ _ _ _ _ _
                              refine XQ.ret (by kernel_rfl) ?_
                              have h := Option.some.inj h
                              subst h
                              exact ⟨fun i q => (by cases q), .bool true, (by kernel_rfl), rfl⟩
                            | false =>
                              have h := cF b33 h
                              refine XR.runS E0_ok 1 3 [(6, .bool false)] rfl (by kernel_rfl) ?_
                              refine XR.done (by kernel_rfl) ?_
                              show XQ _ _ _ _ _ _ _ _
                              refine XQ.ret (by kernel_rfl) ?_
                              have h := Option.some.inj h
                              subst h
                              exact ⟨fun i q => (by cases q), .bool false, (by kernel_rfl), rfl⟩
                          | false =>
                            have h := cF b32 h
                            refine XR.runS E0_ok 1 8 [(6, .bool false)] rfl (by kernel_rfl) ?_
                            refine XR.done (by kernel_rfl) ?_
                            show XQ _ _ _ _ _ _ _ _
                            refine XQ.ret (by kernel_rfl) ?_
                            have h := Option.some.inj h
                            subst h
                            exact ⟨fun i q => (by cases q), .bool false, (by kernel_rfl), rfl⟩

end Go.Xm
