/- What these functions of the program compute, as functions in Lean, and the proofs that they do: vitolalaw05.Roll).made. Conditions: none. -/
import Derived.Test.YtagagpkjlkoieaaPq
namespace Go.Xm
open Go.RowKit
set_option linter.unusedVariables false
set_option linter.unusedSimpArgs false
set_option maxRecDepth 20000

/-! (vitola/vitolalaw05.Roll).made -/
noncomputable def f45_C45 : Code := Proofs.Try.f45.body.getD .skip

def f45 (m : Nat) (a_Marks : Int) (a_Step : Int) (a_Turns : Int) (b : Int) : Option (Int × Int × Int) :=
 cond (b != 0) (
  cond ((w64 (1 + (Int.tmod (w64 a_Marks) b))) != 0) (
   (f47 m (w64 (1 + (Int.tmod (w64 a_Marks) b))) (Int.tmod (w64 a_Step) (w64 (1 + (Int.tmod (w64 a_Marks) b))))).bind fun r1 =>
    cond (r1 != 0) (
     some (w64 (1 + (Int.tmod (w64 a_Marks) b)), Int.tmod (w64 a_Step) (w64 (1 + (Int.tmod (w64 a_Marks) b))), w64 (1 + (Int.tmod (w64 a_Turns) r1)))
    ) none
  ) none
 ) none

theorem f45_ok (m : Nat) (a_Marks : Int) (a_Step : Int) (a_Turns : Int) (b : Int) (o : Int × Int × Int) (h : f45 m a_Marks a_Step a_Turns b = some o) (w : World) (hI : anyInv w) : Calls Proofs.Try.prog 45 #[.agg #[.int .u8 a_Marks, .int .u8 a_Step, .int .u8 a_Turns], ii b] w fun e w' => e = .returned (.agg #[ii o.1, ii o.2.1, ii o.2.2]) ∧ Below w.heap.size w w' := by
 refine KC.calls (E := E0) (args := [.agg #[.int .u8 a_Marks, .int .u8 a_Step, .int .u8 a_Turns], ii b]) (v := .agg #[ii o.1, ii o.2.1, ii o.2.2]) rfl rfl (KC.bodyN E0_ok (F := Proofs.Try.f45) (by kernel_rfl) (code := f45_C45) (by kernel_rfl) (nt := 32) (by kernel_rfl) (rs := [.cell 4 23]) (by kernel_rfl) (by kernel_rfl) (σ := [(0, .agg #[.int .u8 a_Marks, .int .u8 a_Step, .int .u8 a_Turns]), (1, ii b)]) (by kernel_rfl) ?_) w (anyInv_size hI) hI
 unfold f45 at h
 refine XQ.seq E0_ok (by kernel_rfl) ?_
 refine XQ.region (by kernel_rfl) ?_
 refine XR.runT E0_ok 1 2 [(1, ii b), (2, pp 0 0), (4, pp 1 0)] [(1, .cells [ii 0, ii 0, ii 0] 0 23 0), (0, .cells [.int .u8 a_Marks, .int .u8 a_Step, .int .u8 a_Turns] 0 52 0)] 2 rfl (by kernel_rfl) ?_
 refine XR.done (by kernel_rfl) ?_
 show XQ _ _ _ _ _ _ _ _
 refine XQ.seq E0_ok (by kernel_rfl) ?_
 refine XQ.region (by kernel_rfl) ?_
 refine XR.runS E0_ok 1 4 [(2, pp 0 0), (4, pp 1 0), (8, ii (w64 a_Marks)), (9, ii b)] rfl (by kernel_rfl) ?_
 cases b1 : (b != 0 : Bool) with
 | false => cases (cF b1 h)
 | true =>
  have h := cT b1 h
  have e2 : insV (headI ((gsOf E0 32 (opsOf (lft (rgt f45_C45)))).drop 4) (trS 32 [(2, pp 0 0), (4, pp 1 0), (8, ii (w64 a_Marks)), (9, ii b)])) (trS 32 [(2, pp 0 0), (4, pp 1 0), (8, ii (w64 a_Marks)), (9, ii b)]) [(1, .cells [ii 0, ii 0, ii 0] 0 23 0), (0, .cells [.int .u8 a_Marks, .int .u8 a_Step, .int .u8 a_Turns] 0 52 0)] = (match (b != 0 : Bool) with | true => some (ii (Int.tmod (w64 a_Marks) b)) | false => none) := by kernel_rfl
  refine XR.rd E0_ok [2, 4, 10] rfl (e2.trans (by rw [b1])) (σ' := [(2, pp 0 0), (4, pp 1 0), (10, ii (Int.tmod (w64 a_Marks) b))]) (by kernel_rfl) ?_
  refine XR.runT E0_ok 1 4 [(2, pp 0 0), (4, pp 1 0), (5, pp 2 0)] [(2, .cells [ii (w64 (1 + (Int.tmod (w64 a_Marks) b))), ii 0, ii 0] 0 23 0), (1, .cells [ii 0, ii 0, ii 0] 0 23 0), (0, .cells [.int .u8 a_Marks, .int .u8 a_Step, .int .u8 a_Turns] 0 52 0)] 3 rfl (by kernel_rfl) ?_
  refine XR.done (by kernel_rfl) ?_
  show XQ _ _ _ _ _ _ _ _
  refine XQ.seq E0_ok (by kernel_rfl) ?_
  refine XQ.region (by kernel_rfl) ?_
  refine XR.runS E0_ok 1 5 [(2, pp 0 0), (4, pp 1 0), (5, pp 2 0), (15, ii (w64 a_Step)), (17, ii (w64 (1 + (Int.tmod (w64 a_Marks) b))))] rfl (by kernel_rfl) ?_
  cases b3 : ((w64 (1 + (Int.tmod (w64 a_Marks) b))) != 0 : Bool) with
  | false => cases (cF b3 h)
  | true =>
   have h := cT b3 h
   have e4 : insV (headI ((gsOf E0 32 (opsOf (lft (rgt (rgt f45_C45))))).drop 5) (trS 32 [(2, pp 0 0), (4, pp 1 0), (5, pp 2 0), (15, ii (w64 a_Step)), (17, ii (w64 (1 + (Int.tmod (w64 a_Marks) b))))])) (trS 32 [(2, pp 0 0), (4, pp 1 0), (5, pp 2 0), (15, ii (w64 a_Step)), (17, ii (w64 (1 + (Int.tmod (w64 a_Marks) b))))]) [(2, .cells [ii (w64 (1 + (Int.tmod (w64 a_Marks) b))), ii 0, ii 0] 0 23 0), (1, .cells [ii 0, ii 0, ii 0] 0 23 0), (0, .cells [.int .u8 a_Marks, .int .u8 a_Step, .int .u8 a_Turns] 0 52 0)] = (match ((w64 (1 + (Int.tmod (w64 a_Marks) b))) != 0 : Bool) with | true => some (ii (Int.tmod (w64 a_Step) (w64 (1 + (Int.tmod (w64 a_Marks) b))))) | false => none) := by kernel_rfl
   refine XR.rd E0_ok [2, 4, 5, 18] rfl (e4.trans (by rw [b3])) (σ' := [(2, pp 0 0), (4, pp 1 0), (5, pp 2 0), (18, ii (Int.tmod (w64 a_Step) (w64 (1 + (Int.tmod (w64 a_Marks) b)))))]) (by kernel_rfl) ?_
   refine XR.runT E0_ok 1 2 [(2, pp 0 0), (4, pp 1 0), (5, pp 2 0)] [(2, .cells [ii (w64 (1 + (Int.tmod (w64 a_Marks) b))), ii (Int.tmod (w64 a_Step) (w64 (1 + (Int.tmod (w64 a_Marks) b)))), ii 0] 0 23 0), (1, .cells [ii 0, ii 0, ii 0] 0 23 0), (0, .cells [.int .u8 a_Marks, .int .u8 a_Step, .int .u8 a_Turns] 0 52 0)] 3 rfl (by kernel_rfl) ?_
   refine XR.done (by kernel_rfl) ?_
   show XQ _ _ _ _ _ _ _ _
   refine XQ.seq E0_ok (by kernel_rfl) ?_
   refine XQ.qtail E0_ok [0, 1, 2, 3, 4, 5, 6, 7, 8, 9, 10] 11 [] (by kernel_rfl) (by kernel_rfl) (by kernel_rfl) ?_
   refine XU.run E0_ok 1 7 [4, 5, 22, 24, 26] rfl (σ' := [(4, pp 1 0), (5, pp 2 0), (22, ii (w64 a_Turns)), (24, ii (w64 (1 + (Int.tmod (w64 a_Marks) b)))), (26, ii (Int.tmod (w64 a_Step) (w64 (1 + (Int.tmod (w64 a_Marks) b)))))]) (by kernel_rfl) ?_
   obtain ⟨r1, r1_h, h⟩ := bS h
   refine XU.call E0_ok [4, 5, 22, 27] rfl (K := 47) (F := Proofs.Try.f47) (args := [ii (w64 (1 + (Int.tmod (w64 a_Marks) b))), ii (Int.tmod (w64 a_Step) (w64 (1 + (Int.tmod (w64 a_Marks) b))))]) (d := (some (path 12 27))) (v := ii r1) (by kernel_rfl) (by kernel_rfl) rfl rfl (fun w hI => f47_ok m (w64 (1 + (Int.tmod (w64 a_Marks) b))) (Int.tmod (w64 a_Step) (w64 (1 + (Int.tmod (w64 a_Marks) b)))) r1 r1_h w hI) (σ' := [(4, pp 1 0), (5, pp 2 0), (22, ii (w64 a_Turns)), (27, ii r1)]) (by kernel_rfl) ?_
   cases b5 : (r1 != 0 : Bool) with
   | false => cases (cF b5 h)
   | true =>
    have h := cT b5 h
    have e6 : insV (headI ((gsOf E0 32 (reOps (opsOf (lft (rgt (rgt (rgt f45_C45))))) [0, 1, 2, 3, 4, 5, 6, 7, 8, 9, 10])).drop 8) (trS 32 [(4, pp 1 0), (5, pp 2 0), (22, ii (w64 a_Turns)), (27, ii r1)])) (trS 32 [(4, pp 1 0), (5, pp 2 0), (22, ii (w64 a_Turns)), (27, ii r1)]) [(2, .cells [ii (w64 (1 + (Int.tmod (w64 a_Marks) b))), ii (Int.tmod (w64 a_Step) (w64 (1 + (Int.tmod (w64 a_Marks) b)))), ii 0] 0 23 0), (1, .cells [ii 0, ii 0, ii 0] 0 23 0), (0, .cells [.int .u8 a_Marks, .int .u8 a_Step, .int .u8 a_Turns] 0 52 0)] = (match (r1 != 0 : Bool) with | true => some (ii (Int.tmod (w64 a_Turns) r1)) | false => none) := by kernel_rfl
    refine XU.rd E0_ok [4, 5, 28] rfl (e6.trans (by rw [b5])) (σ' := [(4, pp 1 0), (5, pp 2 0), (28, ii (Int.tmod (w64 a_Turns) r1))]) (by kernel_rfl) ?_
    refine XU.run E0_ok 1 2 [4, 5, 29, 30] rfl (σ' := [(4, pp 1 0), (5, pp 2 0), (29, ii (w64 (1 + (Int.tmod (w64 a_Turns) r1)))), (30, pp 2 2)]) (by kernel_rfl) ?_
    refine XU.done (by kernel_rfl) ?_
    show XR _ _ _ _ _ _ _ _ _
    refine XR.runT E0_ok 1 1 [(4, pp 1 0), (5, pp 2 0)] [(2, .cells [ii (w64 (1 + (Int.tmod (w64 a_Marks) b))), ii (Int.tmod (w64 a_Step) (w64 (1 + (Int.tmod (w64 a_Marks) b)))), ii (w64 (1 + (Int.tmod (w64 a_Turns) r1)))] 0 23 0), (1, .cells [ii 0, ii 0, ii 0] 0 23 0), (0, .cells [.int .u8 a_Marks, .int .u8 a_Step, .int .u8 a_Turns] 0 52 0)] 3 rfl (by kernel_rfl) ?_
    refine XR.done (by kernel_rfl) ?_
    show XQ _ _ _ _ _ _ _ _
    refine XQ.seq E0_ok (by kernel_rfl) ?_
    refine XQ.region (by kernel_rfl) ?_
    refine XR.runT E0_ok 1 2 [(4, pp 1 0)] [(2, .cells [ii (w64 (1 + (Int.tmod (w64 a_Marks) b))), ii (Int.tmod (w64 a_Step) (w64 (1 + (Int.tmod (w64 a_Marks) b)))), ii (w64 (1 + (Int.tmod (w64 a_Turns) r1)))] 0 23 0), (1, .cells [ii (w64 (1 + (Int.tmod (w64 a_Marks) b))), ii (Int.tmod (w64 a_Step) (w64 (1 + (Int.tmod (w64 a_Marks) b)))), ii (w64 (1 + (Int.tmod (w64 a_Turns) r1)))] 0 23 0), (0, .cells [.int .u8 a_Marks, .int .u8 a_Step, .int .u8 a_Turns] 0 52 0)] 3 rfl (by kernel_rfl) ?_
    refine XR.done (by kernel_rfl) ?_
    show XQ _ _ _ _ _ _ _ _
    refine XQ.ret (by kernel_rfl) ?_
    have h := Option.some.inj h
    subst h
    exact ⟨fun i q => (by cases q), .agg #[ii (w64 (1 + (Int.tmod (w64 a_Marks) b))), ii (Int.tmod (w64 a_Step) (w64 (1 + (Int.tmod (w64 a_Marks) b)))), ii (w64 (1 + (Int.tmod (w64 a_Turns) r1)))], (by kernel_rfl), rfl⟩

end Go.Xm
