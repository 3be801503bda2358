/- What these functions of the program compute, as functions in Lean, and the proofs that they do: vitolalaw05.Roll).made, vitolalaw05.WrapFound. Conditions: none. -/
import Derived.Test.YtagagpkjlkoieaaPe
import Derived.Test.YtagagpkjlkoieaaPq
namespace Go.Xm
open Go.RowKit
set_option linter.unusedVariables false
set_option linter.unusedSimpArgs false
set_option maxRecDepth 20000

/-! (vitola/vitolalaw05.Roll).made -/
noncomputable def f45_C45 : Code := Proofs.Try.f45.body.getD .skip

def f45 (m : Nat) (a_Marks : Int) (a_Step : Int) (a_Turns : Int) (b : Int) : Option (Int × Int × Int) :=
  cond (b != 0) (
    cond ((w64 (1 + (Int.tmod (w64 a_Marks) b))) != 0) (
      (f47 m (w64 (1 + (Int.tmod (w64 a_Marks) b))) (Int.tmod (w64 a_Step) (w64 (1 + (Int.tmod (w64 a_Marks) b))))).bind fun r1 =>
        cond (r1 != 0) (
          some (w64 (1 + (Int.tmod (w64 a_Marks) b)), Int.tmod (w64 a_Step) (w64 (1 + (Int.tmod (w64 a_Marks) b))), w64 (1 + (Int.tmod (w64 a_Turns) r1)))
        ) none
    ) none
  ) none

theorem f45_ok (m : Nat) (a_Marks : Int) (a_Step : Int) (a_Turns : Int) (b : Int) (o : Int × Int × Int) (h : f45 m a_Marks a_Step a_Turns b = some o) (w : World) (hI : anyInv w) : Calls Proofs.Try.prog 45 #[.agg #[.int .u8 a_Marks, .int .u8 a_Step, .int .u8 a_Turns], ii b] w fun e w' => e = .returned (.agg #[ii o.1, ii o.2.1, ii o.2.2]) ∧ Below w.heap.size w w' := by
  refine KC.calls (E := E0) (args := [.agg #[.int .u8 a_Marks, .int .u8 a_Step, .int .u8 a_Turns], ii b]) (v := .agg #[ii o.1, ii o.2.1, ii o.2.2]) rfl rfl (KC.bodyN E0_ok (F := Proofs.Try.f45) (by kernel_rfl) (code := f45_C45) (by kernel_rfl) (nt := 32) (by kernel_rfl) (rs := [.cell 4 23]) (by kernel_rfl) (by kernel_rfl) (σ := [(0, .agg #[.int .u8 a_Marks, .int .u8 a_Step, .int .u8 a_Turns]), (1, ii b)]) (by kernel_rfl) ?_) w (anyInv_size hI) hI
  unfold f45 at h
  refine XQ.seq E0_ok (by kernel_rfl) ?_
  refine XQ.region (by kernel_rfl) ?_
  refine XR.runT E0_ok 1 2 [(1, ii b), (2, pp 0 0), (4, pp 1 0)] [(1, .cells [ii 0, ii 0, ii 0] 0 23 0), (0, .cells [.int .u8 a_Marks, .int .u8 a_Step, .int .u8 a_Turns] 0 52 0)] 2 rfl (by kernel_rfl) ?_
  refine XR.done (by kernel_rfl) ?_
  show XQ _ _ _ _ _ _ _ _
  refine XQ.seq E0_ok (by kernel_rfl) ?_
  refine XQ.region (by kernel_rfl) ?_
  refine XR.runS E0_ok 1 4 [(2, pp 0 0), (4, pp 1 0), (8, ii (w64 a_Marks)), (9, ii b)] rfl (by kernel_rfl) ?_
  cases b1 : (b != 0 : Bool) with
  | false => cases (cF b1 h)
  | true =>
    have h := cT b1 h
    have e2 : insV (headI ((gsOf E0 32 (opsOf (lft (rgt f45_C45)))).drop 4) (trS 32 [(2, pp 0 0), (4, pp 1 0), (8, ii (w64 a_Marks)), (9, ii b)])) (trS 32 [(2, pp 0 0), (4, pp 1 0), (8, ii (w64 a_Marks)), (9, ii b)]) [(1, .cells [ii 0, ii 0, ii 0] 0 23 0), (0, .cells [.int .u8 a_Marks, .int .u8 a_Step, .int .u8 a_Turns] 0 52 0)] = (match (b != 0 : Bool) with | true => some (ii (Int.tmod (w64 a_Marks) b)) | false => none) := by kernel_rfl
    refine XR.rd E0_ok [2, 4, 10] rfl (e2.trans (by rw [b1])) (σ' := [(2, pp 0 0), (4, pp 1 0), (10, ii (Int.tmod (w64 a_Marks) b))]) (by kernel_rfl) ?_
    refine XR.runT E0_ok 1 4 [(2, pp 0 0), (4, pp 1 0), (5, pp 2 0)] [(2, .cells [ii (w64 (1 + (Int.tmod (w64 a_Marks) b))), ii 0, ii 0] 0 23 0), (1, .cells [ii 0, ii 0, ii 0] 0 23 0), (0, .cells [.int .u8 a_Marks, .int .u8 a_Step, .int .u8 a_Turns] 0 52 0)] 3 rfl (by kernel_rfl) ?_
    refine XR.done (by kernel_rfl) ?_
    show XQ _ _ _ _ _ _ _ _
    refine XQ.seq E0_ok (by kernel_rfl) ?_
    refine XQ.region (by kernel_rfl) ?_
    refine XR.runS E0_ok 1 5 [(2, pp 0 0), (4, pp 1 0), (5, pp 2 0), (15, ii (w64 a_Step)), (17, ii (w64 (1 + (Int.tmod (w64 a_Marks) b))))] rfl (by kernel_rfl) ?_
    cases b3 : ((w64 (1 + (Int.tmod (w64 a_Marks) b))) != 0 : Bool) with
    | false => cases (cF b3 h)
    | true =>
      have h := cT b3 h
      have e4 : insV (headI ((gsOf E0 32 (opsOf (lft (rgt (rgt f45_C45))))).drop 5) (trS 32 [(2, pp 0 0), (4, pp 1 0), (5, pp 2 0), (15, ii (w64 a_Step)), (17, ii (w64 (1 + (Int.tmod (w64 a_Marks) b))))])) (trS 32 [(2, pp 0 0), (4, pp 1 0), (5, pp 2 0), (15, ii (w64 a_Step)), (17, ii (w64 (1 + (Int.tmod (w64 a_Marks) b))))]) [(2, .cells [ii (w64 (1 + (Int.tmod (w64 a_Marks) b))), ii 0, ii 0] 0 23 0), (1, .cells [ii 0, ii 0, ii 0] 0 23 0), (0, .cells [.int .u8 a_Marks, .int .u8 a_Step, .int .u8 a_Turns] 0 52 0)] = (match ((w64 (1 + (Int.tmod (w64 a_Marks) b))) != 0 : Bool) with | true => some (ii (Int.tmod (w64 a_Step) (w64 (1 + (Int.tmod (w64 a_Marks) b))))) | false => none) := by kernel_rfl
      refine XR.rd E0_ok [2, 4, 5, 18] rfl (e4.trans (by rw [b3])) (σ' := [(2, pp 0 0), (4, pp 1 0), (5, pp 2 0), (18, ii (Int.tmod (w64 a_Step) (w64 (1 + (Int.tmod (w64 a_Marks) b)))))]) (by kernel_rfl) ?_
      refine XR.runT E0_ok 1 2 [(2, pp 0 0), (4, pp 1 0), (5, pp 2 0)] [(2, .cells [ii (w64 (1 + (Int.tmod (w64 a_Marks) b))), ii (Int.tmod (w64 a_Step) (w64 (1 + (Int.tmod (w64 a_Marks) b)))), ii 0] 0 23 0), (1, .cells [ii 0, ii 0, ii 0] 0 23 0), (0, .cells [.int .u8 a_Marks, .int .u8 a_Step, .int .u8 a_Turns] 0 52 0)] 3 rfl (by kernel_rfl) ?_
      refine XR.done (by kernel_rfl) ?_
      show XQ _ _ _ _ _ _ _ _
      refine XQ.seq E0_ok (by kernel_rfl) ?_
      refine XQ.qtail E0_ok [0, 1, 2, 3, 4, 5, 6, 7, 8, 9, 10] 11 [] (by kernel_rfl) (by kernel_rfl) (by kernel_rfl) ?_
      refine XU.run E0_ok 1 7 [4, 5, 22, 24, 26] rfl (σ' := [(4, pp 1 0), (5, pp 2 0), (22, ii (w64 a_Turns)), (24, ii (w64 (1 + (Int.tmod (w64 a_Marks) b)))), (26, ii (Int.tmod (w64 a_Step) (w64 (1 + (Int.tmod (w64 a_Marks) b)))))]) (by kernel_rfl) ?_
      obtain ⟨r1, r1_h, h⟩ := bS h
      refine XU.call E0_ok [4, 5, 22, 27] rfl (K := 47) (F := Proofs.Try.f47) (args := [ii (w64 (1 + (Int.tmod (w64 a_Marks) b))), ii (Int.tmod (w64 a_Step) (w64 (1 + (Int.tmod (w64 a_Marks) b))))]) (d := (some (path 12 27))) (v := ii r1) (by kernel_rfl) (by kernel_rfl) rfl rfl (fun w hI => f47_ok m (w64 (1 + (Int.tmod (w64 a_Marks) b))) (Int.tmod (w64 a_Step) (w64 (1 + (Int.tmod (w64 a_Marks) b)))) r1 r1_h w hI) (σ' := [(4, pp 1 0), (5, pp 2 0), (22, ii (w64 a_Turns)), (27, ii r1)]) (by kernel_rfl) ?_
      cases b5 : (r1 != 0 : Bool) with
      | false => cases (cF b5 h)
      | true =>
        have h := cT b5 h
        have e6 : insV (headI ((gsOf E0 32 (reOps (opsOf (lft (rgt (rgt (rgt f45_C45))))) [0, 1, 2, 3, 4, 5, 6, 7, 8, 9, 10])).drop 8) (trS 32 [(4, pp 1 0), (5, pp 2 0), (22, ii (w64 a_Turns)), (27, ii r1)])) (trS 32 [(4, pp 1 0), (5, pp 2 0), (22, ii (w64 a_Turns)), (27, ii r1)]) [(2, .cells [ii (w64 (1 + (Int.tmod (w64 a_Marks) b))), ii (Int.tmod (w64 a_Step) (w64 (1 + (Int.tmod (w64 a_Marks) b)))), ii 0] 0 23 0), (1, .cells [ii 0, ii 0, ii 0] 0 23 0), (0, .cells [.int .u8 a_Marks, .int .u8 a_Step, .int .u8 a_Turns] 0 52 0)] = (match (r1 != 0 : Bool) with | true => some (ii (Int.tmod (w64 a_Turns) r1)) | false => none) := by kernel_rfl
        refine XU.rd E0_ok [4, 5, 28] rfl (e6.trans (by rw [b5])) (σ' := [(4, pp 1 0), (5, pp 2 0), (28, ii (Int.tmod (w64 a_Turns) r1))]) (by kernel_rfl) ?_
        refine XU.run E0_ok 1 2 [4, 5, 29, 30] rfl (σ' := [(4, pp 1 0), (5, pp 2 0), (29, ii (w64 (1 + (Int.tmod (w64 a_Turns) r1)))), (30, pp 2 2)]) (by kernel_rfl) ?_
        refine XU.done (by kernel_rfl) ?_
        show XR _ _ _ _ _ _ _ _ _
        refine XR.runT E0_ok 1 1 [(4, pp 1 0), (5, pp 2 0)] [(2, .cells [ii (w64 (1 + (Int.tmod (w64 a_Marks) b))), ii (Int.tmod (w64 a_Step) (w64 (1 + (Int.tmod (w64 a_Marks) b)))), ii (w64 (1 + (Int.tmod (w64 a_Turns) r1)))] 0 23 0), (1, .cells [ii 0, ii 0, ii 0] 0 23 0), (0, .cells [.int .u8 a_Marks, .int .u8 a_Step, .int .u8 a_Turns] 0 52 0)] 3 rfl (by kernel_rfl) ?_
        refine XR.done (by kernel_rfl) ?_
        show XQ _ _ _ _ _ _ _ _
        refine XQ.seq E0_ok (by kernel_rfl) ?_
        refine XQ.region (by kernel_rfl) ?_
        refine XR.runT E0_ok 1 2 [(4, pp 1 0)] [(2, .cells [ii (w64 (1 + (Int.tmod (w64 a_Marks) b))), ii (Int.tmod (w64 a_Step) (w64 (1 + (Int.tmod (w64 a_Marks) b)))), ii (w64 (1 + (Int.tmod (w64 a_Turns) r1)))] 0 23 0), (1, .cells [ii (w64 (1 + (Int.tmod (w64 a_Marks) b))), ii (Int.tmod (w64 a_Step) (w64 (1 + (Int.tmod (w64 a_Marks) b)))), ii (w64 (1 + (Int.tmod (w64 a_Turns) r1)))] 0 23 0), (0, .cells [.int .u8 a_Marks, .int .u8 a_Step, .int .u8 a_Turns] 0 52 0)] 3 rfl (by kernel_rfl) ?_
        refine XR.done (by kernel_rfl) ?_
        show XQ _ _ _ _ _ _ _ _
        refine XQ.ret (by kernel_rfl) ?_
        have h := Option.some.inj h
        subst h
        exact ⟨fun i q => (by cases q), .agg #[ii (w64 (1 + (Int.tmod (w64 a_Marks) b))), ii (Int.tmod (w64 a_Step) (w64 (1 + (Int.tmod (w64 a_Marks) b)))), ii (w64 (1 + (Int.tmod (w64 a_Turns) r1)))], (by kernel_rfl), rfl⟩

/-! vitola/vitolalaw05.WrapFound -/
noncomputable def f8_C8 : Code := Proofs.Try.f8.body.getD .skip
noncomputable def f8_C48 : Code := Proofs.Try.f48.body.getD .skip
noncomputable def f8_C49 : Code := Proofs.Try.f49.body.getD .skip
noncomputable def f8_L1 : Code := lft (lft (rgt (lft (rgt f8_C48))))
noncomputable def f8_L2 : Code := lft (lft (rgt (lft (rgt f8_C48))))

inductive Of8_1 where
  | r (x4_r1 : Int) (xh0_0_r1 : Int) (xh0_1_r1 : Int) (xh0_2_r1 : Int) (xh1_0_r1 : Int) (xh2_0_r1 : Int) (lh3_r1 : List Int)
  | x0 (xh0_0_x01 : Int) (xh0_1_x01 : Int) (xh0_2_x01 : Int) (xh1_0_x01 : Int) (xh2_0_x01 : Int) (lh3_x01 : List Int)

def f8_1 (m : Nat) : Nat → Int → Int → Int → Int → Int → Int → Int → List Int → Option Of8_1
  | 0, _, _, _, _, _, _, _, _ => none
  | fuel + 1, x7_1, x8_1, xh0_0_1, xh0_1_1, xh0_2_1, xh1_0_1, xh2_0_1, lh3_1 =>
    cond (decide (x8_1 < x7_1)) (
      cond (inRow x8_1 lh3_1.length) (
        cond (decide ((List.getD lh3_1 (Int.toNat x8_1) 0) ≥ xh1_0_1)) (
          cond (decide ((List.getD lh3_1 (Int.toNat x8_1) 0) ≤ xh2_0_1)) (
            some (.r x8_1 xh0_0_1 xh0_1_1 xh0_2_1 xh1_0_1 xh2_0_1 lh3_1)
          ) (
            f8_1 m fuel x7_1 (w64 (x8_1 + 1)) xh0_0_1 xh0_1_1 xh0_2_1 xh1_0_1 xh2_0_1 lh3_1
          )
        ) (
          f8_1 m fuel x7_1 (w64 (x8_1 + 1)) xh0_0_1 xh0_1_1 xh0_2_1 xh1_0_1 xh2_0_1 lh3_1
        )
      ) none
    ) (
      some (.x0 xh0_0_1 xh0_1_1 xh0_2_1 xh1_0_1 xh2_0_1 lh3_1)
    )

theorem f8_1_ok (m : Nat) : ∀ (fuel : Nat) (x7_1 : Int) (x8_1 : Int) (xh0_0_1 : Int) (xh0_1_1 : Int) (xh0_2_1 : Int) (xh1_0_1 : Int) (xh2_0_1 : Int) (lh3_1 : List Int) (o : Of8_1), f8_1 m fuel x7_1 x8_1 xh0_0_1 xh0_1_1 xh0_2_1 xh1_0_1 xh2_0_1 lh3_1 = some o → ∀ Q : QP, (match o with | .r x4_r1 xh0_0_r1 xh0_1_r1 xh0_2_r1 xh1_0_r1 xh2_0_r1 lh3_r1 => Q .ret [(4, ii x4_r1)] [(3, rc (encI .i64) lh3_r1 0 3 1), (2, .cells [ii xh2_0_r1] 0 3 0), (1, .cells [ii xh1_0_r1] 0 3 0), (0, .cells [ii xh0_0_r1, ii xh0_1_r1, ii xh0_2_r1] 0 23 0)] 4 | .x0 xh0_0_x01 xh0_1_x01 xh0_2_x01 xh1_0_x01 xh2_0_x01 lh3_x01 => Q (.exit 0) [] [(3, rc (encI .i64) lh3_x01 0 3 1), (2, .cells [ii xh2_0_x01] 0 3 0), (1, .cells [ii xh1_0_x01] 0 3 0), (0, .cells [ii xh0_0_x01, ii xh0_1_x01, ii xh0_2_x01] 0 23 0)] 4) → XL E0 19 4 fuel f8_L1 [(0, s0 3 lh3_1.length), (1, .func (.func 49) #[] #[pp 1 0, pp 2 0]), (7, ii x7_1), (8, ii x8_1)] [(3, rc (encI .i64) lh3_1 0 3 1), (2, .cells [ii xh2_0_1] 0 3 0), (1, .cells [ii xh1_0_1] 0 3 0), (0, .cells [ii xh0_0_1, ii xh0_1_1, ii xh0_2_1] 0 23 0)] 4 Q
  | 0, x7_1, x8_1, xh0_0_1, xh0_1_1, xh0_2_1, xh1_0_1, xh2_0_1, lh3_1, o, h, Q, hQ => by cases h
  | fuel + 1, x7_1, x8_1, xh0_0_1, xh0_1_1, xh0_2_1, xh1_0_1, xh2_0_1, lh3_1, o, h, Q, hQ => by
    unfold f8_1 at h
    refine XL.succ E0_ok ?_
    refine XQ.seq E0_ok (by kernel_rfl) ?_
    refine XQ.region (by kernel_rfl) ?_
    refine XR.runS E0_ok 1 1 [(0, s0 3 lh3_1.length), (1, .func (.func 49) #[] #[pp 1 0, pp 2 0]), (7, ii x7_1), (8, ii x8_1), (9, .bool (decide (x8_1 < x7_1)))] rfl (by kernel_rfl) ?_
    refine XR.done (by kernel_rfl) ?_
    show XQ _ _ _ _ _ _ _ _
    refine XQ.seq E0_ok (by kernel_rfl) ?_
    cases b1 : (decide (x8_1 < x7_1) : Bool) with
    | true =>
      have h := cT b1 h
      refine XQ.cond (s := (.tmp 9)) (b := true) (by kernel_rfl) (by kernel_rfl) (fun _ => ?_) (fun q => by cases q)
      refine XQ.skip (by kernel_rfl) ?_
      show XQ _ _ _ _ _ _ _ _
      refine XQ.seq E0_ok (by kernel_rfl) ?_
      refine XQ.block (id := 1) (by kernel_rfl) ?_
      refine XQ.seq E0_ok (by kernel_rfl) ?_
      refine XQ.region (by kernel_rfl) ?_
      refine XR.runS E0_ok 1 2 [(0, s0 3 lh3_1.length), (1, .func (.func 49) #[] #[pp 1 0, pp 2 0]), (5, ii x8_1), (7, ii x7_1), (8, ii x8_1)] rfl (by kernel_rfl) ?_
      refine XR.done (by kernel_rfl) ?_
      show XQ _ _ _ _ _ _ _ _
      refine XQ.seq E0_ok (by kernel_rfl) ?_
      refine XQ.region (by kernel_rfl) ?_
      refine XR.runS E0_ok 1 3 [(0, s0 3 lh3_1.length), (1, .func (.func 49) #[] #[pp 1 0, pp 2 0]), (5, ii x8_1), (7, ii x7_1), (8, ii x8_1), (11, .func (.func 49) #[] #[pp 1 0, pp 2 0]), (12, s0 3 lh3_1.length), (13, ii x8_1)] rfl (by kernel_rfl) ?_
      cases b2 : (inRow x8_1 lh3_1.length : Bool) with
      | false => cases (cF b2 h)
      | true =>
        have h := cT b2 h
        refine XR.rd E0_ok [0, 1, 5, 7, 8, 11, 14] rfl (v := pp 3 ((Int.toNat x8_1) * 1)) (v_idx (s := 1) (x := (src 19 (.tmp 12))) (y := (src 19 (.tmp 13))) (b := 3) (o := 0) (len := lh3_1.length) (cap := lh3_1.length) (ik := .i64) (i := x8_1) (off := (Int.toNat x8_1) * 1) (d := (some (path 12 14))) (by kernel_rfl) (by kernel_rfl) (by kernel_rfl) b2 (by omega)) (σ' := [(0, s0 3 lh3_1.length), (1, .func (.func 49) #[] #[pp 1 0, pp 2 0]), (5, ii x8_1), (7, ii x7_1), (8, ii x8_1), (11, .func (.func 49) #[] #[pp 1 0, pp 2 0]), (14, pp 3 ((Int.toNat x8_1) * 1))]) (by kernel_rfl) ?_
        refine XR.rd E0_ok [0, 1, 5, 7, 8, 11, 15] rfl (v := ii (List.getD lh3_1 (Int.toNat x8_1) 0)) (v_load1 (encI_ok .i64) (x := (src 19 (.tmp 14))) (b := 3) (off := (Int.toNat x8_1) * 1) (xs := lh3_1) (fz := 0) (e := 3) (es := 1) (d := (some (path 12 15))) (by kernel_rfl) (by kernel_rfl) (by kernel_rfl) (Int.toNat x8_1) 0 0 (by first | rfl | omega) (row_len (inRow_toNat b2) (by simp)) rfl rfl) (σ' := [(0, s0 3 lh3_1.length), (1, .func (.func 49) #[] #[pp 1 0, pp 2 0]), (5, ii x8_1), (7, ii x7_1), (8, ii x8_1), (11, .func (.func 49) #[] #[pp 1 0, pp 2 0]), (15, ii (List.getD lh3_1 (Int.toNat x8_1) 0))]) (by kernel_rfl) ?_
        refine XR.callK E0_ok [0, 1, 5, 7, 8, 16] rfl (K := 49) (args := [ii (List.getD lh3_1 (Int.toNat x8_1) 0), pp 1 0, pp 2 0]) (d := (some (path 12 16))) (by kernel_rfl) ?_
        refine KC.bodyN E0_ok (F := Proofs.Try.f49) (by kernel_rfl) (code := f8_C49) (by kernel_rfl) (nt := 13) (by kernel_rfl) (rs := [.tmp 4]) (by kernel_rfl) (by kernel_rfl) (σ := [(0, ii (List.getD lh3_1 (Int.toNat x8_1) 0)), (1, pp 1 0), (2, pp 2 0)]) (by kernel_rfl) ?_
        refine XQ.seq E0_ok (by kernel_rfl) ?_
        refine XQ.region (by kernel_rfl) ?_
        refine XR.runS E0_ok 1 1 [(0, ii (List.getD lh3_1 (Int.toNat x8_1) 0)), (1, pp 1 0), (2, pp 2 0)] rfl (by kernel_rfl) ?_
        refine XR.done (by kernel_rfl) ?_
        show XQ _ _ _ _ _ _ _ _
        refine XQ.seq E0_ok (by kernel_rfl) ?_
        refine XQ.region (by kernel_rfl) ?_
        refine XR.runS E0_ok 1 4 [(0, ii (List.getD lh3_1 (Int.toNat x8_1) 0)), (2, pp 2 0), (8, .bool (decide ((List.getD lh3_1 (Int.toNat x8_1) 0) ≥ xh1_0_1)))] rfl (by kernel_rfl) ?_
        cases b3 : (decide ((List.getD lh3_1 (Int.toNat x8_1) 0) ≥ xh1_0_1) : Bool) with
        | true =>
          have h := cT b3 h
          refine XR.runS E0_ok 1 5 [(4, .bool (decide ((List.getD lh3_1 (Int.toNat x8_1) 0) ≤ xh2_0_1)))] rfl (by kernel_rfl) ?_
          refine XR.done (by kernel_rfl) ?_
          show XQ _ _ _ _ _ _ _ _
          refine XQ.ret (by kernel_rfl) ?_
          refine ⟨fun i q => (by cases q), .bool (decide ((List.getD lh3_1 (Int.toNat x8_1) 0) ≤ xh2_0_1)), (by kernel_rfl), ?_⟩
          refine XR.conv (σ' := [(0, s0 3 lh3_1.length), (1, .func (.func 49) #[] #[pp 1 0, pp 2 0]), (5, ii x8_1), (7, ii x7_1), (8, ii x8_1), (16, .bool (decide ((List.getD lh3_1 (Int.toNat x8_1) 0) ≤ xh2_0_1)))]) (h' := [(3, rc (encI .i64) lh3_1 0 3 1), (2, .cells [ii xh2_0_1] 0 3 0), (1, .cells [ii xh1_0_1] 0 3 0), (0, .cells [ii xh0_0_1, ii xh0_1_1, ii xh0_2_1] 0 23 0)]) (c' := 4) ?_ (by kernel_rfl)
          refine XR.done (by kernel_rfl) ?_
          show XQ _ _ _ _ _ _ _ _
          cases b4 : (decide ((List.getD lh3_1 (Int.toNat x8_1) 0) ≤ xh2_0_1) : Bool) with
          | true =>
            have h := cT b4 h
            refine XQ.cond (s := (.tmp 16)) (b := true) (by kernel_rfl) (by kernel_rfl) (fun _ => ?_) (fun q => by cases q)
            refine XQ.seq E0_ok (by kernel_rfl) ?_
            refine XQ.region (by kernel_rfl) ?_
            refine XR.runS E0_ok 1 2 [(4, ii x8_1)] rfl (by kernel_rfl) ?_
            refine XR.done (by kernel_rfl) ?_
            show XQ _ _ _ _ _ _ _ _
            refine XQ.ren (σ' := [(4, ii x8_1)]) (h' := [(3, rc (encI .i64) lh3_1 0 3 1), (2, .cells [ii xh2_0_1] 0 3 0), (1, .cells [ii xh1_0_1] 0 3 0), (0, .cells [ii xh0_0_1, ii xh0_1_1, ii xh0_2_1] 0 23 0)]) (c' := 4) [0, 1, 2, 3] (by decide) rfl ⟨by kernel_rfl, trivial⟩ ⟨⟨_, _, rfl, rfl, .inl ⟨rfl, rowC_scal (encI_ok .i64) _⟩⟩, ⟨_, _, rfl, rfl, .inr ⟨_, _, _, _, rfl, rfl⟩⟩, ⟨_, _, rfl, rfl, .inr ⟨_, _, _, _, rfl, rfl⟩⟩, ⟨_, _, rfl, rfl, .inr ⟨_, _, _, _, rfl, rfl⟩⟩, trivial⟩ rfl ?_
            refine XQ.ret (by kernel_rfl) ?_
            cases h
            exact hQ
          | false =>
            have h := cF b4 h
            refine XQ.cond (s := (.tmp 16)) (b := false) (by kernel_rfl) (by kernel_rfl) (fun q => by cases q) (fun _ => ?_)
            refine XQ.skip (by kernel_rfl) ?_
            show XQ _ _ _ _ _ _ _ _
            refine XQ.region (by kernel_rfl) ?_
            refine XR.runS E0_ok 1 2 [(0, s0 3 lh3_1.length), (1, .func (.func 49) #[] #[pp 1 0, pp 2 0]), (7, ii x7_1), (8, ii (w64 (x8_1 + 1)))] rfl (by kernel_rfl) ?_
            refine XR.done (by kernel_rfl) ?_
            show XL _ _ _ _ _ _ _ _ _
            refine XL.ren (σ' := [(0, s0 3 lh3_1.length), (1, .func (.func 49) #[] #[pp 1 0, pp 2 0]), (7, ii x7_1), (8, ii (w64 (x8_1 + 1)))]) (h' := [(3, rc (encI .i64) lh3_1 0 3 1), (2, .cells [ii xh2_0_1] 0 3 0), (1, .cells [ii xh1_0_1] 0 3 0), (0, .cells [ii xh0_0_1, ii xh0_1_1, ii xh0_2_1] 0 23 0)]) (c' := 4) [0, 1, 2, 3] (by decide) rfl ⟨by kernel_rfl, by kernel_rfl, by kernel_rfl, by kernel_rfl, trivial⟩ ⟨⟨_, _, rfl, rfl, .inl ⟨rfl, rowC_scal (encI_ok .i64) _⟩⟩, ⟨_, _, rfl, rfl, .inr ⟨_, _, _, _, rfl, rfl⟩⟩, ⟨_, _, rfl, rfl, .inr ⟨_, _, _, _, rfl, rfl⟩⟩, ⟨_, _, rfl, rfl, .inr ⟨_, _, _, _, rfl, rfl⟩⟩, trivial⟩ rfl ?_
            refine XL.conv (f8_1_ok m fuel x7_1 (w64 (x8_1 + 1)) xh0_0_1 xh0_1_1 xh0_2_1 xh1_0_1 xh2_0_1 lh3_1 o h Q hQ) (by first | rfl | simp)
        | false =>
          have h := cF b3 h
          refine XR.runS E0_ok 1 5 [(4, .bool false)] rfl (by kernel_rfl) ?_
          refine XR.done (by kernel_rfl) ?_
          show XQ _ _ _ _ _ _ _ _
          refine XQ.ret (by kernel_rfl) ?_
          refine ⟨fun i q => (by cases q), .bool false, (by kernel_rfl), ?_⟩
          refine XR.conv (σ' := [(0, s0 3 lh3_1.length), (1, .func (.func 49) #[] #[pp 1 0, pp 2 0]), (5, ii x8_1), (7, ii x7_1), (8, ii x8_1), (16, .bool false)]) (h' := [(3, rc (encI .i64) lh3_1 0 3 1), (2, .cells [ii xh2_0_1] 0 3 0), (1, .cells [ii xh1_0_1] 0 3 0), (0, .cells [ii xh0_0_1, ii xh0_1_1, ii xh0_2_1] 0 23 0)]) (c' := 4) ?_ (by kernel_rfl)
          refine XR.done (by kernel_rfl) ?_
          show XQ _ _ _ _ _ _ _ _
          refine XQ.cond (s := (.tmp 16)) (b := false) (by kernel_rfl) (by kernel_rfl) (fun q => by cases q) (fun _ => ?_)
          refine XQ.skip (by kernel_rfl) ?_
          show XQ _ _ _ _ _ _ _ _
          refine XQ.region (by kernel_rfl) ?_
          refine XR.runS E0_ok 1 2 [(0, s0 3 lh3_1.length), (1, .func (.func 49) #[] #[pp 1 0, pp 2 0]), (7, ii x7_1), (8, ii (w64 (x8_1 + 1)))] rfl (by kernel_rfl) ?_
          refine XR.done (by kernel_rfl) ?_
          show XL _ _ _ _ _ _ _ _ _
          refine XL.ren (σ' := [(0, s0 3 lh3_1.length), (1, .func (.func 49) #[] #[pp 1 0, pp 2 0]), (7, ii x7_1), (8, ii (w64 (x8_1 + 1)))]) (h' := [(3, rc (encI .i64) lh3_1 0 3 1), (2, .cells [ii xh2_0_1] 0 3 0), (1, .cells [ii xh1_0_1] 0 3 0), (0, .cells [ii xh0_0_1, ii xh0_1_1, ii xh0_2_1] 0 23 0)]) (c' := 4) [0, 1, 2, 3] (by decide) rfl ⟨by kernel_rfl, by kernel_rfl, by kernel_rfl, by kernel_rfl, trivial⟩ ⟨⟨_, _, rfl, rfl, .inl ⟨rfl, rowC_scal (encI_ok .i64) _⟩⟩, ⟨_, _, rfl, rfl, .inr ⟨_, _, _, _, rfl, rfl⟩⟩, ⟨_, _, rfl, rfl, .inr ⟨_, _, _, _, rfl, rfl⟩⟩, ⟨_, _, rfl, rfl, .inr ⟨_, _, _, _, rfl, rfl⟩⟩, trivial⟩ rfl ?_
          refine XL.conv (f8_1_ok m fuel x7_1 (w64 (x8_1 + 1)) xh0_0_1 xh0_1_1 xh0_2_1 xh1_0_1 xh2_0_1 lh3_1 o h Q hQ) (by first | rfl | simp)
    | false =>
      have h := cF b1 h
      refine XQ.cond (s := (.tmp 9)) (b := false) (by kernel_rfl) (by kernel_rfl) (fun q => by cases q) (fun _ => ?_)
      refine XQ.ren (σ' := []) (h' := [(3, rc (encI .i64) lh3_1 0 3 1), (2, .cells [ii xh2_0_1] 0 3 0), (1, .cells [ii xh1_0_1] 0 3 0), (0, .cells [ii xh0_0_1, ii xh0_1_1, ii xh0_2_1] 0 23 0)]) (c' := 4) [0, 1, 2, 3] (by decide) rfl trivial ⟨⟨_, _, rfl, rfl, .inl ⟨rfl, rowC_scal (encI_ok .i64) _⟩⟩, ⟨_, _, rfl, rfl, .inr ⟨_, _, _, _, rfl, rfl⟩⟩, ⟨_, _, rfl, rfl, .inr ⟨_, _, _, _, rfl, rfl⟩⟩, ⟨_, _, rfl, rfl, .inr ⟨_, _, _, _, rfl, rfl⟩⟩, trivial⟩ rfl ?_
      refine XQ.exit (i := 0) (by kernel_rfl) ?_
      cases h
      exact hQ

inductive Of8_2 where
  | r (x4_r2 : Int) (xh0_0_r2 : Int) (xh0_1_r2 : Int) (xh0_2_r2 : Int) (xh1_0_r2 : Int) (xh2_0_r2 : Int) (lh3_r2 : List Int)
  | x0 (xh0_0_x02 : Int) (xh0_1_x02 : Int) (xh0_2_x02 : Int) (xh1_0_x02 : Int) (xh2_0_x02 : Int) (lh3_x02 : List Int)

def f8_2 (m : Nat) : Nat → Int → Int → Int → Int → Int → Int → Int → List Int → Option Of8_2
  | 0, _, _, _, _, _, _, _, _ => none
  | fuel + 1, x7_2, x8_2, xh0_0_2, xh0_1_2, xh0_2_2, xh1_0_2, xh2_0_2, lh3_2 =>
    cond (decide (x8_2 < x7_2)) (
      cond (inRow x8_2 lh3_2.length) (
        cond (decide ((List.getD lh3_2 (Int.toNat x8_2) 0) ≥ xh1_0_2)) (
          cond (decide ((List.getD lh3_2 (Int.toNat x8_2) 0) ≤ xh2_0_2)) (
            some (.r x8_2 xh0_0_2 xh0_1_2 xh0_2_2 xh1_0_2 xh2_0_2 lh3_2)
          ) (
            f8_2 m fuel x7_2 (w64 (x8_2 + 1)) xh0_0_2 xh0_1_2 xh0_2_2 xh1_0_2 xh2_0_2 lh3_2
          )
        ) (
          f8_2 m fuel x7_2 (w64 (x8_2 + 1)) xh0_0_2 xh0_1_2 xh0_2_2 xh1_0_2 xh2_0_2 lh3_2
        )
      ) none
    ) (
      some (.x0 xh0_0_2 xh0_1_2 xh0_2_2 xh1_0_2 xh2_0_2 lh3_2)
    )

theorem f8_2_ok (m : Nat) : ∀ (fuel : Nat) (x7_2 : Int) (x8_2 : Int) (xh0_0_2 : Int) (xh0_1_2 : Int) (xh0_2_2 : Int) (xh1_0_2 : Int) (xh2_0_2 : Int) (lh3_2 : List Int) (o : Of8_2), f8_2 m fuel x7_2 x8_2 xh0_0_2 xh0_1_2 xh0_2_2 xh1_0_2 xh2_0_2 lh3_2 = some o → ∀ Q : QP, (match o with | .r x4_r2 xh0_0_r2 xh0_1_r2 xh0_2_r2 xh1_0_r2 xh2_0_r2 lh3_r2 => Q .ret [(4, ii x4_r2)] [(3, rc (encI .i64) lh3_r2 0 3 1), (2, .cells [ii xh2_0_r2] 0 3 0), (1, .cells [ii xh1_0_r2] 0 3 0), (0, .cells [ii xh0_0_r2, ii xh0_1_r2, ii xh0_2_r2] 0 23 0)] 4 | .x0 xh0_0_x02 xh0_1_x02 xh0_2_x02 xh1_0_x02 xh2_0_x02 lh3_x02 => Q (.exit 0) [] [(3, rc (encI .i64) lh3_x02 0 3 1), (2, .cells [ii xh2_0_x02] 0 3 0), (1, .cells [ii xh1_0_x02] 0 3 0), (0, .cells [ii xh0_0_x02, ii xh0_1_x02, ii xh0_2_x02] 0 23 0)] 4) → XL E0 19 4 fuel f8_L2 [(0, s0 3 lh3_2.length), (1, .func (.func 49) #[] #[pp 1 0, pp 2 0]), (7, ii x7_2), (8, ii x8_2)] [(3, rc (encI .i64) lh3_2 0 3 1), (2, .cells [ii xh2_0_2] 0 3 0), (1, .cells [ii xh1_0_2] 0 3 0), (0, .cells [ii xh0_0_2, ii xh0_1_2, ii xh0_2_2] 0 23 0)] 4 Q
  | 0, x7_2, x8_2, xh0_0_2, xh0_1_2, xh0_2_2, xh1_0_2, xh2_0_2, lh3_2, o, h, Q, hQ => by cases h
  | fuel + 1, x7_2, x8_2, xh0_0_2, xh0_1_2, xh0_2_2, xh1_0_2, xh2_0_2, lh3_2, o, h, Q, hQ => by
    unfold f8_2 at h
    refine XL.succ E0_ok ?_
    refine XQ.seq E0_ok (by kernel_rfl) ?_
    refine XQ.region (by kernel_rfl) ?_
    refine XR.runS E0_ok 1 1 [(0, s0 3 lh3_2.length), (1, .func (.func 49) #[] #[pp 1 0, pp 2 0]), (7, ii x7_2), (8, ii x8_2), (9, .bool (decide (x8_2 < x7_2)))] rfl (by kernel_rfl) ?_
    refine XR.done (by kernel_rfl) ?_
    show XQ _ _ _ _ _ _ _ _
    refine XQ.seq E0_ok (by kernel_rfl) ?_
    cases b1 : (decide (x8_2 < x7_2) : Bool) with
    | true =>
      have h := cT b1 h
      refine XQ.cond (s := (.tmp 9)) (b := true) (by kernel_rfl) (by kernel_rfl) (fun _ => ?_) (fun q => by cases q)
      refine XQ.skip (by kernel_rfl) ?_
      show XQ _ _ _ _ _ _ _ _
      refine XQ.seq E0_ok (by kernel_rfl) ?_
      refine XQ.block (id := 1) (by kernel_rfl) ?_
      refine XQ.seq E0_ok (by kernel_rfl) ?_
      refine XQ.region (by kernel_rfl) ?_
      refine XR.runS E0_ok 1 2 [(0, s0 3 lh3_2.length), (1, .func (.func 49) #[] #[pp 1 0, pp 2 0]), (5, ii x8_2), (7, ii x7_2), (8, ii x8_2)] rfl (by kernel_rfl) ?_
      refine XR.done (by kernel_rfl) ?_
      show XQ _ _ _ _ _ _ _ _
      refine XQ.seq E0_ok (by kernel_rfl) ?_
      refine XQ.region (by kernel_rfl) ?_
      refine XR.runS E0_ok 1 3 [(0, s0 3 lh3_2.length), (1, .func (.func 49) #[] #[pp 1 0, pp 2 0]), (5, ii x8_2), (7, ii x7_2), (8, ii x8_2), (11, .func (.func 49) #[] #[pp 1 0, pp 2 0]), (12, s0 3 lh3_2.length), (13, ii x8_2)] rfl (by kernel_rfl) ?_
      cases b2 : (inRow x8_2 lh3_2.length : Bool) with
      | false => cases (cF b2 h)
      | true =>
        have h := cT b2 h
        refine XR.rd E0_ok [0, 1, 5, 7, 8, 11, 14] rfl (v := pp 3 ((Int.toNat x8_2) * 1)) (v_idx (s := 1) (x := (src 19 (.tmp 12))) (y := (src 19 (.tmp 13))) (b := 3) (o := 0) (len := lh3_2.length) (cap := lh3_2.length) (ik := .i64) (i := x8_2) (off := (Int.toNat x8_2) * 1) (d := (some (path 12 14))) (by kernel_rfl) (by kernel_rfl) (by kernel_rfl) b2 (by omega)) (σ' := [(0, s0 3 lh3_2.length), (1, .func (.func 49) #[] #[pp 1 0, pp 2 0]), (5, ii x8_2), (7, ii x7_2), (8, ii x8_2), (11, .func (.func 49) #[] #[pp 1 0, pp 2 0]), (14, pp 3 ((Int.toNat x8_2) * 1))]) (by kernel_rfl) ?_
        refine XR.rd E0_ok [0, 1, 5, 7, 8, 11, 15] rfl (v := ii (List.getD lh3_2 (Int.toNat x8_2) 0)) (v_load1 (encI_ok .i64) (x := (src 19 (.tmp 14))) (b := 3) (off := (Int.toNat x8_2) * 1) (xs := lh3_2) (fz := 0) (e := 3) (es := 1) (d := (some (path 12 15))) (by kernel_rfl) (by kernel_rfl) (by kernel_rfl) (Int.toNat x8_2) 0 0 (by first | rfl | omega) (row_len (inRow_toNat b2) (by simp)) rfl rfl) (σ' := [(0, s0 3 lh3_2.length), (1, .func (.func 49) #[] #[pp 1 0, pp 2 0]), (5, ii x8_2), (7, ii x7_2), (8, ii x8_2), (11, .func (.func 49) #[] #[pp 1 0, pp 2 0]), (15, ii (List.getD lh3_2 (Int.toNat x8_2) 0))]) (by kernel_rfl) ?_
        refine XR.callK E0_ok [0, 1, 5, 7, 8, 16] rfl (K := 49) (args := [ii (List.getD lh3_2 (Int.toNat x8_2) 0), pp 1 0, pp 2 0]) (d := (some (path 12 16))) (by kernel_rfl) ?_
        refine KC.bodyN E0_ok (F := Proofs.Try.f49) (by kernel_rfl) (code := f8_C49) (by kernel_rfl) (nt := 13) (by kernel_rfl) (rs := [.tmp 4]) (by kernel_rfl) (by kernel_rfl) (σ := [(0, ii (List.getD lh3_2 (Int.toNat x8_2) 0)), (1, pp 1 0), (2, pp 2 0)]) (by kernel_rfl) ?_
        refine XQ.seq E0_ok (by kernel_rfl) ?_
        refine XQ.region (by kernel_rfl) ?_
        refine XR.runS E0_ok 1 1 [(0, ii (List.getD lh3_2 (Int.toNat x8_2) 0)), (1, pp 1 0), (2, pp 2 0)] rfl (by kernel_rfl) ?_
        refine XR.done (by kernel_rfl) ?_
        show XQ _ _ _ _ _ _ _ _
        refine XQ.seq E0_ok (by kernel_rfl) ?_
        refine XQ.region (by kernel_rfl) ?_
        refine XR.runS E0_ok 1 4 [(0, ii (List.getD lh3_2 (Int.toNat x8_2) 0)), (2, pp 2 0), (8, .bool (decide ((List.getD lh3_2 (Int.toNat x8_2) 0) ≥ xh1_0_2)))] rfl (by kernel_rfl) ?_
        cases b3 : (decide ((List.getD lh3_2 (Int.toNat x8_2) 0) ≥ xh1_0_2) : Bool) with
        | true =>
          have h := cT b3 h
          refine XR.runS E0_ok 1 5 [(4, .bool (decide ((List.getD lh3_2 (Int.toNat x8_2) 0) ≤ xh2_0_2)))] rfl (by kernel_rfl) ?_
          refine XR.done (by kernel_rfl) ?_
          show XQ _ _ _ _ _ _ _ _
          refine XQ.ret (by kernel_rfl) ?_
          refine ⟨fun i q => (by cases q), .bool (decide ((List.getD lh3_2 (Int.toNat x8_2) 0) ≤ xh2_0_2)), (by kernel_rfl), ?_⟩
          refine XR.conv (σ' := [(0, s0 3 lh3_2.length), (1, .func (.func 49) #[] #[pp 1 0, pp 2 0]), (5, ii x8_2), (7, ii x7_2), (8, ii x8_2), (16, .bool (decide ((List.getD lh3_2 (Int.toNat x8_2) 0) ≤ xh2_0_2)))]) (h' := [(3, rc (encI .i64) lh3_2 0 3 1), (2, .cells [ii xh2_0_2] 0 3 0), (1, .cells [ii xh1_0_2] 0 3 0), (0, .cells [ii xh0_0_2, ii xh0_1_2, ii xh0_2_2] 0 23 0)]) (c' := 4) ?_ (by kernel_rfl)
          refine XR.done (by kernel_rfl) ?_
          show XQ _ _ _ _ _ _ _ _
          cases b4 : (decide ((List.getD lh3_2 (Int.toNat x8_2) 0) ≤ xh2_0_2) : Bool) with
          | true =>
            have h := cT b4 h
            refine XQ.cond (s := (.tmp 16)) (b := true) (by kernel_rfl) (by kernel_rfl) (fun _ => ?_) (fun q => by cases q)
            refine XQ.seq E0_ok (by kernel_rfl) ?_
            refine XQ.region (by kernel_rfl) ?_
            refine XR.runS E0_ok 1 2 [(4, ii x8_2)] rfl (by kernel_rfl) ?_
            refine XR.done (by kernel_rfl) ?_
            show XQ _ _ _ _ _ _ _ _
            refine XQ.ren (σ' := [(4, ii x8_2)]) (h' := [(3, rc (encI .i64) lh3_2 0 3 1), (2, .cells [ii xh2_0_2] 0 3 0), (1, .cells [ii xh1_0_2] 0 3 0), (0, .cells [ii xh0_0_2, ii xh0_1_2, ii xh0_2_2] 0 23 0)]) (c' := 4) [0, 1, 2, 3] (by decide) rfl ⟨by kernel_rfl, trivial⟩ ⟨⟨_, _, rfl, rfl, .inl ⟨rfl, rowC_scal (encI_ok .i64) _⟩⟩, ⟨_, _, rfl, rfl, .inr ⟨_, _, _, _, rfl, rfl⟩⟩, ⟨_, _, rfl, rfl, .inr ⟨_, _, _, _, rfl, rfl⟩⟩, ⟨_, _, rfl, rfl, .inr ⟨_, _, _, _, rfl, rfl⟩⟩, trivial⟩ rfl ?_
            refine XQ.ret (by kernel_rfl) ?_
            cases h
            exact hQ
          | false =>
            have h := cF b4 h
            refine XQ.cond (s := (.tmp 16)) (b := false) (by kernel_rfl) (by kernel_rfl) (fun q => by cases q) (fun _ => ?_)
            refine XQ.skip (by kernel_rfl) ?_
            show XQ _ _ _ _ _ _ _ _
            refine XQ.region (by kernel_rfl) ?_
            refine XR.runS E0_ok 1 2 [(0, s0 3 lh3_2.length), (1, .func (.func 49) #[] #[pp 1 0, pp 2 0]), (7, ii x7_2), (8, ii (w64 (x8_2 + 1)))] rfl (by kernel_rfl) ?_
            refine XR.done (by kernel_rfl) ?_
            show XL _ _ _ _ _ _ _ _ _
            refine XL.ren (σ' := [(0, s0 3 lh3_2.length), (1, .func (.func 49) #[] #[pp 1 0, pp 2 0]), (7, ii x7_2), (8, ii (w64 (x8_2 + 1)))]) (h' := [(3, rc (encI .i64) lh3_2 0 3 1), (2, .cells [ii xh2_0_2] 0 3 0), (1, .cells [ii xh1_0_2] 0 3 0), (0, .cells [ii xh0_0_2, ii xh0_1_2, ii xh0_2_2] 0 23 0)]) (c' := 4) [0, 1, 2, 3] (by decide) rfl ⟨by kernel_rfl, by kernel_rfl, by kernel_rfl, by kernel_rfl, trivial⟩ ⟨⟨_, _, rfl, rfl, .inl ⟨rfl, rowC_scal (encI_ok .i64) _⟩⟩, ⟨_, _, rfl, rfl, .inr ⟨_, _, _, _, rfl, rfl⟩⟩, ⟨_, _, rfl, rfl, .inr ⟨_, _, _, _, rfl, rfl⟩⟩, ⟨_, _, rfl, rfl, .inr ⟨_, _, _, _, rfl, rfl⟩⟩, trivial⟩ rfl ?_
            refine XL.conv (f8_2_ok m fuel x7_2 (w64 (x8_2 + 1)) xh0_0_2 xh0_1_2 xh0_2_2 xh1_0_2 xh2_0_2 lh3_2 o h Q hQ) (by first | rfl | simp)
        | false =>
          have h := cF b3 h
          refine XR.runS E0_ok 1 5 [(4, .bool false)] rfl (by kernel_rfl) ?_
          refine XR.done (by kernel_rfl) ?_
          show XQ _ _ _ _ _ _ _ _
          refine XQ.ret (by kernel_rfl) ?_
          refine ⟨fun i q => (by cases q), .bool false, (by kernel_rfl), ?_⟩
          refine XR.conv (σ' := [(0, s0 3 lh3_2.length), (1, .func (.func 49) #[] #[pp 1 0, pp 2 0]), (5, ii x8_2), (7, ii x7_2), (8, ii x8_2), (16, .bool false)]) (h' := [(3, rc (encI .i64) lh3_2 0 3 1), (2, .cells [ii xh2_0_2] 0 3 0), (1, .cells [ii xh1_0_2] 0 3 0), (0, .cells [ii xh0_0_2, ii xh0_1_2, ii xh0_2_2] 0 23 0)]) (c' := 4) ?_ (by kernel_rfl)
          refine XR.done (by kernel_rfl) ?_
          show XQ _ _ _ _ _ _ _ _
          refine XQ.cond (s := (.tmp 16)) (b := false) (by kernel_rfl) (by kernel_rfl) (fun q => by cases q) (fun _ => ?_)
          refine XQ.skip (by kernel_rfl) ?_
          show XQ _ _ _ _ _ _ _ _
          refine XQ.region (by kernel_rfl) ?_
          refine XR.runS E0_ok 1 2 [(0, s0 3 lh3_2.length), (1, .func (.func 49) #[] #[pp 1 0, pp 2 0]), (7, ii x7_2), (8, ii (w64 (x8_2 + 1)))] rfl (by kernel_rfl) ?_
          refine XR.done (by kernel_rfl) ?_
          show XL _ _ _ _ _ _ _ _ _
          refine XL.ren (σ' := [(0, s0 3 lh3_2.length), (1, .func (.func 49) #[] #[pp 1 0, pp 2 0]), (7, ii x7_2), (8, ii (w64 (x8_2 + 1)))]) (h' := [(3, rc (encI .i64) lh3_2 0 3 1), (2, .cells [ii xh2_0_2] 0 3 0), (1, .cells [ii xh1_0_2] 0 3 0), (0, .cells [ii xh0_0_2, ii xh0_1_2, ii xh0_2_2] 0 23 0)]) (c' := 4) [0, 1, 2, 3] (by decide) rfl ⟨by kernel_rfl, by kernel_rfl, by kernel_rfl, by kernel_rfl, trivial⟩ ⟨⟨_, _, rfl, rfl, .inl ⟨rfl, rowC_scal (encI_ok .i64) _⟩⟩, ⟨_, _, rfl, rfl, .inr ⟨_, _, _, _, rfl, rfl⟩⟩, ⟨_, _, rfl, rfl, .inr ⟨_, _, _, _, rfl, rfl⟩⟩, ⟨_, _, rfl, rfl, .inr ⟨_, _, _, _, rfl, rfl⟩⟩, trivial⟩ rfl ?_
          refine XL.conv (f8_2_ok m fuel x7_2 (w64 (x8_2 + 1)) xh0_0_2 xh0_1_2 xh0_2_2 xh1_0_2 xh2_0_2 lh3_2 o h Q hQ) (by first | rfl | simp)
    | false =>
      have h := cF b1 h
      refine XQ.cond (s := (.tmp 9)) (b := false) (by kernel_rfl) (by kernel_rfl) (fun q => by cases q) (fun _ => ?_)
      refine XQ.ren (σ' := []) (h' := [(3, rc (encI .i64) lh3_2 0 3 1), (2, .cells [ii xh2_0_2] 0 3 0), (1, .cells [ii xh1_0_2] 0 3 0), (0, .cells [ii xh0_0_2, ii xh0_1_2, ii xh0_2_2] 0 23 0)]) (c' := 4) [0, 1, 2, 3] (by decide) rfl trivial ⟨⟨_, _, rfl, rfl, .inl ⟨rfl, rowC_scal (encI_ok .i64) _⟩⟩, ⟨_, _, rfl, rfl, .inr ⟨_, _, _, _, rfl, rfl⟩⟩, ⟨_, _, rfl, rfl, .inr ⟨_, _, _, _, rfl, rfl⟩⟩, ⟨_, _, rfl, rfl, .inr ⟨_, _, _, _, rfl, rfl⟩⟩, trivial⟩ rfl ?_
      refine XQ.exit (i := 0) (by kernel_rfl) ?_
      cases h
      exact hQ

def f8 (m : Nat) (a_Marks : Int) (a_Step : Int) (a_Turns : Int) (b : Int) (c : Int) : Option (Bool) :=
  (f45 m a_Marks a_Step a_Turns 100).bind fun r1 =>
    (f47 m r1.1 r1.2.1).bind fun r2 =>
      cond (r1.1 != 0) (
        cond (decide ((Int.tmod (w64 b) r1.1) > (Int.tmod (w64 c) r1.1))) (
          (f43 m r1.1 r1.2.1 (Int.tmod (w64 b) r1.1) (Int.tmod (w64 c) r1.1)).bind fun r4 =>
            cond (r4.2 != 7) (
              some (false)
            ) (
              (f46 m r1.1 r1.2.1 r2).bind fun r5 =>
                (f8_1 m m ((r5.length : Nat) : Int) 0 r1.1 r1.2.1 r2 (Int.tmod (w64 c) r1.1) (Int.tmod (w64 b) r1.1) r5).bind fun o1 =>
                  match o1 with
                  | .r x4_r1 xh0_0_r1 xh0_1_r1 xh0_2_r1 xh1_0_r1 xh2_0_r1 lh3_r1 =>
                    (f43 m xh0_0_r1 xh0_1_r1 xh1_0_r1 xh2_0_r1).bind fun r6 =>
                      cond (decide (x4_r1 < 0)) (
                        cond (r6.2 == 12) (
                          cond (r6.1 == 0) (
                            some (true)
                          ) (
                            some (false)
                          )
                        ) (
                          some (false)
                        )
                      ) (
                        (f46 m xh0_0_r1 xh0_1_r1 xh0_2_r1).bind fun r7 =>
                          cond (inRow x4_r1 r7.length) (
                            (f43 m xh0_0_r1 xh0_1_r1 (List.getD r7 (Int.toNat x4_r1) 0) (List.getD r7 (Int.toNat x4_r1) 0)).bind fun r8 =>
                              cond (r6.2 == 0) (
                                cond (r6.1 == x4_r1) (
                                  cond (r8.2 == 0) (
                                    cond (r8.1 == x4_r1) (
                                      some (true)
                                    ) (
                                      some (false)
                                    )
                                  ) (
                                    some (false)
                                  )
                                ) (
                                  some (false)
                                )
                              ) (
                                some (false)
                              )
                          ) none
                      )
                  | .x0 xh0_0_x01 xh0_1_x01 xh0_2_x01 xh1_0_x01 xh2_0_x01 lh3_x01 =>
                    (f43 m xh0_0_x01 xh0_1_x01 xh1_0_x01 xh2_0_x01).bind fun r9 =>
                      cond (r9.2 == 12) (
                        cond (r9.1 == 0) (
                          some (true)
                        ) (
                          some (false)
                        )
                      ) (
                        some (false)
                      )
            )
        ) (
          (f46 m r1.1 r1.2.1 r2).bind fun r10 =>
            (f8_2 m m ((r10.length : Nat) : Int) 0 r1.1 r1.2.1 r2 (Int.tmod (w64 b) r1.1) (Int.tmod (w64 c) r1.1) r10).bind fun o2 =>
              match o2 with
              | .r x4_r2 xh0_0_r2 xh0_1_r2 xh0_2_r2 xh1_0_r2 xh2_0_r2 lh3_r2 =>
                (f43 m xh0_0_r2 xh0_1_r2 xh1_0_r2 xh2_0_r2).bind fun r11 =>
                  cond (decide (x4_r2 < 0)) (
                    cond (r11.2 == 12) (
                      cond (r11.1 == 0) (
                        some (true)
                      ) (
                        some (false)
                      )
                    ) (
                      some (false)
                    )
                  ) (
                    (f46 m xh0_0_r2 xh0_1_r2 xh0_2_r2).bind fun r12 =>
                      cond (inRow x4_r2 r12.length) (
                        (f43 m xh0_0_r2 xh0_1_r2 (List.getD r12 (Int.toNat x4_r2) 0) (List.getD r12 (Int.toNat x4_r2) 0)).bind fun r13 =>
                          cond (r11.2 == 0) (
                            cond (r11.1 == x4_r2) (
                              cond (r13.2 == 0) (
                                cond (r13.1 == x4_r2) (
                                  some (true)
                                ) (
                                  some (false)
                                )
                              ) (
                                some (false)
                              )
                            ) (
                              some (false)
                            )
                          ) (
                            some (false)
                          )
                      ) none
                  )
              | .x0 xh0_0_x02 xh0_1_x02 xh0_2_x02 xh1_0_x02 xh2_0_x02 lh3_x02 =>
                (f43 m xh0_0_x02 xh0_1_x02 xh1_0_x02 xh2_0_x02).bind fun r14 =>
                  cond (r14.2 == 12) (
                    cond (r14.1 == 0) (
                      some (true)
                    ) (
                      some (false)
                    )
                  ) (
                    some (false)
                  )
        )
      ) none

theorem f8_ok (m : Nat) (a_Marks : Int) (a_Step : Int) (a_Turns : Int) (b : Int) (c : Int) (o : Bool) (h : f8 m a_Marks a_Step a_Turns b c = some o) (w : World) (hI : anyInv w) : Calls Proofs.Try.prog 8 #[.agg #[.int .u8 a_Marks, .int .u8 a_Step, .int .u8 a_Turns], .int .u8 b, .int .u8 c] w fun e w' => e = .returned (.bool o) ∧ Below w.heap.size w w' := by
  refine KC.calls (E := E0) (args := [.agg #[.int .u8 a_Marks, .int .u8 a_Step, .int .u8 a_Turns], .int .u8 b, .int .u8 c]) (v := .bool o) rfl rfl (KC.bodyN E0_ok (F := Proofs.Try.f8) (by kernel_rfl) (code := f8_C8) (by kernel_rfl) (nt := 112) (by kernel_rfl) (rs := [.tmp 6]) (by kernel_rfl) (by kernel_rfl) (σ := [(0, .agg #[.int .u8 a_Marks, .int .u8 a_Step, .int .u8 a_Turns]), (1, .int .u8 b), (2, .int .u8 c)]) (by kernel_rfl) ?_) w (anyInv_size hI) hI
  unfold f8 at h
  refine XQ.seq E0_ok (by kernel_rfl) ?_
  refine XQ.region (by kernel_rfl) ?_
  refine XR.runT E0_ok 1 2 [(1, .int .u8 b), (2, .int .u8 c), (3, pp 0 0)] [(0, .cells [.int .u8 a_Marks, .int .u8 a_Step, .int .u8 a_Turns] 0 52 0)] 1 rfl (by kernel_rfl) ?_
  refine XR.done (by kernel_rfl) ?_
  show XQ _ _ _ _ _ _ _ _
  refine XQ.seq E0_ok (by kernel_rfl) ?_
  refine XQ.region (by kernel_rfl) ?_
  refine XR.runS E0_ok 1 1 [(1, .int .u8 b), (2, .int .u8 c), (18, .agg #[.int .u8 a_Marks, .int .u8 a_Step, .int .u8 a_Turns])] rfl (by kernel_rfl) ?_
  obtain ⟨r1, r1_h, h⟩ := bS h
  refine XR.call E0_ok [1, 2, 19] rfl (K := 45) (args := [.agg #[.int .u8 a_Marks, .int .u8 a_Step, .int .u8 a_Turns], ii 100]) (d := (some (path 12 19))) (by kernel_rfl) (KC.of_calls E0_ok (F := Proofs.Try.f45) (v := .agg #[ii r1.1, ii r1.2.1, ii r1.2.2]) (by kernel_rfl) rfl rfl (fun w hI => f45_ok m a_Marks a_Step a_Turns 100 r1 r1_h w hI)) ?_
  rintro _ _ _ ⟨rfl, rfl, rfl⟩
  refine XR.conv (σ' := [(1, .int .u8 b), (2, .int .u8 c), (19, .agg #[ii r1.1, ii r1.2.1, ii r1.2.2])]) (h' := [(0, .cells [.int .u8 a_Marks, .int .u8 a_Step, .int .u8 a_Turns] 0 52 0)]) (c' := 1) ?_ (by kernel_rfl)
  refine XR.runT E0_ok 1 2 [(1, .int .u8 b), (2, .int .u8 c), (7, pp 1 0)] [(1, .cells [ii r1.1, ii r1.2.1, ii r1.2.2] 0 23 0), (0, .cells [.int .u8 a_Marks, .int .u8 a_Step, .int .u8 a_Turns] 0 52 0)] 2 rfl (by kernel_rfl) ?_
  refine XR.done (by kernel_rfl) ?_
  show XQ _ _ _ _ _ _ _ _
  refine XQ.seq E0_ok (by kernel_rfl) ?_
  refine XQ.region (by kernel_rfl) ?_
  refine XR.runS E0_ok 1 4 [(1, .int .u8 b), (2, .int .u8 c), (7, pp 1 0), (21, ii r1.1), (23, ii r1.2.1)] rfl (by kernel_rfl) ?_
  obtain ⟨r2, r2_h, h⟩ := bS h
  refine XR.call E0_ok [1, 2, 7, 24] rfl (K := 47) (args := [ii r1.1, ii r1.2.1]) (d := (some (path 12 24))) (by kernel_rfl) (KC.of_calls E0_ok (F := Proofs.Try.f47) (v := ii r2) (by kernel_rfl) rfl rfl (fun w hI => f47_ok m r1.1 r1.2.1 r2 r2_h w hI)) ?_
  rintro _ _ _ ⟨rfl, rfl, rfl⟩
  refine XR.conv (σ' := [(1, .int .u8 b), (2, .int .u8 c), (7, pp 1 0), (24, ii r2)]) (h' := [(1, .cells [ii r1.1, ii r1.2.1, ii r1.2.2] 0 23 0), (0, .cells [.int .u8 a_Marks, .int .u8 a_Step, .int .u8 a_Turns] 0 52 0)]) (c' := 2) ?_ (by kernel_rfl)
  refine XR.runT E0_ok 1 2 [(1, .int .u8 b), (2, .int .u8 c), (7, pp 1 0)] [(1, .cells [ii r1.1, ii r1.2.1, ii r2] 0 23 0), (0, .cells [.int .u8 a_Marks, .int .u8 a_Step, .int .u8 a_Turns] 0 52 0)] 2 rfl (by kernel_rfl) ?_
  refine XR.done (by kernel_rfl) ?_
  show XQ _ _ _ _ _ _ _ _
  refine XQ.seq E0_ok (by kernel_rfl) ?_
  cases b1 : (r1.1 != 0 : Bool) with
  | false => cases (cF b1 h)
  | true =>
    have h := cT b1 h
    refine XQ.preA E0_ok [0, 1, 2, 5, 6, 7] (by kernel_rfl) (g := 8) (listed := #[true, true, true, false, false, true, true, true, false, false, false, false, false, false]) (by kernel_rfl) (by kernel_rfl) (by kernel_rfl) (by kernel_rfl) (by kernel_rfl) (σ' := [(7, pp 0 0), (8, pp 1 0), (9, pp 2 0)]) (h' := [(2, .cells [ii (Int.tmod (w64 c) r1.1)] 0 3 0), (1, .cells [ii (Int.tmod (w64 b) r1.1)] 0 3 0), (0, .cells [ii r1.1, ii r1.2.1, ii r2] 0 23 0)]) (c' := 3) ?_ ?_
    · show XQ _ _ _ _ _ _ _ _
      refine XQ.seq E0_ok (by kernel_rfl) ?_
      refine XQ.seq E0_ok (by kernel_rfl) ?_
      refine XQ.region (by kernel_rfl) ?_
      refine XR.runS E0_ok 1 3 [(7, pp 0 0), (8, pp 1 0), (9, pp 2 0), (38, .bool (decide ((Int.tmod (w64 b) r1.1) > (Int.tmod (w64 c) r1.1))))] rfl (by kernel_rfl) ?_
      refine XR.done (by kernel_rfl) ?_
      show XQ _ _ _ _ _ _ _ _
      cases b2 : (decide ((Int.tmod (w64 b) r1.1) > (Int.tmod (w64 c) r1.1)) : Bool) with
      | true =>
        have h := cT b2 h
        refine XQ.cond (s := (.tmp 38)) (b := true) (by kernel_rfl) (by kernel_rfl) (fun _ => ?_) (fun q => by cases q)
        refine XQ.seq E0_ok (by kernel_rfl) ?_
        refine XQ.region (by kernel_rfl) ?_
        refine XR.runS E0_ok 1 6 [(7, pp 0 0), (8, pp 1 0), (9, pp 2 0), (41, ii r1.1), (43, ii r1.2.1), (44, ii (Int.tmod (w64 b) r1.1)), (45, ii (Int.tmod (w64 c) r1.1))] rfl (by kernel_rfl) ?_
        obtain ⟨r4, r4_h, h⟩ := bS h
        refine XR.call E0_ok [7, 8, 9, 46] rfl (K := 43) (args := [ii r1.1, ii r1.2.1, ii (Int.tmod (w64 b) r1.1), ii (Int.tmod (w64 c) r1.1)]) (d := (some (path 12 46))) (by kernel_rfl) (KC.of_calls E0_ok (F := Proofs.Try.f43) (v := .tuple #[ii r4.1, ii r4.2]) (by kernel_rfl) rfl rfl (fun w hI => f43_ok m r1.1 r1.2.1 (Int.tmod (w64 b) r1.1) (Int.tmod (w64 c) r1.1) r4 r4_h w hI)) ?_
        rintro _ _ _ ⟨rfl, rfl, rfl⟩
        refine XR.conv (σ' := [(7, pp 0 0), (8, pp 1 0), (9, pp 2 0), (46, .tuple #[ii r4.1, ii r4.2])]) (h' := [(2, .cells [ii (Int.tmod (w64 c) r1.1)] 0 3 0), (1, .cells [ii (Int.tmod (w64 b) r1.1)] 0 3 0), (0, .cells [ii r1.1, ii r1.2.1, ii r2] 0 23 0)]) (c' := 3) ?_ (by kernel_rfl)
        refine XR.runS E0_ok 1 5 [(7, pp 0 0), (8, pp 1 0), (9, pp 2 0), (11, ii r4.2)] rfl (by kernel_rfl) ?_
        refine XR.done (by kernel_rfl) ?_
        show XQ _ _ _ _ _ _ _ _
        refine XQ.seq E0_ok (by kernel_rfl) ?_
        refine XQ.seq E0_ok (by kernel_rfl) ?_
        refine XQ.region (by kernel_rfl) ?_
        refine XR.runS E0_ok 1 2 [(7, pp 0 0), (8, pp 1 0), (9, pp 2 0), (50, .bool (r4.2 != 7))] rfl (by kernel_rfl) ?_
        refine XR.done (by kernel_rfl) ?_
        show XQ _ _ _ _ _ _ _ _
        cases b3 : (r4.2 != 7 : Bool) with
        | true =>
          have h := cT b3 h
          refine XQ.cond (s := (.tmp 50)) (b := true) (by kernel_rfl) (by kernel_rfl) (fun _ => ?_) (fun q => by cases q)
          refine XQ.seq E0_ok (by kernel_rfl) ?_
          refine XQ.region (by kernel_rfl) ?_
          refine XR.runS E0_ok 1 1 [(6, .bool false)] rfl (by kernel_rfl) ?_
          refine XR.done (by kernel_rfl) ?_
          show XQ _ _ _ _ _ _ _ _
          refine XQ.ret (by kernel_rfl) ?_
          have h := Option.some.inj h
          subst h
          exact ⟨fun i q => (by cases q), .bool false, (by kernel_rfl), rfl⟩
        | false =>
          have h := cF b3 h
          refine XQ.cond (s := (.tmp 50)) (b := false) (by kernel_rfl) (by kernel_rfl) (fun q => by cases q) (fun _ => ?_)
          refine XQ.skip (by kernel_rfl) ?_
          show XQ _ _ _ _ _ _ _ _
          refine XQ.region (by kernel_rfl) ?_
          refine XR.runT E0_ok 1 4 [(7, pp 0 0), (8, pp 1 0), (9, pp 2 0)] [(2, .cells [ii (Int.tmod (w64 b) r1.1)] 0 3 0), (1, .cells [ii (Int.tmod (w64 c) r1.1)] 0 3 0), (0, .cells [ii r1.1, ii r1.2.1, ii r2] 0 23 0)] 3 rfl (by kernel_rfl) ?_
          refine XR.done (by kernel_rfl) ?_
          show XQ _ _ _ _ _ _ _ _
          refine XQ.seq E0_ok (by kernel_rfl) ?_
          refine XQ.region (by kernel_rfl) ?_
          refine XR.runS E0_ok 1 1 [(7, pp 0 0), (8, pp 1 0), (9, pp 2 0), (53, .agg #[ii r1.1, ii r1.2.1, ii r2])] rfl (by kernel_rfl) ?_
          obtain ⟨r5, r5_h, h⟩ := bS h
          refine XR.call E0_ok [7, 8, 9, 54] rfl (K := 46) (args := [.agg #[ii r1.1, ii r1.2.1, ii r2]]) (d := (some (path 12 54))) (by kernel_rfl) (KC.lift (V2 := s0 3 r5.length) (H2 := [(3, rc (encI .i64) r5 0 3 1)]) [1, 2, 3, 0] (f46_ok m r1.1 r1.2.1 r2 r5 r5_h) rfl (by decide) (by decide) (by kernel_rfl) ⟨⟨_, _, rfl, rfl, .inl ⟨rfl, rowC_scal (encI_ok .i64) _⟩⟩, trivial⟩ (by rfl)) ?_
          rintro _ _ _ ⟨rfl, rfl, rfl⟩
          refine XR.conv (σ' := [(7, pp 0 0), (8, pp 1 0), (9, pp 2 0), (54, s0 3 r5.length)]) (h' := [(3, rc (encI .i64) r5 0 3 1), (2, .cells [ii (Int.tmod (w64 b) r1.1)] 0 3 0), (1, .cells [ii (Int.tmod (w64 c) r1.1)] 0 3 0), (0, .cells [ii r1.1, ii r1.2.1, ii r2] 0 23 0)]) (c' := 4) ?_ (by kernel_rfl)
          refine XR.runS E0_ok 1 1 [(7, pp 0 0), (8, pp 1 0), (9, pp 2 0), (54, s0 3 r5.length), (55, .func (.func 49) #[] #[pp 1 0, pp 2 0])] rfl (by kernel_rfl) ?_
          refine XR.callK E0_ok [7, 8, 9, 56] rfl (K := 48) (args := [s0 3 r5.length, .func (.func 49) #[] #[pp 1 0, pp 2 0]]) (d := (some (path 12 56))) (by kernel_rfl) ?_
          refine KC.bodyN E0_ok (F := Proofs.Try.f48) (by kernel_rfl) (code := f8_C48) (by kernel_rfl) (nt := 19) (by kernel_rfl) (rs := [.tmp 4]) (by kernel_rfl) (by kernel_rfl) (σ := [(0, s0 3 r5.length), (1, .func (.func 49) #[] #[pp 1 0, pp 2 0])]) (by kernel_rfl) ?_
          refine XQ.seq E0_ok (by kernel_rfl) ?_
          refine XQ.region (by kernel_rfl) ?_
          refine XR.runS E0_ok 1 1 [(0, s0 3 r5.length), (1, .func (.func 49) #[] #[pp 1 0, pp 2 0])] rfl (by kernel_rfl) ?_
          refine XR.done (by kernel_rfl) ?_
          show XQ _ _ _ _ _ _ _ _
          refine XQ.seq E0_ok (by kernel_rfl) ?_
          refine XQ.seq E0_ok (by kernel_rfl) ?_
          refine XQ.region (by kernel_rfl) ?_
          refine XR.runS E0_ok 1 3 [(0, s0 3 r5.length), (1, .func (.func 49) #[] #[pp 1 0, pp 2 0]), (7, ii ((r5.length : Nat) : Int)), (8, ii 0)] rfl (by kernel_rfl) ?_
          refine XR.done (by kernel_rfl) ?_
          show XQ _ _ _ _ _ _ _ _
          refine XQ.block (id := 0) (by kernel_rfl) ?_
          refine XQ.loop m (by kernel_rfl) ?_
          obtain ⟨o1, o1_h, h⟩ := bS h
          refine XL.ren (σ' := [(0, s0 3 r5.length), (1, .func (.func 49) #[] #[pp 1 0, pp 2 0]), (7, ii ((r5.length : Nat) : Int)), (8, ii 0)]) (h' := [(3, rc (encI .i64) r5 0 3 1), (2, .cells [ii (Int.tmod (w64 b) r1.1)] 0 3 0), (1, .cells [ii (Int.tmod (w64 c) r1.1)] 0 3 0), (0, .cells [ii r1.1, ii r1.2.1, ii r2] 0 23 0)]) (c' := 4) [0, 1, 2, 3] (by decide) rfl ⟨by kernel_rfl, by kernel_rfl, by kernel_rfl, by kernel_rfl, trivial⟩ ⟨⟨_, _, rfl, rfl, .inl ⟨rfl, rowC_scal (encI_ok .i64) _⟩⟩, ⟨_, _, rfl, rfl, .inr ⟨_, _, _, _, rfl, rfl⟩⟩, ⟨_, _, rfl, rfl, .inr ⟨_, _, _, _, rfl, rfl⟩⟩, ⟨_, _, rfl, rfl, .inr ⟨_, _, _, _, rfl, rfl⟩⟩, trivial⟩ rfl ?_
          cases o1 with
          | r x4_r1 xh0_0_r1 xh0_1_r1 xh0_2_r1 xh1_0_r1 xh2_0_r1 lh3_r1 =>
            dsimp only at h
            refine XL.conv (f8_1_ok m m ((r5.length : Nat) : Int) 0 r1.1 r1.2.1 r2 (Int.tmod (w64 c) r1.1) (Int.tmod (w64 b) r1.1) r5 (.r x4_r1 xh0_0_r1 xh0_1_r1 xh0_2_r1 xh1_0_r1 xh2_0_r1 lh3_r1) o1_h _ ?_) (by first | rfl | simp)
            refine ⟨fun i q => (by cases q), ii x4_r1, (by kernel_rfl), ?_⟩
            refine XR.conv (σ' := [(7, pp 0 0), (8, pp 1 0), (9, pp 2 0), (56, ii x4_r1)]) (h' := [(3, rc (encI .i64) lh3_r1 0 3 1), (2, .cells [ii xh2_0_r1] 0 3 0), (1, .cells [ii xh1_0_r1] 0 3 0), (0, .cells [ii xh0_0_r1, ii xh0_1_r1, ii xh0_2_r1] 0 23 0)]) (c' := 4) ?_ (by kernel_rfl)
            refine XR.runS E0_ok 1 1 [(7, pp 0 0), (8, pp 1 0), (9, pp 2 0), (12, ii x4_r1)] rfl (by kernel_rfl) ?_
            refine XR.done (by kernel_rfl) ?_
            show XQ _ _ _ _ _ _ _ _
            refine XQ.seq E0_ok (by kernel_rfl) ?_
            refine XQ.region (by kernel_rfl) ?_
            refine XR.runS E0_ok 1 6 [(7, pp 0 0), (12, ii x4_r1), (59, ii xh0_0_r1), (61, ii xh0_1_r1), (62, ii xh1_0_r1), (63, ii xh2_0_r1)] rfl (by kernel_rfl) ?_
            obtain ⟨r6, r6_h, h⟩ := bS h
            refine XR.call E0_ok [7, 12, 64] rfl (K := 43) (args := [ii xh0_0_r1, ii xh0_1_r1, ii xh1_0_r1, ii xh2_0_r1]) (d := (some (path 12 64))) (by kernel_rfl) (KC.of_calls E0_ok (F := Proofs.Try.f43) (v := .tuple #[ii r6.1, ii r6.2]) (by kernel_rfl) rfl rfl (fun w hI => f43_ok m xh0_0_r1 xh0_1_r1 xh1_0_r1 xh2_0_r1 r6 r6_h w hI)) ?_
            rintro _ _ _ ⟨rfl, rfl, rfl⟩
            refine XR.conv (σ' := [(7, pp 0 0), (12, ii x4_r1), (64, .tuple #[ii r6.1, ii r6.2])]) (h' := [(3, rc (encI .i64) lh3_r1 0 3 1), (2, .cells [ii xh2_0_r1] 0 3 0), (1, .cells [ii xh1_0_r1] 0 3 0), (0, .cells [ii xh0_0_r1, ii xh0_1_r1, ii xh0_2_r1] 0 23 0)]) (c' := 4) ?_ (by kernel_rfl)
            refine XR.runS E0_ok 1 5 [(7, pp 0 0), (12, ii x4_r1), (13, ii r6.1), (14, ii r6.2)] rfl (by kernel_rfl) ?_
            refine XR.done (by kernel_rfl) ?_
            show XQ _ _ _ _ _ _ _ _
            refine XQ.seq E0_ok (by kernel_rfl) ?_
            refine XQ.seq E0_ok (by kernel_rfl) ?_
            refine XQ.region (by kernel_rfl) ?_
            refine XR.runS E0_ok 1 2 [(7, pp 0 0), (12, ii x4_r1), (13, ii r6.1), (14, ii r6.2), (68, .bool (decide (x4_r1 < 0)))] rfl (by kernel_rfl) ?_
            refine XR.done (by kernel_rfl) ?_
            show XQ _ _ _ _ _ _ _ _
            cases b5 : (decide (x4_r1 < 0) : Bool) with
            | true =>
              have h := cT b5 h
              refine XQ.cond (s := (.tmp 68)) (b := true) (by kernel_rfl) (by kernel_rfl) (fun _ => ?_) (fun q => by cases q)
              refine XQ.seq E0_ok (by kernel_rfl) ?_
              refine XQ.region (by kernel_rfl) ?_
              refine XR.runS E0_ok 1 3 [(13, ii r6.1), (71, .bool (r6.2 == 12))] rfl (by kernel_rfl) ?_
              cases b6 : (r6.2 == 12 : Bool) with
              | true =>
                have h := cT b6 h
                refine XR.runS E0_ok 1 4 [(75, .bool (r6.1 == 0))] rfl (by kernel_rfl) ?_
                cases b7 : (r6.1 == 0 : Bool) with
                | true =>
                  have h := cT b7 h
                  refine XR.call E0_ok [75, 76] rfl (K := 28) (args := []) (d := (some (path 12 76))) (by kernel_rfl) (KC.of_calls E0_ok (F := Proofs.Try.f28) (v := .bool true) (by kernel_rfl) rfl rfl (works_ok)) ?_
                  rintro _ _ _ ⟨rfl, rfl, rfl⟩
                  refine XR.conv (σ' := [(75, .bool true), (76, .bool true)]) (h' := [(3, rc (encI .i64) lh3_r1 0 3 1), (2, .cells [ii xh2_0_r1] 0 3 0), (1, .cells [ii xh1_0_r1] 0 3 0), (0, .cells [ii xh0_0_r1, ii xh0_1_r1, ii xh0_2_r1] 0 23 0)]) (c' := 4) ?_ (by kernel_rfl)
                  refine XR.runS E0_ok 1 2 [(6, .bool true)] rfl (by kernel_rfl) ?_
                  refine XR.done (by kernel_rfl) ?_
                  show XQ _ _ _ _ _ _ _ _
                  refine XQ.ret (by kernel_rfl) ?_
                  have h := Option.some.inj h
                  subst h
                  exact ⟨fun i q => (by cases q), .bool true, (by kernel_rfl), rfl⟩
                | false =>
                  have h := cF b7 h
                  refine XR.runS E0_ok 1 3 [(6, .bool false)] rfl (by kernel_rfl) ?_
                  refine XR.done (by kernel_rfl) ?_
                  show XQ _ _ _ _ _ _ _ _
                  refine XQ.ret (by kernel_rfl) ?_
                  have h := Option.some.inj h
                  subst h
                  exact ⟨fun i q => (by cases q), .bool false, (by kernel_rfl), rfl⟩
              | false =>
                have h := cF b6 h
                refine XR.runS E0_ok 1 7 [(6, .bool false)] rfl (by kernel_rfl) ?_
                refine XR.done (by kernel_rfl) ?_
                show XQ _ _ _ _ _ _ _ _
                refine XQ.ret (by kernel_rfl) ?_
                have h := Option.some.inj h
                subst h
                exact ⟨fun i q => (by cases q), .bool false, (by kernel_rfl), rfl⟩
            | false =>
              have h := cF b5 h
              refine XQ.cond (s := (.tmp 68)) (b := false) (by kernel_rfl) (by kernel_rfl) (fun q => by cases q) (fun _ => ?_)
              refine XQ.skip (by kernel_rfl) ?_
              show XQ _ _ _ _ _ _ _ _
              refine XQ.seq E0_ok (by kernel_rfl) ?_
              refine XQ.region (by kernel_rfl) ?_
              refine XR.runS E0_ok 1 1 [(7, pp 0 0), (12, ii x4_r1), (13, ii r6.1), (14, ii r6.2), (78, .agg #[ii xh0_0_r1, ii xh0_1_r1, ii xh0_2_r1])] rfl (by kernel_rfl) ?_
              obtain ⟨r7, r7_h, h⟩ := bS h
              refine XR.call E0_ok [7, 12, 13, 14, 79] rfl (K := 46) (args := [.agg #[ii xh0_0_r1, ii xh0_1_r1, ii xh0_2_r1]]) (d := (some (path 12 79))) (by kernel_rfl) (KC.lift (V2 := s0 4 r7.length) (H2 := [(4, rc (encI .i64) r7 0 3 1)]) [1, 2, 3, 4, 0] (f46_ok m xh0_0_r1 xh0_1_r1 xh0_2_r1 r7 r7_h) rfl (by decide) (by decide) (by kernel_rfl) ⟨⟨_, _, rfl, rfl, .inl ⟨rfl, rowC_scal (encI_ok .i64) _⟩⟩, trivial⟩ (by rfl)) ?_
              rintro _ _ _ ⟨rfl, rfl, rfl⟩
              refine XR.conv (σ' := [(7, pp 0 0), (12, ii x4_r1), (13, ii r6.1), (14, ii r6.2), (79, s0 4 r7.length)]) (h' := [(4, rc (encI .i64) r7 0 3 1), (3, rc (encI .i64) lh3_r1 0 3 1), (2, .cells [ii xh2_0_r1] 0 3 0), (1, .cells [ii xh1_0_r1] 0 3 0), (0, .cells [ii xh0_0_r1, ii xh0_1_r1, ii xh0_2_r1] 0 23 0)]) (c' := 5) ?_ (by kernel_rfl)
              refine XR.runS E0_ok 1 1 [(7, pp 0 0), (12, ii x4_r1), (13, ii r6.1), (14, ii r6.2), (79, s0 4 r7.length), (80, ii x4_r1)] rfl (by kernel_rfl) ?_
              cases b8 : (inRow x4_r1 r7.length : Bool) with
              | false => cases (cF b8 h)
              | true =>
                have h := cT b8 h
                refine XR.rd E0_ok [7, 12, 13, 14, 81] rfl (v := pp 4 ((Int.toNat x4_r1) * 1)) (v_idx (s := 1) (x := (src 112 (.tmp 79))) (y := (src 112 (.tmp 80))) (b := 4) (o := 0) (len := r7.length) (cap := r7.length) (ik := .i64) (i := x4_r1) (off := (Int.toNat x4_r1) * 1) (d := (some (path 12 81))) (by kernel_rfl) (by kernel_rfl) (by kernel_rfl) b8 (by omega)) (σ' := [(7, pp 0 0), (12, ii x4_r1), (13, ii r6.1), (14, ii r6.2), (81, pp 4 ((Int.toNat x4_r1) * 1))]) (by kernel_rfl) ?_
                refine XR.rd E0_ok [7, 12, 13, 14, 82] rfl (v := ii (List.getD r7 (Int.toNat x4_r1) 0)) (v_load1 (encI_ok .i64) (x := (src 112 (.tmp 81))) (b := 4) (off := (Int.toNat x4_r1) * 1) (xs := r7) (fz := 0) (e := 3) (es := 1) (d := (some (path 12 82))) (by kernel_rfl) (by kernel_rfl) (by kernel_rfl) (Int.toNat x4_r1) 0 0 (by first | rfl | omega) (row_len (inRow_toNat b8) (by simp)) rfl rfl) (σ' := [(7, pp 0 0), (12, ii x4_r1), (13, ii r6.1), (14, ii r6.2), (82, ii (List.getD r7 (Int.toNat x4_r1) 0))]) (by kernel_rfl) ?_
                refine XR.runS E0_ok 1 1 [(7, pp 0 0), (12, ii x4_r1), (13, ii r6.1), (14, ii r6.2), (15, ii (List.getD r7 (Int.toNat x4_r1) 0))] rfl (by kernel_rfl) ?_
                refine XR.done (by kernel_rfl) ?_
                show XQ _ _ _ _ _ _ _ _
                refine XQ.seq E0_ok (by kernel_rfl) ?_
                refine XQ.region (by kernel_rfl) ?_
                refine XR.runS E0_ok 1 6 [(12, ii x4_r1), (13, ii r6.1), (14, ii r6.2), (85, ii xh0_0_r1), (87, ii xh0_1_r1), (88, ii (List.getD r7 (Int.toNat x4_r1) 0)), (89, ii (List.getD r7 (Int.toNat x4_r1) 0))] rfl (by kernel_rfl) ?_
                obtain ⟨r8, r8_h, h⟩ := bS h
                refine XR.call E0_ok [12, 13, 14, 90] rfl (K := 43) (args := [ii xh0_0_r1, ii xh0_1_r1, ii (List.getD r7 (Int.toNat x4_r1) 0), ii (List.getD r7 (Int.toNat x4_r1) 0)]) (d := (some (path 12 90))) (by kernel_rfl) (KC.of_calls E0_ok (F := Proofs.Try.f43) (v := .tuple #[ii r8.1, ii r8.2]) (by kernel_rfl) rfl rfl (fun w hI => f43_ok m xh0_0_r1 xh0_1_r1 (List.getD r7 (Int.toNat x4_r1) 0) (List.getD r7 (Int.toNat x4_r1) 0) r8 r8_h w hI)) ?_
                rintro _ _ _ ⟨rfl, rfl, rfl⟩
                refine XR.conv (σ' := [(12, ii x4_r1), (13, ii r6.1), (14, ii r6.2), (90, .tuple #[ii r8.1, ii r8.2])]) (h' := [(4, rc (encI .i64) r7 0 3 1), (3, rc (encI .i64) lh3_r1 0 3 1), (2, .cells [ii xh2_0_r1] 0 3 0), (1, .cells [ii xh1_0_r1] 0 3 0), (0, .cells [ii xh0_0_r1, ii xh0_1_r1, ii xh0_2_r1] 0 23 0)]) (c' := 5) ?_ (by kernel_rfl)
                refine XR.runS E0_ok 1 5 [(12, ii x4_r1), (13, ii r6.1), (14, ii r6.2), (16, ii r8.1), (17, ii r8.2)] rfl (by kernel_rfl) ?_
                refine XR.done (by kernel_rfl) ?_
                show XQ _ _ _ _ _ _ _ _
                refine XQ.seq E0_ok (by kernel_rfl) ?_
                refine XQ.region (by kernel_rfl) ?_
                refine XR.runS E0_ok 1 3 [(12, ii x4_r1), (13, ii r6.1), (16, ii r8.1), (17, ii r8.2), (95, .bool (r6.2 == 0))] rfl (by kernel_rfl) ?_
                cases b9 : (r6.2 == 0 : Bool) with
                | true =>
                  have h := cT b9 h
                  refine XR.runS E0_ok 1 5 [(12, ii x4_r1), (16, ii r8.1), (17, ii r8.2), (100, .bool (r6.1 == x4_r1))] rfl (by kernel_rfl) ?_
                  cases b10 : (r6.1 == x4_r1 : Bool) with
                  | true =>
                    have h := cT b10 h
                    refine XR.runS E0_ok 1 4 [(12, ii x4_r1), (16, ii r8.1), (104, .bool (r8.2 == 0))] rfl (by kernel_rfl) ?_
                    cases b11 : (r8.2 == 0 : Bool) with
                    | true =>
                      have h := cT b11 h
                      refine XR.runS E0_ok 1 5 [(109, .bool (r8.1 == x4_r1))] rfl (by kernel_rfl) ?_
                      cases b12 : (r8.1 == x4_r1 : Bool) with
                      | true =>
                        have h := cT b12 h
                        refine XR.call E0_ok [109, 110] rfl (K := 28) (args := []) (d := (some (path 12 110))) (by kernel_rfl) (KC.of_calls E0_ok (F := Proofs.Try.f28) (v := .bool true) (by kernel_rfl) rfl rfl (works_ok)) ?_
                        rintro _ _ _ ⟨rfl, rfl, rfl⟩
                        refine XR.conv (σ' := [(109, .bool true), (110, .bool true)]) (h' := [(4, rc (encI .i64) r7 0 3 1), (3, rc (encI .i64) lh3_r1 0 3 1), (2, .cells [ii xh2_0_r1] 0 3 0), (1, .cells [ii xh1_0_r1] 0 3 0), (0, .cells [ii xh0_0_r1, ii xh0_1_r1, ii xh0_2_r1] 0 23 0)]) (c' := 5) ?_ (by kernel_rfl)
                        refine XR.runS E0_ok 1 2 [(6, .bool true)] rfl (by kernel_rfl) ?_
                        refine XR.done (by kernel_rfl) ?_
                        show XQ _ _ _ _ _ _ _ _
                        refine XQ.ret (by kernel_rfl) ?_
                        have h := Option.some.inj h
                        subst h
                        exact ⟨fun i q => (by cases q), .bool true, (by kernel_rfl), rfl⟩
                      | false =>
                        have h := cF b12 h
                        refine XR.runS E0_ok 1 3 [(6, .bool false)] rfl (by kernel_rfl) ?_
                        refine XR.done (by kernel_rfl) ?_
                        show XQ _ _ _ _ _ _ _ _
                        refine XQ.ret (by kernel_rfl) ?_
                        have h := Option.some.inj h
                        subst h
                        exact ⟨fun i q => (by cases q), .bool false, (by kernel_rfl), rfl⟩
                    | false =>
                      have h := cF b11 h
                      refine XR.runS E0_ok 1 8 [(6, .bool false)] rfl (by kernel_rfl) ?_
                      refine XR.done (by kernel_rfl) ?_
                      show XQ _ _ _ _ _ _ _ _
                      refine XQ.ret (by kernel_rfl) ?_
                      have h := Option.some.inj h
                      subst h
                      exact ⟨fun i q => (by cases q), .bool false, (by kernel_rfl), rfl⟩
                  | false =>
                    have h := cF b10 h
                    refine XR.runS E0_ok 1 12 [(6, .bool false)] rfl (by kernel_rfl) ?_
                    refine XR.done (by kernel_rfl) ?_
                    show XQ _ _ _ _ _ _ _ _
                    refine XQ.ret (by kernel_rfl) ?_
                    have h := Option.some.inj h
                    subst h
                    exact ⟨fun i q => (by cases q), .bool false, (by kernel_rfl), rfl⟩
                | false =>
                  have h := cF b9 h
                  refine XR.runS E0_ok 1 17 [(6, .bool false)] rfl (by kernel_rfl) ?_
                  refine XR.done (by kernel_rfl) ?_
                  show XQ _ _ _ _ _ _ _ _
                  refine XQ.ret (by kernel_rfl) ?_
                  have h := Option.some.inj h
                  subst h
                  exact ⟨fun i q => (by cases q), .bool false, (by kernel_rfl), rfl⟩
          | x0 xh0_0_x01 xh0_1_x01 xh0_2_x01 xh1_0_x01 xh2_0_x01 lh3_x01 =>
            dsimp only at h
            refine XL.conv (f8_1_ok m m ((r5.length : Nat) : Int) 0 r1.1 r1.2.1 r2 (Int.tmod (w64 c) r1.1) (Int.tmod (w64 b) r1.1) r5 (.x0 xh0_0_x01 xh0_1_x01 xh0_2_x01 xh1_0_x01 xh2_0_x01 lh3_x01) o1_h _ ?_) (by first | rfl | simp)
            show XQ _ _ _ _ _ _ _ _
            refine XQ.seq E0_ok (by kernel_rfl) ?_
            refine XQ.region (by kernel_rfl) ?_
            refine XR.runS E0_ok 1 1 [(4, ii (-1))] rfl (by kernel_rfl) ?_
            refine XR.done (by kernel_rfl) ?_
            show XQ _ _ _ _ _ _ _ _
            refine XQ.ret (by kernel_rfl) ?_
            refine ⟨fun i q => (by cases q), ii (-1), (by kernel_rfl), ?_⟩
            refine XR.conv (σ' := [(7, pp 0 0), (8, pp 1 0), (9, pp 2 0), (56, ii (-1))]) (h' := [(3, rc (encI .i64) lh3_x01 0 3 1), (2, .cells [ii xh2_0_x01] 0 3 0), (1, .cells [ii xh1_0_x01] 0 3 0), (0, .cells [ii xh0_0_x01, ii xh0_1_x01, ii xh0_2_x01] 0 23 0)]) (c' := 4) ?_ (by kernel_rfl)
            refine XR.runS E0_ok 1 1 [(7, pp 0 0), (8, pp 1 0), (9, pp 2 0), (12, ii (-1))] rfl (by kernel_rfl) ?_
            refine XR.done (by kernel_rfl) ?_
            show XQ _ _ _ _ _ _ _ _
            refine XQ.seq E0_ok (by kernel_rfl) ?_
            refine XQ.region (by kernel_rfl) ?_
            refine XR.runS E0_ok 1 6 [(7, pp 0 0), (12, ii (-1)), (59, ii xh0_0_x01), (61, ii xh0_1_x01), (62, ii xh1_0_x01), (63, ii xh2_0_x01)] rfl (by kernel_rfl) ?_
            obtain ⟨r9, r9_h, h⟩ := bS h
            refine XR.call E0_ok [7, 12, 64] rfl (K := 43) (args := [ii xh0_0_x01, ii xh0_1_x01, ii xh1_0_x01, ii xh2_0_x01]) (d := (some (path 12 64))) (by kernel_rfl) (KC.of_calls E0_ok (F := Proofs.Try.f43) (v := .tuple #[ii r9.1, ii r9.2]) (by kernel_rfl) rfl rfl (fun w hI => f43_ok m xh0_0_x01 xh0_1_x01 xh1_0_x01 xh2_0_x01 r9 r9_h w hI)) ?_
            rintro _ _ _ ⟨rfl, rfl, rfl⟩
            refine XR.conv (σ' := [(7, pp 0 0), (12, ii (-1)), (64, .tuple #[ii r9.1, ii r9.2])]) (h' := [(3, rc (encI .i64) lh3_x01 0 3 1), (2, .cells [ii xh2_0_x01] 0 3 0), (1, .cells [ii xh1_0_x01] 0 3 0), (0, .cells [ii xh0_0_x01, ii xh0_1_x01, ii xh0_2_x01] 0 23 0)]) (c' := 4) ?_ (by kernel_rfl)
            refine XR.runS E0_ok 1 5 [(7, pp 0 0), (12, ii (-1)), (13, ii r9.1), (14, ii r9.2)] rfl (by kernel_rfl) ?_
            refine XR.done (by kernel_rfl) ?_
            show XQ _ _ _ _ _ _ _ _
            refine XQ.seq E0_ok (by kernel_rfl) ?_
            refine XQ.seq E0_ok (by kernel_rfl) ?_
            refine XQ.region (by kernel_rfl) ?_
            refine XR.runS E0_ok 1 2 [(7, pp 0 0), (12, ii (-1)), (13, ii r9.1), (14, ii r9.2), (68, .bool true)] rfl (by kernel_rfl) ?_
            refine XR.done (by kernel_rfl) ?_
            show XQ _ _ _ _ _ _ _ _
            refine XQ.cond (s := (.tmp 68)) (b := true) (by kernel_rfl) (by kernel_rfl) (fun _ => ?_) (fun q => by cases q)
            refine XQ.seq E0_ok (by kernel_rfl) ?_
            refine XQ.region (by kernel_rfl) ?_
            refine XR.runS E0_ok 1 3 [(13, ii r9.1), (71, .bool (r9.2 == 12))] rfl (by kernel_rfl) ?_
            cases b13 : (r9.2 == 12 : Bool) with
            | true =>
              have h := cT b13 h
              refine XR.runS E0_ok 1 4 [(75, .bool (r9.1 == 0))] rfl (by kernel_rfl) ?_
              cases b14 : (r9.1 == 0 : Bool) with
              | true =>
                have h := cT b14 h
                refine XR.call E0_ok [75, 76] rfl (K := 28) (args := []) (d := (some (path 12 76))) (by kernel_rfl) (KC.of_calls E0_ok (F := Proofs.Try.f28) (v := .bool true) (by kernel_rfl) rfl rfl (works_ok)) ?_
                rintro _ _ _ ⟨rfl, rfl, rfl⟩
                refine XR.conv (σ' := [(75, .bool true), (76, .bool true)]) (h' := [(3, rc (encI .i64) lh3_x01 0 3 1), (2, .cells [ii xh2_0_x01] 0 3 0), (1, .cells [ii xh1_0_x01] 0 3 0), (0, .cells [ii xh0_0_x01, ii xh0_1_x01, ii xh0_2_x01] 0 23 0)]) (c' := 4) ?_ (by kernel_rfl)
                refine XR.runS E0_ok 1 2 [(6, .bool true)] rfl (by kernel_rfl) ?_
                refine XR.done (by kernel_rfl) ?_
                show XQ _ _ _ _ _ _ _ _
                refine XQ.ret (by kernel_rfl) ?_
                have h := Option.some.inj h
                subst h
                exact ⟨fun i q => (by cases q), .bool true, (by kernel_rfl), rfl⟩
              | false =>
                have h := cF b14 h
                refine XR.runS E0_ok 1 3 [(6, .bool false)] rfl (by kernel_rfl) ?_
                refine XR.done (by kernel_rfl) ?_
                show XQ _ _ _ _ _ _ _ _
                refine XQ.ret (by kernel_rfl) ?_
                have h := Option.some.inj h
                subst h
                exact ⟨fun i q => (by cases q), .bool false, (by kernel_rfl), rfl⟩
            | false =>
              have h := cF b13 h
              refine XR.runS E0_ok 1 7 [(6, .bool false)] rfl (by kernel_rfl) ?_
              refine XR.done (by kernel_rfl) ?_
              show XQ _ _ _ _ _ _ _ _
              refine XQ.ret (by kernel_rfl) ?_
              have h := Option.some.inj h
              subst h
              exact ⟨fun i q => (by cases q), .bool false, (by kernel_rfl), rfl⟩
      | false =>
        have h := cF b2 h
        refine XQ.cond (s := (.tmp 38)) (b := false) (by kernel_rfl) (by kernel_rfl) (fun q => by cases q) (fun _ => ?_)
        refine XQ.skip (by kernel_rfl) ?_
        show XQ _ _ _ _ _ _ _ _
        refine XQ.seq E0_ok (by kernel_rfl) ?_
        refine XQ.region (by kernel_rfl) ?_
        refine XR.runS E0_ok 1 1 [(7, pp 0 0), (8, pp 1 0), (9, pp 2 0), (53, .agg #[ii r1.1, ii r1.2.1, ii r2])] rfl (by kernel_rfl) ?_
        obtain ⟨r10, r10_h, h⟩ := bS h
        refine XR.call E0_ok [7, 8, 9, 54] rfl (K := 46) (args := [.agg #[ii r1.1, ii r1.2.1, ii r2]]) (d := (some (path 12 54))) (by kernel_rfl) (KC.lift (V2 := s0 3 r10.length) (H2 := [(3, rc (encI .i64) r10 0 3 1)]) [1, 2, 3, 0] (f46_ok m r1.1 r1.2.1 r2 r10 r10_h) rfl (by decide) (by decide) (by kernel_rfl) ⟨⟨_, _, rfl, rfl, .inl ⟨rfl, rowC_scal (encI_ok .i64) _⟩⟩, trivial⟩ (by rfl)) ?_
        rintro _ _ _ ⟨rfl, rfl, rfl⟩
        refine XR.conv (σ' := [(7, pp 0 0), (8, pp 1 0), (9, pp 2 0), (54, s0 3 r10.length)]) (h' := [(3, rc (encI .i64) r10 0 3 1), (2, .cells [ii (Int.tmod (w64 c) r1.1)] 0 3 0), (1, .cells [ii (Int.tmod (w64 b) r1.1)] 0 3 0), (0, .cells [ii r1.1, ii r1.2.1, ii r2] 0 23 0)]) (c' := 4) ?_ (by kernel_rfl)
        refine XR.runS E0_ok 1 1 [(7, pp 0 0), (8, pp 1 0), (9, pp 2 0), (54, s0 3 r10.length), (55, .func (.func 49) #[] #[pp 1 0, pp 2 0])] rfl (by kernel_rfl) ?_
        refine XR.callK E0_ok [7, 8, 9, 56] rfl (K := 48) (args := [s0 3 r10.length, .func (.func 49) #[] #[pp 1 0, pp 2 0]]) (d := (some (path 12 56))) (by kernel_rfl) ?_
        refine KC.bodyN E0_ok (F := Proofs.Try.f48) (by kernel_rfl) (code := f8_C48) (by kernel_rfl) (nt := 19) (by kernel_rfl) (rs := [.tmp 4]) (by kernel_rfl) (by kernel_rfl) (σ := [(0, s0 3 r10.length), (1, .func (.func 49) #[] #[pp 1 0, pp 2 0])]) (by kernel_rfl) ?_
        refine XQ.seq E0_ok (by kernel_rfl) ?_
        refine XQ.region (by kernel_rfl) ?_
        refine XR.runS E0_ok 1 1 [(0, s0 3 r10.length), (1, .func (.func 49) #[] #[pp 1 0, pp 2 0])] rfl (by kernel_rfl) ?_
        refine XR.done (by kernel_rfl) ?_
        show XQ _ _ _ _ _ _ _ _
        refine XQ.seq E0_ok (by kernel_rfl) ?_
        refine XQ.seq E0_ok (by kernel_rfl) ?_
        refine XQ.region (by kernel_rfl) ?_
        refine XR.runS E0_ok 1 3 [(0, s0 3 r10.length), (1, .func (.func 49) #[] #[pp 1 0, pp 2 0]), (7, ii ((r10.length : Nat) : Int)), (8, ii 0)] rfl (by kernel_rfl) ?_
        refine XR.done (by kernel_rfl) ?_
        show XQ _ _ _ _ _ _ _ _
        refine XQ.block (id := 0) (by kernel_rfl) ?_
        refine XQ.loop m (by kernel_rfl) ?_
        obtain ⟨o2, o2_h, h⟩ := bS h
        refine XL.ren (σ' := [(0, s0 3 r10.length), (1, .func (.func 49) #[] #[pp 1 0, pp 2 0]), (7, ii ((r10.length : Nat) : Int)), (8, ii 0)]) (h' := [(3, rc (encI .i64) r10 0 3 1), (2, .cells [ii (Int.tmod (w64 c) r1.1)] 0 3 0), (1, .cells [ii (Int.tmod (w64 b) r1.1)] 0 3 0), (0, .cells [ii r1.1, ii r1.2.1, ii r2] 0 23 0)]) (c' := 4) [0, 1, 2, 3] (by decide) rfl ⟨by kernel_rfl, by kernel_rfl, by kernel_rfl, by kernel_rfl, trivial⟩ ⟨⟨_, _, rfl, rfl, .inl ⟨rfl, rowC_scal (encI_ok .i64) _⟩⟩, ⟨_, _, rfl, rfl, .inr ⟨_, _, _, _, rfl, rfl⟩⟩, ⟨_, _, rfl, rfl, .inr ⟨_, _, _, _, rfl, rfl⟩⟩, ⟨_, _, rfl, rfl, .inr ⟨_, _, _, _, rfl, rfl⟩⟩, trivial⟩ rfl ?_
        cases o2 with
        | r x4_r2 xh0_0_r2 xh0_1_r2 xh0_2_r2 xh1_0_r2 xh2_0_r2 lh3_r2 =>
          dsimp only at h
          refine XL.conv (f8_2_ok m m ((r10.length : Nat) : Int) 0 r1.1 r1.2.1 r2 (Int.tmod (w64 b) r1.1) (Int.tmod (w64 c) r1.1) r10 (.r x4_r2 xh0_0_r2 xh0_1_r2 xh0_2_r2 xh1_0_r2 xh2_0_r2 lh3_r2) o2_h _ ?_) (by first | rfl | simp)
          refine ⟨fun i q => (by cases q), ii x4_r2, (by kernel_rfl), ?_⟩
          refine XR.conv (σ' := [(7, pp 0 0), (8, pp 1 0), (9, pp 2 0), (56, ii x4_r2)]) (h' := [(3, rc (encI .i64) lh3_r2 0 3 1), (2, .cells [ii xh2_0_r2] 0 3 0), (1, .cells [ii xh1_0_r2] 0 3 0), (0, .cells [ii xh0_0_r2, ii xh0_1_r2, ii xh0_2_r2] 0 23 0)]) (c' := 4) ?_ (by kernel_rfl)
          refine XR.runS E0_ok 1 1 [(7, pp 0 0), (8, pp 1 0), (9, pp 2 0), (12, ii x4_r2)] rfl (by kernel_rfl) ?_
          refine XR.done (by kernel_rfl) ?_
          show XQ _ _ _ _ _ _ _ _
          refine XQ.seq E0_ok (by kernel_rfl) ?_
          refine XQ.region (by kernel_rfl) ?_
          refine XR.runS E0_ok 1 6 [(7, pp 0 0), (12, ii x4_r2), (59, ii xh0_0_r2), (61, ii xh0_1_r2), (62, ii xh1_0_r2), (63, ii xh2_0_r2)] rfl (by kernel_rfl) ?_
          obtain ⟨r11, r11_h, h⟩ := bS h
          refine XR.call E0_ok [7, 12, 64] rfl (K := 43) (args := [ii xh0_0_r2, ii xh0_1_r2, ii xh1_0_r2, ii xh2_0_r2]) (d := (some (path 12 64))) (by kernel_rfl) (KC.of_calls E0_ok (F := Proofs.Try.f43) (v := .tuple #[ii r11.1, ii r11.2]) (by kernel_rfl) rfl rfl (fun w hI => f43_ok m xh0_0_r2 xh0_1_r2 xh1_0_r2 xh2_0_r2 r11 r11_h w hI)) ?_
          rintro _ _ _ ⟨rfl, rfl, rfl⟩
          refine XR.conv (σ' := [(7, pp 0 0), (12, ii x4_r2), (64, .tuple #[ii r11.1, ii r11.2])]) (h' := [(3, rc (encI .i64) lh3_r2 0 3 1), (2, .cells [ii xh2_0_r2] 0 3 0), (1, .cells [ii xh1_0_r2] 0 3 0), (0, .cells [ii xh0_0_r2, ii xh0_1_r2, ii xh0_2_r2] 0 23 0)]) (c' := 4) ?_ (by kernel_rfl)
          refine XR.runS E0_ok 1 5 [(7, pp 0 0), (12, ii x4_r2), (13, ii r11.1), (14, ii r11.2)] rfl (by kernel_rfl) ?_
          refine XR.done (by kernel_rfl) ?_
          show XQ _ _ _ _ _ _ _ _
          refine XQ.seq E0_ok (by kernel_rfl) ?_
          refine XQ.seq E0_ok (by kernel_rfl) ?_
          refine XQ.region (by kernel_rfl) ?_
          refine XR.runS E0_ok 1 2 [(7, pp 0 0), (12, ii x4_r2), (13, ii r11.1), (14, ii r11.2), (68, .bool (decide (x4_r2 < 0)))] rfl (by kernel_rfl) ?_
          refine XR.done (by kernel_rfl) ?_
          show XQ _ _ _ _ _ _ _ _
          cases b16 : (decide (x4_r2 < 0) : Bool) with
          | true =>
            have h := cT b16 h
            refine XQ.cond (s := (.tmp 68)) (b := true) (by kernel_rfl) (by kernel_rfl) (fun _ => ?_) (fun q => by cases q)
            refine XQ.seq E0_ok (by kernel_rfl) ?_
            refine XQ.region (by kernel_rfl) ?_
            refine XR.runS E0_ok 1 3 [(13, ii r11.1), (71, .bool (r11.2 == 12))] rfl (by kernel_rfl) ?_
            cases b17 : (r11.2 == 12 : Bool) with
            | true =>
              have h := cT b17 h
              refine XR.runS E0_ok 1 4 [(75, .bool (r11.1 == 0))] rfl (by kernel_rfl) ?_
              cases b18 : (r11.1 == 0 : Bool) with
              | true =>
                have h := cT b18 h
                refine XR.call E0_ok [75, 76] rfl (K := 28) (args := []) (d := (some (path 12 76))) (by kernel_rfl) (KC.of_calls E0_ok (F := Proofs.Try.f28) (v := .bool true) (by kernel_rfl) rfl rfl (works_ok)) ?_
                rintro _ _ _ ⟨rfl, rfl, rfl⟩
                refine XR.conv (σ' := [(75, .bool true), (76, .bool true)]) (h' := [(3, rc (encI .i64) lh3_r2 0 3 1), (2, .cells [ii xh2_0_r2] 0 3 0), (1, .cells [ii xh1_0_r2] 0 3 0), (0, .cells [ii xh0_0_r2, ii xh0_1_r2, ii xh0_2_r2] 0 23 0)]) (c' := 4) ?_ (by kernel_rfl)
                refine XR.runS E0_ok 1 2 [(6, .bool true)] rfl (by kernel_rfl) ?_
                refine XR.done (by kernel_rfl) ?_
                show XQ _ _ _ _ _ _ _ _
                refine XQ.ret (by kernel_rfl) ?_
                have h := Option.some.inj h
                subst h
                exact ⟨fun i q => (by cases q), .bool true, (by kernel_rfl), rfl⟩
              | false =>
                have h := cF b18 h
                refine XR.runS E0_ok 1 3 [(6, .bool false)] rfl (by kernel_rfl) ?_
                refine XR.done (by kernel_rfl) ?_
                show XQ _ _ _ _ _ _ _ _
                refine XQ.ret (by kernel_rfl) ?_
                have h := Option.some.inj h
                subst h
                exact ⟨fun i q => (by cases q), .bool false, (by kernel_rfl), rfl⟩
            | false =>
              have h := cF b17 h
              refine XR.runS E0_ok 1 7 [(6, .bool false)] rfl (by kernel_rfl) ?_
              refine XR.done (by kernel_rfl) ?_
              show XQ _ _ _ _ _ _ _ _
              refine XQ.ret (by kernel_rfl) ?_
              have h := Option.some.inj h
              subst h
              exact ⟨fun i q => (by cases q), .bool false, (by kernel_rfl), rfl⟩
          | false =>
            have h := cF b16 h
            refine XQ.cond (s := (.tmp 68)) (b := false) (by kernel_rfl) (by kernel_rfl) (fun q => by cases q) (fun _ => ?_)
            refine XQ.skip (by kernel_rfl) ?_
            show XQ _ _ _ _ _ _ _ _
            refine XQ.seq E0_ok (by kernel_rfl) ?_
            refine XQ.region (by kernel_rfl) ?_
            refine XR.runS E0_ok 1 1 [(7, pp 0 0), (12, ii x4_r2), (13, ii r11.1), (14, ii r11.2), (78, .agg #[ii xh0_0_r2, ii xh0_1_r2, ii xh0_2_r2])] rfl (by kernel_rfl) ?_
            obtain ⟨r12, r12_h, h⟩ := bS h
            refine XR.call E0_ok [7, 12, 13, 14, 79] rfl (K := 46) (args := [.agg #[ii xh0_0_r2, ii xh0_1_r2, ii xh0_2_r2]]) (d := (some (path 12 79))) (by kernel_rfl) (KC.lift (V2 := s0 4 r12.length) (H2 := [(4, rc (encI .i64) r12 0 3 1)]) [1, 2, 3, 4, 0] (f46_ok m xh0_0_r2 xh0_1_r2 xh0_2_r2 r12 r12_h) rfl (by decide) (by decide) (by kernel_rfl) ⟨⟨_, _, rfl, rfl, .inl ⟨rfl, rowC_scal (encI_ok .i64) _⟩⟩, trivial⟩ (by rfl)) ?_
            rintro _ _ _ ⟨rfl, rfl, rfl⟩
            refine XR.conv (σ' := [(7, pp 0 0), (12, ii x4_r2), (13, ii r11.1), (14, ii r11.2), (79, s0 4 r12.length)]) (h' := [(4, rc (encI .i64) r12 0 3 1), (3, rc (encI .i64) lh3_r2 0 3 1), (2, .cells [ii xh2_0_r2] 0 3 0), (1, .cells [ii xh1_0_r2] 0 3 0), (0, .cells [ii xh0_0_r2, ii xh0_1_r2, ii xh0_2_r2] 0 23 0)]) (c' := 5) ?_ (by kernel_rfl)
            refine XR.runS E0_ok 1 1 [(7, pp 0 0), (12, ii x4_r2), (13, ii r11.1), (14, ii r11.2), (79, s0 4 r12.length), (80, ii x4_r2)] rfl (by kernel_rfl) ?_
            cases b19 : (inRow x4_r2 r12.length : Bool) with
            | false => cases (cF b19 h)
            | true =>
              have h := cT b19 h
              refine XR.rd E0_ok [7, 12, 13, 14, 81] rfl (v := pp 4 ((Int.toNat x4_r2) * 1)) (v_idx (s := 1) (x := (src 112 (.tmp 79))) (y := (src 112 (.tmp 80))) (b := 4) (o := 0) (len := r12.length) (cap := r12.length) (ik := .i64) (i := x4_r2) (off := (Int.toNat x4_r2) * 1) (d := (some (path 12 81))) (by kernel_rfl) (by kernel_rfl) (by kernel_rfl) b19 (by omega)) (σ' := [(7, pp 0 0), (12, ii x4_r2), (13, ii r11.1), (14, ii r11.2), (81, pp 4 ((Int.toNat x4_r2) * 1))]) (by kernel_rfl) ?_
              refine XR.rd E0_ok [7, 12, 13, 14, 82] rfl (v := ii (List.getD r12 (Int.toNat x4_r2) 0)) (v_load1 (encI_ok .i64) (x := (src 112 (.tmp 81))) (b := 4) (off := (Int.toNat x4_r2) * 1) (xs := r12) (fz := 0) (e := 3) (es := 1) (d := (some (path 12 82))) (by kernel_rfl) (by kernel_rfl) (by kernel_rfl) (Int.toNat x4_r2) 0 0 (by first | rfl | omega) (row_len (inRow_toNat b19) (by simp)) rfl rfl) (σ' := [(7, pp 0 0), (12, ii x4_r2), (13, ii r11.1), (14, ii r11.2), (82, ii (List.getD r12 (Int.toNat x4_r2) 0))]) (by kernel_rfl) ?_
              refine XR.runS E0_ok 1 1 [(7, pp 0 0), (12, ii x4_r2), (13, ii r11.1), (14, ii r11.2), (15, ii (List.getD r12 (Int.toNat x4_r2) 0))] rfl (by kernel_rfl) ?_
              refine XR.done (by kernel_rfl) ?_
              show XQ _ _ _ _ _ _ _ _
              refine XQ.seq E0_ok (by kernel_rfl) ?_
              refine XQ.region (by kernel_rfl) ?_
              refine XR.runS E0_ok 1 6 [(12, ii x4_r2), (13, ii r11.1), (14, ii r11.2), (85, ii xh0_0_r2), (87, ii xh0_1_r2), (88, ii (List.getD r12 (Int.toNat x4_r2) 0)), (89, ii (List.getD r12 (Int.toNat x4_r2) 0))] rfl (by kernel_rfl) ?_
              obtain ⟨r13, r13_h, h⟩ := bS h
              refine XR.call E0_ok [12, 13, 14, 90] rfl (K := 43) (args := [ii xh0_0_r2, ii xh0_1_r2, ii (List.getD r12 (Int.toNat x4_r2) 0), ii (List.getD r12 (Int.toNat x4_r2) 0)]) (d := (some (path 12 90))) (by kernel_rfl) (KC.of_calls E0_ok (F := Proofs.Try.f43) (v := .tuple #[ii r13.1, ii r13.2]) (by kernel_rfl) rfl rfl (fun w hI => f43_ok m xh0_0_r2 xh0_1_r2 (List.getD r12 (Int.toNat x4_r2) 0) (List.getD r12 (Int.toNat x4_r2) 0) r13 r13_h w hI)) ?_
              rintro _ _ _ ⟨rfl, rfl, rfl⟩
              refine XR.conv (σ' := [(12, ii x4_r2), (13, ii r11.1), (14, ii r11.2), (90, .tuple #[ii r13.1, ii r13.2])]) (h' := [(4, rc (encI .i64) r12 0 3 1), (3, rc (encI .i64) lh3_r2 0 3 1), (2, .cells [ii xh2_0_r2] 0 3 0), (1, .cells [ii xh1_0_r2] 0 3 0), (0, .cells [ii xh0_0_r2, ii xh0_1_r2, ii xh0_2_r2] 0 23 0)]) (c' := 5) ?_ (by kernel_rfl)
              refine XR.runS E0_ok 1 5 [(12, ii x4_r2), (13, ii r11.1), (14, ii r11.2), (16, ii r13.1), (17, ii r13.2)] rfl (by kernel_rfl) ?_
              refine XR.done (by kernel_rfl) ?_
              show XQ _ _ _ _ _ _ _ _
              refine XQ.seq E0_ok (by kernel_rfl) ?_
              refine XQ.region (by kernel_rfl) ?_
              refine XR.runS E0_ok 1 3 [(12, ii x4_r2), (13, ii r11.1), (16, ii r13.1), (17, ii r13.2), (95, .bool (r11.2 == 0))] rfl (by kernel_rfl) ?_
              cases b20 : (r11.2 == 0 : Bool) with
              | true =>
                have h := cT b20 h
                refine XR.runS E0_ok 1 5 [(12, ii x4_r2), (16, ii r13.1), (17, ii r13.2), (100, .bool (r11.1 == x4_r2))] rfl (by kernel_rfl) ?_
                cases b21 : (r11.1 == x4_r2 : Bool) with
                | true =>
                  have h := cT b21 h
                  refine XR.runS E0_ok 1 4 [(12, ii x4_r2), (16, ii r13.1), (104, .bool (r13.2 == 0))] rfl (by kernel_rfl) ?_
                  cases b22 : (r13.2 == 0 : Bool) with
                  | true =>
                    have h := cT b22 h
                    refine XR.runS E0_ok 1 5 [(109, .bool (r13.1 == x4_r2))] rfl (by kernel_rfl) ?_
                    cases b23 : (r13.1 == x4_r2 : Bool) with
                    | true =>
                      have h := cT b23 h
                      refine XR.call E0_ok [109, 110] rfl (K := 28) (args := []) (d := (some (path 12 110))) (by kernel_rfl) (KC.of_calls E0_ok (F := Proofs.Try.f28) (v := .bool true) (by kernel_rfl) rfl rfl (works_ok)) ?_
                      rintro _ _ _ ⟨rfl, rfl, rfl⟩
                      refine XR.conv (σ' := [(109, .bool true), (110, .bool true)]) (h' := [(4, rc (encI .i64) r12 0 3 1), (3, rc (encI .i64) lh3_r2 0 3 1), (2, .cells [ii xh2_0_r2] 0 3 0), (1, .cells [ii xh1_0_r2] 0 3 0), (0, .cells [ii xh0_0_r2, ii xh0_1_r2, ii xh0_2_r2] 0 23 0)]) (c' := 5) ?_ (by kernel_rfl)
                      refine XR.runS E0_ok 1 2 [(6, .bool true)] rfl (by kernel_rfl) ?_
                      refine XR.done (by kernel_rfl) ?_
                      show XQ _ _ _ _ _ _ _ _
                      refine XQ.ret (by kernel_rfl) ?_
                      have h := Option.some.inj h
                      subst h
                      exact ⟨fun i q => (by cases q), .bool true, (by kernel_rfl), rfl⟩
                    | false =>
                      have h := cF b23 h
                      refine XR.runS E0_ok 1 3 [(6, .bool false)] rfl (by kernel_rfl) ?_
                      refine XR.done (by kernel_rfl) ?_
                      show XQ _ _ _ _ _ _ _ _
                      refine XQ.ret (by kernel_rfl) ?_
                      have h := Option.some.inj h
                      subst h
                      exact ⟨fun i q => (by cases q), .bool false, (by kernel_rfl), rfl⟩
                  | false =>
                    have h := cF b22 h
                    refine XR.runS E0_ok 1 8 [(6, .bool false)] rfl (by kernel_rfl) ?_
                    refine XR.done (by kernel_rfl) ?_
                    show XQ _ _ _ _ _ _ _ _
                    refine XQ.ret (by kernel_rfl) ?_
                    have h := Option.some.inj h
                    subst h
                    exact ⟨fun i q => (by cases q), .bool false, (by kernel_rfl), rfl⟩
                | false =>
                  have h := cF b21 h
                  refine XR.runS E0_ok 1 12 [(6, .bool false)] rfl (by kernel_rfl) ?_
                  refine XR.done (by kernel_rfl) ?_
                  show XQ _ _ _ _ _ _ _ _
                  refine XQ.ret (by kernel_rfl) ?_
                  have h := Option.some.inj h
                  subst h
                  exact ⟨fun i q => (by cases q), .bool false, (by kernel_rfl), rfl⟩
              | false =>
                have h := cF b20 h
                refine XR.runS E0_ok 1 17 [(6, .bool false)] rfl (by kernel_rfl) ?_
                refine XR.done (by kernel_rfl) ?_
                show XQ _ _ _ _ _ _ _ _
                refine XQ.ret (by kernel_rfl) ?_
                have h := Option.some.inj h
                subst h
                exact ⟨fun i q => (by cases q), .bool false, (by kernel_rfl), rfl⟩
        | x0 xh0_0_x02 xh0_1_x02 xh0_2_x02 xh1_0_x02 xh2_0_x02 lh3_x02 =>
          dsimp only at h
          refine XL.conv (f8_2_ok m m ((r10.length : Nat) : Int) 0 r1.1 r1.2.1 r2 (Int.tmod (w64 b) r1.1) (Int.tmod (w64 c) r1.1) r10 (.x0 xh0_0_x02 xh0_1_x02 xh0_2_x02 xh1_0_x02 xh2_0_x02 lh3_x02) o2_h _ ?_) (by first | rfl | simp)
          show XQ _ _ _ _ _ _ _ _
          refine XQ.seq E0_ok (by kernel_rfl) ?_
          refine XQ.region (by kernel_rfl) ?_
          refine XR.runS E0_ok 1 1 [(4, ii (-1))] rfl (by kernel_rfl) ?_
          refine XR.done (by kernel_rfl) ?_
          show XQ _ _ _ _ _ _ _ _
          refine XQ.ret (by kernel_rfl) ?_
          refine ⟨fun i q => (by cases q), ii (-1), (by kernel_rfl), ?_⟩
          refine XR.conv (σ' := [(7, pp 0 0), (8, pp 1 0), (9, pp 2 0), (56, ii (-1))]) (h' := [(3, rc (encI .i64) lh3_x02 0 3 1), (2, .cells [ii xh2_0_x02] 0 3 0), (1, .cells [ii xh1_0_x02] 0 3 0), (0, .cells [ii xh0_0_x02, ii xh0_1_x02, ii xh0_2_x02] 0 23 0)]) (c' := 4) ?_ (by kernel_rfl)
          refine XR.runS E0_ok 1 1 [(7, pp 0 0), (8, pp 1 0), (9, pp 2 0), (12, ii (-1))] rfl (by kernel_rfl) ?_
          refine XR.done (by kernel_rfl) ?_
          show XQ _ _ _ _ _ _ _ _
          refine XQ.seq E0_ok (by kernel_rfl) ?_
          refine XQ.region (by kernel_rfl) ?_
          refine XR.runS E0_ok 1 6 [(7, pp 0 0), (12, ii (-1)), (59, ii xh0_0_x02), (61, ii xh0_1_x02), (62, ii xh1_0_x02), (63, ii xh2_0_x02)] rfl (by kernel_rfl) ?_
          obtain ⟨r14, r14_h, h⟩ := bS h
          refine XR.call E0_ok [7, 12, 64] rfl (K := 43) (args := [ii xh0_0_x02, ii xh0_1_x02, ii xh1_0_x02, ii xh2_0_x02]) (d := (some (path 12 64))) (by kernel_rfl) (KC.of_calls E0_ok (F := Proofs.Try.f43) (v := .tuple #[ii r14.1, ii r14.2]) (by kernel_rfl) rfl rfl (fun w hI => f43_ok m xh0_0_x02 xh0_1_x02 xh1_0_x02 xh2_0_x02 r14 r14_h w hI)) ?_
          rintro _ _ _ ⟨rfl, rfl, rfl⟩
          refine XR.conv (σ' := [(7, pp 0 0), (12, ii (-1)), (64, .tuple #[ii r14.1, ii r14.2])]) (h' := [(3, rc (encI .i64) lh3_x02 0 3 1), (2, .cells [ii xh2_0_x02] 0 3 0), (1, .cells [ii xh1_0_x02] 0 3 0), (0, .cells [ii xh0_0_x02, ii xh0_1_x02, ii xh0_2_x02] 0 23 0)]) (c' := 4) ?_ (by kernel_rfl)
          refine XR.runS E0_ok 1 5 [(7, pp 0 0), (12, ii (-1)), (13, ii r14.1), (14, ii r14.2)] rfl (by kernel_rfl) ?_
          refine XR.done (by kernel_rfl) ?_
          show XQ _ _ _ _ _ _ _ _
          refine XQ.seq E0_ok (by kernel_rfl) ?_
          refine XQ.seq E0_ok (by kernel_rfl) ?_
          refine XQ.region (by kernel_rfl) ?_
          refine XR.runS E0_ok 1 2 [(7, pp 0 0), (12, ii (-1)), (13, ii r14.1), (14, ii r14.2), (68, .bool true)] rfl (by kernel_rfl) ?_
          refine XR.done (by kernel_rfl) ?_
          show XQ _ _ _ _ _ _ _ _
          refine XQ.cond (s := (.tmp 68)) (b := true) (by kernel_rfl) (by kernel_rfl) (fun _ => ?_) (fun q => by cases q)
          refine XQ.seq E0_ok (by kernel_rfl) ?_
          refine XQ.region (by kernel_rfl) ?_
          refine XR.runS E0_ok 1 3 [(13, ii r14.1), (71, .bool (r14.2 == 12))] rfl (by kernel_rfl) ?_
          cases b24 : (r14.2 == 12 : Bool) with
          | true =>
            have h := cT b24 h
            refine XR.runS E0_ok 1 4 [(75, .bool (r14.1 == 0))] rfl (by kernel_rfl) ?_
            cases b25 : (r14.1 == 0 : Bool) with
            | true =>
              have h := cT b25 h
              refine XR.call E0_ok [75, 76] rfl (K := 28) (args := []) (d := (some (path 12 76))) (by kernel_rfl) (KC.of_calls E0_ok (F := Proofs.Try.f28) (v := .bool true) (by kernel_rfl) rfl rfl (works_ok)) ?_
              rintro _ _ _ ⟨rfl, rfl, rfl⟩
              refine XR.conv (σ' := [(75, .bool true), (76, .bool true)]) (h' := [(3, rc (encI .i64) lh3_x02 0 3 1), (2, .cells [ii xh2_0_x02] 0 3 0), (1, .cells [ii xh1_0_x02] 0 3 0), (0, .cells [ii xh0_0_x02, ii xh0_1_x02, ii xh0_2_x02] 0 23 0)]) (c' := 4) ?_ (by kernel_rfl)
              refine XR.runS E0_ok 1 2 [(6, .bool true)] rfl (by kernel_rfl) ?_
              refine XR.done (by kernel_rfl) ?_
              show XQ _ _ _ _ _ _ _ _
              refine XQ.ret (by kernel_rfl) ?_
              have h := Option.some.inj h
              subst h
              exact ⟨fun i q => (by cases q), .bool true, (by kernel_rfl), rfl⟩
            | false =>
              have h := cF b25 h
              refine XR.runS E0_ok 1 3 [(6, .bool false)] rfl (by kernel_rfl) ?_
              refine XR.done (by kernel_rfl) ?_
              show XQ _ _ _ _ _ _ _ _
              refine XQ.ret (by kernel_rfl) ?_
              have h := Option.some.inj h
              subst h
              exact ⟨fun i q => (by cases q), .bool false, (by kernel_rfl), rfl⟩
          | false =>
            have h := cF b24 h
            refine XR.runS E0_ok 1 7 [(6, .bool false)] rfl (by kernel_rfl) ?_
            refine XR.done (by kernel_rfl) ?_
            show XQ _ _ _ _ _ _ _ _
            refine XQ.ret (by kernel_rfl) ?_
            have h := Option.some.inj h
            subst h
            exact ⟨fun i q => (by cases q), .bool false, (by kernel_rfl), rfl⟩
    · have xa8 : XA E0 112 0 (opsOf (lft (rgt (rgt (rgt f8_C8))))) 0 #[true, true, true, true, true, true, true, true, true, true, true, true, true, true] [(7, pp 0 0), (8, pp 1 0), (9, pp 2 0)] [(2, .cells [ii (Int.tmod (w64 c) r1.1)] 0 3 0), (1, .cells [ii (Int.tmod (w64 b) r1.1)] 0 3 0), (0, .cells [ii r1.1, ii r1.2.1, ii r2] 0 23 0)] 3 (fun e σ1 h1 c1 => e = .normal ∧ (σ1, h1, c1) = ([(7, pp 0 0), (8, pp 1 0), (9, pp 2 0)], [(2, .cells [ii (Int.tmod (w64 c) r1.1)] 0 3 0), (1, .cells [ii (Int.tmod (w64 b) r1.1)] 0 3 0), (0, .cells [ii r1.1, ii r1.2.1, ii r2] 0 23 0)], 3)) := by
        exact XA.done (by kernel_rfl) ⟨rfl, rfl⟩
      have xa7 : XA E0 112 0 (opsOf (lft (rgt (rgt (rgt f8_C8))))) 1 #[true, true, true, true, true, true, true, true, true, true, true, true, true, false] [(7, pp 0 0), (8, pp 1 0), (9, pp 2 0), (35, ii (Int.tmod (w64 c) r1.1))] [(2, .cells [ii 0] 0 3 0), (1, .cells [ii (Int.tmod (w64 b) r1.1)] 0 3 0), (0, .cells [ii r1.1, ii r1.2.1, ii r2] 0 23 0)] 3 (fun e σ1 h1 c1 => e = .normal ∧ (σ1, h1, c1) = ([(7, pp 0 0), (8, pp 1 0), (9, pp 2 0)], [(2, .cells [ii (Int.tmod (w64 c) r1.1)] 0 3 0), (1, .cells [ii (Int.tmod (w64 b) r1.1)] 0 3 0), (0, .cells [ii r1.1, ii r1.2.1, ii r2] 0 23 0)], 3)) := by
        refine XA.step E0_ok [13] (by kernel_rfl) rfl (by kernel_rfl) ⟨?_, trivial⟩
        · refine XR.runT E0_ok 1 1 [(7, pp 0 0), (8, pp 1 0), (9, pp 2 0)] [(2, .cells [ii (Int.tmod (w64 c) r1.1)] 0 3 0), (1, .cells [ii (Int.tmod (w64 b) r1.1)] 0 3 0), (0, .cells [ii r1.1, ii r1.2.1, ii r2] 0 23 0)] 3 rfl (by kernel_rfl) ?_
          refine XR.done (by kernel_rfl) ?_
          refine ⟨rfl, ?_⟩
          show XA _ _ _ _ _ _ _ _ _ _
          exact xa8
      have xa6 : XA E0 112 0 (opsOf (lft (rgt (rgt (rgt f8_C8))))) 2 #[true, true, true, true, true, true, true, true, true, true, true, true, false, false] [(7, pp 0 0), (8, pp 1 0), (9, pp 2 0), (30, ii (Int.tmod (w64 b) r1.1)), (35, ii (Int.tmod (w64 c) r1.1))] [(2, .cells [ii 0] 0 3 0), (1, .cells [ii 0] 0 3 0), (0, .cells [ii r1.1, ii r1.2.1, ii r2] 0 23 0)] 3 (fun e σ1 h1 c1 => e = .normal ∧ (σ1, h1, c1) = ([(7, pp 0 0), (8, pp 1 0), (9, pp 2 0)], [(2, .cells [ii (Int.tmod (w64 c) r1.1)] 0 3 0), (1, .cells [ii (Int.tmod (w64 b) r1.1)] 0 3 0), (0, .cells [ii r1.1, ii r1.2.1, ii r2] 0 23 0)], 3)) := by
        refine XA.step E0_ok [12] (by kernel_rfl) rfl (by kernel_rfl) ⟨?_, trivial⟩
        · refine XR.runT E0_ok 1 1 [(7, pp 0 0), (8, pp 1 0), (9, pp 2 0), (35, ii (Int.tmod (w64 c) r1.1))] [(2, .cells [ii 0] 0 3 0), (1, .cells [ii (Int.tmod (w64 b) r1.1)] 0 3 0), (0, .cells [ii r1.1, ii r1.2.1, ii r2] 0 23 0)] 3 rfl (by kernel_rfl) ?_
          refine XR.done (by kernel_rfl) ?_
          refine ⟨rfl, ?_⟩
          show XA _ _ _ _ _ _ _ _ _ _
          exact xa7
      have xa5 : XA E0 112 0 (opsOf (lft (rgt (rgt (rgt f8_C8))))) 3 #[true, true, true, true, true, true, true, true, true, true, true, false, false, false] [(7, pp 0 0), (8, pp 1 0), (30, ii (Int.tmod (w64 b) r1.1)), (35, ii (Int.tmod (w64 c) r1.1))] [(1, .cells [ii 0] 0 3 0), (0, .cells [ii r1.1, ii r1.2.1, ii r2] 0 23 0)] 2 (fun e σ1 h1 c1 => e = .normal ∧ (σ1, h1, c1) = ([(7, pp 0 0), (8, pp 1 0), (9, pp 2 0)], [(2, .cells [ii (Int.tmod (w64 c) r1.1)] 0 3 0), (1, .cells [ii (Int.tmod (w64 b) r1.1)] 0 3 0), (0, .cells [ii r1.1, ii r1.2.1, ii r2] 0 23 0)], 3)) := by
        refine XA.step E0_ok [11] (by kernel_rfl) rfl (by kernel_rfl) ⟨?_, trivial⟩
        · refine XR.runT E0_ok 1 1 [(7, pp 0 0), (8, pp 1 0), (9, pp 2 0), (30, ii (Int.tmod (w64 b) r1.1)), (35, ii (Int.tmod (w64 c) r1.1))] [(2, .cells [ii 0] 0 3 0), (1, .cells [ii 0] 0 3 0), (0, .cells [ii r1.1, ii r1.2.1, ii r2] 0 23 0)] 3 rfl (by kernel_rfl) ?_
          refine XR.done (by kernel_rfl) ?_
          refine ⟨rfl, ?_⟩
          show XA _ _ _ _ _ _ _ _ _ _
          exact xa6
      have xa9 : XA E0 112 0 (opsOf (lft (rgt (rgt (rgt f8_C8))))) 3 #[true, true, true, true, true, true, true, true, true, true, false, true, false, false] [(7, pp 0 0), (9, pp 1 0), (30, ii (Int.tmod (w64 b) r1.1)), (35, ii (Int.tmod (w64 c) r1.1))] [(1, .cells [ii 0] 0 3 0), (0, .cells [ii r1.1, ii r1.2.1, ii r2] 0 23 0)] 2 (fun e σ1 h1 c1 => e = .normal ∧ (σ1, h1, c1) = ([(7, pp 0 0), (8, pp 1 0), (9, pp 2 0)], [(2, .cells [ii (Int.tmod (w64 c) r1.1)] 0 3 0), (1, .cells [ii (Int.tmod (w64 b) r1.1)] 0 3 0), (0, .cells [ii r1.1, ii r1.2.1, ii r2] 0 23 0)], 3)) := by
        refine XA.step E0_ok [10] (by kernel_rfl) rfl (by kernel_rfl) ⟨?_, trivial⟩
        · refine XR.runT E0_ok 1 1 [(7, pp 0 0), (8, pp 2 0), (9, pp 1 0), (30, ii (Int.tmod (w64 b) r1.1)), (35, ii (Int.tmod (w64 c) r1.1))] [(2, .cells [ii 0] 0 3 0), (1, .cells [ii 0] 0 3 0), (0, .cells [ii r1.1, ii r1.2.1, ii r2] 0 23 0)] 3 rfl (by kernel_rfl) ?_
          refine XR.done (by kernel_rfl) ?_
          refine ⟨rfl, ?_⟩
          show XA _ _ _ _ _ _ _ _ _ _
          refine XA.ren (σ' := [(7, pp 0 0), (8, pp 1 0), (9, pp 2 0), (30, ii (Int.tmod (w64 b) r1.1)), (35, ii (Int.tmod (w64 c) r1.1))]) (h' := [(2, .cells [ii 0] 0 3 0), (1, .cells [ii 0] 0 3 0), (0, .cells [ii r1.1, ii r1.2.1, ii r2] 0 23 0)]) (c' := 3) [0, 2, 1] (by decide) rfl ⟨by kernel_rfl, by kernel_rfl, by kernel_rfl, by kernel_rfl, by kernel_rfl, trivial⟩ ⟨⟨_, _, rfl, rfl, .inr ⟨_, _, _, _, rfl, rfl⟩⟩, ⟨_, _, rfl, rfl, .inr ⟨_, _, _, _, rfl, rfl⟩⟩, ⟨_, _, rfl, rfl, .inr ⟨_, _, _, _, rfl, rfl⟩⟩, trivial⟩ rfl ?_
          exact xa6
      have xa4 : XA E0 112 0 (opsOf (lft (rgt (rgt (rgt f8_C8))))) 4 #[true, true, true, true, true, true, true, true, true, true, false, false, false, false] [(7, pp 0 0), (30, ii (Int.tmod (w64 b) r1.1)), (35, ii (Int.tmod (w64 c) r1.1))] [(0, .cells [ii r1.1, ii r1.2.1, ii r2] 0 23 0)] 1 (fun e σ1 h1 c1 => e = .normal ∧ (σ1, h1, c1) = ([(7, pp 0 0), (8, pp 1 0), (9, pp 2 0)], [(2, .cells [ii (Int.tmod (w64 c) r1.1)] 0 3 0), (1, .cells [ii (Int.tmod (w64 b) r1.1)] 0 3 0), (0, .cells [ii r1.1, ii r1.2.1, ii r2] 0 23 0)], 3)) := by
        refine XA.step E0_ok [10, 11] (by kernel_rfl) rfl (by kernel_rfl) ⟨?_, ?_, trivial⟩
        · refine XR.runT E0_ok 1 1 [(7, pp 0 0), (8, pp 1 0), (30, ii (Int.tmod (w64 b) r1.1)), (35, ii (Int.tmod (w64 c) r1.1))] [(1, .cells [ii 0] 0 3 0), (0, .cells [ii r1.1, ii r1.2.1, ii r2] 0 23 0)] 2 rfl (by kernel_rfl) ?_
          refine XR.done (by kernel_rfl) ?_
          refine ⟨rfl, ?_⟩
          show XA _ _ _ _ _ _ _ _ _ _
          exact xa5
        · refine XR.runT E0_ok 1 1 [(7, pp 0 0), (9, pp 1 0), (30, ii (Int.tmod (w64 b) r1.1)), (35, ii (Int.tmod (w64 c) r1.1))] [(1, .cells [ii 0] 0 3 0), (0, .cells [ii r1.1, ii r1.2.1, ii r2] 0 23 0)] 2 rfl (by kernel_rfl) ?_
          refine XR.done (by kernel_rfl) ?_
          refine ⟨rfl, ?_⟩
          show XA _ _ _ _ _ _ _ _ _ _
          exact xa9
      have xa12 : XA E0 112 0 (opsOf (lft (rgt (rgt (rgt f8_C8))))) 2 #[true, true, true, true, true, true, true, true, true, false, true, true, true, false] [(7, pp 0 0), (8, pp 1 0), (9, pp 2 0), (32, ii (w64 c)), (34, ii r1.1)] [(2, .cells [ii 0] 0 3 0), (1, .cells [ii (Int.tmod (w64 b) r1.1)] 0 3 0), (0, .cells [ii r1.1, ii r1.2.1, ii r2] 0 23 0)] 3 (fun e σ1 h1 c1 => e = .normal ∧ (σ1, h1, c1) = ([(7, pp 0 0), (8, pp 1 0), (9, pp 2 0)], [(2, .cells [ii (Int.tmod (w64 c) r1.1)] 0 3 0), (1, .cells [ii (Int.tmod (w64 b) r1.1)] 0 3 0), (0, .cells [ii r1.1, ii r1.2.1, ii r2] 0 23 0)], 3)) := by
        refine XA.step E0_ok [9] (by kernel_rfl) rfl (by kernel_rfl) ⟨?_, trivial⟩
        · have e30 : insV (headI ((gsOf E0 112 (reOps (opsOf (lft (rgt (rgt (rgt f8_C8))))) [9])).drop 0) (trS 112 [(7, pp 0 0), (8, pp 1 0), (9, pp 2 0), (32, ii (w64 c)), (34, ii r1.1)])) (trS 112 [(7, pp 0 0), (8, pp 1 0), (9, pp 2 0), (32, ii (w64 c)), (34, ii r1.1)]) [(2, .cells [ii 0] 0 3 0), (1, .cells [ii (Int.tmod (w64 b) r1.1)] 0 3 0), (0, .cells [ii r1.1, ii r1.2.1, ii r2] 0 23 0)] = (match (r1.1 != 0 : Bool) with | true => some (ii (Int.tmod (w64 c) r1.1)) | false => none) := by kernel_rfl
          refine XR.rd E0_ok [7, 8, 9, 35] rfl (e30.trans (by rw [b1])) (σ' := [(7, pp 0 0), (8, pp 1 0), (9, pp 2 0), (35, ii (Int.tmod (w64 c) r1.1))]) (by kernel_rfl) ?_
          refine XR.done (by kernel_rfl) ?_
          refine ⟨rfl, ?_⟩
          show XA _ _ _ _ _ _ _ _ _ _
          exact xa7
      have xa11 : XA E0 112 0 (opsOf (lft (rgt (rgt (rgt f8_C8))))) 3 #[true, true, true, true, true, true, true, true, true, false, true, true, false, false] [(7, pp 0 0), (8, pp 1 0), (9, pp 2 0), (30, ii (Int.tmod (w64 b) r1.1)), (32, ii (w64 c)), (34, ii r1.1)] [(2, .cells [ii 0] 0 3 0), (1, .cells [ii 0] 0 3 0), (0, .cells [ii r1.1, ii r1.2.1, ii r2] 0 23 0)] 3 (fun e σ1 h1 c1 => e = .normal ∧ (σ1, h1, c1) = ([(7, pp 0 0), (8, pp 1 0), (9, pp 2 0)], [(2, .cells [ii (Int.tmod (w64 c) r1.1)] 0 3 0), (1, .cells [ii (Int.tmod (w64 b) r1.1)] 0 3 0), (0, .cells [ii r1.1, ii r1.2.1, ii r2] 0 23 0)], 3)) := by
        refine XA.step E0_ok [9, 12] (by kernel_rfl) rfl (by kernel_rfl) ⟨?_, ?_, trivial⟩
        · have e29 : insV (headI ((gsOf E0 112 (reOps (opsOf (lft (rgt (rgt (rgt f8_C8))))) [9])).drop 0) (trS 112 [(7, pp 0 0), (8, pp 1 0), (9, pp 2 0), (30, ii (Int.tmod (w64 b) r1.1)), (32, ii (w64 c)), (34, ii r1.1)])) (trS 112 [(7, pp 0 0), (8, pp 1 0), (9, pp 2 0), (30, ii (Int.tmod (w64 b) r1.1)), (32, ii (w64 c)), (34, ii r1.1)]) [(2, .cells [ii 0] 0 3 0), (1, .cells [ii 0] 0 3 0), (0, .cells [ii r1.1, ii r1.2.1, ii r2] 0 23 0)] = (match (r1.1 != 0 : Bool) with | true => some (ii (Int.tmod (w64 c) r1.1)) | false => none) := by kernel_rfl
          refine XR.rd E0_ok [7, 8, 9, 30, 35] rfl (e29.trans (by rw [b1])) (σ' := [(7, pp 0 0), (8, pp 1 0), (9, pp 2 0), (30, ii (Int.tmod (w64 b) r1.1)), (35, ii (Int.tmod (w64 c) r1.1))]) (by kernel_rfl) ?_
          refine XR.done (by kernel_rfl) ?_
          refine ⟨rfl, ?_⟩
          show XA _ _ _ _ _ _ _ _ _ _
          exact xa6
        · refine XR.runT E0_ok 1 1 [(7, pp 0 0), (8, pp 1 0), (9, pp 2 0), (32, ii (w64 c)), (34, ii r1.1)] [(2, .cells [ii 0] 0 3 0), (1, .cells [ii (Int.tmod (w64 b) r1.1)] 0 3 0), (0, .cells [ii r1.1, ii r1.2.1, ii r2] 0 23 0)] 3 rfl (by kernel_rfl) ?_
          refine XR.done (by kernel_rfl) ?_
          refine ⟨rfl, ?_⟩
          show XA _ _ _ _ _ _ _ _ _ _
          exact xa12
      have xa10 : XA E0 112 0 (opsOf (lft (rgt (rgt (rgt f8_C8))))) 4 #[true, true, true, true, true, true, true, true, true, false, true, false, false, false] [(7, pp 0 0), (8, pp 1 0), (30, ii (Int.tmod (w64 b) r1.1)), (32, ii (w64 c)), (34, ii r1.1)] [(1, .cells [ii 0] 0 3 0), (0, .cells [ii r1.1, ii r1.2.1, ii r2] 0 23 0)] 2 (fun e σ1 h1 c1 => e = .normal ∧ (σ1, h1, c1) = ([(7, pp 0 0), (8, pp 1 0), (9, pp 2 0)], [(2, .cells [ii (Int.tmod (w64 c) r1.1)] 0 3 0), (1, .cells [ii (Int.tmod (w64 b) r1.1)] 0 3 0), (0, .cells [ii r1.1, ii r1.2.1, ii r2] 0 23 0)], 3)) := by
        refine XA.step E0_ok [9, 11] (by kernel_rfl) rfl (by kernel_rfl) ⟨?_, ?_, trivial⟩
        · have e28 : insV (headI ((gsOf E0 112 (reOps (opsOf (lft (rgt (rgt (rgt f8_C8))))) [9])).drop 0) (trS 112 [(7, pp 0 0), (8, pp 1 0), (30, ii (Int.tmod (w64 b) r1.1)), (32, ii (w64 c)), (34, ii r1.1)])) (trS 112 [(7, pp 0 0), (8, pp 1 0), (30, ii (Int.tmod (w64 b) r1.1)), (32, ii (w64 c)), (34, ii r1.1)]) [(1, .cells [ii 0] 0 3 0), (0, .cells [ii r1.1, ii r1.2.1, ii r2] 0 23 0)] = (match (r1.1 != 0 : Bool) with | true => some (ii (Int.tmod (w64 c) r1.1)) | false => none) := by kernel_rfl
          refine XR.rd E0_ok [7, 8, 30, 35] rfl (e28.trans (by rw [b1])) (σ' := [(7, pp 0 0), (8, pp 1 0), (30, ii (Int.tmod (w64 b) r1.1)), (35, ii (Int.tmod (w64 c) r1.1))]) (by kernel_rfl) ?_
          refine XR.done (by kernel_rfl) ?_
          refine ⟨rfl, ?_⟩
          show XA _ _ _ _ _ _ _ _ _ _
          exact xa5
        · refine XR.runT E0_ok 1 1 [(7, pp 0 0), (8, pp 1 0), (9, pp 2 0), (30, ii (Int.tmod (w64 b) r1.1)), (32, ii (w64 c)), (34, ii r1.1)] [(2, .cells [ii 0] 0 3 0), (1, .cells [ii 0] 0 3 0), (0, .cells [ii r1.1, ii r1.2.1, ii r2] 0 23 0)] 3 rfl (by kernel_rfl) ?_
          refine XR.done (by kernel_rfl) ?_
          refine ⟨rfl, ?_⟩
          show XA _ _ _ _ _ _ _ _ _ _
          exact xa11
      have xa13 : XA E0 112 0 (opsOf (lft (rgt (rgt (rgt f8_C8))))) 4 #[true, true, true, true, true, true, true, true, true, false, false, true, false, false] [(7, pp 0 0), (9, pp 1 0), (30, ii (Int.tmod (w64 b) r1.1)), (32, ii (w64 c)), (34, ii r1.1)] [(1, .cells [ii 0] 0 3 0), (0, .cells [ii r1.1, ii r1.2.1, ii r2] 0 23 0)] 2 (fun e σ1 h1 c1 => e = .normal ∧ (σ1, h1, c1) = ([(7, pp 0 0), (8, pp 1 0), (9, pp 2 0)], [(2, .cells [ii (Int.tmod (w64 c) r1.1)] 0 3 0), (1, .cells [ii (Int.tmod (w64 b) r1.1)] 0 3 0), (0, .cells [ii r1.1, ii r1.2.1, ii r2] 0 23 0)], 3)) := by
        refine XA.step E0_ok [9, 10] (by kernel_rfl) rfl (by kernel_rfl) ⟨?_, ?_, trivial⟩
        · have e31 : insV (headI ((gsOf E0 112 (reOps (opsOf (lft (rgt (rgt (rgt f8_C8))))) [9])).drop 0) (trS 112 [(7, pp 0 0), (9, pp 1 0), (30, ii (Int.tmod (w64 b) r1.1)), (32, ii (w64 c)), (34, ii r1.1)])) (trS 112 [(7, pp 0 0), (9, pp 1 0), (30, ii (Int.tmod (w64 b) r1.1)), (32, ii (w64 c)), (34, ii r1.1)]) [(1, .cells [ii 0] 0 3 0), (0, .cells [ii r1.1, ii r1.2.1, ii r2] 0 23 0)] = (match (r1.1 != 0 : Bool) with | true => some (ii (Int.tmod (w64 c) r1.1)) | false => none) := by kernel_rfl
          refine XR.rd E0_ok [7, 9, 30, 35] rfl (e31.trans (by rw [b1])) (σ' := [(7, pp 0 0), (9, pp 1 0), (30, ii (Int.tmod (w64 b) r1.1)), (35, ii (Int.tmod (w64 c) r1.1))]) (by kernel_rfl) ?_
          refine XR.done (by kernel_rfl) ?_
          refine ⟨rfl, ?_⟩
          show XA _ _ _ _ _ _ _ _ _ _
          exact xa9
        · refine XR.runT E0_ok 1 1 [(7, pp 0 0), (8, pp 2 0), (9, pp 1 0), (30, ii (Int.tmod (w64 b) r1.1)), (32, ii (w64 c)), (34, ii r1.1)] [(2, .cells [ii 0] 0 3 0), (1, .cells [ii 0] 0 3 0), (0, .cells [ii r1.1, ii r1.2.1, ii r2] 0 23 0)] 3 rfl (by kernel_rfl) ?_
          refine XR.done (by kernel_rfl) ?_
          refine ⟨rfl, ?_⟩
          show XA _ _ _ _ _ _ _ _ _ _
          refine XA.ren (σ' := [(7, pp 0 0), (8, pp 1 0), (9, pp 2 0), (30, ii (Int.tmod (w64 b) r1.1)), (32, ii (w64 c)), (34, ii r1.1)]) (h' := [(2, .cells [ii 0] 0 3 0), (1, .cells [ii 0] 0 3 0), (0, .cells [ii r1.1, ii r1.2.1, ii r2] 0 23 0)]) (c' := 3) [0, 2, 1] (by decide) rfl ⟨by kernel_rfl, by kernel_rfl, by kernel_rfl, by kernel_rfl, by kernel_rfl, by kernel_rfl, trivial⟩ ⟨⟨_, _, rfl, rfl, .inr ⟨_, _, _, _, rfl, rfl⟩⟩, ⟨_, _, rfl, rfl, .inr ⟨_, _, _, _, rfl, rfl⟩⟩, ⟨_, _, rfl, rfl, .inr ⟨_, _, _, _, rfl, rfl⟩⟩, trivial⟩ rfl ?_
          exact xa11
      have xa3 : XA E0 112 0 (opsOf (lft (rgt (rgt (rgt f8_C8))))) 5 #[true, true, true, true, true, true, true, true, true, false, false, false, false, false] [(7, pp 0 0), (30, ii (Int.tmod (w64 b) r1.1)), (32, ii (w64 c)), (34, ii r1.1)] [(0, .cells [ii r1.1, ii r1.2.1, ii r2] 0 23 0)] 1 (fun e σ1 h1 c1 => e = .normal ∧ (σ1, h1, c1) = ([(7, pp 0 0), (8, pp 1 0), (9, pp 2 0)], [(2, .cells [ii (Int.tmod (w64 c) r1.1)] 0 3 0), (1, .cells [ii (Int.tmod (w64 b) r1.1)] 0 3 0), (0, .cells [ii r1.1, ii r1.2.1, ii r2] 0 23 0)], 3)) := by
        refine XA.step E0_ok [9, 10, 11] (by kernel_rfl) rfl (by kernel_rfl) ⟨?_, ?_, ?_, trivial⟩
        · have e27 : insV (headI ((gsOf E0 112 (reOps (opsOf (lft (rgt (rgt (rgt f8_C8))))) [9])).drop 0) (trS 112 [(7, pp 0 0), (30, ii (Int.tmod (w64 b) r1.1)), (32, ii (w64 c)), (34, ii r1.1)])) (trS 112 [(7, pp 0 0), (30, ii (Int.tmod (w64 b) r1.1)), (32, ii (w64 c)), (34, ii r1.1)]) [(0, .cells [ii r1.1, ii r1.2.1, ii r2] 0 23 0)] = (match (r1.1 != 0 : Bool) with | true => some (ii (Int.tmod (w64 c) r1.1)) | false => none) := by kernel_rfl
          refine XR.rd E0_ok [7, 30, 35] rfl (e27.trans (by rw [b1])) (σ' := [(7, pp 0 0), (30, ii (Int.tmod (w64 b) r1.1)), (35, ii (Int.tmod (w64 c) r1.1))]) (by kernel_rfl) ?_
          refine XR.done (by kernel_rfl) ?_
          refine ⟨rfl, ?_⟩
          show XA _ _ _ _ _ _ _ _ _ _
          exact xa4
        · refine XR.runT E0_ok 1 1 [(7, pp 0 0), (8, pp 1 0), (30, ii (Int.tmod (w64 b) r1.1)), (32, ii (w64 c)), (34, ii r1.1)] [(1, .cells [ii 0] 0 3 0), (0, .cells [ii r1.1, ii r1.2.1, ii r2] 0 23 0)] 2 rfl (by kernel_rfl) ?_
          refine XR.done (by kernel_rfl) ?_
          refine ⟨rfl, ?_⟩
          show XA _ _ _ _ _ _ _ _ _ _
          exact xa10
        · refine XR.runT E0_ok 1 1 [(7, pp 0 0), (9, pp 1 0), (30, ii (Int.tmod (w64 b) r1.1)), (32, ii (w64 c)), (34, ii r1.1)] [(1, .cells [ii 0] 0 3 0), (0, .cells [ii r1.1, ii r1.2.1, ii r2] 0 23 0)] 2 rfl (by kernel_rfl) ?_
          refine XR.done (by kernel_rfl) ?_
          refine ⟨rfl, ?_⟩
          show XA _ _ _ _ _ _ _ _ _ _
          exact xa13
      have xa16 : XA E0 112 0 (opsOf (lft (rgt (rgt (rgt f8_C8))))) 3 #[true, true, true, true, true, true, true, true, false, false, true, true, true, false] [(7, pp 0 0), (8, pp 1 0), (9, pp 2 0), (32, ii (w64 c)), (33, pp 0 0)] [(2, .cells [ii 0] 0 3 0), (1, .cells [ii (Int.tmod (w64 b) r1.1)] 0 3 0), (0, .cells [ii r1.1, ii r1.2.1, ii r2] 0 23 0)] 3 (fun e σ1 h1 c1 => e = .normal ∧ (σ1, h1, c1) = ([(7, pp 0 0), (8, pp 1 0), (9, pp 2 0)], [(2, .cells [ii (Int.tmod (w64 c) r1.1)] 0 3 0), (1, .cells [ii (Int.tmod (w64 b) r1.1)] 0 3 0), (0, .cells [ii r1.1, ii r1.2.1, ii r2] 0 23 0)], 3)) := by
        refine XA.step E0_ok [8] (by kernel_rfl) rfl (by kernel_rfl) ⟨?_, trivial⟩
        · refine XR.runS E0_ok 1 1 [(7, pp 0 0), (8, pp 1 0), (9, pp 2 0), (32, ii (w64 c)), (34, ii r1.1)] rfl (by kernel_rfl) ?_
          refine XR.done (by kernel_rfl) ?_
          refine ⟨rfl, ?_⟩
          show XA _ _ _ _ _ _ _ _ _ _
          exact xa12
      have xa15 : XA E0 112 0 (opsOf (lft (rgt (rgt (rgt f8_C8))))) 4 #[true, true, true, true, true, true, true, true, false, false, true, true, false, false] [(7, pp 0 0), (8, pp 1 0), (9, pp 2 0), (30, ii (Int.tmod (w64 b) r1.1)), (32, ii (w64 c)), (33, pp 0 0)] [(2, .cells [ii 0] 0 3 0), (1, .cells [ii 0] 0 3 0), (0, .cells [ii r1.1, ii r1.2.1, ii r2] 0 23 0)] 3 (fun e σ1 h1 c1 => e = .normal ∧ (σ1, h1, c1) = ([(7, pp 0 0), (8, pp 1 0), (9, pp 2 0)], [(2, .cells [ii (Int.tmod (w64 c) r1.1)] 0 3 0), (1, .cells [ii (Int.tmod (w64 b) r1.1)] 0 3 0), (0, .cells [ii r1.1, ii r1.2.1, ii r2] 0 23 0)], 3)) := by
        refine XA.step E0_ok [8, 12] (by kernel_rfl) rfl (by kernel_rfl) ⟨?_, ?_, trivial⟩
        · refine XR.runS E0_ok 1 1 [(7, pp 0 0), (8, pp 1 0), (9, pp 2 0), (30, ii (Int.tmod (w64 b) r1.1)), (32, ii (w64 c)), (34, ii r1.1)] rfl (by kernel_rfl) ?_
          refine XR.done (by kernel_rfl) ?_
          refine ⟨rfl, ?_⟩
          show XA _ _ _ _ _ _ _ _ _ _
          exact xa11
        · refine XR.runT E0_ok 1 1 [(7, pp 0 0), (8, pp 1 0), (9, pp 2 0), (32, ii (w64 c)), (33, pp 0 0)] [(2, .cells [ii 0] 0 3 0), (1, .cells [ii (Int.tmod (w64 b) r1.1)] 0 3 0), (0, .cells [ii r1.1, ii r1.2.1, ii r2] 0 23 0)] 3 rfl (by kernel_rfl) ?_
          refine XR.done (by kernel_rfl) ?_
          refine ⟨rfl, ?_⟩
          show XA _ _ _ _ _ _ _ _ _ _
          exact xa16
      have xa14 : XA E0 112 0 (opsOf (lft (rgt (rgt (rgt f8_C8))))) 5 #[true, true, true, true, true, true, true, true, false, false, true, false, false, false] [(7, pp 0 0), (8, pp 1 0), (30, ii (Int.tmod (w64 b) r1.1)), (32, ii (w64 c)), (33, pp 0 0)] [(1, .cells [ii 0] 0 3 0), (0, .cells [ii r1.1, ii r1.2.1, ii r2] 0 23 0)] 2 (fun e σ1 h1 c1 => e = .normal ∧ (σ1, h1, c1) = ([(7, pp 0 0), (8, pp 1 0), (9, pp 2 0)], [(2, .cells [ii (Int.tmod (w64 c) r1.1)] 0 3 0), (1, .cells [ii (Int.tmod (w64 b) r1.1)] 0 3 0), (0, .cells [ii r1.1, ii r1.2.1, ii r2] 0 23 0)], 3)) := by
        refine XA.step E0_ok [8, 11] (by kernel_rfl) rfl (by kernel_rfl) ⟨?_, ?_, trivial⟩
        · refine XR.runS E0_ok 1 1 [(7, pp 0 0), (8, pp 1 0), (30, ii (Int.tmod (w64 b) r1.1)), (32, ii (w64 c)), (34, ii r1.1)] rfl (by kernel_rfl) ?_
          refine XR.done (by kernel_rfl) ?_
          refine ⟨rfl, ?_⟩
          show XA _ _ _ _ _ _ _ _ _ _
          exact xa10
        · refine XR.runT E0_ok 1 1 [(7, pp 0 0), (8, pp 1 0), (9, pp 2 0), (30, ii (Int.tmod (w64 b) r1.1)), (32, ii (w64 c)), (33, pp 0 0)] [(2, .cells [ii 0] 0 3 0), (1, .cells [ii 0] 0 3 0), (0, .cells [ii r1.1, ii r1.2.1, ii r2] 0 23 0)] 3 rfl (by kernel_rfl) ?_
          refine XR.done (by kernel_rfl) ?_
          refine ⟨rfl, ?_⟩
          show XA _ _ _ _ _ _ _ _ _ _
          exact xa15
      have xa17 : XA E0 112 0 (opsOf (lft (rgt (rgt (rgt f8_C8))))) 5 #[true, true, true, true, true, true, true, true, false, false, false, true, false, false] [(7, pp 0 0), (9, pp 1 0), (30, ii (Int.tmod (w64 b) r1.1)), (32, ii (w64 c)), (33, pp 0 0)] [(1, .cells [ii 0] 0 3 0), (0, .cells [ii r1.1, ii r1.2.1, ii r2] 0 23 0)] 2 (fun e σ1 h1 c1 => e = .normal ∧ (σ1, h1, c1) = ([(7, pp 0 0), (8, pp 1 0), (9, pp 2 0)], [(2, .cells [ii (Int.tmod (w64 c) r1.1)] 0 3 0), (1, .cells [ii (Int.tmod (w64 b) r1.1)] 0 3 0), (0, .cells [ii r1.1, ii r1.2.1, ii r2] 0 23 0)], 3)) := by
        refine XA.step E0_ok [8, 10] (by kernel_rfl) rfl (by kernel_rfl) ⟨?_, ?_, trivial⟩
        · refine XR.runS E0_ok 1 1 [(7, pp 0 0), (9, pp 1 0), (30, ii (Int.tmod (w64 b) r1.1)), (32, ii (w64 c)), (34, ii r1.1)] rfl (by kernel_rfl) ?_
          refine XR.done (by kernel_rfl) ?_
          refine ⟨rfl, ?_⟩
          show XA _ _ _ _ _ _ _ _ _ _
          exact xa13
        · refine XR.runT E0_ok 1 1 [(7, pp 0 0), (8, pp 2 0), (9, pp 1 0), (30, ii (Int.tmod (w64 b) r1.1)), (32, ii (w64 c)), (33, pp 0 0)] [(2, .cells [ii 0] 0 3 0), (1, .cells [ii 0] 0 3 0), (0, .cells [ii r1.1, ii r1.2.1, ii r2] 0 23 0)] 3 rfl (by kernel_rfl) ?_
          refine XR.done (by kernel_rfl) ?_
          refine ⟨rfl, ?_⟩
          show XA _ _ _ _ _ _ _ _ _ _
          refine XA.ren (σ' := [(7, pp 0 0), (8, pp 1 0), (9, pp 2 0), (30, ii (Int.tmod (w64 b) r1.1)), (32, ii (w64 c)), (33, pp 0 0)]) (h' := [(2, .cells [ii 0] 0 3 0), (1, .cells [ii 0] 0 3 0), (0, .cells [ii r1.1, ii r1.2.1, ii r2] 0 23 0)]) (c' := 3) [0, 2, 1] (by decide) rfl ⟨by kernel_rfl, by kernel_rfl, by kernel_rfl, by kernel_rfl, by kernel_rfl, by kernel_rfl, trivial⟩ ⟨⟨_, _, rfl, rfl, .inr ⟨_, _, _, _, rfl, rfl⟩⟩, ⟨_, _, rfl, rfl, .inr ⟨_, _, _, _, rfl, rfl⟩⟩, ⟨_, _, rfl, rfl, .inr ⟨_, _, _, _, rfl, rfl⟩⟩, trivial⟩ rfl ?_
          exact xa15
      have xa2 : XA E0 112 0 (opsOf (lft (rgt (rgt (rgt f8_C8))))) 6 #[true, true, true, true, true, true, true, true, false, false, false, false, false, false] [(7, pp 0 0), (30, ii (Int.tmod (w64 b) r1.1)), (32, ii (w64 c)), (33, pp 0 0)] [(0, .cells [ii r1.1, ii r1.2.1, ii r2] 0 23 0)] 1 (fun e σ1 h1 c1 => e = .normal ∧ (σ1, h1, c1) = ([(7, pp 0 0), (8, pp 1 0), (9, pp 2 0)], [(2, .cells [ii (Int.tmod (w64 c) r1.1)] 0 3 0), (1, .cells [ii (Int.tmod (w64 b) r1.1)] 0 3 0), (0, .cells [ii r1.1, ii r1.2.1, ii r2] 0 23 0)], 3)) := by
        refine XA.step E0_ok [8, 10, 11] (by kernel_rfl) rfl (by kernel_rfl) ⟨?_, ?_, ?_, trivial⟩
        · refine XR.runS E0_ok 1 1 [(7, pp 0 0), (30, ii (Int.tmod (w64 b) r1.1)), (32, ii (w64 c)), (34, ii r1.1)] rfl (by kernel_rfl) ?_
          refine XR.done (by kernel_rfl) ?_
          refine ⟨rfl, ?_⟩
          show XA _ _ _ _ _ _ _ _ _ _
          exact xa3
        · refine XR.runT E0_ok 1 1 [(7, pp 0 0), (8, pp 1 0), (30, ii (Int.tmod (w64 b) r1.1)), (32, ii (w64 c)), (33, pp 0 0)] [(1, .cells [ii 0] 0 3 0), (0, .cells [ii r1.1, ii r1.2.1, ii r2] 0 23 0)] 2 rfl (by kernel_rfl) ?_
          refine XR.done (by kernel_rfl) ?_
          refine ⟨rfl, ?_⟩
          show XA _ _ _ _ _ _ _ _ _ _
          exact xa14
        · refine XR.runT E0_ok 1 1 [(7, pp 0 0), (9, pp 1 0), (30, ii (Int.tmod (w64 b) r1.1)), (32, ii (w64 c)), (33, pp 0 0)] [(1, .cells [ii 0] 0 3 0), (0, .cells [ii r1.1, ii r1.2.1, ii r2] 0 23 0)] 2 rfl (by kernel_rfl) ?_
          refine XR.done (by kernel_rfl) ?_
          refine ⟨rfl, ?_⟩
          show XA _ _ _ _ _ _ _ _ _ _
          exact xa17
      have xa21 : XA E0 112 0 (opsOf (lft (rgt (rgt (rgt f8_C8))))) 3 #[true, true, true, true, false, true, true, true, true, true, true, true, false, false] [(7, pp 0 0), (8, pp 1 0), (9, pp 2 0), (27, ii (w64 b)), (29, ii r1.1), (35, ii (Int.tmod (w64 c) r1.1))] [(2, .cells [ii 0] 0 3 0), (1, .cells [ii 0] 0 3 0), (0, .cells [ii r1.1, ii r1.2.1, ii r2] 0 23 0)] 3 (fun e σ1 h1 c1 => e = .normal ∧ (σ1, h1, c1) = ([(7, pp 0 0), (8, pp 1 0), (9, pp 2 0)], [(2, .cells [ii (Int.tmod (w64 c) r1.1)] 0 3 0), (1, .cells [ii (Int.tmod (w64 b) r1.1)] 0 3 0), (0, .cells [ii r1.1, ii r1.2.1, ii r2] 0 23 0)], 3)) := by
        refine XA.step E0_ok [4] (by kernel_rfl) rfl (by kernel_rfl) ⟨?_, trivial⟩
        · have e36 : insV (headI ((gsOf E0 112 (reOps (opsOf (lft (rgt (rgt (rgt f8_C8))))) [4])).drop 0) (trS 112 [(7, pp 0 0), (8, pp 1 0), (9, pp 2 0), (27, ii (w64 b)), (29, ii r1.1), (35, ii (Int.tmod (w64 c) r1.1))])) (trS 112 [(7, pp 0 0), (8, pp 1 0), (9, pp 2 0), (27, ii (w64 b)), (29, ii r1.1), (35, ii (Int.tmod (w64 c) r1.1))]) [(2, .cells [ii 0] 0 3 0), (1, .cells [ii 0] 0 3 0), (0, .cells [ii r1.1, ii r1.2.1, ii r2] 0 23 0)] = (match (r1.1 != 0 : Bool) with | true => some (ii (Int.tmod (w64 b) r1.1)) | false => none) := by kernel_rfl
          refine XR.rd E0_ok [7, 8, 9, 30, 35] rfl (e36.trans (by rw [b1])) (σ' := [(7, pp 0 0), (8, pp 1 0), (9, pp 2 0), (30, ii (Int.tmod (w64 b) r1.1)), (35, ii (Int.tmod (w64 c) r1.1))]) (by kernel_rfl) ?_
          refine XR.done (by kernel_rfl) ?_
          refine ⟨rfl, ?_⟩
          show XA _ _ _ _ _ _ _ _ _ _
          exact xa6
      have xa20 : XA E0 112 0 (opsOf (lft (rgt (rgt (rgt f8_C8))))) 4 #[true, true, true, true, false, true, true, true, true, true, true, false, false, false] [(7, pp 0 0), (8, pp 1 0), (27, ii (w64 b)), (29, ii r1.1), (35, ii (Int.tmod (w64 c) r1.1))] [(1, .cells [ii 0] 0 3 0), (0, .cells [ii r1.1, ii r1.2.1, ii r2] 0 23 0)] 2 (fun e σ1 h1 c1 => e = .normal ∧ (σ1, h1, c1) = ([(7, pp 0 0), (8, pp 1 0), (9, pp 2 0)], [(2, .cells [ii (Int.tmod (w64 c) r1.1)] 0 3 0), (1, .cells [ii (Int.tmod (w64 b) r1.1)] 0 3 0), (0, .cells [ii r1.1, ii r1.2.1, ii r2] 0 23 0)], 3)) := by
        refine XA.step E0_ok [4, 11] (by kernel_rfl) rfl (by kernel_rfl) ⟨?_, ?_, trivial⟩
        · have e35 : insV (headI ((gsOf E0 112 (reOps (opsOf (lft (rgt (rgt (rgt f8_C8))))) [4])).drop 0) (trS 112 [(7, pp 0 0), (8, pp 1 0), (27, ii (w64 b)), (29, ii r1.1), (35, ii (Int.tmod (w64 c) r1.1))])) (trS 112 [(7, pp 0 0), (8, pp 1 0), (27, ii (w64 b)), (29, ii r1.1), (35, ii (Int.tmod (w64 c) r1.1))]) [(1, .cells [ii 0] 0 3 0), (0, .cells [ii r1.1, ii r1.2.1, ii r2] 0 23 0)] = (match (r1.1 != 0 : Bool) with | true => some (ii (Int.tmod (w64 b) r1.1)) | false => none) := by kernel_rfl
          refine XR.rd E0_ok [7, 8, 30, 35] rfl (e35.trans (by rw [b1])) (σ' := [(7, pp 0 0), (8, pp 1 0), (30, ii (Int.tmod (w64 b) r1.1)), (35, ii (Int.tmod (w64 c) r1.1))]) (by kernel_rfl) ?_
          refine XR.done (by kernel_rfl) ?_
          refine ⟨rfl, ?_⟩
          show XA _ _ _ _ _ _ _ _ _ _
          exact xa5
        · refine XR.runT E0_ok 1 1 [(7, pp 0 0), (8, pp 1 0), (9, pp 2 0), (27, ii (w64 b)), (29, ii r1.1), (35, ii (Int.tmod (w64 c) r1.1))] [(2, .cells [ii 0] 0 3 0), (1, .cells [ii 0] 0 3 0), (0, .cells [ii r1.1, ii r1.2.1, ii r2] 0 23 0)] 3 rfl (by kernel_rfl) ?_
          refine XR.done (by kernel_rfl) ?_
          refine ⟨rfl, ?_⟩
          show XA _ _ _ _ _ _ _ _ _ _
          exact xa21
      have xa22 : XA E0 112 0 (opsOf (lft (rgt (rgt (rgt f8_C8))))) 4 #[true, true, true, true, false, true, true, true, true, true, false, true, false, false] [(7, pp 0 0), (9, pp 1 0), (27, ii (w64 b)), (29, ii r1.1), (35, ii (Int.tmod (w64 c) r1.1))] [(1, .cells [ii 0] 0 3 0), (0, .cells [ii r1.1, ii r1.2.1, ii r2] 0 23 0)] 2 (fun e σ1 h1 c1 => e = .normal ∧ (σ1, h1, c1) = ([(7, pp 0 0), (8, pp 1 0), (9, pp 2 0)], [(2, .cells [ii (Int.tmod (w64 c) r1.1)] 0 3 0), (1, .cells [ii (Int.tmod (w64 b) r1.1)] 0 3 0), (0, .cells [ii r1.1, ii r1.2.1, ii r2] 0 23 0)], 3)) := by
        refine XA.step E0_ok [4, 10] (by kernel_rfl) rfl (by kernel_rfl) ⟨?_, ?_, trivial⟩
        · have e37 : insV (headI ((gsOf E0 112 (reOps (opsOf (lft (rgt (rgt (rgt f8_C8))))) [4])).drop 0) (trS 112 [(7, pp 0 0), (9, pp 1 0), (27, ii (w64 b)), (29, ii r1.1), (35, ii (Int.tmod (w64 c) r1.1))])) (trS 112 [(7, pp 0 0), (9, pp 1 0), (27, ii (w64 b)), (29, ii r1.1), (35, ii (Int.tmod (w64 c) r1.1))]) [(1, .cells [ii 0] 0 3 0), (0, .cells [ii r1.1, ii r1.2.1, ii r2] 0 23 0)] = (match (r1.1 != 0 : Bool) with | true => some (ii (Int.tmod (w64 b) r1.1)) | false => none) := by kernel_rfl
          refine XR.rd E0_ok [7, 9, 30, 35] rfl (e37.trans (by rw [b1])) (σ' := [(7, pp 0 0), (9, pp 1 0), (30, ii (Int.tmod (w64 b) r1.1)), (35, ii (Int.tmod (w64 c) r1.1))]) (by kernel_rfl) ?_
          refine XR.done (by kernel_rfl) ?_
          refine ⟨rfl, ?_⟩
          show XA _ _ _ _ _ _ _ _ _ _
          exact xa9
        · refine XR.runT E0_ok 1 1 [(7, pp 0 0), (8, pp 2 0), (9, pp 1 0), (27, ii (w64 b)), (29, ii r1.1), (35, ii (Int.tmod (w64 c) r1.1))] [(2, .cells [ii 0] 0 3 0), (1, .cells [ii 0] 0 3 0), (0, .cells [ii r1.1, ii r1.2.1, ii r2] 0 23 0)] 3 rfl (by kernel_rfl) ?_
          refine XR.done (by kernel_rfl) ?_
          refine ⟨rfl, ?_⟩
          show XA _ _ _ _ _ _ _ _ _ _
          refine XA.ren (σ' := [(7, pp 0 0), (8, pp 1 0), (9, pp 2 0), (27, ii (w64 b)), (29, ii r1.1), (35, ii (Int.tmod (w64 c) r1.1))]) (h' := [(2, .cells [ii 0] 0 3 0), (1, .cells [ii 0] 0 3 0), (0, .cells [ii r1.1, ii r1.2.1, ii r2] 0 23 0)]) (c' := 3) [0, 2, 1] (by decide) rfl ⟨by kernel_rfl, by kernel_rfl, by kernel_rfl, by kernel_rfl, by kernel_rfl, by kernel_rfl, trivial⟩ ⟨⟨_, _, rfl, rfl, .inr ⟨_, _, _, _, rfl, rfl⟩⟩, ⟨_, _, rfl, rfl, .inr ⟨_, _, _, _, rfl, rfl⟩⟩, ⟨_, _, rfl, rfl, .inr ⟨_, _, _, _, rfl, rfl⟩⟩, trivial⟩ rfl ?_
          exact xa21
      have xa19 : XA E0 112 0 (opsOf (lft (rgt (rgt (rgt f8_C8))))) 5 #[true, true, true, true, false, true, true, true, true, true, false, false, false, false] [(7, pp 0 0), (27, ii (w64 b)), (29, ii r1.1), (35, ii (Int.tmod (w64 c) r1.1))] [(0, .cells [ii r1.1, ii r1.2.1, ii r2] 0 23 0)] 1 (fun e σ1 h1 c1 => e = .normal ∧ (σ1, h1, c1) = ([(7, pp 0 0), (8, pp 1 0), (9, pp 2 0)], [(2, .cells [ii (Int.tmod (w64 c) r1.1)] 0 3 0), (1, .cells [ii (Int.tmod (w64 b) r1.1)] 0 3 0), (0, .cells [ii r1.1, ii r1.2.1, ii r2] 0 23 0)], 3)) := by
        refine XA.step E0_ok [4, 10, 11] (by kernel_rfl) rfl (by kernel_rfl) ⟨?_, ?_, ?_, trivial⟩
        · have e34 : insV (headI ((gsOf E0 112 (reOps (opsOf (lft (rgt (rgt (rgt f8_C8))))) [4])).drop 0) (trS 112 [(7, pp 0 0), (27, ii (w64 b)), (29, ii r1.1), (35, ii (Int.tmod (w64 c) r1.1))])) (trS 112 [(7, pp 0 0), (27, ii (w64 b)), (29, ii r1.1), (35, ii (Int.tmod (w64 c) r1.1))]) [(0, .cells [ii r1.1, ii r1.2.1, ii r2] 0 23 0)] = (match (r1.1 != 0 : Bool) with | true => some (ii (Int.tmod (w64 b) r1.1)) | false => none) := by kernel_rfl
          refine XR.rd E0_ok [7, 30, 35] rfl (e34.trans (by rw [b1])) (σ' := [(7, pp 0 0), (30, ii (Int.tmod (w64 b) r1.1)), (35, ii (Int.tmod (w64 c) r1.1))]) (by kernel_rfl) ?_
          refine XR.done (by kernel_rfl) ?_
          refine ⟨rfl, ?_⟩
          show XA _ _ _ _ _ _ _ _ _ _
          exact xa4
        · refine XR.runT E0_ok 1 1 [(7, pp 0 0), (8, pp 1 0), (27, ii (w64 b)), (29, ii r1.1), (35, ii (Int.tmod (w64 c) r1.1))] [(1, .cells [ii 0] 0 3 0), (0, .cells [ii r1.1, ii r1.2.1, ii r2] 0 23 0)] 2 rfl (by kernel_rfl) ?_
          refine XR.done (by kernel_rfl) ?_
          refine ⟨rfl, ?_⟩
          show XA _ _ _ _ _ _ _ _ _ _
          exact xa20
        · refine XR.runT E0_ok 1 1 [(7, pp 0 0), (9, pp 1 0), (27, ii (w64 b)), (29, ii r1.1), (35, ii (Int.tmod (w64 c) r1.1))] [(1, .cells [ii 0] 0 3 0), (0, .cells [ii r1.1, ii r1.2.1, ii r2] 0 23 0)] 2 rfl (by kernel_rfl) ?_
          refine XR.done (by kernel_rfl) ?_
          refine ⟨rfl, ?_⟩
          show XA _ _ _ _ _ _ _ _ _ _
          exact xa22
      have xa24 : XA E0 112 0 (opsOf (lft (rgt (rgt (rgt f8_C8))))) 4 #[true, true, true, true, false, true, true, true, true, false, true, true, false, false] [(7, pp 0 0), (8, pp 1 0), (9, pp 2 0), (27, ii (w64 b)), (29, ii r1.1), (32, ii (w64 c)), (34, ii r1.1)] [(2, .cells [ii 0] 0 3 0), (1, .cells [ii 0] 0 3 0), (0, .cells [ii r1.1, ii r1.2.1, ii r2] 0 23 0)] 3 (fun e σ1 h1 c1 => e = .normal ∧ (σ1, h1, c1) = ([(7, pp 0 0), (8, pp 1 0), (9, pp 2 0)], [(2, .cells [ii (Int.tmod (w64 c) r1.1)] 0 3 0), (1, .cells [ii (Int.tmod (w64 b) r1.1)] 0 3 0), (0, .cells [ii r1.1, ii r1.2.1, ii r2] 0 23 0)], 3)) := by
        refine XA.step E0_ok [4, 9] (by kernel_rfl) rfl (by kernel_rfl) ⟨?_, ?_, trivial⟩
        · have e40 : insV (headI ((gsOf E0 112 (reOps (opsOf (lft (rgt (rgt (rgt f8_C8))))) [4])).drop 0) (trS 112 [(7, pp 0 0), (8, pp 1 0), (9, pp 2 0), (27, ii (w64 b)), (29, ii r1.1), (32, ii (w64 c)), (34, ii r1.1)])) (trS 112 [(7, pp 0 0), (8, pp 1 0), (9, pp 2 0), (27, ii (w64 b)), (29, ii r1.1), (32, ii (w64 c)), (34, ii r1.1)]) [(2, .cells [ii 0] 0 3 0), (1, .cells [ii 0] 0 3 0), (0, .cells [ii r1.1, ii r1.2.1, ii r2] 0 23 0)] = (match (r1.1 != 0 : Bool) with | true => some (ii (Int.tmod (w64 b) r1.1)) | false => none) := by kernel_rfl
          refine XR.rd E0_ok [7, 8, 9, 30, 32, 34] rfl (e40.trans (by rw [b1])) (σ' := [(7, pp 0 0), (8, pp 1 0), (9, pp 2 0), (30, ii (Int.tmod (w64 b) r1.1)), (32, ii (w64 c)), (34, ii r1.1)]) (by kernel_rfl) ?_
          refine XR.done (by kernel_rfl) ?_
          refine ⟨rfl, ?_⟩
          show XA _ _ _ _ _ _ _ _ _ _
          exact xa11
        · have e41 : insV (headI ((gsOf E0 112 (reOps (opsOf (lft (rgt (rgt (rgt f8_C8))))) [9])).drop 0) (trS 112 [(7, pp 0 0), (8, pp 1 0), (9, pp 2 0), (27, ii (w64 b)), (29, ii r1.1), (32, ii (w64 c)), (34, ii r1.1)])) (trS 112 [(7, pp 0 0), (8, pp 1 0), (9, pp 2 0), (27, ii (w64 b)), (29, ii r1.1), (32, ii (w64 c)), (34, ii r1.1)]) [(2, .cells [ii 0] 0 3 0), (1, .cells [ii 0] 0 3 0), (0, .cells [ii r1.1, ii r1.2.1, ii r2] 0 23 0)] = (match (r1.1 != 0 : Bool) with | true => some (ii (Int.tmod (w64 c) r1.1)) | false => none) := by kernel_rfl
          refine XR.rd E0_ok [7, 8, 9, 27, 29, 35] rfl (e41.trans (by rw [b1])) (σ' := [(7, pp 0 0), (8, pp 1 0), (9, pp 2 0), (27, ii (w64 b)), (29, ii r1.1), (35, ii (Int.tmod (w64 c) r1.1))]) (by kernel_rfl) ?_
          refine XR.done (by kernel_rfl) ?_
          refine ⟨rfl, ?_⟩
          show XA _ _ _ _ _ _ _ _ _ _
          exact xa21
      have xa23 : XA E0 112 0 (opsOf (lft (rgt (rgt (rgt f8_C8))))) 5 #[true, true, true, true, false, true, true, true, true, false, true, false, false, false] [(7, pp 0 0), (8, pp 1 0), (27, ii (w64 b)), (29, ii r1.1), (32, ii (w64 c)), (34, ii r1.1)] [(1, .cells [ii 0] 0 3 0), (0, .cells [ii r1.1, ii r1.2.1, ii r2] 0 23 0)] 2 (fun e σ1 h1 c1 => e = .normal ∧ (σ1, h1, c1) = ([(7, pp 0 0), (8, pp 1 0), (9, pp 2 0)], [(2, .cells [ii (Int.tmod (w64 c) r1.1)] 0 3 0), (1, .cells [ii (Int.tmod (w64 b) r1.1)] 0 3 0), (0, .cells [ii r1.1, ii r1.2.1, ii r2] 0 23 0)], 3)) := by
        refine XA.step E0_ok [4, 9, 11] (by kernel_rfl) rfl (by kernel_rfl) ⟨?_, ?_, ?_, trivial⟩
        · have e38 : insV (headI ((gsOf E0 112 (reOps (opsOf (lft (rgt (rgt (rgt f8_C8))))) [4])).drop 0) (trS 112 [(7, pp 0 0), (8, pp 1 0), (27, ii (w64 b)), (29, ii r1.1), (32, ii (w64 c)), (34, ii r1.1)])) (trS 112 [(7, pp 0 0), (8, pp 1 0), (27, ii (w64 b)), (29, ii r1.1), (32, ii (w64 c)), (34, ii r1.1)]) [(1, .cells [ii 0] 0 3 0), (0, .cells [ii r1.1, ii r1.2.1, ii r2] 0 23 0)] = (match (r1.1 != 0 : Bool) with | true => some (ii (Int.tmod (w64 b) r1.1)) | false => none) := by kernel_rfl
          refine XR.rd E0_ok [7, 8, 30, 32, 34] rfl (e38.trans (by rw [b1])) (σ' := [(7, pp 0 0), (8, pp 1 0), (30, ii (Int.tmod (w64 b) r1.1)), (32, ii (w64 c)), (34, ii r1.1)]) (by kernel_rfl) ?_
          refine XR.done (by kernel_rfl) ?_
          refine ⟨rfl, ?_⟩
          show XA _ _ _ _ _ _ _ _ _ _
          exact xa10
        · have e39 : insV (headI ((gsOf E0 112 (reOps (opsOf (lft (rgt (rgt (rgt f8_C8))))) [9])).drop 0) (trS 112 [(7, pp 0 0), (8, pp 1 0), (27, ii (w64 b)), (29, ii r1.1), (32, ii (w64 c)), (34, ii r1.1)])) (trS 112 [(7, pp 0 0), (8, pp 1 0), (27, ii (w64 b)), (29, ii r1.1), (32, ii (w64 c)), (34, ii r1.1)]) [(1, .cells [ii 0] 0 3 0), (0, .cells [ii r1.1, ii r1.2.1, ii r2] 0 23 0)] = (match (r1.1 != 0 : Bool) with | true => some (ii (Int.tmod (w64 c) r1.1)) | false => none) := by kernel_rfl
          refine XR.rd E0_ok [7, 8, 27, 29, 35] rfl (e39.trans (by rw [b1])) (σ' := [(7, pp 0 0), (8, pp 1 0), (27, ii (w64 b)), (29, ii r1.1), (35, ii (Int.tmod (w64 c) r1.1))]) (by kernel_rfl) ?_
          refine XR.done (by kernel_rfl) ?_
          refine ⟨rfl, ?_⟩
          show XA _ _ _ _ _ _ _ _ _ _
          exact xa20
        · refine XR.runT E0_ok 1 1 [(7, pp 0 0), (8, pp 1 0), (9, pp 2 0), (27, ii (w64 b)), (29, ii r1.1), (32, ii (w64 c)), (34, ii r1.1)] [(2, .cells [ii 0] 0 3 0), (1, .cells [ii 0] 0 3 0), (0, .cells [ii r1.1, ii r1.2.1, ii r2] 0 23 0)] 3 rfl (by kernel_rfl) ?_
          refine XR.done (by kernel_rfl) ?_
          refine ⟨rfl, ?_⟩
          show XA _ _ _ _ _ _ _ _ _ _
          exact xa24
      have xa25 : XA E0 112 0 (opsOf (lft (rgt (rgt (rgt f8_C8))))) 5 #[true, true, true, true, false, true, true, true, true, false, false, true, false, false] [(7, pp 0 0), (9, pp 1 0), (27, ii (w64 b)), (29, ii r1.1), (32, ii (w64 c)), (34, ii r1.1)] [(1, .cells [ii 0] 0 3 0), (0, .cells [ii r1.1, ii r1.2.1, ii r2] 0 23 0)] 2 (fun e σ1 h1 c1 => e = .normal ∧ (σ1, h1, c1) = ([(7, pp 0 0), (8, pp 1 0), (9, pp 2 0)], [(2, .cells [ii (Int.tmod (w64 c) r1.1)] 0 3 0), (1, .cells [ii (Int.tmod (w64 b) r1.1)] 0 3 0), (0, .cells [ii r1.1, ii r1.2.1, ii r2] 0 23 0)], 3)) := by
        refine XA.step E0_ok [4, 9, 10] (by kernel_rfl) rfl (by kernel_rfl) ⟨?_, ?_, ?_, trivial⟩
        · have e42 : insV (headI ((gsOf E0 112 (reOps (opsOf (lft (rgt (rgt (rgt f8_C8))))) [4])).drop 0) (trS 112 [(7, pp 0 0), (9, pp 1 0), (27, ii (w64 b)), (29, ii r1.1), (32, ii (w64 c)), (34, ii r1.1)])) (trS 112 [(7, pp 0 0), (9, pp 1 0), (27, ii (w64 b)), (29, ii r1.1), (32, ii (w64 c)), (34, ii r1.1)]) [(1, .cells [ii 0] 0 3 0), (0, .cells [ii r1.1, ii r1.2.1, ii r2] 0 23 0)] = (match (r1.1 != 0 : Bool) with | true => some (ii (Int.tmod (w64 b) r1.1)) | false => none) := by kernel_rfl
          refine XR.rd E0_ok [7, 9, 30, 32, 34] rfl (e42.trans (by rw [b1])) (σ' := [(7, pp 0 0), (9, pp 1 0), (30, ii (Int.tmod (w64 b) r1.1)), (32, ii (w64 c)), (34, ii r1.1)]) (by kernel_rfl) ?_
          refine XR.done (by kernel_rfl) ?_
          refine ⟨rfl, ?_⟩
          show XA _ _ _ _ _ _ _ _ _ _
          exact xa13
        · have e43 : insV (headI ((gsOf E0 112 (reOps (opsOf (lft (rgt (rgt (rgt f8_C8))))) [9])).drop 0) (trS 112 [(7, pp 0 0), (9, pp 1 0), (27, ii (w64 b)), (29, ii r1.1), (32, ii (w64 c)), (34, ii r1.1)])) (trS 112 [(7, pp 0 0), (9, pp 1 0), (27, ii (w64 b)), (29, ii r1.1), (32, ii (w64 c)), (34, ii r1.1)]) [(1, .cells [ii 0] 0 3 0), (0, .cells [ii r1.1, ii r1.2.1, ii r2] 0 23 0)] = (match (r1.1 != 0 : Bool) with | true => some (ii (Int.tmod (w64 c) r1.1)) | false => none) := by kernel_rfl
          refine XR.rd E0_ok [7, 9, 27, 29, 35] rfl (e43.trans (by rw [b1])) (σ' := [(7, pp 0 0), (9, pp 1 0), (27, ii (w64 b)), (29, ii r1.1), (35, ii (Int.tmod (w64 c) r1.1))]) (by kernel_rfl) ?_
          refine XR.done (by kernel_rfl) ?_
          refine ⟨rfl, ?_⟩
          show XA _ _ _ _ _ _ _ _ _ _
          exact xa22
        · refine XR.runT E0_ok 1 1 [(7, pp 0 0), (8, pp 2 0), (9, pp 1 0), (27, ii (w64 b)), (29, ii r1.1), (32, ii (w64 c)), (34, ii r1.1)] [(2, .cells [ii 0] 0 3 0), (1, .cells [ii 0] 0 3 0), (0, .cells [ii r1.1, ii r1.2.1, ii r2] 0 23 0)] 3 rfl (by kernel_rfl) ?_
          refine XR.done (by kernel_rfl) ?_
          refine ⟨rfl, ?_⟩
          show XA _ _ _ _ _ _ _ _ _ _
          refine XA.ren (σ' := [(7, pp 0 0), (8, pp 1 0), (9, pp 2 0), (27, ii (w64 b)), (29, ii r1.1), (32, ii (w64 c)), (34, ii r1.1)]) (h' := [(2, .cells [ii 0] 0 3 0), (1, .cells [ii 0] 0 3 0), (0, .cells [ii r1.1, ii r1.2.1, ii r2] 0 23 0)]) (c' := 3) [0, 2, 1] (by decide) rfl ⟨by kernel_rfl, by kernel_rfl, by kernel_rfl, by kernel_rfl, by kernel_rfl, by kernel_rfl, by kernel_rfl, trivial⟩ ⟨⟨_, _, rfl, rfl, .inr ⟨_, _, _, _, rfl, rfl⟩⟩, ⟨_, _, rfl, rfl, .inr ⟨_, _, _, _, rfl, rfl⟩⟩, ⟨_, _, rfl, rfl, .inr ⟨_, _, _, _, rfl, rfl⟩⟩, trivial⟩ rfl ?_
          exact xa24
      have xa18 : XA E0 112 0 (opsOf (lft (rgt (rgt (rgt f8_C8))))) 6 #[true, true, true, true, false, true, true, true, true, false, false, false, false, false] [(7, pp 0 0), (27, ii (w64 b)), (29, ii r1.1), (32, ii (w64 c)), (34, ii r1.1)] [(0, .cells [ii r1.1, ii r1.2.1, ii r2] 0 23 0)] 1 (fun e σ1 h1 c1 => e = .normal ∧ (σ1, h1, c1) = ([(7, pp 0 0), (8, pp 1 0), (9, pp 2 0)], [(2, .cells [ii (Int.tmod (w64 c) r1.1)] 0 3 0), (1, .cells [ii (Int.tmod (w64 b) r1.1)] 0 3 0), (0, .cells [ii r1.1, ii r1.2.1, ii r2] 0 23 0)], 3)) := by
        refine XA.step E0_ok [4, 9, 10, 11] (by kernel_rfl) rfl (by kernel_rfl) ⟨?_, ?_, ?_, ?_, trivial⟩
        · have e32 : insV (headI ((gsOf E0 112 (reOps (opsOf (lft (rgt (rgt (rgt f8_C8))))) [4])).drop 0) (trS 112 [(7, pp 0 0), (27, ii (w64 b)), (29, ii r1.1), (32, ii (w64 c)), (34, ii r1.1)])) (trS 112 [(7, pp 0 0), (27, ii (w64 b)), (29, ii r1.1), (32, ii (w64 c)), (34, ii r1.1)]) [(0, .cells [ii r1.1, ii r1.2.1, ii r2] 0 23 0)] = (match (r1.1 != 0 : Bool) with | true => some (ii (Int.tmod (w64 b) r1.1)) | false => none) := by kernel_rfl
          refine XR.rd E0_ok [7, 30, 32, 34] rfl (e32.trans (by rw [b1])) (σ' := [(7, pp 0 0), (30, ii (Int.tmod (w64 b) r1.1)), (32, ii (w64 c)), (34, ii r1.1)]) (by kernel_rfl) ?_
          refine XR.done (by kernel_rfl) ?_
          refine ⟨rfl, ?_⟩
          show XA _ _ _ _ _ _ _ _ _ _
          exact xa3
        · have e33 : insV (headI ((gsOf E0 112 (reOps (opsOf (lft (rgt (rgt (rgt f8_C8))))) [9])).drop 0) (trS 112 [(7, pp 0 0), (27, ii (w64 b)), (29, ii r1.1), (32, ii (w64 c)), (34, ii r1.1)])) (trS 112 [(7, pp 0 0), (27, ii (w64 b)), (29, ii r1.1), (32, ii (w64 c)), (34, ii r1.1)]) [(0, .cells [ii r1.1, ii r1.2.1, ii r2] 0 23 0)] = (match (r1.1 != 0 : Bool) with | true => some (ii (Int.tmod (w64 c) r1.1)) | false => none) := by kernel_rfl
          refine XR.rd E0_ok [7, 27, 29, 35] rfl (e33.trans (by rw [b1])) (σ' := [(7, pp 0 0), (27, ii (w64 b)), (29, ii r1.1), (35, ii (Int.tmod (w64 c) r1.1))]) (by kernel_rfl) ?_
          refine XR.done (by kernel_rfl) ?_
          refine ⟨rfl, ?_⟩
          show XA _ _ _ _ _ _ _ _ _ _
          exact xa19
        · refine XR.runT E0_ok 1 1 [(7, pp 0 0), (8, pp 1 0), (27, ii (w64 b)), (29, ii r1.1), (32, ii (w64 c)), (34, ii r1.1)] [(1, .cells [ii 0] 0 3 0), (0, .cells [ii r1.1, ii r1.2.1, ii r2] 0 23 0)] 2 rfl (by kernel_rfl) ?_
          refine XR.done (by kernel_rfl) ?_
          refine ⟨rfl, ?_⟩
          show XA _ _ _ _ _ _ _ _ _ _
          exact xa23
        · refine XR.runT E0_ok 1 1 [(7, pp 0 0), (9, pp 1 0), (27, ii (w64 b)), (29, ii r1.1), (32, ii (w64 c)), (34, ii r1.1)] [(1, .cells [ii 0] 0 3 0), (0, .cells [ii r1.1, ii r1.2.1, ii r2] 0 23 0)] 2 rfl (by kernel_rfl) ?_
          refine XR.done (by kernel_rfl) ?_
          refine ⟨rfl, ?_⟩
          show XA _ _ _ _ _ _ _ _ _ _
          exact xa25
      have xa27 : XA E0 112 0 (opsOf (lft (rgt (rgt (rgt f8_C8))))) 5 #[true, true, true, true, false, true, true, true, false, false, true, true, false, false] [(7, pp 0 0), (8, pp 1 0), (9, pp 2 0), (27, ii (w64 b)), (29, ii r1.1), (32, ii (w64 c)), (33, pp 0 0)] [(2, .cells [ii 0] 0 3 0), (1, .cells [ii 0] 0 3 0), (0, .cells [ii r1.1, ii r1.2.1, ii r2] 0 23 0)] 3 (fun e σ1 h1 c1 => e = .normal ∧ (σ1, h1, c1) = ([(7, pp 0 0), (8, pp 1 0), (9, pp 2 0)], [(2, .cells [ii (Int.tmod (w64 c) r1.1)] 0 3 0), (1, .cells [ii (Int.tmod (w64 b) r1.1)] 0 3 0), (0, .cells [ii r1.1, ii r1.2.1, ii r2] 0 23 0)], 3)) := by
        refine XA.step E0_ok [4, 8] (by kernel_rfl) rfl (by kernel_rfl) ⟨?_, ?_, trivial⟩
        · have e45 : insV (headI ((gsOf E0 112 (reOps (opsOf (lft (rgt (rgt (rgt f8_C8))))) [4])).drop 0) (trS 112 [(7, pp 0 0), (8, pp 1 0), (9, pp 2 0), (27, ii (w64 b)), (29, ii r1.1), (32, ii (w64 c)), (33, pp 0 0)])) (trS 112 [(7, pp 0 0), (8, pp 1 0), (9, pp 2 0), (27, ii (w64 b)), (29, ii r1.1), (32, ii (w64 c)), (33, pp 0 0)]) [(2, .cells [ii 0] 0 3 0), (1, .cells [ii 0] 0 3 0), (0, .cells [ii r1.1, ii r1.2.1, ii r2] 0 23 0)] = (match (r1.1 != 0 : Bool) with | true => some (ii (Int.tmod (w64 b) r1.1)) | false => none) := by kernel_rfl
          refine XR.rd E0_ok [7, 8, 9, 30, 32, 33] rfl (e45.trans (by rw [b1])) (σ' := [(7, pp 0 0), (8, pp 1 0), (9, pp 2 0), (30, ii (Int.tmod (w64 b) r1.1)), (32, ii (w64 c)), (33, pp 0 0)]) (by kernel_rfl) ?_
          refine XR.done (by kernel_rfl) ?_
          refine ⟨rfl, ?_⟩
          show XA _ _ _ _ _ _ _ _ _ _
          exact xa15
        · refine XR.runS E0_ok 1 1 [(7, pp 0 0), (8, pp 1 0), (9, pp 2 0), (27, ii (w64 b)), (29, ii r1.1), (32, ii (w64 c)), (34, ii r1.1)] rfl (by kernel_rfl) ?_
          refine XR.done (by kernel_rfl) ?_
          refine ⟨rfl, ?_⟩
          show XA _ _ _ _ _ _ _ _ _ _
          exact xa24
      have xa26 : XA E0 112 0 (opsOf (lft (rgt (rgt (rgt f8_C8))))) 6 #[true, true, true, true, false, true, true, true, false, false, true, false, false, false] [(7, pp 0 0), (8, pp 1 0), (27, ii (w64 b)), (29, ii r1.1), (32, ii (w64 c)), (33, pp 0 0)] [(1, .cells [ii 0] 0 3 0), (0, .cells [ii r1.1, ii r1.2.1, ii r2] 0 23 0)] 2 (fun e σ1 h1 c1 => e = .normal ∧ (σ1, h1, c1) = ([(7, pp 0 0), (8, pp 1 0), (9, pp 2 0)], [(2, .cells [ii (Int.tmod (w64 c) r1.1)] 0 3 0), (1, .cells [ii (Int.tmod (w64 b) r1.1)] 0 3 0), (0, .cells [ii r1.1, ii r1.2.1, ii r2] 0 23 0)], 3)) := by
        refine XA.step E0_ok [4, 8, 11] (by kernel_rfl) rfl (by kernel_rfl) ⟨?_, ?_, ?_, trivial⟩
        · have e44 : insV (headI ((gsOf E0 112 (reOps (opsOf (lft (rgt (rgt (rgt f8_C8))))) [4])).drop 0) (trS 112 [(7, pp 0 0), (8, pp 1 0), (27, ii (w64 b)), (29, ii r1.1), (32, ii (w64 c)), (33, pp 0 0)])) (trS 112 [(7, pp 0 0), (8, pp 1 0), (27, ii (w64 b)), (29, ii r1.1), (32, ii (w64 c)), (33, pp 0 0)]) [(1, .cells [ii 0] 0 3 0), (0, .cells [ii r1.1, ii r1.2.1, ii r2] 0 23 0)] = (match (r1.1 != 0 : Bool) with | true => some (ii (Int.tmod (w64 b) r1.1)) | false => none) := by kernel_rfl
          refine XR.rd E0_ok [7, 8, 30, 32, 33] rfl (e44.trans (by rw [b1])) (σ' := [(7, pp 0 0), (8, pp 1 0), (30, ii (Int.tmod (w64 b) r1.1)), (32, ii (w64 c)), (33, pp 0 0)]) (by kernel_rfl) ?_
          refine XR.done (by kernel_rfl) ?_
          refine ⟨rfl, ?_⟩
          show XA _ _ _ _ _ _ _ _ _ _
          exact xa14
        · refine XR.runS E0_ok 1 1 [(7, pp 0 0), (8, pp 1 0), (27, ii (w64 b)), (29, ii r1.1), (32, ii (w64 c)), (34, ii r1.1)] rfl (by kernel_rfl) ?_
          refine XR.done (by kernel_rfl) ?_
          refine ⟨rfl, ?_⟩
          show XA _ _ _ _ _ _ _ _ _ _
          exact xa23
        · refine XR.runT E0_ok 1 1 [(7, pp 0 0), (8, pp 1 0), (9, pp 2 0), (27, ii (w64 b)), (29, ii r1.1), (32, ii (w64 c)), (33, pp 0 0)] [(2, .cells [ii 0] 0 3 0), (1, .cells [ii 0] 0 3 0), (0, .cells [ii r1.1, ii r1.2.1, ii r2] 0 23 0)] 3 rfl (by kernel_rfl) ?_
          refine XR.done (by kernel_rfl) ?_
          refine ⟨rfl, ?_⟩
          show XA _ _ _ _ _ _ _ _ _ _
          exact xa27
      have xa28 : XA E0 112 0 (opsOf (lft (rgt (rgt (rgt f8_C8))))) 6 #[true, true, true, true, false, true, true, true, false, false, false, true, false, false] [(7, pp 0 0), (9, pp 1 0), (27, ii (w64 b)), (29, ii r1.1), (32, ii (w64 c)), (33, pp 0 0)] [(1, .cells [ii 0] 0 3 0), (0, .cells [ii r1.1, ii r1.2.1, ii r2] 0 23 0)] 2 (fun e σ1 h1 c1 => e = .normal ∧ (σ1, h1, c1) = ([(7, pp 0 0), (8, pp 1 0), (9, pp 2 0)], [(2, .cells [ii (Int.tmod (w64 c) r1.1)] 0 3 0), (1, .cells [ii (Int.tmod (w64 b) r1.1)] 0 3 0), (0, .cells [ii r1.1, ii r1.2.1, ii r2] 0 23 0)], 3)) := by
        refine XA.step E0_ok [4, 8, 10] (by kernel_rfl) rfl (by kernel_rfl) ⟨?_, ?_, ?_, trivial⟩
        · have e46 : insV (headI ((gsOf E0 112 (reOps (opsOf (lft (rgt (rgt (rgt f8_C8))))) [4])).drop 0) (trS 112 [(7, pp 0 0), (9, pp 1 0), (27, ii (w64 b)), (29, ii r1.1), (32, ii (w64 c)), (33, pp 0 0)])) (trS 112 [(7, pp 0 0), (9, pp 1 0), (27, ii (w64 b)), (29, ii r1.1), (32, ii (w64 c)), (33, pp 0 0)]) [(1, .cells [ii 0] 0 3 0), (0, .cells [ii r1.1, ii r1.2.1, ii r2] 0 23 0)] = (match (r1.1 != 0 : Bool) with | true => some (ii (Int.tmod (w64 b) r1.1)) | false => none) := by kernel_rfl
          refine XR.rd E0_ok [7, 9, 30, 32, 33] rfl (e46.trans (by rw [b1])) (σ' := [(7, pp 0 0), (9, pp 1 0), (30, ii (Int.tmod (w64 b) r1.1)), (32, ii (w64 c)), (33, pp 0 0)]) (by kernel_rfl) ?_
          refine XR.done (by kernel_rfl) ?_
          refine ⟨rfl, ?_⟩
          show XA _ _ _ _ _ _ _ _ _ _
          exact xa17
        · refine XR.runS E0_ok 1 1 [(7, pp 0 0), (9, pp 1 0), (27, ii (w64 b)), (29, ii r1.1), (32, ii (w64 c)), (34, ii r1.1)] rfl (by kernel_rfl) ?_
          refine XR.done (by kernel_rfl) ?_
          refine ⟨rfl, ?_⟩
          show XA _ _ _ _ _ _ _ _ _ _
          exact xa25
        · refine XR.runT E0_ok 1 1 [(7, pp 0 0), (8, pp 2 0), (9, pp 1 0), (27, ii (w64 b)), (29, ii r1.1), (32, ii (w64 c)), (33, pp 0 0)] [(2, .cells [ii 0] 0 3 0), (1, .cells [ii 0] 0 3 0), (0, .cells [ii r1.1, ii r1.2.1, ii r2] 0 23 0)] 3 rfl (by kernel_rfl) ?_
          refine XR.done (by kernel_rfl) ?_
          refine ⟨rfl, ?_⟩
          show XA _ _ _ _ _ _ _ _ _ _
          refine XA.ren (σ' := [(7, pp 0 0), (8, pp 1 0), (9, pp 2 0), (27, ii (w64 b)), (29, ii r1.1), (32, ii (w64 c)), (33, pp 0 0)]) (h' := [(2, .cells [ii 0] 0 3 0), (1, .cells [ii 0] 0 3 0), (0, .cells [ii r1.1, ii r1.2.1, ii r2] 0 23 0)]) (c' := 3) [0, 2, 1] (by decide) rfl ⟨by kernel_rfl, by kernel_rfl, by kernel_rfl, by kernel_rfl, by kernel_rfl, by kernel_rfl, by kernel_rfl, trivial⟩ ⟨⟨_, _, rfl, rfl, .inr ⟨_, _, _, _, rfl, rfl⟩⟩, ⟨_, _, rfl, rfl, .inr ⟨_, _, _, _, rfl, rfl⟩⟩, ⟨_, _, rfl, rfl, .inr ⟨_, _, _, _, rfl, rfl⟩⟩, trivial⟩ rfl ?_
          exact xa27
      have xa1 : XA E0 112 0 (opsOf (lft (rgt (rgt (rgt f8_C8))))) 7 #[true, true, true, true, false, true, true, true, false, false, false, false, false, false] [(7, pp 0 0), (27, ii (w64 b)), (29, ii r1.1), (32, ii (w64 c)), (33, pp 0 0)] [(0, .cells [ii r1.1, ii r1.2.1, ii r2] 0 23 0)] 1 (fun e σ1 h1 c1 => e = .normal ∧ (σ1, h1, c1) = ([(7, pp 0 0), (8, pp 1 0), (9, pp 2 0)], [(2, .cells [ii (Int.tmod (w64 c) r1.1)] 0 3 0), (1, .cells [ii (Int.tmod (w64 b) r1.1)] 0 3 0), (0, .cells [ii r1.1, ii r1.2.1, ii r2] 0 23 0)], 3)) := by
        refine XA.step E0_ok [4, 8, 10, 11] (by kernel_rfl) rfl (by kernel_rfl) ⟨?_, ?_, ?_, ?_, trivial⟩
        · have e26 : insV (headI ((gsOf E0 112 (reOps (opsOf (lft (rgt (rgt (rgt f8_C8))))) [4])).drop 0) (trS 112 [(7, pp 0 0), (27, ii (w64 b)), (29, ii r1.1), (32, ii (w64 c)), (33, pp 0 0)])) (trS 112 [(7, pp 0 0), (27, ii (w64 b)), (29, ii r1.1), (32, ii (w64 c)), (33, pp 0 0)]) [(0, .cells [ii r1.1, ii r1.2.1, ii r2] 0 23 0)] = (match (r1.1 != 0 : Bool) with | true => some (ii (Int.tmod (w64 b) r1.1)) | false => none) := by kernel_rfl
          refine XR.rd E0_ok [7, 30, 32, 33] rfl (e26.trans (by rw [b1])) (σ' := [(7, pp 0 0), (30, ii (Int.tmod (w64 b) r1.1)), (32, ii (w64 c)), (33, pp 0 0)]) (by kernel_rfl) ?_
          refine XR.done (by kernel_rfl) ?_
          refine ⟨rfl, ?_⟩
          show XA _ _ _ _ _ _ _ _ _ _
          exact xa2
        · refine XR.runS E0_ok 1 1 [(7, pp 0 0), (27, ii (w64 b)), (29, ii r1.1), (32, ii (w64 c)), (34, ii r1.1)] rfl (by kernel_rfl) ?_
          refine XR.done (by kernel_rfl) ?_
          refine ⟨rfl, ?_⟩
          show XA _ _ _ _ _ _ _ _ _ _
          exact xa18
        · refine XR.runT E0_ok 1 1 [(7, pp 0 0), (8, pp 1 0), (27, ii (w64 b)), (29, ii r1.1), (32, ii (w64 c)), (33, pp 0 0)] [(1, .cells [ii 0] 0 3 0), (0, .cells [ii r1.1, ii r1.2.1, ii r2] 0 23 0)] 2 rfl (by kernel_rfl) ?_
          refine XR.done (by kernel_rfl) ?_
          refine ⟨rfl, ?_⟩
          show XA _ _ _ _ _ _ _ _ _ _
          exact xa26
        · refine XR.runT E0_ok 1 1 [(7, pp 0 0), (9, pp 1 0), (27, ii (w64 b)), (29, ii r1.1), (32, ii (w64 c)), (33, pp 0 0)] [(1, .cells [ii 0] 0 3 0), (0, .cells [ii r1.1, ii r1.2.1, ii r2] 0 23 0)] 2 rfl (by kernel_rfl) ?_
          refine XR.done (by kernel_rfl) ?_
          refine ⟨rfl, ?_⟩
          show XA _ _ _ _ _ _ _ _ _ _
          exact xa28
      have xa32 : XA E0 112 0 (opsOf (lft (rgt (rgt (rgt f8_C8))))) 4 #[true, true, true, false, false, true, true, true, true, true, true, true, false, false] [(7, pp 0 0), (8, pp 1 0), (9, pp 2 0), (27, ii (w64 b)), (28, pp 0 0), (35, ii (Int.tmod (w64 c) r1.1))] [(2, .cells [ii 0] 0 3 0), (1, .cells [ii 0] 0 3 0), (0, .cells [ii r1.1, ii r1.2.1, ii r2] 0 23 0)] 3 (fun e σ1 h1 c1 => e = .normal ∧ (σ1, h1, c1) = ([(7, pp 0 0), (8, pp 1 0), (9, pp 2 0)], [(2, .cells [ii (Int.tmod (w64 c) r1.1)] 0 3 0), (1, .cells [ii (Int.tmod (w64 b) r1.1)] 0 3 0), (0, .cells [ii r1.1, ii r1.2.1, ii r2] 0 23 0)], 3)) := by
        refine XA.step E0_ok [3] (by kernel_rfl) rfl (by kernel_rfl) ⟨?_, trivial⟩
        · refine XR.runS E0_ok 1 1 [(7, pp 0 0), (8, pp 1 0), (9, pp 2 0), (27, ii (w64 b)), (29, ii r1.1), (35, ii (Int.tmod (w64 c) r1.1))] rfl (by kernel_rfl) ?_
          refine XR.done (by kernel_rfl) ?_
          refine ⟨rfl, ?_⟩
          show XA _ _ _ _ _ _ _ _ _ _
          exact xa21
      have xa31 : XA E0 112 0 (opsOf (lft (rgt (rgt (rgt f8_C8))))) 5 #[true, true, true, false, false, true, true, true, true, true, true, false, false, false] [(7, pp 0 0), (8, pp 1 0), (27, ii (w64 b)), (28, pp 0 0), (35, ii (Int.tmod (w64 c) r1.1))] [(1, .cells [ii 0] 0 3 0), (0, .cells [ii r1.1, ii r1.2.1, ii r2] 0 23 0)] 2 (fun e σ1 h1 c1 => e = .normal ∧ (σ1, h1, c1) = ([(7, pp 0 0), (8, pp 1 0), (9, pp 2 0)], [(2, .cells [ii (Int.tmod (w64 c) r1.1)] 0 3 0), (1, .cells [ii (Int.tmod (w64 b) r1.1)] 0 3 0), (0, .cells [ii r1.1, ii r1.2.1, ii r2] 0 23 0)], 3)) := by
        refine XA.step E0_ok [3, 11] (by kernel_rfl) rfl (by kernel_rfl) ⟨?_, ?_, trivial⟩
        · refine XR.runS E0_ok 1 1 [(7, pp 0 0), (8, pp 1 0), (27, ii (w64 b)), (29, ii r1.1), (35, ii (Int.tmod (w64 c) r1.1))] rfl (by kernel_rfl) ?_
          refine XR.done (by kernel_rfl) ?_
          refine ⟨rfl, ?_⟩
          show XA _ _ _ _ _ _ _ _ _ _
          exact xa20
        · refine XR.runT E0_ok 1 1 [(7, pp 0 0), (8, pp 1 0), (9, pp 2 0), (27, ii (w64 b)), (28, pp 0 0), (35, ii (Int.tmod (w64 c) r1.1))] [(2, .cells [ii 0] 0 3 0), (1, .cells [ii 0] 0 3 0), (0, .cells [ii r1.1, ii r1.2.1, ii r2] 0 23 0)] 3 rfl (by kernel_rfl) ?_
          refine XR.done (by kernel_rfl) ?_
          refine ⟨rfl, ?_⟩
          show XA _ _ _ _ _ _ _ _ _ _
          exact xa32
      have xa33 : XA E0 112 0 (opsOf (lft (rgt (rgt (rgt f8_C8))))) 5 #[true, true, true, false, false, true, true, true, true, true, false, true, false, false] [(7, pp 0 0), (9, pp 1 0), (27, ii (w64 b)), (28, pp 0 0), (35, ii (Int.tmod (w64 c) r1.1))] [(1, .cells [ii 0] 0 3 0), (0, .cells [ii r1.1, ii r1.2.1, ii r2] 0 23 0)] 2 (fun e σ1 h1 c1 => e = .normal ∧ (σ1, h1, c1) = ([(7, pp 0 0), (8, pp 1 0), (9, pp 2 0)], [(2, .cells [ii (Int.tmod (w64 c) r1.1)] 0 3 0), (1, .cells [ii (Int.tmod (w64 b) r1.1)] 0 3 0), (0, .cells [ii r1.1, ii r1.2.1, ii r2] 0 23 0)], 3)) := by
        refine XA.step E0_ok [3, 10] (by kernel_rfl) rfl (by kernel_rfl) ⟨?_, ?_, trivial⟩
        · refine XR.runS E0_ok 1 1 [(7, pp 0 0), (9, pp 1 0), (27, ii (w64 b)), (29, ii r1.1), (35, ii (Int.tmod (w64 c) r1.1))] rfl (by kernel_rfl) ?_
          refine XR.done (by kernel_rfl) ?_
          refine ⟨rfl, ?_⟩
          show XA _ _ _ _ _ _ _ _ _ _
          exact xa22
        · refine XR.runT E0_ok 1 1 [(7, pp 0 0), (8, pp 2 0), (9, pp 1 0), (27, ii (w64 b)), (28, pp 0 0), (35, ii (Int.tmod (w64 c) r1.1))] [(2, .cells [ii 0] 0 3 0), (1, .cells [ii 0] 0 3 0), (0, .cells [ii r1.1, ii r1.2.1, ii r2] 0 23 0)] 3 rfl (by kernel_rfl) ?_
          refine XR.done (by kernel_rfl) ?_
          refine ⟨rfl, ?_⟩
          show XA _ _ _ _ _ _ _ _ _ _
          refine XA.ren (σ' := [(7, pp 0 0), (8, pp 1 0), (9, pp 2 0), (27, ii (w64 b)), (28, pp 0 0), (35, ii (Int.tmod (w64 c) r1.1))]) (h' := [(2, .cells [ii 0] 0 3 0), (1, .cells [ii 0] 0 3 0), (0, .cells [ii r1.1, ii r1.2.1, ii r2] 0 23 0)]) (c' := 3) [0, 2, 1] (by decide) rfl ⟨by kernel_rfl, by kernel_rfl, by kernel_rfl, by kernel_rfl, by kernel_rfl, by kernel_rfl, trivial⟩ ⟨⟨_, _, rfl, rfl, .inr ⟨_, _, _, _, rfl, rfl⟩⟩, ⟨_, _, rfl, rfl, .inr ⟨_, _, _, _, rfl, rfl⟩⟩, ⟨_, _, rfl, rfl, .inr ⟨_, _, _, _, rfl, rfl⟩⟩, trivial⟩ rfl ?_
          exact xa32
      have xa30 : XA E0 112 0 (opsOf (lft (rgt (rgt (rgt f8_C8))))) 6 #[true, true, true, false, false, true, true, true, true, true, false, false, false, false] [(7, pp 0 0), (27, ii (w64 b)), (28, pp 0 0), (35, ii (Int.tmod (w64 c) r1.1))] [(0, .cells [ii r1.1, ii r1.2.1, ii r2] 0 23 0)] 1 (fun e σ1 h1 c1 => e = .normal ∧ (σ1, h1, c1) = ([(7, pp 0 0), (8, pp 1 0), (9, pp 2 0)], [(2, .cells [ii (Int.tmod (w64 c) r1.1)] 0 3 0), (1, .cells [ii (Int.tmod (w64 b) r1.1)] 0 3 0), (0, .cells [ii r1.1, ii r1.2.1, ii r2] 0 23 0)], 3)) := by
        refine XA.step E0_ok [3, 10, 11] (by kernel_rfl) rfl (by kernel_rfl) ⟨?_, ?_, ?_, trivial⟩
        · refine XR.runS E0_ok 1 1 [(7, pp 0 0), (27, ii (w64 b)), (29, ii r1.1), (35, ii (Int.tmod (w64 c) r1.1))] rfl (by kernel_rfl) ?_
          refine XR.done (by kernel_rfl) ?_
          refine ⟨rfl, ?_⟩
          show XA _ _ _ _ _ _ _ _ _ _
          exact xa19
        · refine XR.runT E0_ok 1 1 [(7, pp 0 0), (8, pp 1 0), (27, ii (w64 b)), (28, pp 0 0), (35, ii (Int.tmod (w64 c) r1.1))] [(1, .cells [ii 0] 0 3 0), (0, .cells [ii r1.1, ii r1.2.1, ii r2] 0 23 0)] 2 rfl (by kernel_rfl) ?_
          refine XR.done (by kernel_rfl) ?_
          refine ⟨rfl, ?_⟩
          show XA _ _ _ _ _ _ _ _ _ _
          exact xa31
        · refine XR.runT E0_ok 1 1 [(7, pp 0 0), (9, pp 1 0), (27, ii (w64 b)), (28, pp 0 0), (35, ii (Int.tmod (w64 c) r1.1))] [(1, .cells [ii 0] 0 3 0), (0, .cells [ii r1.1, ii r1.2.1, ii r2] 0 23 0)] 2 rfl (by kernel_rfl) ?_
          refine XR.done (by kernel_rfl) ?_
          refine ⟨rfl, ?_⟩
          show XA _ _ _ _ _ _ _ _ _ _
          exact xa33
      have xa35 : XA E0 112 0 (opsOf (lft (rgt (rgt (rgt f8_C8))))) 5 #[true, true, true, false, false, true, true, true, true, false, true, true, false, false] [(7, pp 0 0), (8, pp 1 0), (9, pp 2 0), (27, ii (w64 b)), (28, pp 0 0), (32, ii (w64 c)), (34, ii r1.1)] [(2, .cells [ii 0] 0 3 0), (1, .cells [ii 0] 0 3 0), (0, .cells [ii r1.1, ii r1.2.1, ii r2] 0 23 0)] 3 (fun e σ1 h1 c1 => e = .normal ∧ (σ1, h1, c1) = ([(7, pp 0 0), (8, pp 1 0), (9, pp 2 0)], [(2, .cells [ii (Int.tmod (w64 c) r1.1)] 0 3 0), (1, .cells [ii (Int.tmod (w64 b) r1.1)] 0 3 0), (0, .cells [ii r1.1, ii r1.2.1, ii r2] 0 23 0)], 3)) := by
        refine XA.step E0_ok [3, 9] (by kernel_rfl) rfl (by kernel_rfl) ⟨?_, ?_, trivial⟩
        · refine XR.runS E0_ok 1 1 [(7, pp 0 0), (8, pp 1 0), (9, pp 2 0), (27, ii (w64 b)), (29, ii r1.1), (32, ii (w64 c)), (34, ii r1.1)] rfl (by kernel_rfl) ?_
          refine XR.done (by kernel_rfl) ?_
          refine ⟨rfl, ?_⟩
          show XA _ _ _ _ _ _ _ _ _ _
          exact xa24
        · have e49 : insV (headI ((gsOf E0 112 (reOps (opsOf (lft (rgt (rgt (rgt f8_C8))))) [9])).drop 0) (trS 112 [(7, pp 0 0), (8, pp 1 0), (9, pp 2 0), (27, ii (w64 b)), (28, pp 0 0), (32, ii (w64 c)), (34, ii r1.1)])) (trS 112 [(7, pp 0 0), (8, pp 1 0), (9, pp 2 0), (27, ii (w64 b)), (28, pp 0 0), (32, ii (w64 c)), (34, ii r1.1)]) [(2, .cells [ii 0] 0 3 0), (1, .cells [ii 0] 0 3 0), (0, .cells [ii r1.1, ii r1.2.1, ii r2] 0 23 0)] = (match (r1.1 != 0 : Bool) with | true => some (ii (Int.tmod (w64 c) r1.1)) | false => none) := by kernel_rfl
          refine XR.rd E0_ok [7, 8, 9, 27, 28, 35] rfl (e49.trans (by rw [b1])) (σ' := [(7, pp 0 0), (8, pp 1 0), (9, pp 2 0), (27, ii (w64 b)), (28, pp 0 0), (35, ii (Int.tmod (w64 c) r1.1))]) (by kernel_rfl) ?_
          refine XR.done (by kernel_rfl) ?_
          refine ⟨rfl, ?_⟩
          show XA _ _ _ _ _ _ _ _ _ _
          exact xa32
      have xa34 : XA E0 112 0 (opsOf (lft (rgt (rgt (rgt f8_C8))))) 6 #[true, true, true, false, false, true, true, true, true, false, true, false, false, false] [(7, pp 0 0), (8, pp 1 0), (27, ii (w64 b)), (28, pp 0 0), (32, ii (w64 c)), (34, ii r1.1)] [(1, .cells [ii 0] 0 3 0), (0, .cells [ii r1.1, ii r1.2.1, ii r2] 0 23 0)] 2 (fun e σ1 h1 c1 => e = .normal ∧ (σ1, h1, c1) = ([(7, pp 0 0), (8, pp 1 0), (9, pp 2 0)], [(2, .cells [ii (Int.tmod (w64 c) r1.1)] 0 3 0), (1, .cells [ii (Int.tmod (w64 b) r1.1)] 0 3 0), (0, .cells [ii r1.1, ii r1.2.1, ii r2] 0 23 0)], 3)) := by
        refine XA.step E0_ok [3, 9, 11] (by kernel_rfl) rfl (by kernel_rfl) ⟨?_, ?_, ?_, trivial⟩
        · refine XR.runS E0_ok 1 1 [(7, pp 0 0), (8, pp 1 0), (27, ii (w64 b)), (29, ii r1.1), (32, ii (w64 c)), (34, ii r1.1)] rfl (by kernel_rfl) ?_
          refine XR.done (by kernel_rfl) ?_
          refine ⟨rfl, ?_⟩
          show XA _ _ _ _ _ _ _ _ _ _
          exact xa23
        · have e48 : insV (headI ((gsOf E0 112 (reOps (opsOf (lft (rgt (rgt (rgt f8_C8))))) [9])).drop 0) (trS 112 [(7, pp 0 0), (8, pp 1 0), (27, ii (w64 b)), (28, pp 0 0), (32, ii (w64 c)), (34, ii r1.1)])) (trS 112 [(7, pp 0 0), (8, pp 1 0), (27, ii (w64 b)), (28, pp 0 0), (32, ii (w64 c)), (34, ii r1.1)]) [(1, .cells [ii 0] 0 3 0), (0, .cells [ii r1.1, ii r1.2.1, ii r2] 0 23 0)] = (match (r1.1 != 0 : Bool) with | true => some (ii (Int.tmod (w64 c) r1.1)) | false => none) := by kernel_rfl
          refine XR.rd E0_ok [7, 8, 27, 28, 35] rfl (e48.trans (by rw [b1])) (σ' := [(7, pp 0 0), (8, pp 1 0), (27, ii (w64 b)), (28, pp 0 0), (35, ii (Int.tmod (w64 c) r1.1))]) (by kernel_rfl) ?_
          refine XR.done (by kernel_rfl) ?_
          refine ⟨rfl, ?_⟩
          show XA _ _ _ _ _ _ _ _ _ _
          exact xa31
        · refine XR.runT E0_ok 1 1 [(7, pp 0 0), (8, pp 1 0), (9, pp 2 0), (27, ii (w64 b)), (28, pp 0 0), (32, ii (w64 c)), (34, ii r1.1)] [(2, .cells [ii 0] 0 3 0), (1, .cells [ii 0] 0 3 0), (0, .cells [ii r1.1, ii r1.2.1, ii r2] 0 23 0)] 3 rfl (by kernel_rfl) ?_
          refine XR.done (by kernel_rfl) ?_
          refine ⟨rfl, ?_⟩
          show XA _ _ _ _ _ _ _ _ _ _
          exact xa35
      have xa36 : XA E0 112 0 (opsOf (lft (rgt (rgt (rgt f8_C8))))) 6 #[true, true, true, false, false, true, true, true, true, false, false, true, false, false] [(7, pp 0 0), (9, pp 1 0), (27, ii (w64 b)), (28, pp 0 0), (32, ii (w64 c)), (34, ii r1.1)] [(1, .cells [ii 0] 0 3 0), (0, .cells [ii r1.1, ii r1.2.1, ii r2] 0 23 0)] 2 (fun e σ1 h1 c1 => e = .normal ∧ (σ1, h1, c1) = ([(7, pp 0 0), (8, pp 1 0), (9, pp 2 0)], [(2, .cells [ii (Int.tmod (w64 c) r1.1)] 0 3 0), (1, .cells [ii (Int.tmod (w64 b) r1.1)] 0 3 0), (0, .cells [ii r1.1, ii r1.2.1, ii r2] 0 23 0)], 3)) := by
        refine XA.step E0_ok [3, 9, 10] (by kernel_rfl) rfl (by kernel_rfl) ⟨?_, ?_, ?_, trivial⟩
        · refine XR.runS E0_ok 1 1 [(7, pp 0 0), (9, pp 1 0), (27, ii (w64 b)), (29, ii r1.1), (32, ii (w64 c)), (34, ii r1.1)] rfl (by kernel_rfl) ?_
          refine XR.done (by kernel_rfl) ?_
          refine ⟨rfl, ?_⟩
          show XA _ _ _ _ _ _ _ _ _ _
          exact xa25
        · have e50 : insV (headI ((gsOf E0 112 (reOps (opsOf (lft (rgt (rgt (rgt f8_C8))))) [9])).drop 0) (trS 112 [(7, pp 0 0), (9, pp 1 0), (27, ii (w64 b)), (28, pp 0 0), (32, ii (w64 c)), (34, ii r1.1)])) (trS 112 [(7, pp 0 0), (9, pp 1 0), (27, ii (w64 b)), (28, pp 0 0), (32, ii (w64 c)), (34, ii r1.1)]) [(1, .cells [ii 0] 0 3 0), (0, .cells [ii r1.1, ii r1.2.1, ii r2] 0 23 0)] = (match (r1.1 != 0 : Bool) with | true => some (ii (Int.tmod (w64 c) r1.1)) | false => none) := by kernel_rfl
          refine XR.rd E0_ok [7, 9, 27, 28, 35] rfl (e50.trans (by rw [b1])) (σ' := [(7, pp 0 0), (9, pp 1 0), (27, ii (w64 b)), (28, pp 0 0), (35, ii (Int.tmod (w64 c) r1.1))]) (by kernel_rfl) ?_
          refine XR.done (by kernel_rfl) ?_
          refine ⟨rfl, ?_⟩
          show XA _ _ _ _ _ _ _ _ _ _
          exact xa33
        · refine XR.runT E0_ok 1 1 [(7, pp 0 0), (8, pp 2 0), (9, pp 1 0), (27, ii (w64 b)), (28, pp 0 0), (32, ii (w64 c)), (34, ii r1.1)] [(2, .cells [ii 0] 0 3 0), (1, .cells [ii 0] 0 3 0), (0, .cells [ii r1.1, ii r1.2.1, ii r2] 0 23 0)] 3 rfl (by kernel_rfl) ?_
          refine XR.done (by kernel_rfl) ?_
          refine ⟨rfl, ?_⟩
          show XA _ _ _ _ _ _ _ _ _ _
          refine XA.ren (σ' := [(7, pp 0 0), (8, pp 1 0), (9, pp 2 0), (27, ii (w64 b)), (28, pp 0 0), (32, ii (w64 c)), (34, ii r1.1)]) (h' := [(2, .cells [ii 0] 0 3 0), (1, .cells [ii 0] 0 3 0), (0, .cells [ii r1.1, ii r1.2.1, ii r2] 0 23 0)]) (c' := 3) [0, 2, 1] (by decide) rfl ⟨by kernel_rfl, by kernel_rfl, by kernel_rfl, by kernel_rfl, by kernel_rfl, by kernel_rfl, by kernel_rfl, trivial⟩ ⟨⟨_, _, rfl, rfl, .inr ⟨_, _, _, _, rfl, rfl⟩⟩, ⟨_, _, rfl, rfl, .inr ⟨_, _, _, _, rfl, rfl⟩⟩, ⟨_, _, rfl, rfl, .inr ⟨_, _, _, _, rfl, rfl⟩⟩, trivial⟩ rfl ?_
          exact xa35
      have xa29 : XA E0 112 0 (opsOf (lft (rgt (rgt (rgt f8_C8))))) 7 #[true, true, true, false, false, true, true, true, true, false, false, false, false, false] [(7, pp 0 0), (27, ii (w64 b)), (28, pp 0 0), (32, ii (w64 c)), (34, ii r1.1)] [(0, .cells [ii r1.1, ii r1.2.1, ii r2] 0 23 0)] 1 (fun e σ1 h1 c1 => e = .normal ∧ (σ1, h1, c1) = ([(7, pp 0 0), (8, pp 1 0), (9, pp 2 0)], [(2, .cells [ii (Int.tmod (w64 c) r1.1)] 0 3 0), (1, .cells [ii (Int.tmod (w64 b) r1.1)] 0 3 0), (0, .cells [ii r1.1, ii r1.2.1, ii r2] 0 23 0)], 3)) := by
        refine XA.step E0_ok [3, 9, 10, 11] (by kernel_rfl) rfl (by kernel_rfl) ⟨?_, ?_, ?_, ?_, trivial⟩
        · refine XR.runS E0_ok 1 1 [(7, pp 0 0), (27, ii (w64 b)), (29, ii r1.1), (32, ii (w64 c)), (34, ii r1.1)] rfl (by kernel_rfl) ?_
          refine XR.done (by kernel_rfl) ?_
          refine ⟨rfl, ?_⟩
          show XA _ _ _ _ _ _ _ _ _ _
          exact xa18
        · have e47 : insV (headI ((gsOf E0 112 (reOps (opsOf (lft (rgt (rgt (rgt f8_C8))))) [9])).drop 0) (trS 112 [(7, pp 0 0), (27, ii (w64 b)), (28, pp 0 0), (32, ii (w64 c)), (34, ii r1.1)])) (trS 112 [(7, pp 0 0), (27, ii (w64 b)), (28, pp 0 0), (32, ii (w64 c)), (34, ii r1.1)]) [(0, .cells [ii r1.1, ii r1.2.1, ii r2] 0 23 0)] = (match (r1.1 != 0 : Bool) with | true => some (ii (Int.tmod (w64 c) r1.1)) | false => none) := by kernel_rfl
          refine XR.rd E0_ok [7, 27, 28, 35] rfl (e47.trans (by rw [b1])) (σ' := [(7, pp 0 0), (27, ii (w64 b)), (28, pp 0 0), (35, ii (Int.tmod (w64 c) r1.1))]) (by kernel_rfl) ?_
          refine XR.done (by kernel_rfl) ?_
          refine ⟨rfl, ?_⟩
          show XA _ _ _ _ _ _ _ _ _ _
          exact xa30
        · refine XR.runT E0_ok 1 1 [(7, pp 0 0), (8, pp 1 0), (27, ii (w64 b)), (28, pp 0 0), (32, ii (w64 c)), (34, ii r1.1)] [(1, .cells [ii 0] 0 3 0), (0, .cells [ii r1.1, ii r1.2.1, ii r2] 0 23 0)] 2 rfl (by kernel_rfl) ?_
          refine XR.done (by kernel_rfl) ?_
          refine ⟨rfl, ?_⟩
          show XA _ _ _ _ _ _ _ _ _ _
          exact xa34
        · refine XR.runT E0_ok 1 1 [(7, pp 0 0), (9, pp 1 0), (27, ii (w64 b)), (28, pp 0 0), (32, ii (w64 c)), (34, ii r1.1)] [(1, .cells [ii 0] 0 3 0), (0, .cells [ii r1.1, ii r1.2.1, ii r2] 0 23 0)] 2 rfl (by kernel_rfl) ?_
          refine XR.done (by kernel_rfl) ?_
          refine ⟨rfl, ?_⟩
          show XA _ _ _ _ _ _ _ _ _ _
          exact xa36
      have xa38 : XA E0 112 0 (opsOf (lft (rgt (rgt (rgt f8_C8))))) 6 #[true, true, true, false, false, true, true, true, false, false, true, true, false, false] [(7, pp 0 0), (8, pp 1 0), (9, pp 2 0), (27, ii (w64 b)), (28, pp 0 0), (32, ii (w64 c)), (33, pp 0 0)] [(2, .cells [ii 0] 0 3 0), (1, .cells [ii 0] 0 3 0), (0, .cells [ii r1.1, ii r1.2.1, ii r2] 0 23 0)] 3 (fun e σ1 h1 c1 => e = .normal ∧ (σ1, h1, c1) = ([(7, pp 0 0), (8, pp 1 0), (9, pp 2 0)], [(2, .cells [ii (Int.tmod (w64 c) r1.1)] 0 3 0), (1, .cells [ii (Int.tmod (w64 b) r1.1)] 0 3 0), (0, .cells [ii r1.1, ii r1.2.1, ii r2] 0 23 0)], 3)) := by
        refine XA.step E0_ok [3, 8] (by kernel_rfl) rfl (by kernel_rfl) ⟨?_, ?_, trivial⟩
        · refine XR.runS E0_ok 1 1 [(7, pp 0 0), (8, pp 1 0), (9, pp 2 0), (27, ii (w64 b)), (29, ii r1.1), (32, ii (w64 c)), (33, pp 0 0)] rfl (by kernel_rfl) ?_
          refine XR.done (by kernel_rfl) ?_
          refine ⟨rfl, ?_⟩
          show XA _ _ _ _ _ _ _ _ _ _
          exact xa27
        · refine XR.runS E0_ok 1 1 [(7, pp 0 0), (8, pp 1 0), (9, pp 2 0), (27, ii (w64 b)), (28, pp 0 0), (32, ii (w64 c)), (34, ii r1.1)] rfl (by kernel_rfl) ?_
          refine XR.done (by kernel_rfl) ?_
          refine ⟨rfl, ?_⟩
          show XA _ _ _ _ _ _ _ _ _ _
          exact xa35
      have xa37 : XA E0 112 0 (opsOf (lft (rgt (rgt (rgt f8_C8))))) 7 #[true, true, true, false, false, true, true, true, false, false, true, false, false, false] [(7, pp 0 0), (8, pp 1 0), (27, ii (w64 b)), (28, pp 0 0), (32, ii (w64 c)), (33, pp 0 0)] [(1, .cells [ii 0] 0 3 0), (0, .cells [ii r1.1, ii r1.2.1, ii r2] 0 23 0)] 2 (fun e σ1 h1 c1 => e = .normal ∧ (σ1, h1, c1) = ([(7, pp 0 0), (8, pp 1 0), (9, pp 2 0)], [(2, .cells [ii (Int.tmod (w64 c) r1.1)] 0 3 0), (1, .cells [ii (Int.tmod (w64 b) r1.1)] 0 3 0), (0, .cells [ii r1.1, ii r1.2.1, ii r2] 0 23 0)], 3)) := by
        refine XA.step E0_ok [3, 8, 11] (by kernel_rfl) rfl (by kernel_rfl) ⟨?_, ?_, ?_, trivial⟩
        · refine XR.runS E0_ok 1 1 [(7, pp 0 0), (8, pp 1 0), (27, ii (w64 b)), (29, ii r1.1), (32, ii (w64 c)), (33, pp 0 0)] rfl (by kernel_rfl) ?_
          refine XR.done (by kernel_rfl) ?_
          refine ⟨rfl, ?_⟩
          show XA _ _ _ _ _ _ _ _ _ _
          exact xa26
        · refine XR.runS E0_ok 1 1 [(7, pp 0 0), (8, pp 1 0), (27, ii (w64 b)), (28, pp 0 0), (32, ii (w64 c)), (34, ii r1.1)] rfl (by kernel_rfl) ?_
          refine XR.done (by kernel_rfl) ?_
          refine ⟨rfl, ?_⟩
          show XA _ _ _ _ _ _ _ _ _ _
          exact xa34
        · refine XR.runT E0_ok 1 1 [(7, pp 0 0), (8, pp 1 0), (9, pp 2 0), (27, ii (w64 b)), (28, pp 0 0), (32, ii (w64 c)), (33, pp 0 0)] [(2, .cells [ii 0] 0 3 0), (1, .cells [ii 0] 0 3 0), (0, .cells [ii r1.1, ii r1.2.1, ii r2] 0 23 0)] 3 rfl (by kernel_rfl) ?_
          refine XR.done (by kernel_rfl) ?_
          refine ⟨rfl, ?_⟩
          show XA _ _ _ _ _ _ _ _ _ _
          exact xa38
      have xa39 : XA E0 112 0 (opsOf (lft (rgt (rgt (rgt f8_C8))))) 7 #[true, true, true, false, false, true, true, true, false, false, false, true, false, false] [(7, pp 0 0), (9, pp 1 0), (27, ii (w64 b)), (28, pp 0 0), (32, ii (w64 c)), (33, pp 0 0)] [(1, .cells [ii 0] 0 3 0), (0, .cells [ii r1.1, ii r1.2.1, ii r2] 0 23 0)] 2 (fun e σ1 h1 c1 => e = .normal ∧ (σ1, h1, c1) = ([(7, pp 0 0), (8, pp 1 0), (9, pp 2 0)], [(2, .cells [ii (Int.tmod (w64 c) r1.1)] 0 3 0), (1, .cells [ii (Int.tmod (w64 b) r1.1)] 0 3 0), (0, .cells [ii r1.1, ii r1.2.1, ii r2] 0 23 0)], 3)) := by
        refine XA.step E0_ok [3, 8, 10] (by kernel_rfl) rfl (by kernel_rfl) ⟨?_, ?_, ?_, trivial⟩
        · refine XR.runS E0_ok 1 1 [(7, pp 0 0), (9, pp 1 0), (27, ii (w64 b)), (29, ii r1.1), (32, ii (w64 c)), (33, pp 0 0)] rfl (by kernel_rfl) ?_
          refine XR.done (by kernel_rfl) ?_
          refine ⟨rfl, ?_⟩
          show XA _ _ _ _ _ _ _ _ _ _
          exact xa28
        · refine XR.runS E0_ok 1 1 [(7, pp 0 0), (9, pp 1 0), (27, ii (w64 b)), (28, pp 0 0), (32, ii (w64 c)), (34, ii r1.1)] rfl (by kernel_rfl) ?_
          refine XR.done (by kernel_rfl) ?_
          refine ⟨rfl, ?_⟩
          show XA _ _ _ _ _ _ _ _ _ _
          exact xa36
        · refine XR.runT E0_ok 1 1 [(7, pp 0 0), (8, pp 2 0), (9, pp 1 0), (27, ii (w64 b)), (28, pp 0 0), (32, ii (w64 c)), (33, pp 0 0)] [(2, .cells [ii 0] 0 3 0), (1, .cells [ii 0] 0 3 0), (0, .cells [ii r1.1, ii r1.2.1, ii r2] 0 23 0)] 3 rfl (by kernel_rfl) ?_
          refine XR.done (by kernel_rfl) ?_
          refine ⟨rfl, ?_⟩
          show XA _ _ _ _ _ _ _ _ _ _
          refine XA.ren (σ' := [(7, pp 0 0), (8, pp 1 0), (9, pp 2 0), (27, ii (w64 b)), (28, pp 0 0), (32, ii (w64 c)), (33, pp 0 0)]) (h' := [(2, .cells [ii 0] 0 3 0), (1, .cells [ii 0] 0 3 0), (0, .cells [ii r1.1, ii r1.2.1, ii r2] 0 23 0)]) (c' := 3) [0, 2, 1] (by decide) rfl ⟨by kernel_rfl, by kernel_rfl, by kernel_rfl, by kernel_rfl, by kernel_rfl, by kernel_rfl, by kernel_rfl, trivial⟩ ⟨⟨_, _, rfl, rfl, .inr ⟨_, _, _, _, rfl, rfl⟩⟩, ⟨_, _, rfl, rfl, .inr ⟨_, _, _, _, rfl, rfl⟩⟩, ⟨_, _, rfl, rfl, .inr ⟨_, _, _, _, rfl, rfl⟩⟩, trivial⟩ rfl ?_
          exact xa38
      have xa0 : XA E0 112 0 (opsOf (lft (rgt (rgt (rgt f8_C8))))) 8 #[true, true, true, false, false, true, true, true, false, false, false, false, false, false] [(7, pp 0 0), (27, ii (w64 b)), (28, pp 0 0), (32, ii (w64 c)), (33, pp 0 0)] [(0, .cells [ii r1.1, ii r1.2.1, ii r2] 0 23 0)] 1 (fun e σ1 h1 c1 => e = .normal ∧ (σ1, h1, c1) = ([(7, pp 0 0), (8, pp 1 0), (9, pp 2 0)], [(2, .cells [ii (Int.tmod (w64 c) r1.1)] 0 3 0), (1, .cells [ii (Int.tmod (w64 b) r1.1)] 0 3 0), (0, .cells [ii r1.1, ii r1.2.1, ii r2] 0 23 0)], 3)) := by
        refine XA.step E0_ok [3, 8, 10, 11] (by kernel_rfl) rfl (by kernel_rfl) ⟨?_, ?_, ?_, ?_, trivial⟩
        · refine XR.runS E0_ok 1 1 [(7, pp 0 0), (27, ii (w64 b)), (29, ii r1.1), (32, ii (w64 c)), (33, pp 0 0)] rfl (by kernel_rfl) ?_
          refine XR.done (by kernel_rfl) ?_
          refine ⟨rfl, ?_⟩
          show XA _ _ _ _ _ _ _ _ _ _
          exact xa1
        · refine XR.runS E0_ok 1 1 [(7, pp 0 0), (27, ii (w64 b)), (28, pp 0 0), (32, ii (w64 c)), (34, ii r1.1)] rfl (by kernel_rfl) ?_
          refine XR.done (by kernel_rfl) ?_
          refine ⟨rfl, ?_⟩
          show XA _ _ _ _ _ _ _ _ _ _
          exact xa29
        · refine XR.runT E0_ok 1 1 [(7, pp 0 0), (8, pp 1 0), (27, ii (w64 b)), (28, pp 0 0), (32, ii (w64 c)), (33, pp 0 0)] [(1, .cells [ii 0] 0 3 0), (0, .cells [ii r1.1, ii r1.2.1, ii r2] 0 23 0)] 2 rfl (by kernel_rfl) ?_
          refine XR.done (by kernel_rfl) ?_
          refine ⟨rfl, ?_⟩
          show XA _ _ _ _ _ _ _ _ _ _
          exact xa37
        · refine XR.runT E0_ok 1 1 [(7, pp 0 0), (9, pp 1 0), (27, ii (w64 b)), (28, pp 0 0), (32, ii (w64 c)), (33, pp 0 0)] [(1, .cells [ii 0] 0 3 0), (0, .cells [ii r1.1, ii r1.2.1, ii r2] 0 23 0)] 2 rfl (by kernel_rfl) ?_
          refine XR.done (by kernel_rfl) ?_
          refine ⟨rfl, ?_⟩
          show XA _ _ _ _ _ _ _ _ _ _
          exact xa39
      refine XP.step E0_ok 6 [7, 27, 28, 32, 33] rfl (σ' := [(7, pp 1 0), (27, ii (w64 b)), (28, pp 1 0), (32, ii (w64 c)), (33, pp 1 0)]) (by kernel_rfl) ?_
      refine XP.done (by kernel_rfl) ?_
      show XA _ _ _ _ _ _ _ _ _ _
      refine XA.ren (σ' := [(7, pp 0 0), (27, ii (w64 b)), (28, pp 0 0), (32, ii (w64 c)), (33, pp 0 0)]) (h' := [(0, .cells [ii r1.1, ii r1.2.1, ii r2] 0 23 0)]) (c' := 1) [1] (by decide) rfl ⟨by kernel_rfl, by kernel_rfl, by kernel_rfl, by kernel_rfl, by kernel_rfl, trivial⟩ ⟨⟨_, _, rfl, rfl, .inr ⟨_, _, _, _, rfl, rfl⟩⟩, trivial⟩ rfl ?_
      exact xa0

end Go.Xm
