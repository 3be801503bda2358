/- What these functions of the program compute, as functions in Lean, and the proofs that they do: vitolalaw12.seats, vitolalaw12.drawn. Conditions: the library's variables hold what their texts lay. -/
import Derived.Test.YtfimbmhannndaaaDoorDd
import Derived.Test.YtfimbmhannndaaaDoorNd
namespace Go.Xm
open Go.RowKit
set_option linter.unusedVariables false
set_option linter.unusedSimpArgs false
set_option maxRecDepth 20000

/-! vitola/vitolalaw12.seats -/
noncomputable def f32_C32 : Code := Proofs.Tryd.f32.body.getD .skip
noncomputable def f32_L1 : Code := lft (lft (rgt (lft (rgt (rgt f32_C32)))))

def f32_1 (m : Nat) : Nat → List (Int × Int) → Int → Int → List Int → Option (List Int)
 | 0, _, _, _, _ => none
 | fuel + 1, a_Tables, x11_1, x12_1, lh1_1 =>
  cond (decide (x12_1 < x11_1)) (
   cond (inRow x12_1 a_Tables.length) (
    cond (inRow ((List.getD a_Tables (Int.toNat x12_1) (0, 0)).1) lh1_1.length) (
     cond (inRow ((List.getD a_Tables (Int.toNat x12_1) (0, 0)).2) lh1_1.length) (
      f32_1 m fuel a_Tables x11_1 (w64 (x12_1 + 1)) (List.set (List.set lh1_1 (Int.toNat ((List.getD a_Tables (Int.toNat x12_1) (0, 0)).1)) (w64 ((List.getD lh1_1 (Int.toNat ((List.getD a_Tables (Int.toNat x12_1) (0, 0)).1)) 0) + 1))) (Int.toNat ((List.getD a_Tables (Int.toNat x12_1) (0, 0)).2)) (w64 ((List.getD (List.set lh1_1 (Int.toNat ((List.getD a_Tables (Int.toNat x12_1) (0, 0)).1)) (w64 ((List.getD lh1_1 (Int.toNat ((List.getD a_Tables (Int.toNat x12_1) (0, 0)).1)) 0) + 1))) (Int.toNat ((List.getD a_Tables (Int.toNat x12_1) (0, 0)).2)) 0) + 1)))
     ) none
    ) none
   ) none
  ) (
   some (lh1_1)
  )

theorem f32_1_ok (m : Nat) : ∀ (fuel : Nat) (z0 : Nat) (y0 : Nat) (a_Tables : List (Int × Int)) (x11_1 : Int) (x12_1 : Int) (lh1_1 : List Int) (o : (List Int)), f32_1 m fuel a_Tables x11_1 x12_1 lh1_1 = some o → ∀ Q : QP, Q (.exit 0) [(3, s0 1 o.length)] [(1, rc (encI .i64) o 0 3 1), (0, rc encP a_Tables z0 y0 2)] 2 → XL E0 32 1 fuel f32_L1 [(3, s0 1 lh1_1.length), (10, s0 0 a_Tables.length), (11, ii x11_1), (12, ii x12_1)] [(1, rc (encI .i64) lh1_1 0 3 1), (0, rc encP a_Tables z0 y0 2)] 2 Q
 | 0, z0, y0, a_Tables, x11_1, x12_1, lh1_1, o, h, Q, hQ => by cases h
 | fuel + 1, z0, y0, a_Tables, x11_1, x12_1, lh1_1, o, h, Q, hQ => by
  unfold f32_1 at h
  refine XL.succ E0_ok ?_
  refine XQ.seq E0_ok (by kernel_rfl) ?_
  refine XQ.region (by kernel_rfl) ?_
  refine XR.runS E0_ok 1 1 [(3, s0 1 lh1_1.length), (10, s0 0 a_Tables.length), (11, ii x11_1), (12, ii x12_1), (13, .bool (decide (x12_1 < x11_1)))] rfl (by kernel_rfl) ?_
  refine XR.done (by kernel_rfl) ?_
  show XQ _ _ _ _ _ _ _ _
  refine XQ.seq E0_ok (by kernel_rfl) ?_
  cases b1 : (decide (x12_1 < x11_1) : Bool) with
  | true =>
   have h := cT b1 h
   refine XQ.cond (s := (.tmp 13)) (b := true) (by kernel_rfl) (by kernel_rfl) (fun _ => ?_) (fun q => by cases q)
   refine XQ.skip (by kernel_rfl) ?_
   show XQ _ _ _ _ _ _ _ _
   refine XQ.seq E0_ok (by kernel_rfl) ?_
   refine XQ.block (id := 1) (by kernel_rfl) ?_
   refine XQ.seq E0_ok (by kernel_rfl) ?_
   refine XQ.region (by kernel_rfl) ?_
   cases b2 : (inRow x12_1 a_Tables.length : Bool) with
   | false => cases (cF b2 h)
   | true =>
    have h := cT b2 h
    refine XR.rd E0_ok [3, 10, 11, 12, 14] rfl (v := pp 0 ((Int.toNat x12_1) * 2)) (v_idx (s := 2) (x := (src 32 (.tmp 10))) (y := (src 32 (.tmp 12))) (b := 0) (o := 0) (len := a_Tables.length) (cap := a_Tables.length) (ik := .i64) (i := x12_1) (off := (Int.toNat x12_1) * 2) (d := (some (path 12 14))) (by kernel_rfl) (by kernel_rfl) (by kernel_rfl) b2 (by omega)) (σ' := [(3, s0 1 lh1_1.length), (10, s0 0 a_Tables.length), (11, ii x11_1), (12, ii x12_1), (14, pp 0 ((Int.toNat x12_1) * 2))]) (by kernel_rfl) ?_
    refine XR.rd E0_ok [3, 10, 11, 12, 15] rfl (v := .agg #[ii ((List.getD a_Tables (Int.toNat x12_1) (0, 0)).1), ii ((List.getD a_Tables (Int.toNat x12_1) (0, 0)).2)]) (v_loadN encP_ok (x := (src 32 (.tmp 14))) (b := 0) (off := (Int.toNat x12_1) * 2) (xs := a_Tables) (fz := z0) (e := y0) (es := 2) (d := (some (path 12 15))) (by kernel_rfl) (by kernel_rfl) (by kernel_rfl) (Int.toNat x12_1) (0, 0) (by first | rfl | omega) (row_len (inRow_toNat b2) (by simp)) rfl) (σ' := [(3, s0 1 lh1_1.length), (10, s0 0 a_Tables.length), (11, ii x11_1), (12, ii x12_1), (15, .agg #[ii ((List.getD a_Tables (Int.toNat x12_1) (0, 0)).1), ii ((List.getD a_Tables (Int.toNat x12_1) (0, 0)).2)])]) (by kernel_rfl) ?_
    refine XR.runT E0_ok 1 2 [(3, s0 1 lh1_1.length), (5, pp 2 0), (10, s0 0 a_Tables.length), (11, ii x11_1), (12, ii x12_1)] [(2, .cells [ii ((List.getD a_Tables (Int.toNat x12_1) (0, 0)).1), ii ((List.getD a_Tables (Int.toNat x12_1) (0, 0)).2)] 0 55 0), (1, rc (encI .i64) lh1_1 0 3 1), (0, rc encP a_Tables z0 y0 2)] 3 rfl (by kernel_rfl) ?_
    refine XR.done (by kernel_rfl) ?_
    show XQ _ _ _ _ _ _ _ _
    refine XQ.seq E0_ok (by kernel_rfl) ?_
    refine XQ.region (by kernel_rfl) ?_
    refine XR.runS E0_ok 1 3 [(3, s0 1 lh1_1.length), (5, pp 2 0), (10, s0 0 a_Tables.length), (11, ii x11_1), (12, ii x12_1), (16, s0 1 lh1_1.length), (18, ii ((List.getD a_Tables (Int.toNat x12_1) (0, 0)).1))] rfl (by kernel_rfl) ?_
    cases b3 : (inRow ((List.getD a_Tables (Int.toNat x12_1) (0, 0)).1) lh1_1.length : Bool) with
    | false => cases (cF b3 h)
    | true =>
     have h := cT b3 h
     refine XR.rd E0_ok [3, 5, 10, 11, 12, 16, 18, 19] rfl (v := pp 1 ((Int.toNat ((List.getD a_Tables (Int.toNat x12_1) (0, 0)).1)) * 1)) (v_idx (s := 1) (x := (src 32 (.tmp 16))) (y := (src 32 (.tmp 18))) (b := 1) (o := 0) (len := lh1_1.length) (cap := lh1_1.length) (ik := .i64) (i := (List.getD a_Tables (Int.toNat x12_1) (0, 0)).1) (off := (Int.toNat ((List.getD a_Tables (Int.toNat x12_1) (0, 0)).1)) * 1) (d := (some (path 12 19))) (by kernel_rfl) (by kernel_rfl) (by kernel_rfl) b3 (by omega)) (σ' := [(3, s0 1 lh1_1.length), (5, pp 2 0), (10, s0 0 a_Tables.length), (11, ii x11_1), (12, ii x12_1), (16, s0 1 lh1_1.length), (18, ii ((List.getD a_Tables (Int.toNat x12_1) (0, 0)).1)), (19, pp 1 ((Int.toNat ((List.getD a_Tables (Int.toNat x12_1) (0, 0)).1)) * 1))]) (by kernel_rfl) ?_
     refine XR.rd E0_ok [3, 5, 10, 11, 12, 16, 18, 20] rfl (v := ii (List.getD lh1_1 (Int.toNat ((List.getD a_Tables (Int.toNat x12_1) (0, 0)).1)) 0)) (v_load1 (encI_ok .i64) (x := (src 32 (.tmp 19))) (b := 1) (off := (Int.toNat ((List.getD a_Tables (Int.toNat x12_1) (0, 0)).1)) * 1) (xs := lh1_1) (fz := 0) (e := 3) (es := 1) (d := (some (path 12 20))) (by kernel_rfl) (by kernel_rfl) (by kernel_rfl) (Int.toNat ((List.getD a_Tables (Int.toNat x12_1) (0, 0)).1)) 0 0 (by first | rfl | omega) (row_len (inRow_toNat b3) (by simp)) rfl rfl) (σ' := [(3, s0 1 lh1_1.length), (5, pp 2 0), (10, s0 0 a_Tables.length), (11, ii x11_1), (12, ii x12_1), (16, s0 1 lh1_1.length), (18, ii ((List.getD a_Tables (Int.toNat x12_1) (0, 0)).1)), (20, ii (List.getD lh1_1 (Int.toNat ((List.getD a_Tables (Int.toNat x12_1) (0, 0)).1)) 0))]) (by kernel_rfl) ?_
     refine XR.runS E0_ok 1 1 [(3, s0 1 lh1_1.length), (5, pp 2 0), (10, s0 0 a_Tables.length), (11, ii x11_1), (12, ii x12_1), (16, s0 1 lh1_1.length), (18, ii ((List.getD a_Tables (Int.toNat x12_1) (0, 0)).1)), (21, ii (w64 ((List.getD lh1_1 (Int.toNat ((List.getD a_Tables (Int.toNat x12_1) (0, 0)).1)) 0) + 1)))] rfl (by kernel_rfl) ?_
     refine XR.rd E0_ok [3, 5, 10, 11, 12, 21, 22] rfl (v := pp 1 ((Int.toNat ((List.getD a_Tables (Int.toNat x12_1) (0, 0)).1)) * 1)) (v_idx (s := 1) (x := (src 32 (.tmp 16))) (y := (src 32 (.tmp 18))) (b := 1) (o := 0) (len := lh1_1.length) (cap := lh1_1.length) (ik := .i64) (i := (List.getD a_Tables (Int.toNat x12_1) (0, 0)).1) (off := (Int.toNat ((List.getD a_Tables (Int.toNat x12_1) (0, 0)).1)) * 1) (d := (some (path 12 22))) (by kernel_rfl) (by kernel_rfl) (by kernel_rfl) b3 (by omega)) (σ' := [(3, s0 1 lh1_1.length), (5, pp 2 0), (10, s0 0 a_Tables.length), (11, ii x11_1), (12, ii x12_1), (21, ii (w64 ((List.getD lh1_1 (Int.toNat ((List.getD a_Tables (Int.toNat x12_1) (0, 0)).1)) 0) + 1))), (22, pp 1 ((Int.toNat ((List.getD a_Tables (Int.toNat x12_1) (0, 0)).1)) * 1))]) (by kernel_rfl) ?_
     refine XR.ef E0_ok [3, 5, 10, 11, 12] rfl (e_store (encI_ok .i64) (size := 1) (x := (src 32 (.tmp 22))) (y := (src 32 (.tmp 21))) (b := 1) (off := (Int.toNat ((List.getD a_Tables (Int.toNat x12_1) (0, 0)).1)) * 1) (xs := lh1_1) (e := 3) (es := 1) (d := none) (h' := [(2, .cells [ii ((List.getD a_Tables (Int.toNat x12_1) (0, 0)).1), ii ((List.getD a_Tables (Int.toNat x12_1) (0, 0)).2)] 0 55 0), (1, rc (encI .i64) (List.set lh1_1 (Int.toNat ((List.getD a_Tables (Int.toNat x12_1) (0, 0)).1)) (w64 ((List.getD lh1_1 (Int.toNat ((List.getD a_Tables (Int.toNat x12_1) (0, 0)).1)) 0) + 1))) 0 3 1), (0, rc encP a_Tables z0 y0 2)]) (w := ii (w64 ((List.getD lh1_1 (Int.toNat ((List.getD a_Tables (Int.toNat x12_1) (0, 0)).1)) 0) + 1))) (ws := [ii (w64 ((List.getD lh1_1 (Int.toNat ((List.getD a_Tables (Int.toNat x12_1) (0, 0)).1)) 0) + 1))]) (a := w64 ((List.getD lh1_1 (Int.toNat ((List.getD a_Tables (Int.toNat x12_1) (0, 0)).1)) 0) + 1)) (by kernel_rfl) (by kernel_rfl) (by kernel_rfl) (Int.toNat ((List.getD a_Tables (Int.toNat x12_1) (0, 0)).1)) 0 0 (by first | rfl | omega) (row_len (inRow_toNat b3) (by simp)) (by kernel_rfl) rfl rfl rfl rfl rfl (by kernel_rfl)) (σ' := [(3, s0 1 lh1_1.length), (5, pp 2 0), (10, s0 0 a_Tables.length), (11, ii x11_1), (12, ii x12_1)]) (by kernel_rfl) ?_
     refine XR.done (by kernel_rfl) ?_
     show XQ _ _ _ _ _ _ _ _
     refine XQ.region (by kernel_rfl) ?_
     refine XR.runS E0_ok 1 3 [(3, s0 1 lh1_1.length), (10, s0 0 a_Tables.length), (11, ii x11_1), (12, ii x12_1), (23, s0 1 lh1_1.length), (25, ii ((List.getD a_Tables (Int.toNat x12_1) (0, 0)).2))] rfl (by kernel_rfl) ?_
     cases b4 : (inRow ((List.getD a_Tables (Int.toNat x12_1) (0, 0)).2) lh1_1.length : Bool) with
     | false => cases (cF b4 h)
     | true =>
      have h := cT b4 h
      refine XR.rd E0_ok [3, 10, 11, 12, 23, 25, 26] rfl (v := pp 1 ((Int.toNat ((List.getD a_Tables (Int.toNat x12_1) (0, 0)).2)) * 1)) (v_idx (s := 1) (x := (src 32 (.tmp 23))) (y := (src 32 (.tmp 25))) (b := 1) (o := 0) (len := lh1_1.length) (cap := lh1_1.length) (ik := .i64) (i := (List.getD a_Tables (Int.toNat x12_1) (0, 0)).2) (off := (Int.toNat ((List.getD a_Tables (Int.toNat x12_1) (0, 0)).2)) * 1) (d := (some (path 12 26))) (by kernel_rfl) (by kernel_rfl) (by kernel_rfl) b4 (by omega)) (σ' := [(3, s0 1 lh1_1.length), (10, s0 0 a_Tables.length), (11, ii x11_1), (12, ii x12_1), (23, s0 1 lh1_1.length), (25, ii ((List.getD a_Tables (Int.toNat x12_1) (0, 0)).2)), (26, pp 1 ((Int.toNat ((List.getD a_Tables (Int.toNat x12_1) (0, 0)).2)) * 1))]) (by kernel_rfl) ?_
      refine XR.rd E0_ok [3, 10, 11, 12, 23, 25, 27] rfl (v := ii (List.getD (List.set lh1_1 (Int.toNat ((List.getD a_Tables (Int.toNat x12_1) (0, 0)).1)) (w64 ((List.getD lh1_1 (Int.toNat ((List.getD a_Tables (Int.toNat x12_1) (0, 0)).1)) 0) + 1))) (Int.toNat ((List.getD a_Tables (Int.toNat x12_1) (0, 0)).2)) 0)) (v_load1 (encI_ok .i64) (x := (src 32 (.tmp 26))) (b := 1) (off := (Int.toNat ((List.getD a_Tables (Int.toNat x12_1) (0, 0)).2)) * 1) (xs := List.set lh1_1 (Int.toNat ((List.getD a_Tables (Int.toNat x12_1) (0, 0)).1)) (w64 ((List.getD lh1_1 (Int.toNat ((List.getD a_Tables (Int.toNat x12_1) (0, 0)).1)) 0) + 1))) (fz := 0) (e := 3) (es := 1) (d := (some (path 12 27))) (by kernel_rfl) (by kernel_rfl) (by kernel_rfl) (Int.toNat ((List.getD a_Tables (Int.toNat x12_1) (0, 0)).2)) 0 0 (by first | rfl | omega) (row_len (inRow_toNat b4) (by simp)) rfl rfl) (σ' := [(3, s0 1 lh1_1.length), (10, s0 0 a_Tables.length), (11, ii x11_1), (12, ii x12_1), (23, s0 1 lh1_1.length), (25, ii ((List.getD a_Tables (Int.toNat x12_1) (0, 0)).2)), (27, ii (List.getD (List.set lh1_1 (Int.toNat ((List.getD a_Tables (Int.toNat x12_1) (0, 0)).1)) (w64 ((List.getD lh1_1 (Int.toNat ((List.getD a_Tables (Int.toNat x12_1) (0, 0)).1)) 0) + 1))) (Int.toNat ((List.getD a_Tables (Int.toNat x12_1) (0, 0)).2)) 0))]) (by kernel_rfl) ?_
      refine XR.runS E0_ok 1 1 [(3, s0 1 lh1_1.length), (10, s0 0 a_Tables.length), (11, ii x11_1), (12, ii x12_1), (23, s0 1 lh1_1.length), (25, ii ((List.getD a_Tables (Int.toNat x12_1) (0, 0)).2)), (28, ii (w64 ((List.getD (List.set lh1_1 (Int.toNat ((List.getD a_Tables (Int.toNat x12_1) (0, 0)).1)) (w64 ((List.getD lh1_1 (Int.toNat ((List.getD a_Tables (Int.toNat x12_1) (0, 0)).1)) 0) + 1))) (Int.toNat ((List.getD a_Tables (Int.toNat x12_1) (0, 0)).2)) 0) + 1)))] rfl (by kernel_rfl) ?_
      refine XR.rd E0_ok [3, 10, 11, 12, 28, 29] rfl (v := pp 1 ((Int.toNat ((List.getD a_Tables (Int.toNat x12_1) (0, 0)).2)) * 1)) (v_idx (s := 1) (x := (src 32 (.tmp 23))) (y := (src 32 (.tmp 25))) (b := 1) (o := 0) (len := lh1_1.length) (cap := lh1_1.length) (ik := .i64) (i := (List.getD a_Tables (Int.toNat x12_1) (0, 0)).2) (off := (Int.toNat ((List.getD a_Tables (Int.toNat x12_1) (0, 0)).2)) * 1) (d := (some (path 12 29))) (by kernel_rfl) (by kernel_rfl) (by kernel_rfl) b4 (by omega)) (σ' := [(3, s0 1 lh1_1.length), (10, s0 0 a_Tables.length), (11, ii x11_1), (12, ii x12_1), (28, ii (w64 ((List.getD (List.set lh1_1 (Int.toNat ((List.getD a_Tables (Int.toNat x12_1) (0, 0)).1)) (w64 ((List.getD lh1_1 (Int.toNat ((List.getD a_Tables (Int.toNat x12_1) (0, 0)).1)) 0) + 1))) (Int.toNat ((List.getD a_Tables (Int.toNat x12_1) (0, 0)).2)) 0) + 1))), (29, pp 1 ((Int.toNat ((List.getD a_Tables (Int.toNat x12_1) (0, 0)).2)) * 1))]) (by kernel_rfl) ?_
      refine XR.ef E0_ok [3, 10, 11, 12] rfl (e_store (encI_ok .i64) (size := 1) (x := (src 32 (.tmp 29))) (y := (src 32 (.tmp 28))) (b := 1) (off := (Int.toNat ((List.getD a_Tables (Int.toNat x12_1) (0, 0)).2)) * 1) (xs := List.set lh1_1 (Int.toNat ((List.getD a_Tables (Int.toNat x12_1) (0, 0)).1)) (w64 ((List.getD lh1_1 (Int.toNat ((List.getD a_Tables (Int.toNat x12_1) (0, 0)).1)) 0) + 1))) (e := 3) (es := 1) (d := none) (h' := [(2, .cells [ii ((List.getD a_Tables (Int.toNat x12_1) (0, 0)).1), ii ((List.getD a_Tables (Int.toNat x12_1) (0, 0)).2)] 0 55 0), (1, rc (encI .i64) (List.set (List.set lh1_1 (Int.toNat ((List.getD a_Tables (Int.toNat x12_1) (0, 0)).1)) (w64 ((List.getD lh1_1 (Int.toNat ((List.getD a_Tables (Int.toNat x12_1) (0, 0)).1)) 0) + 1))) (Int.toNat ((List.getD a_Tables (Int.toNat x12_1) (0, 0)).2)) (w64 ((List.getD (List.set lh1_1 (Int.toNat ((List.getD a_Tables (Int.toNat x12_1) (0, 0)).1)) (w64 ((List.getD lh1_1 (Int.toNat ((List.getD a_Tables (Int.toNat x12_1) (0, 0)).1)) 0) + 1))) (Int.toNat ((List.getD a_Tables (Int.toNat x12_1) (0, 0)).2)) 0) + 1))) 0 3 1), (0, rc encP a_Tables z0 y0 2)]) (w := ii (w64 ((List.getD (List.set lh1_1 (Int.toNat ((List.getD a_Tables (Int.toNat x12_1) (0, 0)).1)) (w64 ((List.getD lh1_1 (Int.toNat ((List.getD a_Tables (Int.toNat x12_1) (0, 0)).1)) 0) + 1))) (Int.toNat ((List.getD a_Tables (Int.toNat x12_1) (0, 0)).2)) 0) + 1))) (ws := [ii (w64 ((List.getD (List.set lh1_1 (Int.toNat ((List.getD a_Tables (Int.toNat x12_1) (0, 0)).1)) (w64 ((List.getD lh1_1 (Int.toNat ((List.getD a_Tables (Int.toNat x12_1) (0, 0)).1)) 0) + 1))) (Int.toNat ((List.getD a_Tables (Int.toNat x12_1) (0, 0)).2)) 0) + 1))]) (a := w64 ((List.getD (List.set lh1_1 (Int.toNat ((List.getD a_Tables (Int.toNat x12_1) (0, 0)).1)) (w64 ((List.getD lh1_1 (Int.toNat ((List.getD a_Tables (Int.toNat x12_1) (0, 0)).1)) 0) + 1))) (Int.toNat ((List.getD a_Tables (Int.toNat x12_1) (0, 0)).2)) 0) + 1)) (by kernel_rfl) (by kernel_rfl) (by kernel_rfl) (Int.toNat ((List.getD a_Tables (Int.toNat x12_1) (0, 0)).2)) 0 0 (by first | rfl | omega) (row_len (inRow_toNat b4) (by simp)) (by kernel_rfl) rfl rfl rfl rfl rfl (by kernel_rfl)) (σ' := [(3, s0 1 lh1_1.length), (10, s0 0 a_Tables.length), (11, ii x11_1), (12, ii x12_1)]) (by kernel_rfl) ?_
      refine XR.done (by kernel_rfl) ?_
      show XQ _ _ _ _ _ _ _ _
      refine XQ.region (by kernel_rfl) ?_
      refine XR.runS E0_ok 1 2 [(3, s0 1 lh1_1.length), (10, s0 0 a_Tables.length), (11, ii x11_1), (12, ii (w64 (x12_1 + 1)))] rfl (by kernel_rfl) ?_
      refine XR.done (by kernel_rfl) ?_
      show XL _ _ _ _ _ _ _ _ _
      refine XL.ren (σ' := [(3, s0 1 lh1_1.length), (10, s0 0 a_Tables.length), (11, ii x11_1), (12, ii (w64 (x12_1 + 1)))]) (h' := [(1, rc (encI .i64) (List.set (List.set lh1_1 (Int.toNat ((List.getD a_Tables (Int.toNat x12_1) (0, 0)).1)) (w64 ((List.getD lh1_1 (Int.toNat ((List.getD a_Tables (Int.toNat x12_1) (0, 0)).1)) 0) + 1))) (Int.toNat ((List.getD a_Tables (Int.toNat x12_1) (0, 0)).2)) (w64 ((List.getD (List.set lh1_1 (Int.toNat ((List.getD a_Tables (Int.toNat x12_1) (0, 0)).1)) (w64 ((List.getD lh1_1 (Int.toNat ((List.getD a_Tables (Int.toNat x12_1) (0, 0)).1)) 0) + 1))) (Int.toNat ((List.getD a_Tables (Int.toNat x12_1) (0, 0)).2)) 0) + 1))) 0 3 1), (0, rc encP a_Tables z0 y0 2)]) (c' := 2) [0, 1] (by decide) rfl ⟨by kernel_rfl, by kernel_rfl, by kernel_rfl, by kernel_rfl, trivial⟩ ⟨⟨_, _, rfl, rfl, .inl ⟨rfl, rowC_scal (encI_ok .i64) _⟩⟩, ⟨_, _, rfl, rfl, .inl ⟨rfl, rowC_scal encP_ok _⟩⟩, trivial⟩ rfl ?_
      refine XL.conv (f32_1_ok m fuel z0 y0 a_Tables x11_1 (w64 (x12_1 + 1)) (List.set (List.set lh1_1 (Int.toNat ((List.getD a_Tables (Int.toNat x12_1) (0, 0)).1)) (w64 ((List.getD lh1_1 (Int.toNat ((List.getD a_Tables (Int.toNat x12_1) (0, 0)).1)) 0) + 1))) (Int.toNat ((List.getD a_Tables (Int.toNat x12_1) (0, 0)).2)) (w64 ((List.getD (List.set lh1_1 (Int.toNat ((List.getD a_Tables (Int.toNat x12_1) (0, 0)).1)) (w64 ((List.getD lh1_1 (Int.toNat ((List.getD a_Tables (Int.toNat x12_1) (0, 0)).1)) 0) + 1))) (Int.toNat ((List.getD a_Tables (Int.toNat x12_1) (0, 0)).2)) 0) + 1))) o h Q hQ) (by first | rfl | simp)
  | false =>
   have h := cF b1 h
   refine XQ.cond (s := (.tmp 13)) (b := false) (by kernel_rfl) (by kernel_rfl) (fun q => by cases q) (fun _ => ?_)
   refine XQ.ren (σ' := [(3, s0 1 lh1_1.length)]) (h' := [(1, rc (encI .i64) lh1_1 0 3 1), (0, rc encP a_Tables z0 y0 2)]) (c' := 2) [0, 1] (by decide) rfl ⟨by kernel_rfl, trivial⟩ ⟨⟨_, _, rfl, rfl, .inl ⟨rfl, rowC_scal (encI_ok .i64) _⟩⟩, ⟨_, _, rfl, rfl, .inl ⟨rfl, rowC_scal encP_ok _⟩⟩, trivial⟩ rfl ?_
   refine XQ.exit (i := 0) (by kernel_rfl) ?_
   cases h
   exact hQ

def f32 (m : Nat) (a_Sorters : Int) (a_Tables : List (Int × Int)) : Option (List Int) :=
 cond (mkOK a_Sorters a_Sorters 8) (
  (f32_1 m m a_Tables ((a_Tables.length : Nat) : Int) 0 (List.replicate (Int.toNat a_Sorters) 0)).bind fun o1 =>
   some (o1)
 ) none

theorem f32_ok (m : Nat) (z0 : Nat) (y0 : Nat) (a_Sorters : Int) (a_Tables : List (Int × Int)) (o : List Int) (h : f32 m a_Sorters a_Tables = some o) : KC E0 32 [.agg #[ii a_Sorters, s0 0 a_Tables.length]] [(0, rc encP a_Tables z0 y0 2)] 1 (fun v h' c' => v = s0 1 o.length ∧ h' = [(1, rc (encI .i64) o 0 3 1)] ++ [(0, rc encP a_Tables z0 y0 2)] ∧ c' = 2) := by
 refine KC.bodyN E0_ok (F := Proofs.Tryd.f32) (by kernel_rfl) (code := f32_C32) (by kernel_rfl) (nt := 32) (by kernel_rfl) (rs := [.tmp 2]) (by kernel_rfl) (by kernel_rfl) (σ := [(0, .agg #[ii a_Sorters, s0 0 a_Tables.length])]) (by kernel_rfl) ?_
 unfold f32 at h
 refine XQ.seq E0_ok (by kernel_rfl) ?_
 refine XQ.region (by kernel_rfl) ?_
 refine XR.runT E0_ok 1 2 [(1, pp 1 0)] [(1, .cells [ii a_Sorters, s0 0 a_Tables.length] 0 34 0), (0, rc encP a_Tables z0 y0 2)] 2 rfl (by kernel_rfl) ?_
 refine XR.done (by kernel_rfl) ?_
 show XQ _ _ _ _ _ _ _ _
 refine XQ.seq E0_ok (by kernel_rfl) ?_
 refine XQ.region (by kernel_rfl) ?_
 refine XR.runS E0_ok 1 2 [(1, pp 1 0), (7, ii a_Sorters)] rfl (by kernel_rfl) ?_
 cases b1 : (mkOK a_Sorters a_Sorters 8 : Bool) with
 | false => cases (cF b1 h)
 | true =>
  have h := cT b1 h
  refine XR.ef E0_ok [1, 8] rfl (e_make (encI_ok .i64) (x := (src 32 (.tmp 7))) (y := (src 32 (.tmp 7))) (l := a_Sorters) (n := a_Sorters) (bytes := 8) (e := 3) (z := #[ii 0]) (d := (some (path 12 8))) (by kernel_rfl) (by kernel_rfl) (by kernel_rfl) 0 rfl (by kernel_rfl) b1) (σ' := [(1, pp 1 0), (8, s0 2 (Int.toNat a_Sorters))]) (by kernel_rfl) ?_
  refine XR.runS E0_ok 1 1 [(1, pp 1 0), (3, s0 2 (Int.toNat a_Sorters))] rfl (by kernel_rfl) ?_
  refine XR.done (by kernel_rfl) ?_
  show XQ _ _ _ _ _ _ _ _
  refine XQ.seq E0_ok (by kernel_rfl) ?_
  refine XQ.seq E0_ok (by kernel_rfl) ?_
  refine XQ.region (by kernel_rfl) ?_
  refine XR.runS E0_ok 1 4 [(3, s0 2 (Int.toNat a_Sorters)), (10, s0 0 a_Tables.length), (11, ii ((a_Tables.length : Nat) : Int)), (12, ii 0)] rfl (by kernel_rfl) ?_
  refine XR.done (by kernel_rfl) ?_
  show XQ _ _ _ _ _ _ _ _
  refine XQ.block (id := 0) (by kernel_rfl) ?_
  refine XQ.loop m (by kernel_rfl) ?_
  obtain ⟨o1, o1_h, h⟩ := bS h
  refine XL.ren (σ' := [(3, s0 1 (Int.toNat a_Sorters)), (10, s0 0 a_Tables.length), (11, ii ((a_Tables.length : Nat) : Int)), (12, ii 0)]) (h' := [(1, rc (encI .i64) (List.replicate (Int.toNat a_Sorters) 0) 0 3 1), (0, rc encP a_Tables z0 y0 2)]) (c' := 2) [0, 2] (by decide) rfl ⟨by kernel_rfl, by kernel_rfl, by kernel_rfl, by kernel_rfl, trivial⟩ ⟨⟨_, _, rfl, rfl, .inl ⟨rfl, rowC_scal (encI_ok .i64) _⟩⟩, ⟨_, _, rfl, rfl, .inl ⟨rfl, rowC_scal encP_ok _⟩⟩, trivial⟩ rfl ?_
  refine XL.conv (f32_1_ok m m z0 y0 a_Tables ((a_Tables.length : Nat) : Int) 0 (List.replicate (Int.toNat a_Sorters) 0) o1 o1_h _ ?_) (by first | rfl | simp)
  show XQ _ _ _ _ _ _ _ _
  refine XQ.seq E0_ok (by kernel_rfl) ?_
  refine XQ.region (by kernel_rfl) ?_
  refine XR.runS E0_ok 1 2 [(2, s0 1 o1.length)] rfl (by kernel_rfl) ?_
  refine XR.done (by kernel_rfl) ?_
  show XQ _ _ _ _ _ _ _ _
  refine XQ.ren (σ' := [(2, s0 1 o1.length)]) (h' := [(1, rc (encI .i64) o1 0 3 1), (0, rc encP a_Tables z0 y0 2)]) (c' := 2) [0, 1] (by decide) rfl ⟨by kernel_rfl, trivial⟩ ⟨⟨_, _, rfl, rfl, .inl ⟨rfl, rowC_scal (encI_ok .i64) _⟩⟩, ⟨_, _, rfl, rfl, .inl ⟨rfl, rowC_scal encP_ok _⟩⟩, trivial⟩ rfl ?_
  refine XQ.ret (by kernel_rfl) ?_
  have h := Option.some.inj h
  subst h
  exact ⟨fun i q => (by cases q), s0 1 o1.length, (by kernel_rfl), (by kernel_rfl), (by kernel_rfl), rfl⟩

/-! vitola/vitolalaw12.drawn -/
noncomputable def f33_C33 : Code := Proofs.Tryd.f33.body.getD .skip
noncomputable def f33_L1 : Code := lft (lft (rgt (lft (rgt (rgt (rgt f33_C33))))))
noncomputable def f33_L2 : Code := lft (lft (rgt (rgt (lft (lft (rgt (rgt f33_L1)))))))

def f33_2 (m : Nat) : Nat → Int → Int → Int → Int → Int → List (Int × Int) → Option (Int × (List (Int × Int)))
 | 0, _, _, _, _, _, _ => none
 | fuel + 1, a, b, x12_1, x6_2, x8_2, lh3_2 =>
  cond (decide (x8_2 < a)) (
   cond (decide (0 ≤ x6_2)) (
    cond ((andV .u32 (shV false .u32 b x6_2) 1) == 1) (
     cond (fitsB (lh3_2.length + 1) 16) (
      f33_2 m fuel a b x12_1 (w64 (x6_2 + 1)) (w64 (x8_2 + 1)) (lh3_2 ++ [(x12_1, x8_2)])
     ) none
    ) (
     f33_2 m fuel a b x12_1 (w64 (x6_2 + 1)) (w64 (x8_2 + 1)) lh3_2
    )
   ) none
  ) (
   some (x6_2, lh3_2)
  )

theorem f33_2_ok (m : Nat) : ∀ (fuel : Nat) (a : Int) (b : Int) (x12_1 : Int) (x6_2 : Int) (x8_2 : Int) (lh3_2 : List (Int × Int)) (o : (Int × (List (Int × Int)))), f33_2 m fuel a b x12_1 x6_2 x8_2 lh3_2 = some o → ∀ Q : QP, Q (.exit 2) [(0, ii a), (1, .int .u32 b), (4, pp 0 0), (5, pp 1 0), (6, ii o.1), (11, ii a), (12, ii x12_1)] [(3, rc encP o.2 0 55 2), (2, rc encP [] 0 55 2), (1, .cells [ii a, s0 3 o.2.length] 0 34 0), (0, .cells [ii 0, s0 2 0] 0 34 0)] 4 → XL E0 39 0 fuel f33_L2 [(0, ii a), (1, .int .u32 b), (4, pp 0 0), (5, pp 1 0), (6, ii x6_2), (7, ii x12_1), (8, ii x8_2), (11, ii a), (12, ii x12_1)] [(3, rc encP lh3_2 0 55 2), (2, rc encP [] 0 55 2), (1, .cells [ii a, s0 3 lh3_2.length] 0 34 0), (0, .cells [ii 0, s0 2 0] 0 34 0)] 4 Q
 | 0, a, b, x12_1, x6_2, x8_2, lh3_2, o, h, Q, hQ => by cases h
 | fuel + 1, a, b, x12_1, x6_2, x8_2, lh3_2, o, h, Q, hQ => by
  unfold f33_2 at h
  refine XL.succ E0_ok ?_
  refine XQ.seq E0_ok (by kernel_rfl) ?_
  refine XQ.seq E0_ok (by kernel_rfl) ?_
  refine XQ.region (by kernel_rfl) ?_
  refine XR.runS E0_ok 1 3 [(0, ii a), (1, .int .u32 b), (4, pp 0 0), (5, pp 1 0), (6, ii x6_2), (7, ii x12_1), (8, ii x8_2), (11, ii a), (12, ii x12_1), (19, .bool (decide (x8_2 < a)))] rfl (by kernel_rfl) ?_
  refine XR.done (by kernel_rfl) ?_
  show XQ _ _ _ _ _ _ _ _
  cases b1 : (decide (x8_2 < a) : Bool) with
  | true =>
   have h := cT b1 h
   refine XQ.cond (s := (.tmp 19)) (b := true) (by kernel_rfl) (by kernel_rfl) (fun _ => ?_) (fun q => by cases q)
   refine XQ.skip (by kernel_rfl) ?_
   show XQ _ _ _ _ _ _ _ _
   refine XQ.seq E0_ok (by kernel_rfl) ?_
   refine XQ.block (id := 3) (by kernel_rfl) ?_
   refine XQ.seq E0_ok (by kernel_rfl) ?_
   refine XQ.seq E0_ok (by kernel_rfl) ?_
   refine XQ.region (by kernel_rfl) ?_
   refine XR.runS E0_ok 1 2 [(0, ii a), (1, .int .u32 b), (4, pp 0 0), (5, pp 1 0), (6, ii x6_2), (7, ii x12_1), (8, ii x8_2), (11, ii a), (12, ii x12_1), (22, .int .u32 b), (23, ii x6_2)] rfl (by kernel_rfl) ?_
   cases b2 : (decide (0 ≤ x6_2) : Bool) with
   | false => cases (cF b2 h)
   | true =>
    have h := cT b2 h
    have e3 : insV (headI ((gsOf E0 39 (opsOf (lft (lft (lft (lft (rgt f33_L2))))))).drop 2) (trS 39 [(0, ii a), (1, .int .u32 b), (4, pp 0 0), (5, pp 1 0), (6, ii x6_2), (7, ii x12_1), (8, ii x8_2), (11, ii a), (12, ii x12_1), (22, .int .u32 b), (23, ii x6_2)])) (trS 39 [(0, ii a), (1, .int .u32 b), (4, pp 0 0), (5, pp 1 0), (6, ii x6_2), (7, ii x12_1), (8, ii x8_2), (11, ii a), (12, ii x12_1), (22, .int .u32 b), (23, ii x6_2)]) [(3, rc encP lh3_2 0 55 2), (2, rc encP [] 0 55 2), (1, .cells [ii a, s0 3 lh3_2.length] 0 34 0), (0, .cells [ii 0, s0 2 0] 0 34 0)] = (match (decide (0 ≤ x6_2) : Bool) with | true => some (.int .u32 (shV false .u32 b x6_2)) | false => none) := by kernel_rfl
    refine XR.rd E0_ok [0, 1, 4, 5, 6, 7, 8, 11, 12, 24] rfl (e3.trans (by rw [b2])) (σ' := [(0, ii a), (1, .int .u32 b), (4, pp 0 0), (5, pp 1 0), (6, ii x6_2), (7, ii x12_1), (8, ii x8_2), (11, ii a), (12, ii x12_1), (24, .int .u32 (shV false .u32 b x6_2))]) (by kernel_rfl) ?_
    refine XR.runS E0_ok 1 2 [(0, ii a), (1, .int .u32 b), (4, pp 0 0), (5, pp 1 0), (6, ii x6_2), (7, ii x12_1), (8, ii x8_2), (11, ii a), (12, ii x12_1), (26, .bool ((andV .u32 (shV false .u32 b x6_2) 1) == 1))] rfl (by kernel_rfl) ?_
    refine XR.done (by kernel_rfl) ?_
    show XQ _ _ _ _ _ _ _ _
    cases b4 : ((andV .u32 (shV false .u32 b x6_2) 1) == 1 : Bool) with
    | true =>
     have h := cT b4 h
     refine XQ.cond (s := (.tmp 26)) (b := true) (by kernel_rfl) (by kernel_rfl) (fun _ => ?_) (fun q => by cases q)
     refine XQ.region (by kernel_rfl) ?_
     refine XR.runT E0_ok 1 6 [(0, ii a), (1, .int .u32 b), (4, pp 0 0), (5, pp 1 0), (6, ii x6_2), (7, ii x12_1), (8, ii x8_2), (11, ii a), (12, ii x12_1), (28, s0 3 lh3_2.length), (32, s0 4 1)] [(4, .cells [ii x12_1, ii x8_2] 0 55 2), (3, rc encP lh3_2 0 55 2), (2, rc encP [] 0 55 2), (1, .cells [ii a, s0 3 lh3_2.length] 0 34 0), (0, .cells [ii 0, s0 2 0] 0 34 0)] 5 rfl (by kernel_rfl) ?_
     cases b5 : (fitsB (lh3_2.length + 1) 16 : Bool) with
     | false => cases (cF b5 h)
     | true =>
      have h := cT b5 h
      refine XR.ef E0_ok [0, 1, 4, 5, 6, 7, 8, 11, 12, 33] rfl (e_append encP_ok (bytes := 16) (e := 55) (x := (src 39 (.tmp 28))) (y := (src 39 (.tmp 32))) (b := 3) (len := lh3_2.length) (cap := lh3_2.length) (xs := lh3_2) (m := 0) (ys := [(x12_1, x8_2)]) (d := (some (path 12 33))) (n' := (lh3_2 ++ [(x12_1, x8_2)]).length) (h' := [(5, rc encP (lh3_2 ++ [(x12_1, x8_2)]) 0 55 2), (4, .cells [ii x12_1, ii x8_2] 0 55 2), (2, rc encP [] 0 55 2), (1, .cells [ii a, s0 3 lh3_2.length] 0 34 0), (0, .cells [ii 0, s0 2 0] 0 34 0)]) (by kernel_rfl) (by kernel_rfl) (by kernel_rfl) (by kernel_rfl) rfl (by simp) (by simp) b5 (by simp) (by kernel_rfl)) (σ' := [(0, ii a), (1, .int .u32 b), (4, pp 0 0), (5, pp 1 0), (6, ii x6_2), (7, ii x12_1), (8, ii x8_2), (11, ii a), (12, ii x12_1), (33, s0 5 ((lh3_2 ++ [(x12_1, x8_2)]).length))]) (by kernel_rfl) ?_
      refine XR.runT E0_ok 1 2 [(0, ii a), (1, .int .u32 b), (4, pp 0 0), (5, pp 1 0), (6, ii x6_2), (7, ii x12_1), (8, ii x8_2), (11, ii a), (12, ii x12_1)] [(5, rc encP (lh3_2 ++ [(x12_1, x8_2)]) 0 55 2), (4, .cells [ii x12_1, ii x8_2] 0 55 2), (2, rc encP [] 0 55 2), (1, .cells [ii a, s0 5 ((lh3_2 ++ [(x12_1, x8_2)]).length)] 0 34 0), (0, .cells [ii 0, s0 2 0] 0 34 0)] 6 rfl (by kernel_rfl) ?_
      refine XR.done (by kernel_rfl) ?_
      show XQ _ _ _ _ _ _ _ _
      refine XQ.region (by kernel_rfl) ?_
      refine XR.runS E0_ok 1 3 [(0, ii a), (1, .int .u32 b), (4, pp 0 0), (5, pp 1 0), (6, ii (w64 (x6_2 + 1))), (7, ii x12_1), (8, ii x8_2), (11, ii a), (12, ii x12_1)] rfl (by kernel_rfl) ?_
      refine XR.done (by kernel_rfl) ?_
      show XQ _ _ _ _ _ _ _ _
      refine XQ.region (by kernel_rfl) ?_
      refine XR.runS E0_ok 1 3 [(0, ii a), (1, .int .u32 b), (4, pp 0 0), (5, pp 1 0), (6, ii (w64 (x6_2 + 1))), (7, ii x12_1), (8, ii (w64 (x8_2 + 1))), (11, ii a), (12, ii x12_1)] rfl (by kernel_rfl) ?_
      refine XR.done (by kernel_rfl) ?_
      show XL _ _ _ _ _ _ _ _ _
      refine XL.ren (σ' := [(0, ii a), (1, .int .u32 b), (4, pp 0 0), (5, pp 1 0), (6, ii (w64 (x6_2 + 1))), (7, ii x12_1), (8, ii (w64 (x8_2 + 1))), (11, ii a), (12, ii x12_1)]) (h' := [(3, rc encP (lh3_2 ++ [(x12_1, x8_2)]) 0 55 2), (2, rc encP [] 0 55 2), (1, .cells [ii a, s0 3 ((lh3_2 ++ [(x12_1, x8_2)]).length)] 0 34 0), (0, .cells [ii 0, s0 2 0] 0 34 0)]) (c' := 4) [0, 1, 2, 5] (by decide) rfl ⟨by kernel_rfl, by kernel_rfl, by kernel_rfl, by kernel_rfl, by kernel_rfl, by kernel_rfl, by kernel_rfl, by kernel_rfl, by kernel_rfl, trivial⟩ ⟨⟨_, _, rfl, rfl, .inl ⟨rfl, rowC_scal encP_ok _⟩⟩, ⟨_, _, rfl, rfl, .inl ⟨rfl, rowC_scal encP_ok _⟩⟩, ⟨_, _, rfl, rfl, .inr ⟨_, _, _, _, rfl, rfl⟩⟩, ⟨_, _, rfl, rfl, .inr ⟨_, _, _, _, rfl, rfl⟩⟩, trivial⟩ rfl ?_
      refine XL.conv (f33_2_ok m fuel a b x12_1 (w64 (x6_2 + 1)) (w64 (x8_2 + 1)) (lh3_2 ++ [(x12_1, x8_2)]) o h Q hQ) (by first | rfl | simp)
    | false =>
     have h := cF b4 h
     refine XQ.cond (s := (.tmp 26)) (b := false) (by kernel_rfl) (by kernel_rfl) (fun q => by cases q) (fun _ => ?_)
     refine XQ.skip (by kernel_rfl) ?_
     show XQ _ _ _ _ _ _ _ _
     refine XQ.region (by kernel_rfl) ?_
     refine XR.runS E0_ok 1 3 [(0, ii a), (1, .int .u32 b), (4, pp 0 0), (5, pp 1 0), (6, ii (w64 (x6_2 + 1))), (7, ii x12_1), (8, ii x8_2), (11, ii a), (12, ii x12_1)] rfl (by kernel_rfl) ?_
     refine XR.done (by kernel_rfl) ?_
     show XQ _ _ _ _ _ _ _ _
     refine XQ.region (by kernel_rfl) ?_
     refine XR.runS E0_ok 1 3 [(0, ii a), (1, .int .u32 b), (4, pp 0 0), (5, pp 1 0), (6, ii (w64 (x6_2 + 1))), (7, ii x12_1), (8, ii (w64 (x8_2 + 1))), (11, ii a), (12, ii x12_1)] rfl (by kernel_rfl) ?_
     refine XR.done (by kernel_rfl) ?_
     show XL _ _ _ _ _ _ _ _ _
     refine XL.ren (σ' := [(0, ii a), (1, .int .u32 b), (4, pp 0 0), (5, pp 1 0), (6, ii (w64 (x6_2 + 1))), (7, ii x12_1), (8, ii (w64 (x8_2 + 1))), (11, ii a), (12, ii x12_1)]) (h' := [(3, rc encP lh3_2 0 55 2), (2, rc encP [] 0 55 2), (1, .cells [ii a, s0 3 lh3_2.length] 0 34 0), (0, .cells [ii 0, s0 2 0] 0 34 0)]) (c' := 4) [0, 1, 2, 3] (by decide) rfl ⟨by kernel_rfl, by kernel_rfl, by kernel_rfl, by kernel_rfl, by kernel_rfl, by kernel_rfl, by kernel_rfl, by kernel_rfl, by kernel_rfl, trivial⟩ ⟨⟨_, _, rfl, rfl, .inl ⟨rfl, rowC_scal encP_ok _⟩⟩, ⟨_, _, rfl, rfl, .inl ⟨rfl, rowC_scal encP_ok _⟩⟩, ⟨_, _, rfl, rfl, .inr ⟨_, _, _, _, rfl, rfl⟩⟩, ⟨_, _, rfl, rfl, .inr ⟨_, _, _, _, rfl, rfl⟩⟩, trivial⟩ rfl ?_
     refine XL.conv (f33_2_ok m fuel a b x12_1 (w64 (x6_2 + 1)) (w64 (x8_2 + 1)) lh3_2 o h Q hQ) (by first | rfl | simp)
  | false =>
   have h := cF b1 h
   refine XQ.cond (s := (.tmp 19)) (b := false) (by kernel_rfl) (by kernel_rfl) (fun q => by cases q) (fun _ => ?_)
   refine XQ.ren (σ' := [(0, ii a), (1, .int .u32 b), (4, pp 0 0), (5, pp 1 0), (6, ii x6_2), (11, ii a), (12, ii x12_1)]) (h' := [(3, rc encP lh3_2 0 55 2), (2, rc encP [] 0 55 2), (1, .cells [ii a, s0 3 lh3_2.length] 0 34 0), (0, .cells [ii 0, s0 2 0] 0 34 0)]) (c' := 4) [0, 1, 2, 3] (by decide) rfl ⟨by kernel_rfl, by kernel_rfl, by kernel_rfl, by kernel_rfl, by kernel_rfl, by kernel_rfl, by kernel_rfl, trivial⟩ ⟨⟨_, _, rfl, rfl, .inl ⟨rfl, rowC_scal encP_ok _⟩⟩, ⟨_, _, rfl, rfl, .inl ⟨rfl, rowC_scal encP_ok _⟩⟩, ⟨_, _, rfl, rfl, .inr ⟨_, _, _, _, rfl, rfl⟩⟩, ⟨_, _, rfl, rfl, .inr ⟨_, _, _, _, rfl, rfl⟩⟩, trivial⟩ rfl ?_
   refine XQ.exit (i := 2) (by kernel_rfl) ?_
   cases h
   exact hQ

def f33_1 (m : Nat) : Nat → Int → Int → Int → Int → List (Int × Int) → Option (List (Int × Int))
 | 0, _, _, _, _, _ => none
 | fuel + 1, a, b, x6_1, x12_1, lh3_1 =>
  cond (decide (x12_1 < a)) (
   (f33_2 m m a b x12_1 x6_1 (w64 (x12_1 + 1)) lh3_1).bind fun o2 =>
    f33_1 m fuel a b o2.1 (w64 (x12_1 + 1)) o2.2
  ) (
   some (lh3_1)
  )

theorem f33_1_ok (m : Nat) : ∀ (fuel : Nat) (a : Int) (b : Int) (x6_1 : Int) (x12_1 : Int) (lh3_1 : List (Int × Int)) (o : (List (Int × Int))), f33_1 m fuel a b x6_1 x12_1 lh3_1 = some o → ∀ Q : QP, Q (.exit 0) [(4, pp 0 0), (5, pp 1 0)] [(3, rc encP o 0 55 2), (2, rc encP [] 0 55 2), (1, .cells [ii a, s0 3 o.length] 0 34 0), (0, .cells [ii 0, s0 2 0] 0 34 0)] 4 → XL E0 39 0 fuel f33_L1 [(0, ii a), (1, .int .u32 b), (4, pp 0 0), (5, pp 1 0), (6, ii x6_1), (11, ii a), (12, ii x12_1)] [(3, rc encP lh3_1 0 55 2), (2, rc encP [] 0 55 2), (1, .cells [ii a, s0 3 lh3_1.length] 0 34 0), (0, .cells [ii 0, s0 2 0] 0 34 0)] 4 Q
 | 0, a, b, x6_1, x12_1, lh3_1, o, h, Q, hQ => by cases h
 | fuel + 1, a, b, x6_1, x12_1, lh3_1, o, h, Q, hQ => by
  unfold f33_1 at h
  refine XL.succ E0_ok ?_
  refine XQ.seq E0_ok (by kernel_rfl) ?_
  refine XQ.region (by kernel_rfl) ?_
  refine XR.runS E0_ok 1 1 [(0, ii a), (1, .int .u32 b), (4, pp 0 0), (5, pp 1 0), (6, ii x6_1), (11, ii a), (12, ii x12_1), (13, .bool (decide (x12_1 < a)))] rfl (by kernel_rfl) ?_
  refine XR.done (by kernel_rfl) ?_
  show XQ _ _ _ _ _ _ _ _
  refine XQ.seq E0_ok (by kernel_rfl) ?_
  cases b1 : (decide (x12_1 < a) : Bool) with
  | true =>
   have h := cT b1 h
   refine XQ.cond (s := (.tmp 13)) (b := true) (by kernel_rfl) (by kernel_rfl) (fun _ => ?_) (fun q => by cases q)
   refine XQ.skip (by kernel_rfl) ?_
   show XQ _ _ _ _ _ _ _ _
   refine XQ.seq E0_ok (by kernel_rfl) ?_
   refine XQ.block (id := 1) (by kernel_rfl) ?_
   refine XQ.seq E0_ok (by kernel_rfl) ?_
   refine XQ.region (by kernel_rfl) ?_
   refine XR.runS E0_ok 1 2 [(0, ii a), (1, .int .u32 b), (4, pp 0 0), (5, pp 1 0), (6, ii x6_1), (7, ii x12_1), (11, ii a), (12, ii x12_1)] rfl (by kernel_rfl) ?_
   refine XR.done (by kernel_rfl) ?_
   show XQ _ _ _ _ _ _ _ _
   refine XQ.seq E0_ok (by kernel_rfl) ?_
   refine XQ.region (by kernel_rfl) ?_
   refine XR.runS E0_ok 1 3 [(0, ii a), (1, .int .u32 b), (4, pp 0 0), (5, pp 1 0), (6, ii x6_1), (7, ii x12_1), (8, ii (w64 (x12_1 + 1))), (11, ii a), (12, ii x12_1)] rfl (by kernel_rfl) ?_
   refine XR.done (by kernel_rfl) ?_
   show XQ _ _ _ _ _ _ _ _
   refine XQ.block (id := 2) (by kernel_rfl) ?_
   refine XQ.loop m (by kernel_rfl) ?_
   obtain ⟨o2, o2_h, h⟩ := bS h
   refine XL.ren (σ' := [(0, ii a), (1, .int .u32 b), (4, pp 0 0), (5, pp 1 0), (6, ii x6_1), (7, ii x12_1), (8, ii (w64 (x12_1 + 1))), (11, ii a), (12, ii x12_1)]) (h' := [(3, rc encP lh3_1 0 55 2), (2, rc encP [] 0 55 2), (1, .cells [ii a, s0 3 lh3_1.length] 0 34 0), (0, .cells [ii 0, s0 2 0] 0 34 0)]) (c' := 4) [0, 1, 2, 3] (by decide) rfl ⟨by kernel_rfl, by kernel_rfl, by kernel_rfl, by kernel_rfl, by kernel_rfl, by kernel_rfl, by kernel_rfl, by kernel_rfl, by kernel_rfl, trivial⟩ ⟨⟨_, _, rfl, rfl, .inl ⟨rfl, rowC_scal encP_ok _⟩⟩, ⟨_, _, rfl, rfl, .inl ⟨rfl, rowC_scal encP_ok _⟩⟩, ⟨_, _, rfl, rfl, .inr ⟨_, _, _, _, rfl, rfl⟩⟩, ⟨_, _, rfl, rfl, .inr ⟨_, _, _, _, rfl, rfl⟩⟩, trivial⟩ rfl ?_
   refine XL.conv (f33_2_ok m m a b x12_1 x6_1 (w64 (x12_1 + 1)) lh3_1 o2 o2_h _ ?_) (by first | rfl | simp)
   show XQ _ _ _ _ _ _ _ _
   refine XQ.region (by kernel_rfl) ?_
   refine XR.runS E0_ok 1 2 [(0, ii a), (1, .int .u32 b), (4, pp 0 0), (5, pp 1 0), (6, ii o2.1), (11, ii a), (12, ii (w64 (x12_1 + 1)))] rfl (by kernel_rfl) ?_
   refine XR.done (by kernel_rfl) ?_
   show XL _ _ _ _ _ _ _ _ _
   refine XL.ren (σ' := [(0, ii a), (1, .int .u32 b), (4, pp 0 0), (5, pp 1 0), (6, ii o2.1), (11, ii a), (12, ii (w64 (x12_1 + 1)))]) (h' := [(3, rc encP o2.2 0 55 2), (2, rc encP [] 0 55 2), (1, .cells [ii a, s0 3 o2.2.length] 0 34 0), (0, .cells [ii 0, s0 2 0] 0 34 0)]) (c' := 4) [0, 1, 2, 3] (by decide) rfl ⟨by kernel_rfl, by kernel_rfl, by kernel_rfl, by kernel_rfl, by kernel_rfl, by kernel_rfl, by kernel_rfl, trivial⟩ ⟨⟨_, _, rfl, rfl, .inl ⟨rfl, rowC_scal encP_ok _⟩⟩, ⟨_, _, rfl, rfl, .inl ⟨rfl, rowC_scal encP_ok _⟩⟩, ⟨_, _, rfl, rfl, .inr ⟨_, _, _, _, rfl, rfl⟩⟩, ⟨_, _, rfl, rfl, .inr ⟨_, _, _, _, rfl, rfl⟩⟩, trivial⟩ rfl ?_
   refine XL.conv (f33_1_ok m fuel a b o2.1 (w64 (x12_1 + 1)) o2.2 o h Q hQ) (by first | rfl | simp)
  | false =>
   have h := cF b1 h
   refine XQ.cond (s := (.tmp 13)) (b := false) (by kernel_rfl) (by kernel_rfl) (fun q => by cases q) (fun _ => ?_)
   refine XQ.ren (σ' := [(4, pp 0 0), (5, pp 1 0)]) (h' := [(3, rc encP lh3_1 0 55 2), (2, rc encP [] 0 55 2), (1, .cells [ii a, s0 3 lh3_1.length] 0 34 0), (0, .cells [ii 0, s0 2 0] 0 34 0)]) (c' := 4) [0, 1, 2, 3] (by decide) rfl ⟨by kernel_rfl, by kernel_rfl, trivial⟩ ⟨⟨_, _, rfl, rfl, .inl ⟨rfl, rowC_scal encP_ok _⟩⟩, ⟨_, _, rfl, rfl, .inl ⟨rfl, rowC_scal encP_ok _⟩⟩, ⟨_, _, rfl, rfl, .inr ⟨_, _, _, _, rfl, rfl⟩⟩, ⟨_, _, rfl, rfl, .inr ⟨_, _, _, _, rfl, rfl⟩⟩, trivial⟩ rfl ?_
   refine XQ.exit (i := 0) (by kernel_rfl) ?_
   cases h
   exact hQ

def f33 (m : Nat) (a : Int) (b : Int) : Option (Int × (List (Int × Int))) :=
 (f33_1 m m a b 0 0 []).bind fun o1 =>
  some (a, o1)

theorem f33_ok (m : Nat) (a : Int) (b : Int) (o : Int × (List (Int × Int))) (h : f33 m a b = some o) : KC E0 33 [ii a, .int .u32 b] [] 0 (fun v h' c' => v = .agg #[ii o.1, s0 0 o.2.length] ∧ h' = [(0, rc encP o.2 0 55 2)] ∧ c' = 1) := by
 refine KC.renO ?_
 refine KC.bodyN E0_ok (F := Proofs.Tryd.f33) (by kernel_rfl) (code := f33_C33) (by kernel_rfl) (nt := 39) (by kernel_rfl) (rs := [.cell 4 34]) (by kernel_rfl) (by kernel_rfl) (σ := [(0, ii a), (1, .int .u32 b)]) (by kernel_rfl) ?_
 unfold f33 at h
 refine XQ.seq E0_ok (by kernel_rfl) ?_
 refine XQ.region (by kernel_rfl) ?_
 refine XR.runT E0_ok 1 1 [(0, ii a), (1, .int .u32 b), (4, pp 0 0)] [(0, .cells [ii 0, .slice none 0 0] 0 34 0)] 1 rfl (by kernel_rfl) ?_
 refine XR.done (by kernel_rfl) ?_
 show XQ _ _ _ _ _ _ _ _
 refine XQ.ghost 55 2 rfl (σ' := [(0, ii a), (1, .int .u32 b), (4, pp 0 0)]) (h' := [(0, .cells [ii 0, s0 1 0] 0 34 0)]) ⟨by kernel_rfl, by kernel_rfl, by kernel_rfl, trivial⟩ ⟨⟨_, rfl, .inr ⟨_, _, _, _, rfl, rfl⟩⟩, trivial⟩ ?_
 refine XQ.conv (σ' := [(0, ii a), (1, .int .u32 b), (4, pp 0 0)]) (h' := [(1, rc encP [] 0 55 2), (0, .cells [ii 0, s0 1 0] 0 34 0)]) (c' := 2) ?_ (by kernel_rfl)
 refine XQ.seq E0_ok (by kernel_rfl) ?_
 refine XQ.region (by kernel_rfl) ?_
 refine XR.runT E0_ok 1 4 [(0, ii a), (1, .int .u32 b), (4, pp 0 0), (5, pp 2 0)] [(2, .cells [ii a, .slice none 0 0] 0 34 0), (1, rc encP [] 0 55 2), (0, .cells [ii 0, s0 1 0] 0 34 0)] 3 rfl (by kernel_rfl) ?_
 refine XR.done (by kernel_rfl) ?_
 show XQ _ _ _ _ _ _ _ _
 refine XQ.ghost 55 2 rfl (σ' := [(0, ii a), (1, .int .u32 b), (4, pp 0 0), (5, pp 2 0)]) (h' := [(2, .cells [ii a, s0 3 0] 0 34 0), (1, rc encP [] 0 55 2), (0, .cells [ii 0, s0 1 0] 0 34 0)]) ⟨by kernel_rfl, by kernel_rfl, by kernel_rfl, by kernel_rfl, trivial⟩ ⟨⟨_, rfl, .inr ⟨_, _, _, _, rfl, rfl⟩⟩, ⟨_, rfl, .inl rfl⟩, ⟨_, rfl, .inl rfl⟩, trivial⟩ ?_
 refine XQ.conv (σ' := [(0, ii a), (1, .int .u32 b), (4, pp 0 0), (5, pp 2 0)]) (h' := [(3, rc encP [] 0 55 2), (2, .cells [ii a, s0 3 0] 0 34 0), (1, rc encP [] 0 55 2), (0, .cells [ii 0, s0 1 0] 0 34 0)]) (c' := 4) ?_ (by kernel_rfl)
 refine XQ.seq E0_ok (by kernel_rfl) ?_
 refine XQ.region (by kernel_rfl) ?_
 refine XR.runS E0_ok 1 1 [(0, ii a), (1, .int .u32 b), (4, pp 0 0), (5, pp 2 0), (6, ii 0)] rfl (by kernel_rfl) ?_
 refine XR.done (by kernel_rfl) ?_
 show XQ _ _ _ _ _ _ _ _
 refine XQ.seq E0_ok (by kernel_rfl) ?_
 refine XQ.seq E0_ok (by kernel_rfl) ?_
 refine XQ.region (by kernel_rfl) ?_
 refine XR.runS E0_ok 1 2 [(0, ii a), (1, .int .u32 b), (4, pp 0 0), (5, pp 2 0), (6, ii 0), (11, ii a), (12, ii 0)] rfl (by kernel_rfl) ?_
 refine XR.done (by kernel_rfl) ?_
 show XQ _ _ _ _ _ _ _ _
 refine XQ.block (id := 0) (by kernel_rfl) ?_
 refine XQ.loop m (by kernel_rfl) ?_
 obtain ⟨o1, o1_h, h⟩ := bS h
 refine XL.ren (σ' := [(0, ii a), (1, .int .u32 b), (4, pp 0 0), (5, pp 1 0), (6, ii 0), (11, ii a), (12, ii 0)]) (h' := [(3, rc encP [] 0 55 2), (2, rc encP [] 0 55 2), (1, .cells [ii a, s0 3 0] 0 34 0), (0, .cells [ii 0, s0 2 0] 0 34 0)]) (c' := 4) [0, 2, 1, 3] (by decide) rfl ⟨by kernel_rfl, by kernel_rfl, by kernel_rfl, by kernel_rfl, by kernel_rfl, by kernel_rfl, by kernel_rfl, trivial⟩ ⟨⟨_, _, rfl, rfl, .inl ⟨rfl, rowC_scal encP_ok _⟩⟩, ⟨_, _, rfl, rfl, .inl ⟨rfl, rowC_scal encP_ok _⟩⟩, ⟨_, _, rfl, rfl, .inr ⟨_, _, _, _, rfl, rfl⟩⟩, ⟨_, _, rfl, rfl, .inr ⟨_, _, _, _, rfl, rfl⟩⟩, trivial⟩ rfl ?_
 refine XL.conv (f33_1_ok m m a b 0 0 [] o1 o1_h _ ?_) (by first | rfl | simp)
 show XQ _ _ _ _ _ _ _ _
 refine XQ.seq E0_ok (by kernel_rfl) ?_
 refine XQ.region (by kernel_rfl) ?_
 refine XR.runT E0_ok 1 2 [(4, pp 0 0)] [(3, rc encP o1 0 55 2), (2, rc encP [] 0 55 2), (1, .cells [ii a, s0 3 o1.length] 0 34 0), (0, .cells [ii a, s0 3 o1.length] 0 34 0)] 4 rfl (by kernel_rfl) ?_
 refine XR.done (by kernel_rfl) ?_
 show XQ _ _ _ _ _ _ _ _
 refine XQ.ren (σ' := [(4, pp 0 0)]) (h' := [(1, rc encP o1 0 55 2), (0, .cells [ii a, s0 1 o1.length] 0 34 0)]) (c' := 2) [0, 3] (by decide) rfl ⟨by kernel_rfl, trivial⟩ ⟨⟨_, _, rfl, rfl, .inl ⟨rfl, rowC_scal encP_ok _⟩⟩, ⟨_, _, rfl, rfl, .inr ⟨_, _, _, _, rfl, rfl⟩⟩, trivial⟩ rfl ?_
 refine XQ.ret (by kernel_rfl) ?_
 have h := Option.some.inj h
 subst h
 exact ⟨fun i q => (by cases q), .agg #[ii a, s0 1 o1.length], (by kernel_rfl), [1], .agg #[ii a, s0 0 o1.length], [(0, rc encP o1 0 55 2)], (by decide), rfl, (by kernel_rfl), ⟨⟨_, _, rfl, rfl, .inl ⟨rfl, rowC_scal encP_ok _⟩⟩, trivial⟩, (by kernel_rfl), (by kernel_rfl), rfl⟩

end Go.Xm
namespace Go.Xm
open Go.RowKit
set_option linter.unusedVariables false
set_option linter.unusedSimpArgs false
set_option maxRecDepth 20000

/-! vitola/vitolalaw12.against -/
noncomputable def f34_C34 : Code := Proofs.Tryd.f34.body.getD .skip
noncomputable def f34_C82 : Code := Proofs.Tryd.f82.body.getD .skip
noncomputable def f34_C83 : Code := Proofs.Tryd.f83.body.getD .skip
noncomputable def f34_L1 : Code := lft (lft (rgt f34_C83))
noncomputable def f34_L2 : Code := lft (lft (rgt (lft (rgt (rgt (rgt (rgt f34_C34)))))))

def f34_1 (m : Nat) : Nat → List Int → Int → Int → List Int → Option (List Int)
 | 0, _, _, _, _ => none
 | fuel + 1, a, x2_1, x3_1, lh2_1 =>
  cond (decide (x2_1 < x3_1)) (
   cond (inRow x3_1 lh2_1.length) (
    cond (inRow x2_1 lh2_1.length) (
     f34_1 m fuel a (w64 (x2_1 + 1)) (w64 (x3_1 - 1)) (List.set (List.set lh2_1 (Int.toNat x2_1) (List.getD lh2_1 (Int.toNat x3_1) 0)) (Int.toNat x3_1) (List.getD lh2_1 (Int.toNat x2_1) 0))
    ) none
   ) none
  ) (
   some (lh2_1)
  )

theorem f34_1_ok (m : Nat) : ∀ (fuel : Nat) (z0 : Nat) (y0 : Nat) (a : List Int) (x2_1 : Int) (x3_1 : Int) (lh2_1 : List Int) (o : (List Int)), f34_1 m fuel a x2_1 x3_1 lh2_1 = some o → ∀ Q : QP, Q (.exit 0) [] [(2, rc (encI .i64) o 0 3 1), (1, .cells [s0 0 a.length] 0 22 0), (0, rc (encI .i64) a z0 y0 1)] 3 → XL E0 28 3 fuel f34_L1 [(0, s0 2 lh2_1.length), (2, ii x2_1), (3, ii x3_1)] [(2, rc (encI .i64) lh2_1 0 3 1), (1, .cells [s0 0 a.length] 0 22 0), (0, rc (encI .i64) a z0 y0 1)] 3 Q
 | 0, z0, y0, a, x2_1, x3_1, lh2_1, o, h, Q, hQ => by cases h
 | fuel + 1, z0, y0, a, x2_1, x3_1, lh2_1, o, h, Q, hQ => by
  unfold f34_1 at h
  refine XL.succ E0_ok ?_
  refine XQ.seq E0_ok (by kernel_rfl) ?_
  refine XQ.seq E0_ok (by kernel_rfl) ?_
  refine XQ.region (by kernel_rfl) ?_
  refine XR.runS E0_ok 1 3 [(0, s0 2 lh2_1.length), (2, ii x2_1), (3, ii x3_1), (9, .bool (decide (x2_1 < x3_1)))] rfl (by kernel_rfl) ?_
  refine XR.done (by kernel_rfl) ?_
  show XQ _ _ _ _ _ _ _ _
  cases b1 : (decide (x2_1 < x3_1) : Bool) with
  | true =>
   have h := cT b1 h
   refine XQ.cond (s := (.tmp 9)) (b := true) (by kernel_rfl) (by kernel_rfl) (fun _ => ?_) (fun q => by cases q)
   refine XQ.skip (by kernel_rfl) ?_
   show XQ _ _ _ _ _ _ _ _
   refine XQ.seq E0_ok (by kernel_rfl) ?_
   refine XQ.block (id := 1) (by kernel_rfl) ?_
   refine XQ.preP E0_ok [2, 3] [0, 1, 4, 5, 6, 7, 8, 9, 10, 11, 12] 13 [14, 15] (by kernel_rfl) (by kernel_rfl) (by kernel_rfl) ?_
   refine XP.step E0_ok 2 [0, 2, 3, 16, 17] rfl (σ' := [(0, s0 2 lh2_1.length), (2, ii x2_1), (3, ii x3_1), (16, s0 2 lh2_1.length), (17, ii x3_1)]) (by kernel_rfl) ?_
   refine XP.done (by kernel_rfl) ?_
   show XS _ _ _ _ _ _ _ _ _ _
   refine XS.step E0_ok 4 rfl [0, 2, 3, 14, 15, 16, 17, 18, 19] rfl (σ' := [(0, s0 2 lh2_1.length), (2, ii x2_1), (3, ii x3_1), (14, s0 2 lh2_1.length), (15, ii x2_1), (16, s0 2 lh2_1.length), (17, ii x3_1), (18, s0 2 lh2_1.length), (19, ii x3_1)]) (by kernel_rfl) ?_
   cases b2 : (inRow x3_1 lh2_1.length : Bool) with
   | false => cases (cF b2 h)
   | true =>
    have h := cT b2 h
    refine XS.rd E0_ok rfl [0, 2, 3, 14, 15, 16, 17, 20] rfl (v := pp 2 ((Int.toNat x3_1) * 1)) (v_idx (s := 1) (x := (src 28 (.tmp 18))) (y := (src 28 (.tmp 19))) (b := 2) (o := 0) (len := lh2_1.length) (cap := lh2_1.length) (ik := .i64) (i := x3_1) (off := (Int.toNat x3_1) * 1) (d := (some (path 12 20))) (by kernel_rfl) (by kernel_rfl) (by kernel_rfl) b2 (by omega)) (σ' := [(0, s0 2 lh2_1.length), (2, ii x2_1), (3, ii x3_1), (14, s0 2 lh2_1.length), (15, ii x2_1), (16, s0 2 lh2_1.length), (17, ii x3_1), (20, pp 2 ((Int.toNat x3_1) * 1))]) (by kernel_rfl) ?_
    refine XS.rd E0_ok rfl [0, 2, 3, 14, 15, 16, 17, 21] rfl (v := ii (List.getD lh2_1 (Int.toNat x3_1) 0)) (v_load1 (encI_ok .i64) (x := (src 28 (.tmp 20))) (b := 2) (off := (Int.toNat x3_1) * 1) (xs := lh2_1) (fz := 0) (e := 3) (es := 1) (d := (some (path 12 21))) (by kernel_rfl) (by kernel_rfl) (by kernel_rfl) (Int.toNat x3_1) 0 0 (by first | rfl | omega) (row_len (inRow_toNat b2) (by simp)) rfl rfl) (σ' := [(0, s0 2 lh2_1.length), (2, ii x2_1), (3, ii x3_1), (14, s0 2 lh2_1.length), (15, ii x2_1), (16, s0 2 lh2_1.length), (17, ii x3_1), (21, ii (List.getD lh2_1 (Int.toNat x3_1) 0))]) (by kernel_rfl) ?_
    refine XS.step E0_ok 2 rfl [0, 2, 3, 14, 15, 16, 17, 21, 22, 23] rfl (σ' := [(0, s0 2 lh2_1.length), (2, ii x2_1), (3, ii x3_1), (14, s0 2 lh2_1.length), (15, ii x2_1), (16, s0 2 lh2_1.length), (17, ii x3_1), (21, ii (List.getD lh2_1 (Int.toNat x3_1) 0)), (22, s0 2 lh2_1.length), (23, ii x2_1)]) (by kernel_rfl) ?_
    cases b3 : (inRow x2_1 lh2_1.length : Bool) with
    | false => cases (cF b3 h)
    | true =>
     have h := cT b3 h
     refine XS.rd E0_ok rfl [0, 2, 3, 14, 15, 16, 17, 21, 24] rfl (v := pp 2 ((Int.toNat x2_1) * 1)) (v_idx (s := 1) (x := (src 28 (.tmp 22))) (y := (src 28 (.tmp 23))) (b := 2) (o := 0) (len := lh2_1.length) (cap := lh2_1.length) (ik := .i64) (i := x2_1) (off := (Int.toNat x2_1) * 1) (d := (some (path 12 24))) (by kernel_rfl) (by kernel_rfl) (by kernel_rfl) b3 (by omega)) (σ' := [(0, s0 2 lh2_1.length), (2, ii x2_1), (3, ii x3_1), (14, s0 2 lh2_1.length), (15, ii x2_1), (16, s0 2 lh2_1.length), (17, ii x3_1), (21, ii (List.getD lh2_1 (Int.toNat x3_1) 0)), (24, pp 2 ((Int.toNat x2_1) * 1))]) (by kernel_rfl) ?_
     refine XS.rd E0_ok rfl [0, 2, 3, 14, 15, 16, 17, 21, 25] rfl (v := ii (List.getD lh2_1 (Int.toNat x2_1) 0)) (v_load1 (encI_ok .i64) (x := (src 28 (.tmp 24))) (b := 2) (off := (Int.toNat x2_1) * 1) (xs := lh2_1) (fz := 0) (e := 3) (es := 1) (d := (some (path 12 25))) (by kernel_rfl) (by kernel_rfl) (by kernel_rfl) (Int.toNat x2_1) 0 0 (by first | rfl | omega) (row_len (inRow_toNat b3) (by simp)) rfl rfl) (σ' := [(0, s0 2 lh2_1.length), (2, ii x2_1), (3, ii x3_1), (14, s0 2 lh2_1.length), (15, ii x2_1), (16, s0 2 lh2_1.length), (17, ii x3_1), (21, ii (List.getD lh2_1 (Int.toNat x3_1) 0)), (25, ii (List.getD lh2_1 (Int.toNat x2_1) 0))]) (by kernel_rfl) ?_
     refine XS.rd E0_ok rfl [0, 2, 3, 16, 17, 21, 25, 26] rfl (v := pp 2 ((Int.toNat x2_1) * 1)) (v_idx (s := 1) (x := (src 28 (.tmp 14))) (y := (src 28 (.tmp 15))) (b := 2) (o := 0) (len := lh2_1.length) (cap := lh2_1.length) (ik := .i64) (i := x2_1) (off := (Int.toNat x2_1) * 1) (d := (some (path 12 26))) (by kernel_rfl) (by kernel_rfl) (by kernel_rfl) b3 (by omega)) (σ' := [(0, s0 2 lh2_1.length), (2, ii x2_1), (3, ii x3_1), (16, s0 2 lh2_1.length), (17, ii x3_1), (21, ii (List.getD lh2_1 (Int.toNat x3_1) 0)), (25, ii (List.getD lh2_1 (Int.toNat x2_1) 0)), (26, pp 2 ((Int.toNat x2_1) * 1))]) (by kernel_rfl) ?_
     refine XS.done (by kernel_rfl) ?_
     refine XR.ef E0_ok [0, 2, 3, 16, 17, 25] rfl (e_store (encI_ok .i64) (size := 1) (x := (src 28 (.tmp 26))) (y := (src 28 (.tmp 21))) (b := 2) (off := (Int.toNat x2_1) * 1) (xs := lh2_1) (e := 3) (es := 1) (d := none) (h' := [(2, rc (encI .i64) (List.set lh2_1 (Int.toNat x2_1) (List.getD lh2_1 (Int.toNat x3_1) 0)) 0 3 1), (1, .cells [s0 0 a.length] 0 22 0), (0, rc (encI .i64) a z0 y0 1)]) (w := ii (List.getD lh2_1 (Int.toNat x3_1) 0)) (ws := [ii (List.getD lh2_1 (Int.toNat x3_1) 0)]) (a := List.getD lh2_1 (Int.toNat x3_1) 0) (by kernel_rfl) (by kernel_rfl) (by kernel_rfl) (Int.toNat x2_1) 0 0 (by first | rfl | omega) (row_len (inRow_toNat b3) (by simp)) (by kernel_rfl) rfl rfl rfl rfl rfl (by kernel_rfl)) (σ' := [(0, s0 2 lh2_1.length), (2, ii x2_1), (3, ii x3_1), (16, s0 2 lh2_1.length), (17, ii x3_1), (25, ii (List.getD lh2_1 (Int.toNat x2_1) 0))]) (by kernel_rfl) ?_
     refine XR.rd E0_ok [0, 2, 3, 25, 27] rfl (v := pp 2 ((Int.toNat x3_1) * 1)) (v_idx (s := 1) (x := (src 28 (.tmp 16))) (y := (src 28 (.tmp 17))) (b := 2) (o := 0) (len := lh2_1.length) (cap := lh2_1.length) (ik := .i64) (i := x3_1) (off := (Int.toNat x3_1) * 1) (d := (some (path 12 27))) (by kernel_rfl) (by kernel_rfl) (by kernel_rfl) b2 (by omega)) (σ' := [(0, s0 2 lh2_1.length), (2, ii x2_1), (3, ii x3_1), (25, ii (List.getD lh2_1 (Int.toNat x2_1) 0)), (27, pp 2 ((Int.toNat x3_1) * 1))]) (by kernel_rfl) ?_
     refine XR.ef E0_ok [0, 2, 3] rfl (e_store (encI_ok .i64) (size := 1) (x := (src 28 (.tmp 27))) (y := (src 28 (.tmp 25))) (b := 2) (off := (Int.toNat x3_1) * 1) (xs := List.set lh2_1 (Int.toNat x2_1) (List.getD lh2_1 (Int.toNat x3_1) 0)) (e := 3) (es := 1) (d := none) (h' := [(2, rc (encI .i64) (List.set (List.set lh2_1 (Int.toNat x2_1) (List.getD lh2_1 (Int.toNat x3_1) 0)) (Int.toNat x3_1) (List.getD lh2_1 (Int.toNat x2_1) 0)) 0 3 1), (1, .cells [s0 0 a.length] 0 22 0), (0, rc (encI .i64) a z0 y0 1)]) (w := ii (List.getD lh2_1 (Int.toNat x2_1) 0)) (ws := [ii (List.getD lh2_1 (Int.toNat x2_1) 0)]) (a := List.getD lh2_1 (Int.toNat x2_1) 0) (by kernel_rfl) (by kernel_rfl) (by kernel_rfl) (Int.toNat x3_1) 0 0 (by first | rfl | omega) (row_len (inRow_toNat b2) (by simp)) (by kernel_rfl) rfl rfl rfl rfl rfl (by kernel_rfl)) (σ' := [(0, s0 2 lh2_1.length), (2, ii x2_1), (3, ii x3_1)]) (by kernel_rfl) ?_
     refine XR.done (by kernel_rfl) ?_
     show XQ _ _ _ _ _ _ _ _
     refine XQ.region (by kernel_rfl) ?_
     refine XR.runS E0_ok 1 6 [(0, s0 2 lh2_1.length), (2, ii (w64 (x2_1 + 1))), (3, ii (w64 (x3_1 - 1)))] rfl (by kernel_rfl) ?_
     refine XR.done (by kernel_rfl) ?_
     show XL _ _ _ _ _ _ _ _ _
     refine XL.ren (σ' := [(0, s0 2 lh2_1.length), (2, ii (w64 (x2_1 + 1))), (3, ii (w64 (x3_1 - 1)))]) (h' := [(2, rc (encI .i64) (List.set (List.set lh2_1 (Int.toNat x2_1) (List.getD lh2_1 (Int.toNat x3_1) 0)) (Int.toNat x3_1) (List.getD lh2_1 (Int.toNat x2_1) 0)) 0 3 1), (1, .cells [s0 0 a.length] 0 22 0), (0, rc (encI .i64) a z0 y0 1)]) (c' := 3) [0, 1, 2] (by decide) rfl ⟨by kernel_rfl, by kernel_rfl, by kernel_rfl, trivial⟩ ⟨⟨_, _, rfl, rfl, .inl ⟨rfl, rowC_scal (encI_ok .i64) _⟩⟩, ⟨_, _, rfl, rfl, .inr ⟨_, _, _, _, rfl, rfl⟩⟩, ⟨_, _, rfl, rfl, .inl ⟨rfl, rowC_scal (encI_ok .i64) _⟩⟩, trivial⟩ rfl ?_
     refine XL.conv (f34_1_ok m fuel z0 y0 a (w64 (x2_1 + 1)) (w64 (x3_1 - 1)) (List.set (List.set lh2_1 (Int.toNat x2_1) (List.getD lh2_1 (Int.toNat x3_1) 0)) (Int.toNat x3_1) (List.getD lh2_1 (Int.toNat x2_1) 0)) o h Q hQ) (by first | rfl | simp)
  | false =>
   have h := cF b1 h
   refine XQ.cond (s := (.tmp 9)) (b := false) (by kernel_rfl) (by kernel_rfl) (fun q => by cases q) (fun _ => ?_)
   refine XQ.ren (σ' := []) (h' := [(2, rc (encI .i64) lh2_1 0 3 1), (1, .cells [s0 0 a.length] 0 22 0), (0, rc (encI .i64) a z0 y0 1)]) (c' := 3) [0, 1, 2] (by decide) rfl trivial ⟨⟨_, _, rfl, rfl, .inl ⟨rfl, rowC_scal (encI_ok .i64) _⟩⟩, ⟨_, _, rfl, rfl, .inr ⟨_, _, _, _, rfl, rfl⟩⟩, ⟨_, _, rfl, rfl, .inl ⟨rfl, rowC_scal (encI_ok .i64) _⟩⟩, trivial⟩ rfl ?_
   refine XQ.exit (i := 0) (by kernel_rfl) ?_
   cases h
   exact hQ

def f34_2 (m : Nat) : Nat → List Int → Int → (List Int) → Int → Int → Int → Int → Option (Int × Int)
 | 0, _, _, _, _, _, _, _ => none
 | fuel + 1, a, b, o1, x6_2, x7_2, x20_2, x21_2 =>
  cond (decide (x21_2 < x20_2)) (
   cond (inRow x21_2 o1.length) (
    f34_2 m fuel a b o1 (cond (decide (x21_2 < b)) (w64 (x6_2 + (List.getD o1 (Int.toNat x21_2) 0))) x6_2) (cond (decide (x21_2 < b)) x7_2 (w64 (x7_2 + (iMin (List.getD o1 (Int.toNat x21_2) 0) b)))) x20_2 (w64 (x21_2 + 1))
   ) none
  ) (
   some (x6_2, x7_2)
  )

theorem f34_2_ok (m : Nat) : ∀ (fuel : Nat) (z0 : Nat) (y0 : Nat) (a : List Int) (b : Int) (o1 : (List Int)) (x6_2 : Int) (x7_2 : Int) (x20_2 : Int) (x21_2 : Int) (o : (Int × Int)), f34_2 m fuel a b o1 x6_2 x7_2 x20_2 x21_2 = some o → ∀ Q : QP, Q (.exit 0) [(6, ii o.1), (7, ii o.2)] [(0, rc (encI .i64) a z0 y0 1)] 1 → XL E0 41 1 fuel f34_L2 [(1, ii b), (6, ii x6_2), (7, ii x7_2), (19, s0 1 o1.length), (20, ii x20_2), (21, ii x21_2)] [(1, rc (encI .i64) o1 0 3 1), (0, rc (encI .i64) a z0 y0 1)] 2 Q
 | 0, z0, y0, a, b, o1, x6_2, x7_2, x20_2, x21_2, o, h, Q, hQ => by cases h
 | fuel + 1, z0, y0, a, b, o1, x6_2, x7_2, x20_2, x21_2, o, h, Q, hQ => by
  unfold f34_2 at h
  refine XL.succ E0_ok ?_
  refine XQ.seq E0_ok (by kernel_rfl) ?_
  refine XQ.region (by kernel_rfl) ?_
  refine XR.runS E0_ok 1 1 [(1, ii b), (6, ii x6_2), (7, ii x7_2), (19, s0 1 o1.length), (20, ii x20_2), (21, ii x21_2), (22, .bool (decide (x21_2 < x20_2)))] rfl (by kernel_rfl) ?_
  refine XR.done (by kernel_rfl) ?_
  show XQ _ _ _ _ _ _ _ _
  refine XQ.seq E0_ok (by kernel_rfl) ?_
  cases b1 : (decide (x21_2 < x20_2) : Bool) with
  | true =>
   have h := cT b1 h
   refine XQ.cond (s := (.tmp 22)) (b := true) (by kernel_rfl) (by kernel_rfl) (fun _ => ?_) (fun q => by cases q)
   refine XQ.skip (by kernel_rfl) ?_
   show XQ _ _ _ _ _ _ _ _
   refine XQ.seq E0_ok (by kernel_rfl) ?_
   refine XQ.block (id := 1) (by kernel_rfl) ?_
   refine XQ.seq E0_ok (by kernel_rfl) ?_
   refine XQ.region (by kernel_rfl) ?_
   refine XR.runS E0_ok 1 1 [(1, ii b), (6, ii x6_2), (7, ii x7_2), (19, s0 1 o1.length), (20, ii x20_2), (21, ii x21_2), (23, ii x21_2)] rfl (by kernel_rfl) ?_
   cases b2 : (inRow x21_2 o1.length : Bool) with
   | false => cases (cF b2 h)
   | true =>
    have h := cT b2 h
    refine XR.rd E0_ok [1, 6, 7, 19, 20, 21, 23, 24] rfl (v := pp 1 ((Int.toNat x21_2) * 1)) (v_idx (s := 1) (x := (src 41 (.tmp 19))) (y := (src 41 (.tmp 21))) (b := 1) (o := 0) (len := o1.length) (cap := o1.length) (ik := .i64) (i := x21_2) (off := (Int.toNat x21_2) * 1) (d := (some (path 12 24))) (by kernel_rfl) (by kernel_rfl) (by kernel_rfl) b2 (by omega)) (σ' := [(1, ii b), (6, ii x6_2), (7, ii x7_2), (19, s0 1 o1.length), (20, ii x20_2), (21, ii x21_2), (23, ii x21_2), (24, pp 1 ((Int.toNat x21_2) * 1))]) (by kernel_rfl) ?_
    refine XR.rd E0_ok [1, 6, 7, 19, 20, 21, 23, 25] rfl (v := ii (List.getD o1 (Int.toNat x21_2) 0)) (v_load1 (encI_ok .i64) (x := (src 41 (.tmp 24))) (b := 1) (off := (Int.toNat x21_2) * 1) (xs := o1) (fz := 0) (e := 3) (es := 1) (d := (some (path 12 25))) (by kernel_rfl) (by kernel_rfl) (by kernel_rfl) (Int.toNat x21_2) 0 0 (by first | rfl | omega) (row_len (inRow_toNat b2) (by simp)) rfl rfl) (σ' := [(1, ii b), (6, ii x6_2), (7, ii x7_2), (19, s0 1 o1.length), (20, ii x20_2), (21, ii x21_2), (23, ii x21_2), (25, ii (List.getD o1 (Int.toNat x21_2) 0))]) (by kernel_rfl) ?_
    refine XR.runS E0_ok 1 2 [(1, ii b), (6, ii x6_2), (7, ii x7_2), (8, ii x21_2), (9, ii (List.getD o1 (Int.toNat x21_2) 0)), (19, s0 1 o1.length), (20, ii x20_2), (21, ii x21_2)] rfl (by kernel_rfl) ?_
    refine XR.done (by kernel_rfl) ?_
    show XQ _ _ _ _ _ _ _ _
    refine XQ.seq E0_ok (by kernel_rfl) ?_
    refine XQ.region (by kernel_rfl) ?_
    refine XR.runS E0_ok 1 3 [(1, ii b), (6, ii x6_2), (7, ii x7_2), (9, ii (List.getD o1 (Int.toNat x21_2) 0)), (19, s0 1 o1.length), (20, ii x20_2), (21, ii x21_2), (28, .bool (decide (x21_2 < b)))] rfl (by kernel_rfl) ?_
    refine XR.done (by kernel_rfl) ?_
    show XQ _ _ _ _ _ _ _ _
    refine XQ.meetC (σ' := [(1, ii b), (6, ii (cond (decide (x21_2 < b)) (w64 (x6_2 + (List.getD o1 (Int.toNat x21_2) 0))) x6_2)), (7, ii (cond (decide (x21_2 < b)) x7_2 (w64 (x7_2 + (iMin (List.getD o1 (Int.toNat x21_2) 0) b))))), (19, s0 1 o1.length), (20, ii x20_2), (21, ii x21_2)]) (h' := [(1, rc (encI .i64) o1 0 3 1), (0, rc (encI .i64) a z0 y0 1)]) (c' := 2) ?_ ?_
    rotate_left
    ·refine XQ.cond (s := (.tmp 28)) (b := decide (x21_2 < b)) (by kernel_rfl) (by kernel_rfl) (fun b3 => ?_) (fun b3 => ?_)
     ·refine XQ.region (by kernel_rfl) ?_
      refine XR.runS E0_ok 1 4 [(1, ii b), (6, ii (w64 (x6_2 + (List.getD o1 (Int.toNat x21_2) 0)))), (7, ii x7_2), (19, s0 1 o1.length), (20, ii x20_2), (21, ii x21_2)] rfl (by kernel_rfl) ?_
      refine XR.done (by kernel_rfl) ?_
      refine ⟨rfl, ?_, ?_⟩
      ·try rw [b3]
       exact ⟨by kernel_rfl, by kernel_rfl, by kernel_rfl, by kernel_rfl, by kernel_rfl, by kernel_rfl, trivial⟩
      ·try rw [b3]
       kernel_rfl
     ·refine XQ.region (by kernel_rfl) ?_
      refine XR.runS E0_ok 1 6 [(1, ii b), (6, ii x6_2), (7, ii (w64 (x7_2 + (iMin (List.getD o1 (Int.toNat x21_2) 0) b)))), (19, s0 1 o1.length), (20, ii x20_2), (21, ii x21_2)] rfl (by kernel_rfl) ?_
      refine XR.done (by kernel_rfl) ?_
      refine ⟨rfl, ?_, ?_⟩
      ·try rw [b3]
       exact ⟨by kernel_rfl, by kernel_rfl, by kernel_rfl, by kernel_rfl, by kernel_rfl, by kernel_rfl, trivial⟩
      ·try rw [b3]
       kernel_rfl
    show XQ _ _ _ _ _ _ _ _
    refine XQ.region (by kernel_rfl) ?_
    refine XR.runS E0_ok 1 2 [(1, ii b), (6, ii (cond (decide (x21_2 < b)) (w64 (x6_2 + (List.getD o1 (Int.toNat x21_2) 0))) x6_2)), (7, ii (cond (decide (x21_2 < b)) x7_2 (w64 (x7_2 + (iMin (List.getD o1 (Int.toNat x21_2) 0) b))))), (19, s0 1 o1.length), (20, ii x20_2), (21, ii (w64 (x21_2 + 1)))] rfl (by kernel_rfl) ?_
    refine XR.done (by kernel_rfl) ?_
    show XL _ _ _ _ _ _ _ _ _
    refine XL.ren (σ' := [(1, ii b), (6, ii (cond (decide (x21_2 < b)) (w64 (x6_2 + (List.getD o1 (Int.toNat x21_2) 0))) x6_2)), (7, ii (cond (decide (x21_2 < b)) x7_2 (w64 (x7_2 + (iMin (List.getD o1 (Int.toNat x21_2) 0) b))))), (19, s0 1 o1.length), (20, ii x20_2), (21, ii (w64 (x21_2 + 1)))]) (h' := [(1, rc (encI .i64) o1 0 3 1), (0, rc (encI .i64) a z0 y0 1)]) (c' := 2) [0, 1] (by decide) rfl ⟨by kernel_rfl, by kernel_rfl, by kernel_rfl, by kernel_rfl, by kernel_rfl, by kernel_rfl, trivial⟩ ⟨⟨_, _, rfl, rfl, .inl ⟨rfl, rowC_scal (encI_ok .i64) _⟩⟩, ⟨_, _, rfl, rfl, .inl ⟨rfl, rowC_scal (encI_ok .i64) _⟩⟩, trivial⟩ rfl ?_
    refine XL.conv (f34_2_ok m fuel z0 y0 a b o1 (cond (decide (x21_2 < b)) (w64 (x6_2 + (List.getD o1 (Int.toNat x21_2) 0))) x6_2) (cond (decide (x21_2 < b)) x7_2 (w64 (x7_2 + (iMin (List.getD o1 (Int.toNat x21_2) 0) b)))) x20_2 (w64 (x21_2 + 1)) o h Q hQ) (by first | rfl | simp)
  | false =>
   have h := cF b1 h
   refine XQ.cond (s := (.tmp 22)) (b := false) (by kernel_rfl) (by kernel_rfl) (fun q => by cases q) (fun _ => ?_)
   refine XQ.ren (σ' := [(6, ii x6_2), (7, ii x7_2)]) (h' := [(0, rc (encI .i64) a z0 y0 1)]) (c' := 1) [0] (by decide) rfl ⟨by kernel_rfl, by kernel_rfl, trivial⟩ ⟨⟨_, _, rfl, rfl, .inl ⟨rfl, rowC_scal (encI_ok .i64) _⟩⟩, trivial⟩ rfl ?_
   refine XQ.exit (i := 0) (by kernel_rfl) ?_
   cases h
   exact hQ

def f34 (m : Nat) (a : List Int) (b : Int) : Option (Bool) :=
 cond (Nat.ble a.length 1000000) (
  (f34_1 m m a 0 (w64 ((((sortI a).length : Nat) : Int) - 1)) (sortI a)).bind fun o1 =>
   cond (decide ((sortI a).length = o1.length)) (
    (f34_2 m m a b o1 0 (w64 (b * (w64 (b - 1)))) ((o1.length : Nat) : Int) 0).bind fun o2 =>
     some (decide (o2.1 > o2.2))
   ) none
 ) none

theorem f34_ok (m : Nat) (z0 : Nat) (y0 : Nat) (a : List Int) (b : Int) (o : Bool) (h : f34 m a b = some o) : KC E0 34 [s0 0 a.length, ii b] [(0, rc (encI .i64) a z0 y0 1)] 1 (fun v _ _ => v = .bool o) := by
 refine KC.bodyN E0_ok (F := Proofs.Tryd.f34) (by kernel_rfl) (code := f34_C34) (by kernel_rfl) (nt := 41) (by kernel_rfl) (rs := [.tmp 4]) (by kernel_rfl) (by kernel_rfl) (σ := [(0, s0 0 a.length), (1, ii b)]) (by kernel_rfl) ?_
 unfold f34 at h
 refine XQ.seq E0_ok (by kernel_rfl) ?_
 refine XQ.region (by kernel_rfl) ?_
 refine XR.runS E0_ok 1 1 [(0, s0 0 a.length), (1, ii b)] rfl (by kernel_rfl) ?_
 refine XR.done (by kernel_rfl) ?_
 show XQ _ _ _ _ _ _ _ _
 refine XQ.seq E0_ok (by kernel_rfl) ?_
 refine XQ.region (by kernel_rfl) ?_
 refine XR.runS E0_ok 1 1 [(1, ii b), (10, s0 0 a.length)] rfl (by kernel_rfl) ?_
 refine XR.callK E0_ok [1, 11] rfl (K := 82) (args := [s0 0 a.length]) (d := (some (path 12 11))) (by kernel_rfl) ?_
 refine KC.bodyN E0_ok (F := Proofs.Tryd.f82) (by kernel_rfl) (code := f34_C82) (by kernel_rfl) (nt := 4) (by kernel_rfl) (rs := [.tmp 2]) (by kernel_rfl) (by kernel_rfl) (σ := [(0, s0 0 a.length)]) (by kernel_rfl) ?_
 refine XQ.seq E0_ok (by kernel_rfl) ?_
 refine XQ.region (by kernel_rfl) ?_
 refine XR.runT E0_ok 1 2 [(1, pp 1 0)] [(1, .cells [s0 0 a.length] 0 22 0), (0, rc (encI .i64) a z0 y0 1)] 2 rfl (by kernel_rfl) ?_
 refine XR.done (by kernel_rfl) ?_
 show XQ _ _ _ _ _ _ _ _
 refine XQ.seq E0_ok (by kernel_rfl) ?_
 refine XQ.region (by kernel_rfl) ?_
 refine XR.runS E0_ok 1 2 [(2, .func (.func 105) #[] #[pp 1 0])] rfl (by kernel_rfl) ?_
 refine XR.done (by kernel_rfl) ?_
 show XQ _ _ _ _ _ _ _ _
 refine XQ.ret (by kernel_rfl) ?_
 refine ⟨fun i q => (by cases q), .func (.func 105) #[] #[pp 1 0], (by kernel_rfl), ?_⟩
 refine XR.conv (σ' := [(1, ii b), (11, .func (.func 105) #[] #[pp 1 0])]) (h' := [(1, .cells [s0 0 a.length] 0 22 0), (0, rc (encI .i64) a z0 y0 1)]) (c' := 2) ?_ (by kernel_rfl)
 cases b1 : (Nat.ble a.length 1000000 : Bool) with
 | false => cases (cF b1 h)
 | true =>
  have h := cT b1 h
  refine XR.call E0_ok [1, 12] rfl (K := 81) (args := [.func (.func 105) #[] #[pp 1 0]]) (d := (some (path 12 12))) (by kernel_rfl) (sorted_row (c := 2) (b := 1) (V := s0 0 a.length) (ys := a) (n := a.length) (fz1 := 0) (e1 := 22) (es1 := 0) (by kernel_rfl) rfl (fetch_all (encI_ok .i64) (ys := a) (fz := z0) (e := y0) (es := 1) (by kernel_rfl) (by simp) (Nat.le_refl _)) b1) ?_
  rintro _ _ _ ⟨rfl, rfl, rfl⟩
  refine XR.conv (σ' := [(1, ii b), (12, s0 2 ((sortI a).length))]) (h' := [(2, rc (encI .i64) (sortI a) 0 3 1), (1, .cells [s0 0 a.length] 0 22 0), (0, rc (encI .i64) a z0 y0 1)]) (c' := 3) ?_ (by kernel_rfl)
  refine XR.runS E0_ok 1 1 [(1, ii b), (5, s0 2 ((sortI a).length))] rfl (by kernel_rfl) ?_
  refine XR.done (by kernel_rfl) ?_
  show XQ _ _ _ _ _ _ _ _
  refine XQ.seq E0_ok (by kernel_rfl) ?_
  refine XQ.region (by kernel_rfl) ?_
  refine XR.runS E0_ok 1 1 [(1, ii b), (5, s0 2 ((sortI a).length)), (13, s0 2 ((sortI a).length))] rfl (by kernel_rfl) ?_
  refine XR.callK E0_ok [1, 5] rfl (K := 83) (args := [s0 2 ((sortI a).length)]) (d := (some (path 12 14))) (by kernel_rfl) ?_
  refine KC.bodyN E0_ok (F := Proofs.Tryd.f83) (by kernel_rfl) (code := f34_C83) (by kernel_rfl) (nt := 28) (by kernel_rfl) (rs := []) (by kernel_rfl) (by kernel_rfl) (σ := [(0, s0 2 ((sortI a).length))]) (by kernel_rfl) ?_
  refine XQ.seq E0_ok (by kernel_rfl) ?_
  refine XQ.region (by kernel_rfl) ?_
  refine XR.runS E0_ok 1 5 [(0, s0 2 ((sortI a).length)), (2, ii 0), (3, ii (w64 ((((sortI a).length : Nat) : Int) - 1)))] rfl (by kernel_rfl) ?_
  refine XR.done (by kernel_rfl) ?_
  show XQ _ _ _ _ _ _ _ _
  refine XQ.block (id := 0) (by kernel_rfl) ?_
  refine XQ.loop m (by kernel_rfl) ?_
  obtain ⟨o1, o1_h, h⟩ := bS h
  refine XL.ren (σ' := [(0, s0 2 ((sortI a).length)), (2, ii 0), (3, ii (w64 ((((sortI a).length : Nat) : Int) - 1)))]) (h' := [(2, rc (encI .i64) (sortI a) 0 3 1), (1, .cells [s0 0 a.length] 0 22 0), (0, rc (encI .i64) a z0 y0 1)]) (c' := 3) [0, 1, 2] (by decide) rfl ⟨by kernel_rfl, by kernel_rfl, by kernel_rfl, trivial⟩ ⟨⟨_, _, rfl, rfl, .inl ⟨rfl, rowC_scal (encI_ok .i64) _⟩⟩, ⟨_, _, rfl, rfl, .inr ⟨_, _, _, _, rfl, rfl⟩⟩, ⟨_, _, rfl, rfl, .inl ⟨rfl, rowC_scal (encI_ok .i64) _⟩⟩, trivial⟩ rfl ?_
  refine XL.conv (f34_1_ok m m z0 y0 a 0 (w64 ((((sortI a).length : Nat) : Int) - 1)) (sortI a) o1 o1_h _ ?_) (by first | rfl | simp)
  refine ⟨fun i q => (by cases q), .tuple #[], (by kernel_rfl), ?_⟩
  refine XR.conv (σ' := [(1, ii b), (5, s0 2 ((sortI a).length))]) (h' := [(2, rc (encI .i64) o1 0 3 1), (1, .cells [s0 0 a.length] 0 22 0), (0, rc (encI .i64) a z0 y0 1)]) (c' := 3) ?_ (by kernel_rfl)
  cases b3 : (decide ((sortI a).length = o1.length) : Bool) with
  | false => cases (cF b3 h)
  | true =>
   have h := cT b3 h
   refine XR.conv (σ' := [(1, ii b), (5, s0 2 o1.length)]) (h' := [(2, rc (encI .i64) o1 0 3 1), (1, .cells [s0 0 a.length] 0 22 0), (0, rc (encI .i64) a z0 y0 1)]) (c' := 3) ?_ (by rw [of_decide_eq_true b3])
   refine XR.done (by kernel_rfl) ?_
   show XQ _ _ _ _ _ _ _ _
   refine XQ.seq E0_ok (by kernel_rfl) ?_
   refine XQ.region (by kernel_rfl) ?_
   refine XR.runS E0_ok 1 6 [(1, ii b), (5, s0 2 o1.length), (6, ii 0), (7, ii (w64 (b * (w64 (b - 1)))))] rfl (by kernel_rfl) ?_
   refine XR.done (by kernel_rfl) ?_
   show XQ _ _ _ _ _ _ _ _
   refine XQ.seq E0_ok (by kernel_rfl) ?_
   refine XQ.seq E0_ok (by kernel_rfl) ?_
   refine XQ.region (by kernel_rfl) ?_
   refine XR.runS E0_ok 1 3 [(1, ii b), (6, ii 0), (7, ii (w64 (b * (w64 (b - 1))))), (19, s0 2 o1.length), (20, ii ((o1.length : Nat) : Int)), (21, ii 0)] rfl (by kernel_rfl) ?_
   refine XR.done (by kernel_rfl) ?_
   show XQ _ _ _ _ _ _ _ _
   refine XQ.block (id := 0) (by kernel_rfl) ?_
   refine XQ.loop m (by kernel_rfl) ?_
   obtain ⟨o2, o2_h, h⟩ := bS h
   refine XL.ren (σ' := [(1, ii b), (6, ii 0), (7, ii (w64 (b * (w64 (b - 1))))), (19, s0 1 o1.length), (20, ii ((o1.length : Nat) : Int)), (21, ii 0)]) (h' := [(1, rc (encI .i64) o1 0 3 1), (0, rc (encI .i64) a z0 y0 1)]) (c' := 2) [0, 2] (by decide) rfl ⟨by kernel_rfl, by kernel_rfl, by kernel_rfl, by kernel_rfl, by kernel_rfl, by kernel_rfl, trivial⟩ ⟨⟨_, _, rfl, rfl, .inl ⟨rfl, rowC_scal (encI_ok .i64) _⟩⟩, ⟨_, _, rfl, rfl, .inl ⟨rfl, rowC_scal (encI_ok .i64) _⟩⟩, trivial⟩ rfl ?_
   refine XL.conv (f34_2_ok m m z0 y0 a b o1 0 (w64 (b * (w64 (b - 1)))) ((o1.length : Nat) : Int) 0 o2 o2_h _ ?_) (by first | rfl | simp)
   show XQ _ _ _ _ _ _ _ _
   refine XQ.seq E0_ok (by kernel_rfl) ?_
   refine XQ.region (by kernel_rfl) ?_
   refine XR.runS E0_ok 1 4 [(4, .bool (decide (o2.1 > o2.2)))] rfl (by kernel_rfl) ?_
   refine XR.done (by kernel_rfl) ?_
   show XQ _ _ _ _ _ _ _ _
   refine XQ.ret (by kernel_rfl) ?_
   have h := Option.some.inj h
   subst h
   exact ⟨fun i q => (by cases q), .bool (decide (o2.1 > o2.2)), (by kernel_rfl), rfl⟩

/-! vitola/vitolalaw12.total -/
noncomputable def f35_C35 : Code := Proofs.Tryd.f35.body.getD .skip
noncomputable def f35_L1 : Code := lft (lft (rgt (lft (rgt (rgt f35_C35)))))

def f35_1 (m : Nat) : Nat → List Int → Int → Int → Int → Option Int
 | 0, _, _, _, _ => none
 | fuel + 1, a, x3_1, x7_1, x8_1 =>
  cond (decide (x8_1 < x7_1)) (
   cond (inRow x8_1 a.length) (
    f35_1 m fuel a (w64 (x3_1 + (List.getD a (Int.toNat x8_1) 0))) x7_1 (w64 (x8_1 + 1))
   ) none
  ) (
   some (x3_1)
  )

theorem f35_1_ok (m : Nat) : ∀ (fuel : Nat) (z0 : Nat) (y0 : Nat) (a : List Int) (x3_1 : Int) (x7_1 : Int) (x8_1 : Int) (o : Int), f35_1 m fuel a x3_1 x7_1 x8_1 = some o → ∀ Q : QP, Q (.exit 0) [(3, ii o)] [(0, rc (encI .i64) a z0 y0 1)] 1 → XL E0 17 1 fuel f35_L1 [(3, ii x3_1), (6, s0 0 a.length), (7, ii x7_1), (8, ii x8_1)] [(0, rc (encI .i64) a z0 y0 1)] 1 Q
 | 0, z0, y0, a, x3_1, x7_1, x8_1, o, h, Q, hQ => by cases h
 | fuel + 1, z0, y0, a, x3_1, x7_1, x8_1, o, h, Q, hQ => by
  unfold f35_1 at h
  refine XL.succ E0_ok ?_
  refine XQ.seq E0_ok (by kernel_rfl) ?_
  refine XQ.region (by kernel_rfl) ?_
  refine XR.runS E0_ok 1 1 [(3, ii x3_1), (6, s0 0 a.length), (7, ii x7_1), (8, ii x8_1), (9, .bool (decide (x8_1 < x7_1)))] rfl (by kernel_rfl) ?_
  refine XR.done (by kernel_rfl) ?_
  show XQ _ _ _ _ _ _ _ _
  refine XQ.seq E0_ok (by kernel_rfl) ?_
  cases b1 : (decide (x8_1 < x7_1) : Bool) with
  | true =>
   have h := cT b1 h
   refine XQ.cond (s := (.tmp 9)) (b := true) (by kernel_rfl) (by kernel_rfl) (fun _ => ?_) (fun q => by cases q)
   refine XQ.skip (by kernel_rfl) ?_
   show XQ _ _ _ _ _ _ _ _
   refine XQ.seq E0_ok (by kernel_rfl) ?_
   refine XQ.block (id := 1) (by kernel_rfl) ?_
   refine XQ.seq E0_ok (by kernel_rfl) ?_
   refine XQ.region (by kernel_rfl) ?_
   cases b2 : (inRow x8_1 a.length : Bool) with
   | false => cases (cF b2 h)
   | true =>
    have h := cT b2 h
    refine XR.rd E0_ok [3, 6, 7, 8, 10] rfl (v := pp 0 ((Int.toNat x8_1) * 1)) (v_idx (s := 1) (x := (src 17 (.tmp 6))) (y := (src 17 (.tmp 8))) (b := 0) (o := 0) (len := a.length) (cap := a.length) (ik := .i64) (i := x8_1) (off := (Int.toNat x8_1) * 1) (d := (some (path 12 10))) (by kernel_rfl) (by kernel_rfl) (by kernel_rfl) b2 (by omega)) (σ' := [(3, ii x3_1), (6, s0 0 a.length), (7, ii x7_1), (8, ii x8_1), (10, pp 0 ((Int.toNat x8_1) * 1))]) (by kernel_rfl) ?_
    refine XR.rd E0_ok [3, 6, 7, 8, 11] rfl (v := ii (List.getD a (Int.toNat x8_1) 0)) (v_load1 (encI_ok .i64) (x := (src 17 (.tmp 10))) (b := 0) (off := (Int.toNat x8_1) * 1) (xs := a) (fz := z0) (e := y0) (es := 1) (d := (some (path 12 11))) (by kernel_rfl) (by kernel_rfl) (by kernel_rfl) (Int.toNat x8_1) 0 0 (by first | rfl | omega) (row_len (inRow_toNat b2) (by simp)) rfl rfl) (σ' := [(3, ii x3_1), (6, s0 0 a.length), (7, ii x7_1), (8, ii x8_1), (11, ii (List.getD a (Int.toNat x8_1) 0))]) (by kernel_rfl) ?_
    refine XR.runS E0_ok 1 1 [(3, ii x3_1), (5, ii (List.getD a (Int.toNat x8_1) 0)), (6, s0 0 a.length), (7, ii x7_1), (8, ii x8_1)] rfl (by kernel_rfl) ?_
    refine XR.done (by kernel_rfl) ?_
    show XQ _ _ _ _ _ _ _ _
    refine XQ.region (by kernel_rfl) ?_
    refine XR.runS E0_ok 1 4 [(3, ii (w64 (x3_1 + (List.getD a (Int.toNat x8_1) 0)))), (6, s0 0 a.length), (7, ii x7_1), (8, ii x8_1)] rfl (by kernel_rfl) ?_
    refine XR.done (by kernel_rfl) ?_
    show XQ _ _ _ _ _ _ _ _
    refine XQ.region (by kernel_rfl) ?_
    refine XR.runS E0_ok 1 2 [(3, ii (w64 (x3_1 + (List.getD a (Int.toNat x8_1) 0)))), (6, s0 0 a.length), (7, ii x7_1), (8, ii (w64 (x8_1 + 1)))] rfl (by kernel_rfl) ?_
    refine XR.done (by kernel_rfl) ?_
    show XL _ _ _ _ _ _ _ _ _
    refine XL.ren (σ' := [(3, ii (w64 (x3_1 + (List.getD a (Int.toNat x8_1) 0)))), (6, s0 0 a.length), (7, ii x7_1), (8, ii (w64 (x8_1 + 1)))]) (h' := [(0, rc (encI .i64) a z0 y0 1)]) (c' := 1) [0] (by decide) rfl ⟨by kernel_rfl, by kernel_rfl, by kernel_rfl, by kernel_rfl, trivial⟩ ⟨⟨_, _, rfl, rfl, .inl ⟨rfl, rowC_scal (encI_ok .i64) _⟩⟩, trivial⟩ rfl ?_
    refine XL.conv (f35_1_ok m fuel z0 y0 a (w64 (x3_1 + (List.getD a (Int.toNat x8_1) 0))) x7_1 (w64 (x8_1 + 1)) o h Q hQ) (by first | rfl | simp)
  | false =>
   have h := cF b1 h
   refine XQ.cond (s := (.tmp 9)) (b := false) (by kernel_rfl) (by kernel_rfl) (fun q => by cases q) (fun _ => ?_)
   refine XQ.ren (σ' := [(3, ii x3_1)]) (h' := [(0, rc (encI .i64) a z0 y0 1)]) (c' := 1) [0] (by decide) rfl ⟨by kernel_rfl, trivial⟩ ⟨⟨_, _, rfl, rfl, .inl ⟨rfl, rowC_scal (encI_ok .i64) _⟩⟩, trivial⟩ rfl ?_
   refine XQ.exit (i := 0) (by kernel_rfl) ?_
   cases h
   exact hQ

def f35 (m : Nat) (a : List Int) : Option (Int) :=
 (f35_1 m m a 0 ((a.length : Nat) : Int) 0).bind fun o1 =>
  some (o1)

theorem f35_ok (m : Nat) (z0 : Nat) (y0 : Nat) (a : List Int) (o : Int) (h : f35 m a = some o) : KC E0 35 [s0 0 a.length] [(0, rc (encI .i64) a z0 y0 1)] 1 (fun v _ _ => v = ii o) := by
 refine KC.bodyN E0_ok (F := Proofs.Tryd.f35) (by kernel_rfl) (code := f35_C35) (by kernel_rfl) (nt := 17) (by kernel_rfl) (rs := [.tmp 2]) (by kernel_rfl) (by kernel_rfl) (σ := [(0, s0 0 a.length)]) (by kernel_rfl) ?_
 unfold f35 at h
 refine XQ.seq E0_ok (by kernel_rfl) ?_
 refine XQ.region (by kernel_rfl) ?_
 refine XR.runS E0_ok 1 1 [(0, s0 0 a.length)] rfl (by kernel_rfl) ?_
 refine XR.done (by kernel_rfl) ?_
 show XQ _ _ _ _ _ _ _ _
 refine XQ.seq E0_ok (by kernel_rfl) ?_
 refine XQ.region (by kernel_rfl) ?_
 refine XR.runS E0_ok 1 1 [(0, s0 0 a.length), (3, ii 0)] rfl (by kernel_rfl) ?_
 refine XR.done (by kernel_rfl) ?_
 show XQ _ _ _ _ _ _ _ _
 refine XQ.seq E0_ok (by kernel_rfl) ?_
 refine XQ.seq E0_ok (by kernel_rfl) ?_
 refine XQ.region (by kernel_rfl) ?_
 refine XR.runS E0_ok 1 3 [(3, ii 0), (6, s0 0 a.length), (7, ii ((a.length : Nat) : Int)), (8, ii 0)] rfl (by kernel_rfl) ?_
 refine XR.done (by kernel_rfl) ?_
 show XQ _ _ _ _ _ _ _ _
 refine XQ.block (id := 0) (by kernel_rfl) ?_
 refine XQ.loop m (by kernel_rfl) ?_
 obtain ⟨o1, o1_h, h⟩ := bS h
 refine XL.ren (σ' := [(3, ii 0), (6, s0 0 a.length), (7, ii ((a.length : Nat) : Int)), (8, ii 0)]) (h' := [(0, rc (encI .i64) a z0 y0 1)]) (c' := 1) [0] (by decide) rfl ⟨by kernel_rfl, by kernel_rfl, by kernel_rfl, by kernel_rfl, trivial⟩ ⟨⟨_, _, rfl, rfl, .inl ⟨rfl, rowC_scal (encI_ok .i64) _⟩⟩, trivial⟩ rfl ?_
 refine XL.conv (f35_1_ok m m z0 y0 a 0 ((a.length : Nat) : Int) 0 o1 o1_h _ ?_) (by first | rfl | simp)
 show XQ _ _ _ _ _ _ _ _
 refine XQ.seq E0_ok (by kernel_rfl) ?_
 refine XQ.region (by kernel_rfl) ?_
 refine XR.runS E0_ok 1 2 [(2, ii o1)] rfl (by kernel_rfl) ?_
 refine XR.done (by kernel_rfl) ?_
 show XQ _ _ _ _ _ _ _ _
 refine XQ.ret (by kernel_rfl) ?_
 have h := Option.some.inj h
 subst h
 exact ⟨fun i q => (by cases q), ii o1, (by kernel_rfl), rfl⟩

end Go.Xm
namespace Go.Xm
open Go.RowKit
set_option linter.unusedVariables false
set_option linter.unusedSimpArgs false
set_option maxRecDepth 20000

/-! vitola/vitolalaw12.ClubGallai -/
noncomputable def f6_C6 : Code := Proofs.Tryd.f6.body.getD .skip
noncomputable def f6_L1 : Code := lft (lft (rgt (lft (rgt (rgt (rgt f6_C6))))))
noncomputable def f6_L2 : Code := lft (lft (rgt (lft (rgt (rgt (rgt (rgt (rgt f6_C6))))))))
noncomputable def f6_L3 : Code := lft (lft (rgt (lft (rgt (rgt (rgt (rgt (rgt (rgt f6_C6)))))))))
noncomputable def f6_L4 : Code := lft (lft (rgt (lft (rgt (rgt (lft (lft (rgt (rgt f6_L3)))))))))
noncomputable def f6_L5 : Code := lft (lft (rgt (lft (rgt (rgt (rgt (rgt (rgt (rgt (lft (lft (rgt (rgt f6_L3)))))))))))))

def f6_1 (m : Nat) : Nat → Int → Int → Int → List (List Int × Bool) → Option (Int × (List (List Int × Bool)))
 | 0, _, _, _, _ => none
 | fuel + 1, x3_1, x31_1, x32_1, mh0_1 =>
  cond (decide (x32_1 < x31_1)) (
   cond (cutOK 0 ((5 : Nat) : Int) ((5 : Nat) : Int) 5) (
    (f33 m x3_1 x32_1).bind fun r13 =>
     (f32 m r13.1 r13.2).bind fun r14 =>
      cond (Nat.ble r14.length 5 && Nat.ble r14.length [0, 0, 0, 0, 0].length) (
       cond (decide ((r14 ++ List.drop r14.length [0, 0, 0, 0, 0]).length = 5)) (
        cond (Nat.beq (r14 ++ List.drop r14.length [0, 0, 0, 0, 0]).length 5 && lensA 5 mh0_1) (
         f6_1 m fuel x3_1 x31_1 (IntKind.wrap .u32 (x32_1 + 1)) (putA mh0_1 (r14 ++ List.drop r14.length [0, 0, 0, 0, 0]) true)
        ) none
       ) none
      ) none
   ) none
  ) (
   some (x3_1, mh0_1)
  )

theorem f6_1_ok (m : Nat) : ∀ (fuel : Nat) (x3_1 : Int) (x31_1 : Int) (x32_1 : Int) (mh0_1 : List (List Int × Bool)) (o : (Int × (List (List Int × Bool)))), f6_1 m fuel x3_1 x31_1 x32_1 mh0_1 = some o → ∀ Q : QP, Q (.exit 0) [(3, ii o.1), (4, .map (some 0))] [(0, .imap (imA Value.bool o.2))] 1 → XL E0 151 0 fuel f6_L1 [(3, ii x3_1), (4, .map (some 0)), (31, .int .u32 x31_1), (32, .int .u32 x32_1)] [(0, .imap (imA Value.bool mh0_1))] 1 Q
 | 0, x3_1, x31_1, x32_1, mh0_1, o, h, Q, hQ => by cases h
 | fuel + 1, x3_1, x31_1, x32_1, mh0_1, o, h, Q, hQ => by
  unfold f6_1 at h
  refine XL.succ E0_ok ?_
  refine XQ.seq E0_ok (by kernel_rfl) ?_
  refine XQ.region (by kernel_rfl) ?_
  refine XR.runS E0_ok 1 1 [(3, ii x3_1), (4, .map (some 0)), (31, .int .u32 x31_1), (32, .int .u32 x32_1), (33, .bool (decide (x32_1 < x31_1)))] rfl (by kernel_rfl) ?_
  refine XR.done (by kernel_rfl) ?_
  show XQ _ _ _ _ _ _ _ _
  refine XQ.seq E0_ok (by kernel_rfl) ?_
  cases b1 : (decide (x32_1 < x31_1) : Bool) with
  | true =>
   have h := cT b1 h
   refine XQ.cond (s := (.tmp 33)) (b := true) (by kernel_rfl) (by kernel_rfl) (fun _ => ?_) (fun q => by cases q)
   refine XQ.skip (by kernel_rfl) ?_
   show XQ _ _ _ _ _ _ _ _
   refine XQ.seq E0_ok (by kernel_rfl) ?_
   refine XQ.block (id := 1) (by kernel_rfl) ?_
   refine XQ.seq E0_ok (by kernel_rfl) ?_
   refine XQ.region (by kernel_rfl) ?_
   refine XR.runS E0_ok 1 2 [(3, ii x3_1), (4, .map (some 0)), (5, .int .u32 x32_1), (31, .int .u32 x31_1), (32, .int .u32 x32_1)] rfl (by kernel_rfl) ?_
   refine XR.done (by kernel_rfl) ?_
   show XQ _ _ _ _ _ _ _ _
   refine XQ.seq E0_ok (by kernel_rfl) ?_
   refine XQ.region (by kernel_rfl) ?_
   refine XR.runT E0_ok 1 1 [(3, ii x3_1), (4, .map (some 0)), (5, .int .u32 x32_1), (6, pp 1 0), (31, .int .u32 x31_1), (32, .int .u32 x32_1)] [(1, .cells [ii 0, ii 0, ii 0, ii 0, ii 0] 0 47 0), (0, .imap (imA Value.bool mh0_1))] 2 rfl (by kernel_rfl) ?_
   refine XR.done (by kernel_rfl) ?_
   show XQ _ _ _ _ _ _ _ _
   refine XQ.seq E0_ok (by kernel_rfl) ?_
   cases b2 : (cutOK 0 ((5 : Nat) : Int) ((5 : Nat) : Int) 5 : Bool) with
   | false => cases (cF b2 h)
   | true =>
    have h := cT b2 h
    obtain ⟨r13, r13_h, h⟩ := bS h
    obtain ⟨r14, r14_h, h⟩ := bS h
    cases b3 : (Nat.ble r14.length 5 && Nat.ble r14.length [0, 0, 0, 0, 0].length : Bool) with
    | false => cases (cF b3 h)
    | true =>
     have h := cT b3 h
     refine XQ.preA E0_ok [1, 2] (by kernel_rfl) (g := 4) (listed := #[false, true, true, false, false, false]) (by kernel_rfl) (by kernel_rfl) (by kernel_rfl) (by kernel_rfl) (by kernel_rfl) (σ' := [(3, ii x3_1), (4, .map (some 0)), (6, pp 1 0), (31, .int .u32 x31_1), (32, .int .u32 x32_1)]) (h' := [(1, rc (encI .i64) (r14 ++ List.drop r14.length [0, 0, 0, 0, 0]) 0 47 0), (0, .imap (imA Value.bool mh0_1))]) (c' := 2) ?_ ?_
     ·show XQ _ _ _ _ _ _ _ _
      refine XQ.region (by kernel_rfl) ?_
      refine XR.runS E0_ok 1 1 [(3, ii x3_1), (4, .map (some 0)), (6, pp 1 0), (31, .int .u32 x31_1), (32, .int .u32 x32_1), (41, .map (some 0))] rfl (by kernel_rfl) ?_
      cases b4 : (decide ((r14 ++ List.drop r14.length [0, 0, 0, 0, 0]).length = 5) : Bool) with
      | false => cases (cF b4 h)
      | true =>
       have h := cT b4 h
       refine XR.rd E0_ok [3, 4, 31, 32, 41, 42] rfl (v := .agg (rowC (encI .i64) (r14 ++ List.drop r14.length [0, 0, 0, 0, 0])).toArray) (v_loadA (n := 5) (x := (src 151 (.tmp 6))) (b := 1) (L := r14 ++ List.drop r14.length [0, 0, 0, 0, 0]) (fz := 0) (e := 47) (es := 0) (d := (some (path 12 42))) (by kernel_rfl) (by kernel_rfl) (by kernel_rfl) b4) (σ' := [(3, ii x3_1), (4, .map (some 0)), (31, .int .u32 x31_1), (32, .int .u32 x32_1), (41, .map (some 0)), (42, .agg (rowC (encI .i64) (r14 ++ List.drop r14.length [0, 0, 0, 0, 0])).toArray)]) (by kernel_rfl) ?_
       cases b5 : (Nat.beq (r14 ++ List.drop r14.length [0, 0, 0, 0, 0]).length 5 && lensA 5 mh0_1 : Bool) with
       | false => cases (cF b5 h)
       | true =>
        have h := cT b5 h
        refine XR.ef E0_ok [3, 4, 31, 32] rfl (e_mputA Value.bool (n := 5) (m := (src 151 (.tmp 41))) (i := (src 151 (.tmp 42))) (x := (src 151 (.const (.bool true)))) (d := none) (b := 0) (k := r14 ++ List.drop r14.length [0, 0, 0, 0, 0]) (l := mh0_1) (a := true) (h' := [(1, rc (encI .i64) (r14 ++ List.drop r14.length [0, 0, 0, 0, 0]) 0 47 0), (0, .imap (imA Value.bool (putA mh0_1 (r14 ++ List.drop r14.length [0, 0, 0, 0, 0]) true)))]) (by kernel_rfl) (by kernel_rfl) (by kernel_rfl) rfl (by kernel_rfl) b5 (by kernel_rfl) rfl rfl) (σ' := [(3, ii x3_1), (4, .map (some 0)), (31, .int .u32 x31_1), (32, .int .u32 x32_1)]) (by kernel_rfl) ?_
        refine XR.done (by kernel_rfl) ?_
        show XQ _ _ _ _ _ _ _ _
        refine XQ.region (by kernel_rfl) ?_
        refine XR.runS E0_ok 1 2 [(3, ii x3_1), (4, .map (some 0)), (31, .int .u32 x31_1), (32, .int .u32 (IntKind.wrap .u32 (x32_1 + 1)))] rfl (by kernel_rfl) ?_
        refine XR.done (by kernel_rfl) ?_
        show XL _ _ _ _ _ _ _ _ _
        refine XL.ren (σ' := [(3, ii x3_1), (4, .map (some 0)), (31, .int .u32 x31_1), (32, .int .u32 (IntKind.wrap .u32 (x32_1 + 1)))]) (h' := [(0, .imap (imA Value.bool (putA mh0_1 (r14 ++ List.drop r14.length [0, 0, 0, 0, 0]) true)))]) (c' := 1) [0] (by decide) rfl ⟨by kernel_rfl, by kernel_rfl, by kernel_rfl, by kernel_rfl, trivial⟩ ⟨⟨_, _, rfl, rfl, .inl ⟨rfl, trivial⟩⟩, trivial⟩ rfl ?_
        refine XL.conv (f6_1_ok m fuel x3_1 x31_1 (IntKind.wrap .u32 (x32_1 + 1)) (putA mh0_1 (r14 ++ List.drop r14.length [0, 0, 0, 0, 0]) true) o h Q hQ) (by first | rfl | simp)
     ·have xa4 : XA E0 151 0 (opsOf (lft (rgt (rgt (lft (lft (rgt (rgt f6_L1)))))))) 0 #[true, true, true, true, true, true] [(3, ii x3_1), (4, .map (some 0)), (6, pp 1 0), (31, .int .u32 x31_1), (32, .int .u32 x32_1)] [(1, rc (encI .i64) (r14 ++ List.drop r14.length [0, 0, 0, 0, 0]) 0 47 0), (0, .imap (imA Value.bool mh0_1))] 2 (fun xe xσ xh xc => xe = .normal ∧ (xσ, xh, xc) = ([(3, ii x3_1), (4, .map (some 0)), (6, pp 1 0), (31, .int .u32 x31_1), (32, .int .u32 x32_1)], [(1, rc (encI .i64) (r14 ++ List.drop r14.length [0, 0, 0, 0, 0]) 0 47 0), (0, .imap (imA Value.bool mh0_1))], 2)) := by
       exact XA.done (by kernel_rfl) ⟨rfl, rfl⟩
      have xa3 : XA E0 151 0 (opsOf (lft (rgt (rgt (lft (lft (rgt (rgt f6_L1)))))))) 1 #[true, true, true, true, true, false] [(3, ii x3_1), (4, .map (some 0)), (6, pp 1 0), (31, .int .u32 x31_1), (32, .int .u32 x32_1), (35, s0 1 5), (39, s0 2 r14.length)] [(2, rc (encI .i64) r14 0 3 1), (1, rc (encI .i64) [0, 0, 0, 0, 0] 0 47 0), (0, .imap (imA Value.bool mh0_1))] 3 (fun xe xσ xh xc => xe = .normal ∧ (xσ, xh, xc) = ([(3, ii x3_1), (4, .map (some 0)), (6, pp 1 0), (31, .int .u32 x31_1), (32, .int .u32 x32_1)], [(1, rc (encI .i64) (r14 ++ List.drop r14.length [0, 0, 0, 0, 0]) 0 47 0), (0, .imap (imA Value.bool mh0_1))], 2)) := by
       refine XA.step E0_ok [5] (by kernel_rfl) rfl (by kernel_rfl) ⟨?_, trivial⟩
       ·refine XR.ef E0_ok [3, 4, 6, 31, 32] rfl (e_copy (s := (src 151 (.tmp 35))) (x := (src 151 (.tmp 39))) (d := (some (path 12 40))) (b := 1) (len := 5) (cap := 5) (L := [0, 0, 0, 0, 0]) (ys := r14) (e := 47) (es := 0) (V := s0 2 r14.length) (h' := [(2, rc (encI .i64) r14 0 3 1), (1, rc (encI .i64) (r14 ++ List.drop r14.length [0, 0, 0, 0, 0]) 0 47 0), (0, .imap (imA Value.bool mh0_1))]) (by kernel_rfl) (by kernel_rfl) (by kernel_rfl) (fetch_all (encI_ok .i64) (ys := r14) (fz := 0) (e := 3) (es := 1) (by kernel_rfl) (by first | rfl | simp) (Nat.le_refl _)) (by kernel_rfl) b3 (by kernel_rfl)) (σ' := [(3, ii x3_1), (4, .map (some 0)), (6, pp 1 0), (31, .int .u32 x31_1), (32, .int .u32 x32_1)]) (by kernel_rfl) ?_
        refine XR.done (by kernel_rfl) ?_
        refine ⟨rfl, ?_⟩
        show XA _ _ _ _ _ _ _ _ _ _
        refine XA.ren (σ' := [(3, ii x3_1), (4, .map (some 0)), (6, pp 1 0), (31, .int .u32 x31_1), (32, .int .u32 x32_1)]) (h' := [(1, rc (encI .i64) (r14 ++ List.drop r14.length [0, 0, 0, 0, 0]) 0 47 0), (0, .imap (imA Value.bool mh0_1))]) (c' := 2) [0, 1] (by decide) rfl ⟨by kernel_rfl, by kernel_rfl, by kernel_rfl, by kernel_rfl, by kernel_rfl, trivial⟩ ⟨⟨_, _, rfl, rfl, .inl ⟨rfl, rowC_scal (encI_ok .i64) _⟩⟩, ⟨_, _, rfl, rfl, .inl ⟨rfl, trivial⟩⟩, trivial⟩ rfl ?_
        exact xa4
      have xa2 : XA E0 151 0 (opsOf (lft (rgt (rgt (lft (lft (rgt (rgt f6_L1)))))))) 2 #[true, true, true, true, false, false] [(3, ii x3_1), (4, .map (some 0)), (6, pp 1 0), (31, .int .u32 x31_1), (32, .int .u32 x32_1), (35, s0 1 5), (38, .agg #[ii r13.1, s0 2 r13.2.length])] [(2, rc encP r13.2 0 55 2), (1, rc (encI .i64) [0, 0, 0, 0, 0] 0 47 0), (0, .imap (imA Value.bool mh0_1))] 3 (fun xe xσ xh xc => xe = .normal ∧ (xσ, xh, xc) = ([(3, ii x3_1), (4, .map (some 0)), (6, pp 1 0), (31, .int .u32 x31_1), (32, .int .u32 x32_1)], [(1, rc (encI .i64) (r14 ++ List.drop r14.length [0, 0, 0, 0, 0]) 0 47 0), (0, .imap (imA Value.bool mh0_1))], 2)) := by
       refine XA.step E0_ok [4] (by kernel_rfl) rfl (by kernel_rfl) ⟨?_, trivial⟩
       ·refine XR.call E0_ok [3, 4, 6, 31, 32, 35, 39] rfl (K := 32) (args := [.agg #[ii r13.1, s0 2 r13.2.length]]) (d := (some (path 12 39))) (by kernel_rfl) (KC.liftH (n0 := 1) (m := 1) (args0 := [.agg #[ii r13.1, s0 0 r13.2.length]]) (h0 := [(0, rc encP r13.2 (0 + ((rowC encP r13.2).length + 1)) 55 2)]) (V := s0 1 r14.length) (V2 := s0 3 r14.length) (H := [(1, rc (encI .i64) r14 0 3 1)]) (H2 := [(3, rc (encI .i64) r14 0 3 1)]) [2] [2, 3, 4, 1] (f32_ok m (0 + ((rowC encP r13.2).length + 1)) 55 r13.1 r13.2 r14 r14_h) (by rfl) (by decide) rfl (by kernel_rfl) ⟨⟨_, _, rfl, rfl, .inl ⟨rfl, rowC_scal encP_ok _⟩⟩, trivial⟩ (by decide) (by decide) (by kernel_rfl) ⟨⟨_, _, rfl, rfl, .inl ⟨rfl, rowC_scal (encI_ok .i64) _⟩⟩, trivial⟩ (by rfl)) ?_
        rintro _ _ _ ⟨rfl, rfl, rfl⟩
        refine XR.conv (σ' := [(3, ii x3_1), (4, .map (some 0)), (6, pp 1 0), (31, .int .u32 x31_1), (32, .int .u32 x32_1), (35, s0 1 5), (39, s0 3 r14.length)]) (h' := [(3, rc (encI .i64) r14 0 3 1), (2, rc encP r13.2 0 55 2), (1, rc (encI .i64) [0, 0, 0, 0, 0] 0 47 0), (0, .imap (imA Value.bool mh0_1))]) (c' := 4) ?_ (by kernel_rfl)
        refine XR.done (by kernel_rfl) ?_
        refine ⟨rfl, ?_⟩
        show XA _ _ _ _ _ _ _ _ _ _
        refine XA.ren (σ' := [(3, ii x3_1), (4, .map (some 0)), (6, pp 1 0), (31, .int .u32 x31_1), (32, .int .u32 x32_1), (35, s0 1 5), (39, s0 2 r14.length)]) (h' := [(2, rc (encI .i64) r14 0 3 1), (1, rc (encI .i64) [0, 0, 0, 0, 0] 0 47 0), (0, .imap (imA Value.bool mh0_1))]) (c' := 3) [0, 1, 3] (by decide) rfl ⟨by kernel_rfl, by kernel_rfl, by kernel_rfl, by kernel_rfl, by kernel_rfl, by kernel_rfl, by kernel_rfl, trivial⟩ ⟨⟨_, _, rfl, rfl, .inl ⟨rfl, rowC_scal (encI_ok .i64) _⟩⟩, ⟨_, _, rfl, rfl, .inl ⟨rfl, rowC_scal (encI_ok .i64) _⟩⟩, ⟨_, _, rfl, rfl, .inl ⟨rfl, trivial⟩⟩, trivial⟩ rfl ?_
        exact xa3
      have xa1 : XA E0 151 0 (opsOf (lft (rgt (rgt (lft (lft (rgt (rgt f6_L1)))))))) 3 #[true, true, true, false, false, false] [(3, ii x3_1), (4, .map (some 0)), (6, pp 1 0), (31, .int .u32 x31_1), (32, .int .u32 x32_1), (35, s0 1 5), (36, ii x3_1), (37, .int .u32 x32_1)] [(1, rc (encI .i64) [0, 0, 0, 0, 0] 0 47 0), (0, .imap (imA Value.bool mh0_1))] 2 (fun xe xσ xh xc => xe = .normal ∧ (xσ, xh, xc) = ([(3, ii x3_1), (4, .map (some 0)), (6, pp 1 0), (31, .int .u32 x31_1), (32, .int .u32 x32_1)], [(1, rc (encI .i64) (r14 ++ List.drop r14.length [0, 0, 0, 0, 0]) 0 47 0), (0, .imap (imA Value.bool mh0_1))], 2)) := by
       refine XA.step E0_ok [3] (by kernel_rfl) rfl (by kernel_rfl) ⟨?_, trivial⟩
       ·refine XR.call E0_ok [3, 4, 6, 31, 32, 35, 38] rfl (K := 33) (args := [ii x3_1, .int .u32 x32_1]) (d := (some (path 12 38))) (by kernel_rfl) (KC.lift (V2 := .agg #[ii r13.1, s0 2 r13.2.length]) (H2 := [(2, rc encP r13.2 0 55 2)]) [1, 2, 0] (f33_ok m x3_1 x32_1 r13 r13_h) rfl (by decide) (by decide) (by kernel_rfl) ⟨⟨_, _, rfl, rfl, .inl ⟨rfl, rowC_scal encP_ok _⟩⟩, trivial⟩ (by rfl)) ?_
        rintro _ _ _ ⟨rfl, rfl, rfl⟩
        refine XR.conv (σ' := [(3, ii x3_1), (4, .map (some 0)), (6, pp 1 0), (31, .int .u32 x31_1), (32, .int .u32 x32_1), (35, s0 1 5), (38, .agg #[ii r13.1, s0 2 r13.2.length])]) (h' := [(2, rc encP r13.2 0 55 2), (1, rc (encI .i64) [0, 0, 0, 0, 0] 0 47 0), (0, .imap (imA Value.bool mh0_1))]) (c' := 3) ?_ (by kernel_rfl)
        refine XR.done (by kernel_rfl) ?_
        refine ⟨rfl, ?_⟩
        show XA _ _ _ _ _ _ _ _ _ _
        exact xa2
      have xa6 : XA E0 151 0 (opsOf (lft (rgt (rgt (lft (lft (rgt (rgt f6_L1)))))))) 2 #[false, true, true, true, true, false] [(3, ii x3_1), (4, .map (some 0)), (6, pp 1 0), (31, .int .u32 x31_1), (32, .int .u32 x32_1), (39, s0 2 r14.length)] [(2, rc (encI .i64) r14 0 3 1), (1, .cells [ii 0, ii 0, ii 0, ii 0, ii 0] 0 47 0), (0, .imap (imA Value.bool mh0_1))] 3 (fun xe xσ xh xc => xe = .normal ∧ (xσ, xh, xc) = ([(3, ii x3_1), (4, .map (some 0)), (6, pp 1 0), (31, .int .u32 x31_1), (32, .int .u32 x32_1)], [(1, rc (encI .i64) (r14 ++ List.drop r14.length [0, 0, 0, 0, 0]) 0 47 0), (0, .imap (imA Value.bool mh0_1))], 2)) := by
       refine XA.step E0_ok [0] (by kernel_rfl) rfl (by kernel_rfl) ⟨?_, trivial⟩
       ·refine XR.rd E0_ok [3, 4, 6, 31, 32, 35, 39] rfl (v := s0 1 5) (v_cutA (nt := 151) (s := 1) (n := 5) (x := (src 151 (.tmp 6))) (lo := none) (hi := none) (b := 1) (o := 0) (l := none) (u := none) (cs := rowC (encI .i64) [0, 0, 0, 0, 0]) (fz := 0) (e := 47) (o' := 0) (len' := 5) (cap' := 5) (d := (some (path 12 35))) (by kernel_rfl) (by kernel_rfl) (by kernel_rfl) (by kernel_rfl) (by kernel_rfl) b2 (by simp only [Option.getD_none, Option.getD_some] <;> omega) (by simp only [Option.getD_none, Option.getD_some] <;> omega) (by simp only [Option.getD_none, Option.getD_some] <;> omega)) (σ' := [(3, ii x3_1), (4, .map (some 0)), (6, pp 1 0), (31, .int .u32 x31_1), (32, .int .u32 x32_1), (35, s0 1 5), (39, s0 2 r14.length)]) (by kernel_rfl) ?_
        refine XR.done (by kernel_rfl) ?_
        refine ⟨rfl, ?_⟩
        show XA _ _ _ _ _ _ _ _ _ _
        exact xa3
      have xa5 : XA E0 151 0 (opsOf (lft (rgt (rgt (lft (lft (rgt (rgt f6_L1)))))))) 3 #[false, true, true, true, false, false] [(3, ii x3_1), (4, .map (some 0)), (6, pp 1 0), (31, .int .u32 x31_1), (32, .int .u32 x32_1), (38, .agg #[ii r13.1, s0 2 r13.2.length])] [(2, rc encP r13.2 0 55 2), (1, .cells [ii 0, ii 0, ii 0, ii 0, ii 0] 0 47 0), (0, .imap (imA Value.bool mh0_1))] 3 (fun xe xσ xh xc => xe = .normal ∧ (xσ, xh, xc) = ([(3, ii x3_1), (4, .map (some 0)), (6, pp 1 0), (31, .int .u32 x31_1), (32, .int .u32 x32_1)], [(1, rc (encI .i64) (r14 ++ List.drop r14.length [0, 0, 0, 0, 0]) 0 47 0), (0, .imap (imA Value.bool mh0_1))], 2)) := by
       refine XA.step E0_ok [0, 4] (by kernel_rfl) rfl (by kernel_rfl) ⟨?_, ?_, trivial⟩
       ·refine XR.rd E0_ok [3, 4, 6, 31, 32, 35, 38] rfl (v := s0 1 5) (v_cutA (nt := 151) (s := 1) (n := 5) (x := (src 151 (.tmp 6))) (lo := none) (hi := none) (b := 1) (o := 0) (l := none) (u := none) (cs := rowC (encI .i64) [0, 0, 0, 0, 0]) (fz := 0) (e := 47) (o' := 0) (len' := 5) (cap' := 5) (d := (some (path 12 35))) (by kernel_rfl) (by kernel_rfl) (by kernel_rfl) (by kernel_rfl) (by kernel_rfl) b2 (by simp only [Option.getD_none, Option.getD_some] <;> omega) (by simp only [Option.getD_none, Option.getD_some] <;> omega) (by simp only [Option.getD_none, Option.getD_some] <;> omega)) (σ' := [(3, ii x3_1), (4, .map (some 0)), (6, pp 1 0), (31, .int .u32 x31_1), (32, .int .u32 x32_1), (35, s0 1 5), (38, .agg #[ii r13.1, s0 2 r13.2.length])]) (by kernel_rfl) ?_
        refine XR.done (by kernel_rfl) ?_
        refine ⟨rfl, ?_⟩
        show XA _ _ _ _ _ _ _ _ _ _
        exact xa2
       ·refine XR.call E0_ok [3, 4, 6, 31, 32, 39] rfl (K := 32) (args := [.agg #[ii r13.1, s0 2 r13.2.length]]) (d := (some (path 12 39))) (by kernel_rfl) (KC.liftH (n0 := 1) (m := 1) (args0 := [.agg #[ii r13.1, s0 0 r13.2.length]]) (h0 := [(0, rc encP r13.2 (0 + ((rowC encP r13.2).length + 1)) 55 2)]) (V := s0 1 r14.length) (V2 := s0 3 r14.length) (H := [(1, rc (encI .i64) r14 0 3 1)]) (H2 := [(3, rc (encI .i64) r14 0 3 1)]) [2] [2, 3, 4, 1] (f32_ok m (0 + ((rowC encP r13.2).length + 1)) 55 r13.1 r13.2 r14 r14_h) (by rfl) (by decide) rfl (by kernel_rfl) ⟨⟨_, _, rfl, rfl, .inl ⟨rfl, rowC_scal encP_ok _⟩⟩, trivial⟩ (by decide) (by decide) (by kernel_rfl) ⟨⟨_, _, rfl, rfl, .inl ⟨rfl, rowC_scal (encI_ok .i64) _⟩⟩, trivial⟩ (by rfl)) ?_
        rintro _ _ _ ⟨rfl, rfl, rfl⟩
        refine XR.conv (σ' := [(3, ii x3_1), (4, .map (some 0)), (6, pp 1 0), (31, .int .u32 x31_1), (32, .int .u32 x32_1), (39, s0 3 r14.length)]) (h' := [(3, rc (encI .i64) r14 0 3 1), (2, rc encP r13.2 0 55 2), (1, .cells [ii 0, ii 0, ii 0, ii 0, ii 0] 0 47 0), (0, .imap (imA Value.bool mh0_1))]) (c' := 4) ?_ (by kernel_rfl)
        refine XR.done (by kernel_rfl) ?_
        refine ⟨rfl, ?_⟩
        show XA _ _ _ _ _ _ _ _ _ _
        refine XA.ren (σ' := [(3, ii x3_1), (4, .map (some 0)), (6, pp 1 0), (31, .int .u32 x31_1), (32, .int .u32 x32_1), (39, s0 2 r14.length)]) (h' := [(2, rc (encI .i64) r14 0 3 1), (1, .cells [ii 0, ii 0, ii 0, ii 0, ii 0] 0 47 0), (0, .imap (imA Value.bool mh0_1))]) (c' := 3) [0, 1, 3] (by decide) rfl ⟨by kernel_rfl, by kernel_rfl, by kernel_rfl, by kernel_rfl, by kernel_rfl, by kernel_rfl, trivial⟩ ⟨⟨_, _, rfl, rfl, .inl ⟨rfl, rowC_scal (encI_ok .i64) _⟩⟩, ⟨_, _, rfl, rfl, .inr ⟨_, _, _, _, rfl, rfl⟩⟩, ⟨_, _, rfl, rfl, .inl ⟨rfl, trivial⟩⟩, trivial⟩ rfl ?_
        exact xa6
      have xa0 : XA E0 151 0 (opsOf (lft (rgt (rgt (lft (lft (rgt (rgt f6_L1)))))))) 4 #[false, true, true, false, false, false] [(3, ii x3_1), (4, .map (some 0)), (6, pp 1 0), (31, .int .u32 x31_1), (32, .int .u32 x32_1), (36, ii x3_1), (37, .int .u32 x32_1)] [(1, .cells [ii 0, ii 0, ii 0, ii 0, ii 0] 0 47 0), (0, .imap (imA Value.bool mh0_1))] 2 (fun xe xσ xh xc => xe = .normal ∧ (xσ, xh, xc) = ([(3, ii x3_1), (4, .map (some 0)), (6, pp 1 0), (31, .int .u32 x31_1), (32, .int .u32 x32_1)], [(1, rc (encI .i64) (r14 ++ List.drop r14.length [0, 0, 0, 0, 0]) 0 47 0), (0, .imap (imA Value.bool mh0_1))], 2)) := by
       refine XA.step E0_ok [0, 3] (by kernel_rfl) rfl (by kernel_rfl) ⟨?_, ?_, trivial⟩
       ·refine XR.rd E0_ok [3, 4, 6, 31, 32, 35, 36, 37] rfl (v := s0 1 5) (v_cutA (nt := 151) (s := 1) (n := 5) (x := (src 151 (.tmp 6))) (lo := none) (hi := none) (b := 1) (o := 0) (l := none) (u := none) (cs := rowC (encI .i64) [0, 0, 0, 0, 0]) (fz := 0) (e := 47) (o' := 0) (len' := 5) (cap' := 5) (d := (some (path 12 35))) (by kernel_rfl) (by kernel_rfl) (by kernel_rfl) (by kernel_rfl) (by kernel_rfl) b2 (by simp only [Option.getD_none, Option.getD_some] <;> omega) (by simp only [Option.getD_none, Option.getD_some] <;> omega) (by simp only [Option.getD_none, Option.getD_some] <;> omega)) (σ' := [(3, ii x3_1), (4, .map (some 0)), (6, pp 1 0), (31, .int .u32 x31_1), (32, .int .u32 x32_1), (35, s0 1 5), (36, ii x3_1), (37, .int .u32 x32_1)]) (by kernel_rfl) ?_
        refine XR.done (by kernel_rfl) ?_
        refine ⟨rfl, ?_⟩
        show XA _ _ _ _ _ _ _ _ _ _
        exact xa1
       ·refine XR.call E0_ok [3, 4, 6, 31, 32, 38] rfl (K := 33) (args := [ii x3_1, .int .u32 x32_1]) (d := (some (path 12 38))) (by kernel_rfl) (KC.lift (V2 := .agg #[ii r13.1, s0 2 r13.2.length]) (H2 := [(2, rc encP r13.2 0 55 2)]) [1, 2, 0] (f33_ok m x3_1 x32_1 r13 r13_h) rfl (by decide) (by decide) (by kernel_rfl) ⟨⟨_, _, rfl, rfl, .inl ⟨rfl, rowC_scal encP_ok _⟩⟩, trivial⟩ (by rfl)) ?_
        rintro _ _ _ ⟨rfl, rfl, rfl⟩
        refine XR.conv (σ' := [(3, ii x3_1), (4, .map (some 0)), (6, pp 1 0), (31, .int .u32 x31_1), (32, .int .u32 x32_1), (38, .agg #[ii r13.1, s0 2 r13.2.length])]) (h' := [(2, rc encP r13.2 0 55 2), (1, .cells [ii 0, ii 0, ii 0, ii 0, ii 0] 0 47 0), (0, .imap (imA Value.bool mh0_1))]) (c' := 3) ?_ (by kernel_rfl)
        refine XR.done (by kernel_rfl) ?_
        refine ⟨rfl, ?_⟩
        show XA _ _ _ _ _ _ _ _ _ _
        exact xa5
      refine XP.step E0_ok 2 [3, 4, 6, 31, 32, 36, 37] rfl (σ' := [(3, ii x3_1), (4, .map (some 0)), (6, pp 1 0), (31, .int .u32 x31_1), (32, .int .u32 x32_1), (36, ii x3_1), (37, .int .u32 x32_1)]) (by kernel_rfl) ?_
      refine XP.done (by kernel_rfl) ?_
      show XA _ _ _ _ _ _ _ _ _ _
      exact xa0
  | false =>
   have h := cF b1 h
   refine XQ.cond (s := (.tmp 33)) (b := false) (by kernel_rfl) (by kernel_rfl) (fun q => by cases q) (fun _ => ?_)
   refine XQ.ren (σ' := [(3, ii x3_1), (4, .map (some 0))]) (h' := [(0, .imap (imA Value.bool mh0_1))]) (c' := 1) [0] (by decide) rfl ⟨by kernel_rfl, by kernel_rfl, trivial⟩ ⟨⟨_, _, rfl, rfl, .inl ⟨rfl, trivial⟩⟩, trivial⟩ rfl ?_
   refine XQ.exit (i := 0) (by kernel_rfl) ?_
   cases h
   exact hQ

def f6_2 (m : Nat) : Nat → Int → Int → Int → Int → List (List Int × Bool) → Option (Int × Int × (List (List Int × Bool)))
 | 0, _, _, _, _, _ => none
 | fuel + 1, x3_2, x7_2, x44_2, x45_2, mh0_2 =>
  cond (decide (x45_2 < x44_2)) (
   f6_2 m fuel x3_2 (w64 (x7_2 * x3_2)) x44_2 (w64 (x45_2 + 1)) mh0_2
  ) (
   some (x3_2, x7_2, mh0_2)
  )

theorem f6_2_ok (m : Nat) : ∀ (fuel : Nat) (x3_2 : Int) (x7_2 : Int) (x44_2 : Int) (x45_2 : Int) (mh0_2 : List (List Int × Bool)) (o : (Int × Int × (List (List Int × Bool)))), f6_2 m fuel x3_2 x7_2 x44_2 x45_2 mh0_2 = some o → ∀ Q : QP, Q (.exit 2) [(3, ii o.1), (4, .map (some 0)), (7, ii o.2.1)] [(0, .imap (imA Value.bool o.2.2))] 1 → XL E0 151 0 fuel f6_L2 [(3, ii x3_2), (4, .map (some 0)), (7, ii x7_2), (44, ii x44_2), (45, ii x45_2)] [(0, .imap (imA Value.bool mh0_2))] 1 Q
 | 0, x3_2, x7_2, x44_2, x45_2, mh0_2, o, h, Q, hQ => by cases h
 | fuel + 1, x3_2, x7_2, x44_2, x45_2, mh0_2, o, h, Q, hQ => by
  unfold f6_2 at h
  refine XL.succ E0_ok ?_
  refine XQ.seq E0_ok (by kernel_rfl) ?_
  refine XQ.region (by kernel_rfl) ?_
  refine XR.runS E0_ok 1 1 [(3, ii x3_2), (4, .map (some 0)), (7, ii x7_2), (44, ii x44_2), (45, ii x45_2), (46, .bool (decide (x45_2 < x44_2)))] rfl (by kernel_rfl) ?_
  refine XR.done (by kernel_rfl) ?_
  show XQ _ _ _ _ _ _ _ _
  refine XQ.seq E0_ok (by kernel_rfl) ?_
  cases b1 : (decide (x45_2 < x44_2) : Bool) with
  | true =>
   have h := cT b1 h
   refine XQ.cond (s := (.tmp 46)) (b := true) (by kernel_rfl) (by kernel_rfl) (fun _ => ?_) (fun q => by cases q)
   refine XQ.skip (by kernel_rfl) ?_
   show XQ _ _ _ _ _ _ _ _
   refine XQ.seq E0_ok (by kernel_rfl) ?_
   refine XQ.block (id := 3) (by kernel_rfl) ?_
   refine XQ.region (by kernel_rfl) ?_
   refine XR.runS E0_ok 1 4 [(3, ii x3_2), (4, .map (some 0)), (7, ii (w64 (x7_2 * x3_2))), (44, ii x44_2), (45, ii x45_2)] rfl (by kernel_rfl) ?_
   refine XR.done (by kernel_rfl) ?_
   show XQ _ _ _ _ _ _ _ _
   refine XQ.region (by kernel_rfl) ?_
   refine XR.runS E0_ok 1 2 [(3, ii x3_2), (4, .map (some 0)), (7, ii (w64 (x7_2 * x3_2))), (44, ii x44_2), (45, ii (w64 (x45_2 + 1)))] rfl (by kernel_rfl) ?_
   refine XR.done (by kernel_rfl) ?_
   show XL _ _ _ _ _ _ _ _ _
   refine XL.ren (σ' := [(3, ii x3_2), (4, .map (some 0)), (7, ii (w64 (x7_2 * x3_2))), (44, ii x44_2), (45, ii (w64 (x45_2 + 1)))]) (h' := [(0, .imap (imA Value.bool mh0_2))]) (c' := 1) [0] (by decide) rfl ⟨by kernel_rfl, by kernel_rfl, by kernel_rfl, by kernel_rfl, by kernel_rfl, trivial⟩ ⟨⟨_, _, rfl, rfl, .inl ⟨rfl, trivial⟩⟩, trivial⟩ rfl ?_
   refine XL.conv (f6_2_ok m fuel x3_2 (w64 (x7_2 * x3_2)) x44_2 (w64 (x45_2 + 1)) mh0_2 o h Q hQ) (by first | rfl | simp)
  | false =>
   have h := cF b1 h
   refine XQ.cond (s := (.tmp 46)) (b := false) (by kernel_rfl) (by kernel_rfl) (fun q => by cases q) (fun _ => ?_)
   refine XQ.ren (σ' := [(3, ii x3_2), (4, .map (some 0)), (7, ii x7_2)]) (h' := [(0, .imap (imA Value.bool mh0_2))]) (c' := 1) [0] (by decide) rfl ⟨by kernel_rfl, by kernel_rfl, by kernel_rfl, trivial⟩ ⟨⟨_, _, rfl, rfl, .inl ⟨rfl, trivial⟩⟩, trivial⟩ rfl ?_
   refine XQ.exit (i := 2) (by kernel_rfl) ?_
   cases h
   exact hQ

def f6_4 (m : Nat) : Nat → Int → Int → Int → List (List Int × Bool) → Int → Int → Int → List Int → Option (List Int)
 | 0, _, _, _, _, _, _, _, _ => none
 | fuel + 1, x3_3, x51_3, x52_3, mh0_3, x8_4, x58_4, x59_4, lh1_4 =>
  cond (decide (x59_4 < x58_4)) (
   cond (x3_3 != 0) (
    cond (inRow x59_4 lh1_4.length) (
     f6_4 m fuel x3_3 x51_3 x52_3 mh0_3 (w64 (Int.tdiv x8_4 x3_3)) x58_4 (w64 (x59_4 + 1)) (List.set lh1_4 (Int.toNat x59_4) (Int.tmod x8_4 x3_3))
    ) none
   ) none
  ) (
   some (lh1_4)
  )

theorem f6_4_ok (m : Nat) : ∀ (fuel : Nat) (x3_3 : Int) (x51_3 : Int) (x52_3 : Int) (mh0_3 : List (List Int × Bool)) (x8_4 : Int) (x58_4 : Int) (x59_4 : Int) (lh1_4 : List Int) (o : (List Int)), f6_4 m fuel x3_3 x51_3 x52_3 mh0_3 x8_4 x58_4 x59_4 lh1_4 = some o → ∀ Q : QP, Q (.exit 6) [(3, ii x3_3), (4, .map (some 0)), (9, s0 1 o.length), (51, ii x51_3), (52, ii x52_3)] [(1, rc (encI .i64) o 0 3 1), (0, .imap (imA Value.bool mh0_3))] 2 → XL E0 151 0 fuel f6_L4 [(3, ii x3_3), (4, .map (some 0)), (8, ii x8_4), (9, s0 1 lh1_4.length), (51, ii x51_3), (52, ii x52_3), (58, ii x58_4), (59, ii x59_4)] [(1, rc (encI .i64) lh1_4 0 3 1), (0, .imap (imA Value.bool mh0_3))] 2 Q
 | 0, x3_3, x51_3, x52_3, mh0_3, x8_4, x58_4, x59_4, lh1_4, o, h, Q, hQ => by cases h
 | fuel + 1, x3_3, x51_3, x52_3, mh0_3, x8_4, x58_4, x59_4, lh1_4, o, h, Q, hQ => by
  unfold f6_4 at h
  refine XL.succ E0_ok ?_
  refine XQ.seq E0_ok (by kernel_rfl) ?_
  refine XQ.region (by kernel_rfl) ?_
  refine XR.runS E0_ok 1 1 [(3, ii x3_3), (4, .map (some 0)), (8, ii x8_4), (9, s0 1 lh1_4.length), (51, ii x51_3), (52, ii x52_3), (58, ii x58_4), (59, ii x59_4), (60, .bool (decide (x59_4 < x58_4)))] rfl (by kernel_rfl) ?_
  refine XR.done (by kernel_rfl) ?_
  show XQ _ _ _ _ _ _ _ _
  refine XQ.seq E0_ok (by kernel_rfl) ?_
  cases b1 : (decide (x59_4 < x58_4) : Bool) with
  | true =>
   have h := cT b1 h
   refine XQ.cond (s := (.tmp 60)) (b := true) (by kernel_rfl) (by kernel_rfl) (fun _ => ?_) (fun q => by cases q)
   refine XQ.skip (by kernel_rfl) ?_
   show XQ _ _ _ _ _ _ _ _
   refine XQ.seq E0_ok (by kernel_rfl) ?_
   refine XQ.block (id := 7) (by kernel_rfl) ?_
   refine XQ.seq E0_ok (by kernel_rfl) ?_
   refine XQ.region (by kernel_rfl) ?_
   refine XR.runS E0_ok 1 2 [(3, ii x3_3), (4, .map (some 0)), (8, ii x8_4), (9, s0 1 lh1_4.length), (10, ii x59_4), (51, ii x51_3), (52, ii x52_3), (58, ii x58_4), (59, ii x59_4)] rfl (by kernel_rfl) ?_
   refine XR.done (by kernel_rfl) ?_
   show XQ _ _ _ _ _ _ _ _
   refine XQ.seq E0_ok (by kernel_rfl) ?_
   refine XQ.region (by kernel_rfl) ?_
   refine XR.runS E0_ok 1 4 [(3, ii x3_3), (4, .map (some 0)), (8, ii x8_4), (9, s0 1 lh1_4.length), (51, ii x51_3), (52, ii x52_3), (58, ii x58_4), (59, ii x59_4), (62, s0 1 lh1_4.length), (63, ii x59_4), (64, ii x8_4), (65, ii x3_3)] rfl (by kernel_rfl) ?_
   cases b2 : (x3_3 != 0 : Bool) with
   | false => cases (cF b2 h)
   | true =>
    have h := cT b2 h
    have e3 : insV (headI ((gsOf E0 151 (opsOf (lft (rgt (lft (lft (rgt (rgt f6_L4)))))))).drop 4) (trS 151 [(3, ii x3_3), (4, .map (some 0)), (8, ii x8_4), (9, s0 1 lh1_4.length), (51, ii x51_3), (52, ii x52_3), (58, ii x58_4), (59, ii x59_4), (62, s0 1 lh1_4.length), (63, ii x59_4), (64, ii x8_4), (65, ii x3_3)])) (trS 151 [(3, ii x3_3), (4, .map (some 0)), (8, ii x8_4), (9, s0 1 lh1_4.length), (51, ii x51_3), (52, ii x52_3), (58, ii x58_4), (59, ii x59_4), (62, s0 1 lh1_4.length), (63, ii x59_4), (64, ii x8_4), (65, ii x3_3)]) [(1, rc (encI .i64) lh1_4 0 3 1), (0, .imap (imA Value.bool mh0_3))] = (match (x3_3 != 0 : Bool) with | true => some (ii (Int.tmod x8_4 x3_3)) | false => none) := by kernel_rfl
    refine XR.rd E0_ok [3, 4, 8, 9, 51, 52, 58, 59, 62, 63, 66] rfl (e3.trans (by rw [b2])) (σ' := [(3, ii x3_3), (4, .map (some 0)), (8, ii x8_4), (9, s0 1 lh1_4.length), (51, ii x51_3), (52, ii x52_3), (58, ii x58_4), (59, ii x59_4), (62, s0 1 lh1_4.length), (63, ii x59_4), (66, ii (Int.tmod x8_4 x3_3))]) (by kernel_rfl) ?_
    cases b4 : (inRow x59_4 lh1_4.length : Bool) with
    | false => cases (cF b4 h)
    | true =>
     have h := cT b4 h
     refine XR.rd E0_ok [3, 4, 8, 9, 51, 52, 58, 59, 66, 67] rfl (v := pp 1 ((Int.toNat x59_4) * 1)) (v_idx (s := 1) (x := (src 151 (.tmp 62))) (y := (src 151 (.tmp 63))) (b := 1) (o := 0) (len := lh1_4.length) (cap := lh1_4.length) (ik := .i64) (i := x59_4) (off := (Int.toNat x59_4) * 1) (d := (some (path 12 67))) (by kernel_rfl) (by kernel_rfl) (by kernel_rfl) b4 (by omega)) (σ' := [(3, ii x3_3), (4, .map (some 0)), (8, ii x8_4), (9, s0 1 lh1_4.length), (51, ii x51_3), (52, ii x52_3), (58, ii x58_4), (59, ii x59_4), (66, ii (Int.tmod x8_4 x3_3)), (67, pp 1 ((Int.toNat x59_4) * 1))]) (by kernel_rfl) ?_
     refine XR.ef E0_ok [3, 4, 8, 9, 51, 52, 58, 59] rfl (e_store (encI_ok .i64) (size := 1) (x := (src 151 (.tmp 67))) (y := (src 151 (.tmp 66))) (b := 1) (off := (Int.toNat x59_4) * 1) (xs := lh1_4) (e := 3) (es := 1) (d := none) (h' := [(1, rc (encI .i64) (List.set lh1_4 (Int.toNat x59_4) (Int.tmod x8_4 x3_3)) 0 3 1), (0, .imap (imA Value.bool mh0_3))]) (w := ii (Int.tmod x8_4 x3_3)) (ws := [ii (Int.tmod x8_4 x3_3)]) (a := Int.tmod x8_4 x3_3) (by kernel_rfl) (by kernel_rfl) (by kernel_rfl) (Int.toNat x59_4) 0 0 (by first | rfl | omega) (row_len (inRow_toNat b4) (by simp)) (by kernel_rfl) rfl rfl rfl rfl rfl (by kernel_rfl)) (σ' := [(3, ii x3_3), (4, .map (some 0)), (8, ii x8_4), (9, s0 1 lh1_4.length), (51, ii x51_3), (52, ii x52_3), (58, ii x58_4), (59, ii x59_4)]) (by kernel_rfl) ?_
     refine XR.done (by kernel_rfl) ?_
     show XQ _ _ _ _ _ _ _ _
     refine XQ.region (by kernel_rfl) ?_
     refine XR.runS E0_ok 1 2 [(3, ii x3_3), (4, .map (some 0)), (9, s0 1 lh1_4.length), (51, ii x51_3), (52, ii x52_3), (58, ii x58_4), (59, ii x59_4), (68, ii x8_4), (69, ii x3_3)] rfl (by kernel_rfl) ?_
     have e5 : insV (headI ((gsOf E0 151 (opsOf (rgt (rgt (lft (lft (rgt (rgt f6_L4)))))))).drop 2) (trS 151 [(3, ii x3_3), (4, .map (some 0)), (9, s0 1 lh1_4.length), (51, ii x51_3), (52, ii x52_3), (58, ii x58_4), (59, ii x59_4), (68, ii x8_4), (69, ii x3_3)])) (trS 151 [(3, ii x3_3), (4, .map (some 0)), (9, s0 1 lh1_4.length), (51, ii x51_3), (52, ii x52_3), (58, ii x58_4), (59, ii x59_4), (68, ii x8_4), (69, ii x3_3)]) [(1, rc (encI .i64) (List.set lh1_4 (Int.toNat x59_4) (Int.tmod x8_4 x3_3)) 0 3 1), (0, .imap (imA Value.bool mh0_3))] = (match (x3_3 != 0 : Bool) with | true => some (ii (w64 (Int.tdiv x8_4 x3_3))) | false => none) := by kernel_rfl
     refine XR.rd E0_ok [3, 4, 9, 51, 52, 58, 59, 70] rfl (e5.trans (by rw [b2])) (σ' := [(3, ii x3_3), (4, .map (some 0)), (9, s0 1 lh1_4.length), (51, ii x51_3), (52, ii x52_3), (58, ii x58_4), (59, ii x59_4), (70, ii (w64 (Int.tdiv x8_4 x3_3)))]) (by kernel_rfl) ?_
     refine XR.runS E0_ok 1 1 [(3, ii x3_3), (4, .map (some 0)), (8, ii (w64 (Int.tdiv x8_4 x3_3))), (9, s0 1 lh1_4.length), (51, ii x51_3), (52, ii x52_3), (58, ii x58_4), (59, ii x59_4)] rfl (by kernel_rfl) ?_
     refine XR.done (by kernel_rfl) ?_
     show XQ _ _ _ _ _ _ _ _
     refine XQ.region (by kernel_rfl) ?_
     refine XR.runS E0_ok 1 2 [(3, ii x3_3), (4, .map (some 0)), (8, ii (w64 (Int.tdiv x8_4 x3_3))), (9, s0 1 lh1_4.length), (51, ii x51_3), (52, ii x52_3), (58, ii x58_4), (59, ii (w64 (x59_4 + 1)))] rfl (by kernel_rfl) ?_
     refine XR.done (by kernel_rfl) ?_
     show XL _ _ _ _ _ _ _ _ _
     refine XL.ren (σ' := [(3, ii x3_3), (4, .map (some 0)), (8, ii (w64 (Int.tdiv x8_4 x3_3))), (9, s0 1 lh1_4.length), (51, ii x51_3), (52, ii x52_3), (58, ii x58_4), (59, ii (w64 (x59_4 + 1)))]) (h' := [(1, rc (encI .i64) (List.set lh1_4 (Int.toNat x59_4) (Int.tmod x8_4 x3_3)) 0 3 1), (0, .imap (imA Value.bool mh0_3))]) (c' := 2) [0, 1] (by decide) rfl ⟨by kernel_rfl, by kernel_rfl, by kernel_rfl, by kernel_rfl, by kernel_rfl, by kernel_rfl, by kernel_rfl, by kernel_rfl, trivial⟩ ⟨⟨_, _, rfl, rfl, .inl ⟨rfl, rowC_scal (encI_ok .i64) _⟩⟩, ⟨_, _, rfl, rfl, .inl ⟨rfl, trivial⟩⟩, trivial⟩ rfl ?_
     refine XL.conv (f6_4_ok m fuel x3_3 x51_3 x52_3 mh0_3 (w64 (Int.tdiv x8_4 x3_3)) x58_4 (w64 (x59_4 + 1)) (List.set lh1_4 (Int.toNat x59_4) (Int.tmod x8_4 x3_3)) o h Q hQ) (by first | rfl | simp)
  | false =>
   have h := cF b1 h
   refine XQ.cond (s := (.tmp 60)) (b := false) (by kernel_rfl) (by kernel_rfl) (fun q => by cases q) (fun _ => ?_)
   refine XQ.ren (σ' := [(3, ii x3_3), (4, .map (some 0)), (9, s0 1 lh1_4.length), (51, ii x51_3), (52, ii x52_3)]) (h' := [(1, rc (encI .i64) lh1_4 0 3 1), (0, .imap (imA Value.bool mh0_3))]) (c' := 2) [0, 1] (by decide) rfl ⟨by kernel_rfl, by kernel_rfl, by kernel_rfl, by kernel_rfl, by kernel_rfl, trivial⟩ ⟨⟨_, _, rfl, rfl, .inl ⟨rfl, rowC_scal (encI_ok .i64) _⟩⟩, ⟨_, _, rfl, rfl, .inl ⟨rfl, trivial⟩⟩, trivial⟩ rfl ?_
   refine XQ.exit (i := 6) (by kernel_rfl) ?_
   cases h
   exact hQ

inductive Of6_5 where
 | r
 | x8 (x12_x85 : Int) (lh2_x85 : List Int)

def f6_5 (m : Nat) : Nat → Int → Int → Int → List (List Int × Bool) → (List Int) → Int → Int → List Int → Option Of6_5
 | 0, _, _, _, _, _, _, _, _ => none
 | fuel + 1, x3_3, x51_3, x52_3, mh0_3, o4, x12_5, x13_5, lh2_5 =>
  cond (decide (x13_5 > 0)) (
   (f34 m o4 x13_5).bind fun r41 =>
    (f19 m o4 x13_5).bind fun r42 =>
     cond (r42 != (cond (!r41) 14 0)) (
      some (.r)
     ) (
      f6_5 m fuel x3_3 x51_3 x52_3 mh0_3 o4 (cond (r41) x13_5 x12_5) (w64 (x13_5 - 1)) lh2_5
     )
  ) (
   some (.x8 x12_5 lh2_5)
  )

theorem f6_5_ok (m : Nat) : ∀ (fuel : Nat) (x3_3 : Int) (x51_3 : Int) (x52_3 : Int) (mh0_3 : List (List Int × Bool)) (o4 : (List Int)) (x12_5 : Int) (x13_5 : Int) (lh2_5 : List Int) (o : Of6_5), f6_5 m fuel x3_3 x51_3 x52_3 mh0_3 o4 x12_5 x13_5 lh2_5 = some o → ∀ Q : QP, (match o with | .r => Q .ret [(2, .bool false)] [] 0 | .x8 x12_x85 lh2_x85 => Q (.exit 8) [(3, ii x3_3), (4, .map (some 0)), (9, s0 1 o4.length), (11, pp 2 0), (12, ii x12_x85), (51, ii x51_3), (52, ii x52_3)] [(2, rc (encI .i64) lh2_x85 0 47 0), (1, rc (encI .i64) o4 0 3 1), (0, .imap (imA Value.bool mh0_3))] 3) → XL E0 151 0 fuel f6_L5 [(3, ii x3_3), (4, .map (some 0)), (9, s0 1 o4.length), (11, pp 2 0), (12, ii x12_5), (13, ii x13_5), (51, ii x51_3), (52, ii x52_3)] [(2, rc (encI .i64) lh2_5 0 47 0), (1, rc (encI .i64) o4 0 3 1), (0, .imap (imA Value.bool mh0_3))] 3 Q
 | 0, x3_3, x51_3, x52_3, mh0_3, o4, x12_5, x13_5, lh2_5, o, h, Q, hQ => by cases h
 | fuel + 1, x3_3, x51_3, x52_3, mh0_3, o4, x12_5, x13_5, lh2_5, o, h, Q, hQ => by
  unfold f6_5 at h
  refine XL.succ E0_ok ?_
  refine XQ.seq E0_ok (by kernel_rfl) ?_
  refine XQ.seq E0_ok (by kernel_rfl) ?_
  refine XQ.region (by kernel_rfl) ?_
  refine XR.runS E0_ok 1 2 [(3, ii x3_3), (4, .map (some 0)), (9, s0 1 o4.length), (11, pp 2 0), (12, ii x12_5), (13, ii x13_5), (51, ii x51_3), (52, ii x52_3), (77, .bool (decide (x13_5 > 0)))] rfl (by kernel_rfl) ?_
  refine XR.done (by kernel_rfl) ?_
  show XQ _ _ _ _ _ _ _ _
  cases b1 : (decide (x13_5 > 0) : Bool) with
  | true =>
   have h := cT b1 h
   refine XQ.cond (s := (.tmp 77)) (b := true) (by kernel_rfl) (by kernel_rfl) (fun _ => ?_) (fun q => by cases q)
   refine XQ.skip (by kernel_rfl) ?_
   show XQ _ _ _ _ _ _ _ _
   refine XQ.seq E0_ok (by kernel_rfl) ?_
   refine XQ.block (id := 9) (by kernel_rfl) ?_
   refine XQ.seq E0_ok (by kernel_rfl) ?_
   refine XQ.region (by kernel_rfl) ?_
   refine XR.runS E0_ok 1 2 [(3, ii x3_3), (4, .map (some 0)), (9, s0 1 o4.length), (11, pp 2 0), (12, ii x12_5), (13, ii x13_5), (51, ii x51_3), (52, ii x52_3), (80, s0 1 o4.length), (81, ii x13_5)] rfl (by kernel_rfl) ?_
   obtain ⟨r41, r41_h, h⟩ := bS h
   refine XR.call E0_ok [3, 4, 9, 11, 12, 13, 51, 52, 82] rfl (K := 34) (args := [s0 1 o4.length, ii x13_5]) (d := (some (path 12 82))) (by kernel_rfl) (KQ.call (KC.quiet E0_ok (args0 := [s0 0 o4.length, ii x13_5]) (h0 := [(0, rc (encI .i64) o4 (0 + ((rowC (encI .i64) o4).length + 1)) 3 1)]) (n := 1) (V := .bool r41) [1] (f34_ok m (0 + ((rowC (encI .i64) o4).length + 1)) 3 o4 x13_5 r41 r41_h) rfl (by rfl) (by decide) rfl (by kernel_rfl) ⟨⟨_, _, rfl, rfl, .inl ⟨rfl, rowC_scal (encI_ok .i64) _⟩⟩, trivial⟩) rfl) ?_
   rintro _ _ _ ⟨rfl, rfl, rfl⟩
   refine XR.conv (σ' := [(3, ii x3_3), (4, .map (some 0)), (9, s0 1 o4.length), (11, pp 2 0), (12, ii x12_5), (13, ii x13_5), (51, ii x51_3), (52, ii x52_3), (82, .bool r41)]) (h' := [(2, rc (encI .i64) lh2_5 0 47 0), (1, rc (encI .i64) o4 0 3 1), (0, .imap (imA Value.bool mh0_3))]) (c' := 3) ?_ (by kernel_rfl)
   refine XR.runS E0_ok 1 1 [(3, ii x3_3), (4, .map (some 0)), (9, s0 1 o4.length), (11, pp 2 0), (12, ii x12_5), (13, ii x13_5), (14, .bool r41), (51, ii x51_3), (52, ii x52_3)] rfl (by kernel_rfl) ?_
   refine XR.done (by kernel_rfl) ?_
   show XQ _ _ _ _ _ _ _ _
   refine XQ.seq E0_ok (by kernel_rfl) ?_
   refine XQ.seq E0_ok (by kernel_rfl) ?_
   refine XQ.region (by kernel_rfl) ?_
   refine XR.runS E0_ok 1 1 [(3, ii x3_3), (4, .map (some 0)), (9, s0 1 o4.length), (11, pp 2 0), (12, ii x12_5), (13, ii x13_5), (14, .bool r41), (51, ii x51_3), (52, ii x52_3), (83, .bool r41)] rfl (by kernel_rfl) ?_
   refine XR.done (by kernel_rfl) ?_
   show XQ _ _ _ _ _ _ _ _
   refine XQ.meetC (σ' := [(3, ii x3_3), (4, .map (some 0)), (9, s0 1 o4.length), (11, pp 2 0), (12, ii (cond (r41) x13_5 x12_5)), (13, ii x13_5), (14, .bool r41), (51, ii x51_3), (52, ii x52_3)]) (h' := [(2, rc (encI .i64) lh2_5 0 47 0), (1, rc (encI .i64) o4 0 3 1), (0, .imap (imA Value.bool mh0_3))]) (c' := 3) ?_ ?_
   rotate_left
   ·refine XQ.cond (s := (.tmp 83)) (b := r41) (by kernel_rfl) (by kernel_rfl) (fun b2 => ?_) (fun b2 => ?_)
    ·refine XQ.region (by kernel_rfl) ?_
     refine XR.runS E0_ok 1 2 [(3, ii x3_3), (4, .map (some 0)), (9, s0 1 o4.length), (11, pp 2 0), (12, ii x13_5), (13, ii x13_5), (14, .bool r41), (51, ii x51_3), (52, ii x52_3)] rfl (by kernel_rfl) ?_
     refine XR.done (by kernel_rfl) ?_
     refine ⟨rfl, ?_, ?_⟩
     ·try rw [b2]
      exact ⟨by kernel_rfl, by kernel_rfl, by kernel_rfl, by kernel_rfl, by kernel_rfl, by kernel_rfl, by kernel_rfl, by kernel_rfl, by kernel_rfl, trivial⟩
     ·try rw [b2]
      kernel_rfl
    ·refine XQ.skip (by kernel_rfl) ?_
     refine ⟨rfl, ?_, ?_⟩
     ·try rw [b2]
      exact ⟨by kernel_rfl, by kernel_rfl, by kernel_rfl, by kernel_rfl, by kernel_rfl, by kernel_rfl, by kernel_rfl, by kernel_rfl, by kernel_rfl, trivial⟩
     ·try rw [b2]
      kernel_rfl
   show XQ _ _ _ _ _ _ _ _
   refine XQ.seq E0_ok (by kernel_rfl) ?_
   refine XQ.region (by kernel_rfl) ?_
   refine XR.runS E0_ok 1 1 [(3, ii x3_3), (4, .map (some 0)), (9, s0 1 o4.length), (11, pp 2 0), (12, ii (cond (r41) x13_5 x12_5)), (13, ii x13_5), (14, .bool r41), (15, ii 0), (51, ii x51_3), (52, ii x52_3)] rfl (by kernel_rfl) ?_
   refine XR.done (by kernel_rfl) ?_
   show XQ _ _ _ _ _ _ _ _
   refine XQ.seq E0_ok (by kernel_rfl) ?_
   refine XQ.seq E0_ok (by kernel_rfl) ?_
   refine XQ.region (by kernel_rfl) ?_
   refine XR.runS E0_ok 1 2 [(3, ii x3_3), (4, .map (some 0)), (9, s0 1 o4.length), (11, pp 2 0), (12, ii (cond (r41) x13_5 x12_5)), (13, ii x13_5), (15, ii 0), (51, ii x51_3), (52, ii x52_3), (86, .bool (!r41))] rfl (by kernel_rfl) ?_
   refine XR.done (by kernel_rfl) ?_
   show XQ _ _ _ _ _ _ _ _
   refine XQ.meetC (σ' := [(3, ii x3_3), (4, .map (some 0)), (9, s0 1 o4.length), (11, pp 2 0), (12, ii (cond (r41) x13_5 x12_5)), (13, ii x13_5), (15, ii (cond (!r41) 14 0)), (51, ii x51_3), (52, ii x52_3)]) (h' := [(2, rc (encI .i64) lh2_5 0 47 0), (1, rc (encI .i64) o4 0 3 1), (0, .imap (imA Value.bool mh0_3))]) (c' := 3) ?_ ?_
   rotate_left
   ·refine XQ.cond (s := (.tmp 86)) (b := !r41) (by kernel_rfl) (by kernel_rfl) (fun b3 => ?_) (fun b3 => ?_)
    ·refine XQ.region (by kernel_rfl) ?_
     refine XR.runS E0_ok 1 1 [(3, ii x3_3), (4, .map (some 0)), (9, s0 1 o4.length), (11, pp 2 0), (12, ii (cond (r41) x13_5 x12_5)), (13, ii x13_5), (15, ii 14), (51, ii x51_3), (52, ii x52_3)] rfl (by kernel_rfl) ?_
     refine XR.done (by kernel_rfl) ?_
     refine ⟨rfl, ?_, ?_⟩
     ·try rw [b3]
      exact ⟨by kernel_rfl, by kernel_rfl, by kernel_rfl, by kernel_rfl, by kernel_rfl, by kernel_rfl, by kernel_rfl, by kernel_rfl, by kernel_rfl, trivial⟩
     ·try rw [b3]
      kernel_rfl
    ·refine XQ.skip (by kernel_rfl) ?_
     refine ⟨rfl, ?_, ?_⟩
     ·try rw [b3]
      exact ⟨by kernel_rfl, by kernel_rfl, by kernel_rfl, by kernel_rfl, by kernel_rfl, by kernel_rfl, by kernel_rfl, by kernel_rfl, by kernel_rfl, trivial⟩
     ·try rw [b3]
      kernel_rfl
   show XQ _ _ _ _ _ _ _ _
   refine XQ.seq E0_ok (by kernel_rfl) ?_
   refine XQ.region (by kernel_rfl) ?_
   refine XR.runS E0_ok 1 2 [(3, ii x3_3), (4, .map (some 0)), (9, s0 1 o4.length), (11, pp 2 0), (12, ii (cond (r41) x13_5 x12_5)), (13, ii x13_5), (15, ii (cond (!r41) 14 0)), (51, ii x51_3), (52, ii x52_3), (87, s0 1 o4.length), (88, ii x13_5)] rfl (by kernel_rfl) ?_
   obtain ⟨r42, r42_h, h⟩ := bS h
   refine XR.call E0_ok [3, 4, 9, 11, 12, 13, 15, 51, 52, 89] rfl (K := 19) (args := [s0 1 o4.length, ii x13_5]) (d := (some (path 12 89))) (by kernel_rfl) (KQ.call (KC.quiet E0_ok (args0 := [s0 0 o4.length, ii x13_5]) (h0 := [(0, rc (encI .i64) o4 (0 + ((rowC (encI .i64) o4).length + 1)) 3 1)]) (n := 1) (V := ii r42) [1] (f19_ok m (0 + ((rowC (encI .i64) o4).length + 1)) 3 o4 x13_5 r42 r42_h) rfl (by rfl) (by decide) rfl (by kernel_rfl) ⟨⟨_, _, rfl, rfl, .inl ⟨rfl, rowC_scal (encI_ok .i64) _⟩⟩, trivial⟩) rfl) ?_
   rintro _ _ _ ⟨rfl, rfl, rfl⟩
   refine XR.conv (σ' := [(3, ii x3_3), (4, .map (some 0)), (9, s0 1 o4.length), (11, pp 2 0), (12, ii (cond (r41) x13_5 x12_5)), (13, ii x13_5), (15, ii (cond (!r41) 14 0)), (51, ii x51_3), (52, ii x52_3), (89, ii r42)]) (h' := [(2, rc (encI .i64) lh2_5 0 47 0), (1, rc (encI .i64) o4 0 3 1), (0, .imap (imA Value.bool mh0_3))]) (c' := 3) ?_ (by kernel_rfl)
   refine XR.runS E0_ok 1 2 [(3, ii x3_3), (4, .map (some 0)), (9, s0 1 o4.length), (11, pp 2 0), (12, ii (cond (r41) x13_5 x12_5)), (13, ii x13_5), (51, ii x51_3), (52, ii x52_3), (91, .bool (r42 != (cond (!r41) 14 0)))] rfl (by kernel_rfl) ?_
   refine XR.done (by kernel_rfl) ?_
   show XQ _ _ _ _ _ _ _ _
   cases b4 : (r42 != (cond (!r41) 14 0) : Bool) with
   | true =>
    have h := cT b4 h
    refine XQ.cond (s := (.tmp 91)) (b := true) (by kernel_rfl) (by kernel_rfl) (fun _ => ?_) (fun q => by cases q)
    refine XQ.seq E0_ok (by kernel_rfl) ?_
    refine XQ.region (by kernel_rfl) ?_
    refine XR.runS E0_ok 1 1 [(2, .bool false)] rfl (by kernel_rfl) ?_
    refine XR.done (by kernel_rfl) ?_
    show XQ _ _ _ _ _ _ _ _
    refine XQ.ren (σ' := [(2, .bool false)]) (h' := []) (c' := 0) [] (by decide) rfl ⟨by kernel_rfl, trivial⟩ trivial rfl ?_
    refine XQ.ret (by kernel_rfl) ?_
    cases h
    exact hQ
   | false =>
    have h := cF b4 h
    refine XQ.cond (s := (.tmp 91)) (b := false) (by kernel_rfl) (by kernel_rfl) (fun q => by cases q) (fun _ => ?_)
    refine XQ.skip (by kernel_rfl) ?_
    show XQ _ _ _ _ _ _ _ _
    refine XQ.region (by kernel_rfl) ?_
    refine XR.runS E0_ok 1 3 [(3, ii x3_3), (4, .map (some 0)), (9, s0 1 o4.length), (11, pp 2 0), (12, ii (cond (r41) x13_5 x12_5)), (13, ii (w64 (x13_5 - 1))), (51, ii x51_3), (52, ii x52_3)] rfl (by kernel_rfl) ?_
    refine XR.done (by kernel_rfl) ?_
    show XL _ _ _ _ _ _ _ _ _
    refine XL.ren (σ' := [(3, ii x3_3), (4, .map (some 0)), (9, s0 1 o4.length), (11, pp 2 0), (12, ii (cond (r41) x13_5 x12_5)), (13, ii (w64 (x13_5 - 1))), (51, ii x51_3), (52, ii x52_3)]) (h' := [(2, rc (encI .i64) lh2_5 0 47 0), (1, rc (encI .i64) o4 0 3 1), (0, .imap (imA Value.bool mh0_3))]) (c' := 3) [0, 1, 2] (by decide) rfl ⟨by kernel_rfl, by kernel_rfl, by kernel_rfl, by kernel_rfl, by kernel_rfl, by kernel_rfl, by kernel_rfl, by kernel_rfl, trivial⟩ ⟨⟨_, _, rfl, rfl, .inl ⟨rfl, rowC_scal (encI_ok .i64) _⟩⟩, ⟨_, _, rfl, rfl, .inl ⟨rfl, rowC_scal (encI_ok .i64) _⟩⟩, ⟨_, _, rfl, rfl, .inl ⟨rfl, trivial⟩⟩, trivial⟩ rfl ?_
    refine XL.conv (f6_5_ok m fuel x3_3 x51_3 x52_3 mh0_3 o4 (cond (r41) x13_5 x12_5) (w64 (x13_5 - 1)) lh2_5 o h Q hQ) (by first | rfl | simp)
  | false =>
   have h := cF b1 h
   refine XQ.cond (s := (.tmp 77)) (b := false) (by kernel_rfl) (by kernel_rfl) (fun q => by cases q) (fun _ => ?_)
   refine XQ.ren (σ' := [(3, ii x3_3), (4, .map (some 0)), (9, s0 1 o4.length), (11, pp 2 0), (12, ii x12_5), (51, ii x51_3), (52, ii x52_3)]) (h' := [(2, rc (encI .i64) lh2_5 0 47 0), (1, rc (encI .i64) o4 0 3 1), (0, .imap (imA Value.bool mh0_3))]) (c' := 3) [0, 1, 2] (by decide) rfl ⟨by kernel_rfl, by kernel_rfl, by kernel_rfl, by kernel_rfl, by kernel_rfl, by kernel_rfl, by kernel_rfl, trivial⟩ ⟨⟨_, _, rfl, rfl, .inl ⟨rfl, rowC_scal (encI_ok .i64) _⟩⟩, ⟨_, _, rfl, rfl, .inl ⟨rfl, rowC_scal (encI_ok .i64) _⟩⟩, ⟨_, _, rfl, rfl, .inl ⟨rfl, trivial⟩⟩, trivial⟩ rfl ?_
   refine XQ.exit (i := 8) (by kernel_rfl) ?_
   cases h
   exact hQ

inductive Of6_3 where
 | r
 | x4

def f6_3 (m : Nat) : Nat → Int → Int → Int → List (List Int × Bool) → Option Of6_3
 | 0, _, _, _, _ => none
 | fuel + 1, x3_3, x51_3, x52_3, mh0_3 =>
  cond (decide (x52_3 < x51_3)) (
   cond (mkOK x3_3 x3_3 8) (
    (f6_4 m m x3_3 x51_3 x52_3 mh0_3 x52_3 (((Int.toNat x3_3) : Nat) : Int) 0 (List.replicate (Int.toNat x3_3) 0)).bind fun o4 =>
     cond (cutOK 0 ((5 : Nat) : Int) ((5 : Nat) : Int) 5) (
      cond (Nat.ble o4.length 5 && Nat.ble o4.length [0, 0, 0, 0, 0].length) (
       (f6_5 m m x3_3 x51_3 x52_3 mh0_3 o4 0 x3_3 (o4 ++ List.drop o4.length [0, 0, 0, 0, 0])).bind fun o5 =>
        match o5 with
        | .r =>
         some (.r)
        | .x8 x12_x85 lh2_x85 =>
         (f15 m o4).bind fun r43 =>
          (f17 m o4).bind fun r44 =>
           (f35 m o4).bind fun r45 =>
            cond (r43.2 != 0) (
             some (.r)
            ) (
             cond (decide (lh2_x85.length = 5)) (
              cond (Nat.beq lh2_x85.length 5 && lensA 5 mh0_3) (
               cond (!(r43.1 == (getA false mh0_3 lh2_x85))) (
                some (.r)
               ) (
                cond (!((Int.tmod r45 2) == 1)) (
                 cond (!(r43.1 == (x12_x85 == 0))) (
                  some (.r)
                 ) (
                  cond (r43.1) (
                   cond (r44.2 != 13) (
                    some (.r)
                   ) (
                    cond (r44.1 != 0) (
                     some (.r)
                    ) (
                     f6_3 m fuel x3_3 x51_3 (w64 (x52_3 + 1)) mh0_3
                    )
                   )
                  ) (
                   cond ((Int.tmod r45 2) == 1) (
                    cond (r44.2 != 17) (
                     some (.r)
                    ) (
                     cond (r44.1 != 0) (
                      some (.r)
                     ) (
                      f6_3 m fuel x3_3 x51_3 (w64 (x52_3 + 1)) mh0_3
                     )
                    )
                   ) (
                    cond (r44.2 != 0) (
                     some (.r)
                    ) (
                     cond (r44.1 != x12_x85) (
                      some (.r)
                     ) (
                      f6_3 m fuel x3_3 x51_3 (w64 (x52_3 + 1)) mh0_3
                     )
                    )
                   )
                  )
                 )
                ) (
                 cond (!(r43.1 == false)) (
                  some (.r)
                 ) (
                  cond (r43.1) (
                   cond (r44.2 != 13) (
                    some (.r)
                   ) (
                    cond (r44.1 != 0) (
                     some (.r)
                    ) (
                     f6_3 m fuel x3_3 x51_3 (w64 (x52_3 + 1)) mh0_3
                    )
                   )
                  ) (
                   cond ((Int.tmod r45 2) == 1) (
                    cond (r44.2 != 17) (
                     some (.r)
                    ) (
                     cond (r44.1 != 0) (
                      some (.r)
                     ) (
                      f6_3 m fuel x3_3 x51_3 (w64 (x52_3 + 1)) mh0_3
                     )
                    )
                   ) (
                    cond (r44.2 != 0) (
                     some (.r)
                    ) (
                     cond (r44.1 != x12_x85) (
                      some (.r)
                     ) (
                      f6_3 m fuel x3_3 x51_3 (w64 (x52_3 + 1)) mh0_3
                     )
                    )
                   )
                  )
                 )
                )
               )
              ) none
             ) none
            )
      ) none
     ) none
   ) none
  ) (
   some (.x4)
  )

theorem f6_3_ok (m : Nat) : ∀ (fuel : Nat) (x3_3 : Int) (x51_3 : Int) (x52_3 : Int) (mh0_3 : List (List Int × Bool)) (o : Of6_3), f6_3 m fuel x3_3 x51_3 x52_3 mh0_3 = some o → ∀ Q : QP, (match o with | .r => Q .ret [(2, .bool false)] [] 0 | .x4 => Q (.exit 4) [] [] 0) → XL E0 151 0 fuel f6_L3 [(3, ii x3_3), (4, .map (some 0)), (51, ii x51_3), (52, ii x52_3)] [(0, .imap (imA Value.bool mh0_3))] 1 Q
 | 0, x3_3, x51_3, x52_3, mh0_3, o, h, Q, hQ => by cases h
 | fuel + 1, x3_3, x51_3, x52_3, mh0_3, o, h, Q, hQ => by
  unfold f6_3 at h
  refine XL.succ E0_ok ?_
  refine XQ.seq E0_ok (by kernel_rfl) ?_
  refine XQ.region (by kernel_rfl) ?_
  refine XR.runS E0_ok 1 1 [(3, ii x3_3), (4, .map (some 0)), (51, ii x51_3), (52, ii x52_3), (53, .bool (decide (x52_3 < x51_3)))] rfl (by kernel_rfl) ?_
  refine XR.done (by kernel_rfl) ?_
  show XQ _ _ _ _ _ _ _ _
  refine XQ.seq E0_ok (by kernel_rfl) ?_
  cases b1 : (decide (x52_3 < x51_3) : Bool) with
  | true =>
   have h := cT b1 h
   refine XQ.cond (s := (.tmp 53)) (b := true) (by kernel_rfl) (by kernel_rfl) (fun _ => ?_) (fun q => by cases q)
   refine XQ.skip (by kernel_rfl) ?_
   show XQ _ _ _ _ _ _ _ _
   refine XQ.seq E0_ok (by kernel_rfl) ?_
   refine XQ.block (id := 5) (by kernel_rfl) ?_
   refine XQ.seq E0_ok (by kernel_rfl) ?_
   refine XQ.region (by kernel_rfl) ?_
   refine XR.runS E0_ok 1 2 [(3, ii x3_3), (4, .map (some 0)), (8, ii x52_3), (51, ii x51_3), (52, ii x52_3)] rfl (by kernel_rfl) ?_
   refine XR.done (by kernel_rfl) ?_
   show XQ _ _ _ _ _ _ _ _
   refine XQ.seq E0_ok (by kernel_rfl) ?_
   refine XQ.region (by kernel_rfl) ?_
   refine XR.runS E0_ok 1 1 [(3, ii x3_3), (4, .map (some 0)), (8, ii x52_3), (51, ii x51_3), (52, ii x52_3), (55, ii x3_3)] rfl (by kernel_rfl) ?_
   cases b2 : (mkOK x3_3 x3_3 8 : Bool) with
   | false => cases (cF b2 h)
   | true =>
    have h := cT b2 h
    refine XR.ef E0_ok [3, 4, 8, 51, 52, 56] rfl (e_make (encI_ok .i64) (x := (src 151 (.tmp 55))) (y := (src 151 (.tmp 55))) (l := x3_3) (n := x3_3) (bytes := 8) (e := 3) (z := #[ii 0]) (d := (some (path 12 56))) (by kernel_rfl) (by kernel_rfl) (by kernel_rfl) 0 rfl (by kernel_rfl) b2) (σ' := [(3, ii x3_3), (4, .map (some 0)), (8, ii x52_3), (51, ii x51_3), (52, ii x52_3), (56, s0 1 (Int.toNat x3_3))]) (by kernel_rfl) ?_
    refine XR.runS E0_ok 1 1 [(3, ii x3_3), (4, .map (some 0)), (8, ii x52_3), (9, s0 1 (Int.toNat x3_3)), (51, ii x51_3), (52, ii x52_3)] rfl (by kernel_rfl) ?_
    refine XR.done (by kernel_rfl) ?_
    show XQ _ _ _ _ _ _ _ _
    refine XQ.seq E0_ok (by kernel_rfl) ?_
    refine XQ.seq E0_ok (by kernel_rfl) ?_
    refine XQ.region (by kernel_rfl) ?_
    refine XR.runS E0_ok 1 3 [(3, ii x3_3), (4, .map (some 0)), (8, ii x52_3), (9, s0 1 (Int.toNat x3_3)), (51, ii x51_3), (52, ii x52_3), (58, ii (((Int.toNat x3_3) : Nat) : Int)), (59, ii 0)] rfl (by kernel_rfl) ?_
    refine XR.done (by kernel_rfl) ?_
    show XQ _ _ _ _ _ _ _ _
    refine XQ.block (id := 6) (by kernel_rfl) ?_
    refine XQ.loop m (by kernel_rfl) ?_
    obtain ⟨o4, o4_h, h⟩ := bS h
    refine XL.ren (σ' := [(3, ii x3_3), (4, .map (some 0)), (8, ii x52_3), (9, s0 1 (Int.toNat x3_3)), (51, ii x51_3), (52, ii x52_3), (58, ii (((Int.toNat x3_3) : Nat) : Int)), (59, ii 0)]) (h' := [(1, rc (encI .i64) (List.replicate (Int.toNat x3_3) 0) 0 3 1), (0, .imap (imA Value.bool mh0_3))]) (c' := 2) [0, 1] (by decide) rfl ⟨by kernel_rfl, by kernel_rfl, by kernel_rfl, by kernel_rfl, by kernel_rfl, by kernel_rfl, by kernel_rfl, by kernel_rfl, trivial⟩ ⟨⟨_, _, rfl, rfl, .inl ⟨rfl, rowC_scal (encI_ok .i64) _⟩⟩, ⟨_, _, rfl, rfl, .inl ⟨rfl, trivial⟩⟩, trivial⟩ rfl ?_
    refine XL.conv (f6_4_ok m m x3_3 x51_3 x52_3 mh0_3 x52_3 (((Int.toNat x3_3) : Nat) : Int) 0 (List.replicate (Int.toNat x3_3) 0) o4 o4_h _ ?_) (by first | rfl | simp)
    show XQ _ _ _ _ _ _ _ _
    refine XQ.seq E0_ok (by kernel_rfl) ?_
    refine XQ.region (by kernel_rfl) ?_
    refine XR.runT E0_ok 1 1 [(3, ii x3_3), (4, .map (some 0)), (9, s0 1 o4.length), (11, pp 2 0), (51, ii x51_3), (52, ii x52_3)] [(2, .cells [ii 0, ii 0, ii 0, ii 0, ii 0] 0 47 0), (1, rc (encI .i64) o4 0 3 1), (0, .imap (imA Value.bool mh0_3))] 3 rfl (by kernel_rfl) ?_
    refine XR.done (by kernel_rfl) ?_
    show XQ _ _ _ _ _ _ _ _
    refine XQ.seq E0_ok (by kernel_rfl) ?_
    refine XQ.region (by kernel_rfl) ?_
    cases b4 : (cutOK 0 ((5 : Nat) : Int) ((5 : Nat) : Int) 5 : Bool) with
    | false => cases (cF b4 h)
    | true =>
     have h := cT b4 h
     refine XR.rd E0_ok [3, 4, 9, 11, 51, 52, 72] rfl (v := s0 2 5) (v_cutA (nt := 151) (s := 1) (n := 5) (x := (src 151 (.tmp 11))) (lo := none) (hi := none) (b := 2) (o := 0) (l := none) (u := none) (cs := rowC (encI .i64) [0, 0, 0, 0, 0]) (fz := 0) (e := 47) (o' := 0) (len' := 5) (cap' := 5) (d := (some (path 12 72))) (by kernel_rfl) (by kernel_rfl) (by kernel_rfl) (by kernel_rfl) (by kernel_rfl) b4 (by simp only [Option.getD_none, Option.getD_some] <;> omega) (by simp only [Option.getD_none, Option.getD_some] <;> omega) (by simp only [Option.getD_none, Option.getD_some] <;> omega)) (σ' := [(3, ii x3_3), (4, .map (some 0)), (9, s0 1 o4.length), (11, pp 2 0), (51, ii x51_3), (52, ii x52_3), (72, s0 2 5)]) (by kernel_rfl) ?_
     refine XR.runS E0_ok 1 1 [(3, ii x3_3), (4, .map (some 0)), (9, s0 1 o4.length), (11, pp 2 0), (51, ii x51_3), (52, ii x52_3), (72, s0 2 5), (73, s0 1 o4.length)] rfl (by kernel_rfl) ?_
     cases b5 : (Nat.ble o4.length 5 && Nat.ble o4.length [0, 0, 0, 0, 0].length : Bool) with
     | false => cases (cF b5 h)
     | true =>
      have h := cT b5 h
      refine XR.ef E0_ok [3, 4, 9, 11, 51, 52] rfl (e_copy (s := (src 151 (.tmp 72))) (x := (src 151 (.tmp 73))) (d := (some (path 12 74))) (b := 2) (len := 5) (cap := 5) (L := [0, 0, 0, 0, 0]) (ys := o4) (e := 47) (es := 0) (V := s0 1 o4.length) (h' := [(2, rc (encI .i64) (o4 ++ List.drop o4.length [0, 0, 0, 0, 0]) 0 47 0), (1, rc (encI .i64) o4 0 3 1), (0, .imap (imA Value.bool mh0_3))]) (by kernel_rfl) (by kernel_rfl) (by kernel_rfl) (fetch_all (encI_ok .i64) (ys := o4) (fz := 0) (e := 3) (es := 1) (by kernel_rfl) (by first | rfl | simp) (Nat.le_refl _)) (by kernel_rfl) b5 (by kernel_rfl)) (σ' := [(3, ii x3_3), (4, .map (some 0)), (9, s0 1 o4.length), (11, pp 2 0), (51, ii x51_3), (52, ii x52_3)]) (by kernel_rfl) ?_
      refine XR.done (by kernel_rfl) ?_
      show XQ _ _ _ _ _ _ _ _
      refine XQ.seq E0_ok (by kernel_rfl) ?_
      refine XQ.region (by kernel_rfl) ?_
      refine XR.runS E0_ok 1 1 [(3, ii x3_3), (4, .map (some 0)), (9, s0 1 o4.length), (11, pp 2 0), (12, ii 0), (51, ii x51_3), (52, ii x52_3)] rfl (by kernel_rfl) ?_
      refine XR.done (by kernel_rfl) ?_
      show XQ _ _ _ _ _ _ _ _
      refine XQ.seq E0_ok (by kernel_rfl) ?_
      refine XQ.seq E0_ok (by kernel_rfl) ?_
      refine XQ.region (by kernel_rfl) ?_
      refine XR.runS E0_ok 1 2 [(3, ii x3_3), (4, .map (some 0)), (9, s0 1 o4.length), (11, pp 2 0), (12, ii 0), (13, ii x3_3), (51, ii x51_3), (52, ii x52_3)] rfl (by kernel_rfl) ?_
      refine XR.done (by kernel_rfl) ?_
      show XQ _ _ _ _ _ _ _ _
      refine XQ.block (id := 8) (by kernel_rfl) ?_
      refine XQ.loop m (by kernel_rfl) ?_
      obtain ⟨o5, o5_h, h⟩ := bS h
      refine XL.ren (σ' := [(3, ii x3_3), (4, .map (some 0)), (9, s0 1 o4.length), (11, pp 2 0), (12, ii 0), (13, ii x3_3), (51, ii x51_3), (52, ii x52_3)]) (h' := [(2, rc (encI .i64) (o4 ++ List.drop o4.length [0, 0, 0, 0, 0]) 0 47 0), (1, rc (encI .i64) o4 0 3 1), (0, .imap (imA Value.bool mh0_3))]) (c' := 3) [0, 1, 2] (by decide) rfl ⟨by kernel_rfl, by kernel_rfl, by kernel_rfl, by kernel_rfl, by kernel_rfl, by kernel_rfl, by kernel_rfl, by kernel_rfl, trivial⟩ ⟨⟨_, _, rfl, rfl, .inl ⟨rfl, rowC_scal (encI_ok .i64) _⟩⟩, ⟨_, _, rfl, rfl, .inl ⟨rfl, rowC_scal (encI_ok .i64) _⟩⟩, ⟨_, _, rfl, rfl, .inl ⟨rfl, trivial⟩⟩, trivial⟩ rfl ?_
      cases o5 with
      | r =>
       dsimp only at h
       refine XL.conv (f6_5_ok m m x3_3 x51_3 x52_3 mh0_3 o4 0 x3_3 (o4 ++ List.drop o4.length [0, 0, 0, 0, 0]) (.r) o5_h _ ?_) (by first | rfl | simp)
       cases h
       exact hQ
      | x8 x12_x85 lh2_x85 =>
       dsimp only at h
       refine XL.conv (f6_5_ok m m x3_3 x51_3 x52_3 mh0_3 o4 0 x3_3 (o4 ++ List.drop o4.length [0, 0, 0, 0, 0]) (.x8 x12_x85 lh2_x85) o5_h _ ?_) (by first | rfl | simp)
       show XQ _ _ _ _ _ _ _ _
       refine XQ.seq E0_ok (by kernel_rfl) ?_
       refine XQ.region (by kernel_rfl) ?_
       refine XR.runS E0_ok 1 1 [(3, ii x3_3), (4, .map (some 0)), (9, s0 1 o4.length), (11, pp 2 0), (12, ii x12_x85), (51, ii x51_3), (52, ii x52_3), (93, s0 1 o4.length)] rfl (by kernel_rfl) ?_
       obtain ⟨r43, r43_h, h⟩ := bS h
       refine XR.call E0_ok [3, 4, 9, 11, 12, 51, 52, 94] rfl (K := 15) (args := [s0 1 o4.length]) (d := (some (path 12 94))) (by kernel_rfl) (KQ.call (KC.quiet E0_ok (args0 := [s0 0 o4.length]) (h0 := [(0, rc (encI .i64) o4 (0 + ((rowC (encI .i64) o4).length + 1)) 3 1)]) (n := 1) (V := .tuple #[.bool r43.1, ii r43.2]) [1] (f15_ok m (0 + ((rowC (encI .i64) o4).length + 1)) 3 o4 r43 r43_h) rfl (by rfl) (by decide) rfl (by kernel_rfl) ⟨⟨_, _, rfl, rfl, .inl ⟨rfl, rowC_scal (encI_ok .i64) _⟩⟩, trivial⟩) rfl) ?_
       rintro _ _ _ ⟨rfl, rfl, rfl⟩
       refine XR.conv (σ' := [(3, ii x3_3), (4, .map (some 0)), (9, s0 1 o4.length), (11, pp 2 0), (12, ii x12_x85), (51, ii x51_3), (52, ii x52_3), (94, .tuple #[.bool r43.1, ii r43.2])]) (h' := [(2, rc (encI .i64) lh2_x85 0 47 0), (1, rc (encI .i64) o4 0 3 1), (0, .imap (imA Value.bool mh0_3))]) (c' := 3) ?_ (by kernel_rfl)
       refine XR.runS E0_ok 1 5 [(3, ii x3_3), (4, .map (some 0)), (9, s0 1 o4.length), (11, pp 2 0), (12, ii x12_x85), (16, .bool r43.1), (17, ii r43.2), (51, ii x51_3), (52, ii x52_3)] rfl (by kernel_rfl) ?_
       refine XR.done (by kernel_rfl) ?_
       show XQ _ _ _ _ _ _ _ _
       refine XQ.seq E0_ok (by kernel_rfl) ?_
       refine XQ.region (by kernel_rfl) ?_
       refine XR.runS E0_ok 1 1 [(3, ii x3_3), (4, .map (some 0)), (9, s0 1 o4.length), (11, pp 2 0), (12, ii x12_x85), (16, .bool r43.1), (17, ii r43.2), (51, ii x51_3), (52, ii x52_3), (98, s0 1 o4.length)] rfl (by kernel_rfl) ?_
       obtain ⟨r44, r44_h, h⟩ := bS h
       refine XR.call E0_ok [3, 4, 9, 11, 12, 16, 17, 51, 52, 99] rfl (K := 17) (args := [s0 1 o4.length]) (d := (some (path 12 99))) (by kernel_rfl) (KQ.call (KC.quiet E0_ok (args0 := [s0 0 o4.length]) (h0 := [(0, rc (encI .i64) o4 (0 + ((rowC (encI .i64) o4).length + 1)) 3 1)]) (n := 1) (V := .tuple #[ii r44.1, ii r44.2]) [1] (f17_ok m (0 + ((rowC (encI .i64) o4).length + 1)) 3 o4 r44 r44_h) rfl (by rfl) (by decide) rfl (by kernel_rfl) ⟨⟨_, _, rfl, rfl, .inl ⟨rfl, rowC_scal (encI_ok .i64) _⟩⟩, trivial⟩) rfl) ?_
       rintro _ _ _ ⟨rfl, rfl, rfl⟩
       refine XR.conv (σ' := [(3, ii x3_3), (4, .map (some 0)), (9, s0 1 o4.length), (11, pp 2 0), (12, ii x12_x85), (16, .bool r43.1), (17, ii r43.2), (51, ii x51_3), (52, ii x52_3), (99, .tuple #[ii r44.1, ii r44.2])]) (h' := [(2, rc (encI .i64) lh2_x85 0 47 0), (1, rc (encI .i64) o4 0 3 1), (0, .imap (imA Value.bool mh0_3))]) (c' := 3) ?_ (by kernel_rfl)
       refine XR.runS E0_ok 1 5 [(3, ii x3_3), (4, .map (some 0)), (9, s0 1 o4.length), (11, pp 2 0), (12, ii x12_x85), (16, .bool r43.1), (17, ii r43.2), (18, ii r44.1), (19, ii r44.2), (51, ii x51_3), (52, ii x52_3)] rfl (by kernel_rfl) ?_
       refine XR.done (by kernel_rfl) ?_
       show XQ _ _ _ _ _ _ _ _
       refine XQ.seq E0_ok (by kernel_rfl) ?_
       refine XQ.region (by kernel_rfl) ?_
       refine XR.runS E0_ok 1 1 [(3, ii x3_3), (4, .map (some 0)), (11, pp 2 0), (12, ii x12_x85), (16, .bool r43.1), (17, ii r43.2), (18, ii r44.1), (19, ii r44.2), (51, ii x51_3), (52, ii x52_3), (102, s0 1 o4.length)] rfl (by kernel_rfl) ?_
       obtain ⟨r45, r45_h, h⟩ := bS h
       refine XR.call E0_ok [3, 4, 11, 12, 16, 17, 18, 19, 51, 52, 103] rfl (K := 35) (args := [s0 1 o4.length]) (d := (some (path 12 103))) (by kernel_rfl) (KQ.call (KC.quiet E0_ok (args0 := [s0 0 o4.length]) (h0 := [(0, rc (encI .i64) o4 (0 + ((rowC (encI .i64) o4).length + 1)) 3 1)]) (n := 1) (V := ii r45) [1] (f35_ok m (0 + ((rowC (encI .i64) o4).length + 1)) 3 o4 r45 r45_h) rfl (by rfl) (by decide) rfl (by kernel_rfl) ⟨⟨_, _, rfl, rfl, .inl ⟨rfl, rowC_scal (encI_ok .i64) _⟩⟩, trivial⟩) rfl) ?_
       rintro _ _ _ ⟨rfl, rfl, rfl⟩
       refine XR.conv (σ' := [(3, ii x3_3), (4, .map (some 0)), (11, pp 2 0), (12, ii x12_x85), (16, .bool r43.1), (17, ii r43.2), (18, ii r44.1), (19, ii r44.2), (51, ii x51_3), (52, ii x52_3), (103, ii r45)]) (h' := [(2, rc (encI .i64) lh2_x85 0 47 0), (1, rc (encI .i64) o4 0 3 1), (0, .imap (imA Value.bool mh0_3))]) (c' := 3) ?_ (by kernel_rfl)
       refine XR.runS E0_ok 1 3 [(3, ii x3_3), (4, .map (some 0)), (11, pp 2 0), (12, ii x12_x85), (16, .bool r43.1), (17, ii r43.2), (18, ii r44.1), (19, ii r44.2), (20, .bool ((Int.tmod r45 2) == 1)), (51, ii x51_3), (52, ii x52_3)] rfl (by kernel_rfl) ?_
       refine XR.done (by kernel_rfl) ?_
       show XQ _ _ _ _ _ _ _ _
       refine XQ.seq E0_ok (by kernel_rfl) ?_
       refine XQ.seq E0_ok (by kernel_rfl) ?_
       refine XQ.region (by kernel_rfl) ?_
       refine XR.runS E0_ok 1 3 [(3, ii x3_3), (4, .map (some 0)), (11, pp 2 0), (12, ii x12_x85), (16, .bool r43.1), (18, ii r44.1), (19, ii r44.2), (20, .bool ((Int.tmod r45 2) == 1)), (51, ii x51_3), (52, ii x52_3), (108, .bool (r43.2 != 0))] rfl (by kernel_rfl) ?_
       cases b7 : (r43.2 != 0 : Bool) with
       | true =>
        have h := cT b7 h
        refine XR.runS E0_ok 1 16 [(3, ii x3_3), (4, .map (some 0)), (12, ii x12_x85), (16, .bool r43.1), (18, ii r44.1), (19, ii r44.2), (20, .bool ((Int.tmod r45 2) == 1)), (51, ii x51_3), (52, ii x52_3), (124, .bool true)] rfl (by kernel_rfl) ?_
        refine XR.done (by kernel_rfl) ?_
        show XQ _ _ _ _ _ _ _ _
        refine XQ.cond (s := (.tmp 124)) (b := true) (by kernel_rfl) (by kernel_rfl) (fun _ => ?_) (fun q => by cases q)
        refine XQ.seq E0_ok (by kernel_rfl) ?_
        refine XQ.region (by kernel_rfl) ?_
        refine XR.runS E0_ok 1 1 [(2, .bool false)] rfl (by kernel_rfl) ?_
        refine XR.done (by kernel_rfl) ?_
        show XQ _ _ _ _ _ _ _ _
        refine XQ.ren (σ' := [(2, .bool false)]) (h' := []) (c' := 0) [] (by decide) rfl ⟨by kernel_rfl, trivial⟩ trivial rfl ?_
        refine XQ.ret (by kernel_rfl) ?_
        cases h
        exact hQ
       | false =>
        have h := cF b7 h
        refine XR.runS E0_ok 1 2 [(3, ii x3_3), (4, .map (some 0)), (11, pp 2 0), (12, ii x12_x85), (16, .bool r43.1), (18, ii r44.1), (19, ii r44.2), (20, .bool ((Int.tmod r45 2) == 1)), (51, ii x51_3), (52, ii x52_3), (108, .bool false), (109, .bool r43.1), (110, .map (some 0))] rfl (by kernel_rfl) ?_
        cases b8 : (decide (lh2_x85.length = 5) : Bool) with
        | false => cases (cF b8 h)
        | true =>
         have h := cT b8 h
         refine XR.rd E0_ok [3, 4, 12, 16, 18, 19, 20, 51, 52, 108, 109, 110, 111] rfl (v := .agg (rowC (encI .i64) lh2_x85).toArray) (v_loadA (n := 5) (x := (src 151 (.tmp 11))) (b := 2) (L := lh2_x85) (fz := 0) (e := 47) (es := 0) (d := (some (path 12 111))) (by kernel_rfl) (by kernel_rfl) (by kernel_rfl) b8) (σ' := [(3, ii x3_3), (4, .map (some 0)), (12, ii x12_x85), (16, .bool r43.1), (18, ii r44.1), (19, ii r44.2), (20, .bool ((Int.tmod r45 2) == 1)), (51, ii x51_3), (52, ii x52_3), (108, .bool false), (109, .bool r43.1), (110, .map (some 0)), (111, .agg (rowC (encI .i64) lh2_x85).toArray)]) (by kernel_rfl) ?_
         cases b9 : (Nat.beq lh2_x85.length 5 && lensA 5 mh0_3 : Bool) with
         | false => cases (cF b9 h)
         | true =>
          have h := cT b9 h
          refine XR.rd E0_ok [3, 4, 12, 16, 18, 19, 20, 51, 52, 108, 109, 112] rfl (v := .bool (getA false mh0_3 lh2_x85)) (v_mgetA Value.bool (n := 5) (x := (src 151 (.tmp 110))) (i := (src 151 (.tmp 111))) (z := .bool false) (d := (some (path 12 112))) (b := 0) (k := lh2_x85) (l := mh0_3) (d0 := false) (by kernel_rfl) (by kernel_rfl) (by kernel_rfl) rfl (by kernel_rfl) b9 rfl rfl rfl) (σ' := [(3, ii x3_3), (4, .map (some 0)), (12, ii x12_x85), (16, .bool r43.1), (18, ii r44.1), (19, ii r44.2), (20, .bool ((Int.tmod r45 2) == 1)), (51, ii x51_3), (52, ii x52_3), (108, .bool false), (109, .bool r43.1), (112, .bool (getA false mh0_3 lh2_x85))]) (by kernel_rfl) ?_
          refine XR.runS E0_ok 1 3 [(3, ii x3_3), (4, .map (some 0)), (12, ii x12_x85), (16, .bool r43.1), (18, ii r44.1), (19, ii r44.2), (20, .bool ((Int.tmod r45 2) == 1)), (51, ii x51_3), (52, ii x52_3), (115, .bool (!(r43.1 == (getA false mh0_3 lh2_x85))))] rfl (by kernel_rfl) ?_
          cases b10 : (!(r43.1 == (getA false mh0_3 lh2_x85)) : Bool) with
          | true =>
           have h := cT b10 h
           refine XR.runS E0_ok 1 9 [(3, ii x3_3), (4, .map (some 0)), (12, ii x12_x85), (16, .bool r43.1), (18, ii r44.1), (19, ii r44.2), (20, .bool ((Int.tmod r45 2) == 1)), (51, ii x51_3), (52, ii x52_3), (124, .bool true)] rfl (by kernel_rfl) ?_
           refine XR.done (by kernel_rfl) ?_
           show XQ _ _ _ _ _ _ _ _
           refine XQ.cond (s := (.tmp 124)) (b := true) (by kernel_rfl) (by kernel_rfl) (fun _ => ?_) (fun q => by cases q)
           refine XQ.seq E0_ok (by kernel_rfl) ?_
           refine XQ.region (by kernel_rfl) ?_
           refine XR.runS E0_ok 1 1 [(2, .bool false)] rfl (by kernel_rfl) ?_
           refine XR.done (by kernel_rfl) ?_
           show XQ _ _ _ _ _ _ _ _
           refine XQ.ren (σ' := [(2, .bool false)]) (h' := []) (c' := 0) [] (by decide) rfl ⟨by kernel_rfl, trivial⟩ trivial rfl ?_
           refine XQ.ret (by kernel_rfl) ?_
           cases h
           exact hQ
          | false =>
           have h := cF b10 h
           refine XR.runS E0_ok 1 4 [(3, ii x3_3), (4, .map (some 0)), (12, ii x12_x85), (16, .bool r43.1), (18, ii r44.1), (19, ii r44.2), (20, .bool ((Int.tmod r45 2) == 1)), (51, ii x51_3), (52, ii x52_3), (115, .bool false), (116, .bool r43.1), (119, .bool (!((Int.tmod r45 2) == 1)))] rfl (by kernel_rfl) ?_
           cases b11 : (!((Int.tmod r45 2) == 1) : Bool) with
           | true =>
            have h := cT b11 h
            refine XR.runS E0_ok 1 5 [(3, ii x3_3), (4, .map (some 0)), (12, ii x12_x85), (16, .bool r43.1), (18, ii r44.1), (19, ii r44.2), (20, .bool ((Int.tmod r45 2) == 1)), (51, ii x51_3), (52, ii x52_3), (124, .bool (!(r43.1 == (x12_x85 == 0))))] rfl (by kernel_rfl) ?_
            refine XR.done (by kernel_rfl) ?_
            show XQ _ _ _ _ _ _ _ _
            cases b12 : (!(r43.1 == (x12_x85 == 0)) : Bool) with
            | true =>
             have h := cT b12 h
             refine XQ.cond (s := (.tmp 124)) (b := true) (by kernel_rfl) (by kernel_rfl) (fun _ => ?_) (fun q => by cases q)
             refine XQ.seq E0_ok (by kernel_rfl) ?_
             refine XQ.region (by kernel_rfl) ?_
             refine XR.runS E0_ok 1 1 [(2, .bool false)] rfl (by kernel_rfl) ?_
             refine XR.done (by kernel_rfl) ?_
             show XQ _ _ _ _ _ _ _ _
             refine XQ.ren (σ' := [(2, .bool false)]) (h' := []) (c' := 0) [] (by decide) rfl ⟨by kernel_rfl, trivial⟩ trivial rfl ?_
             refine XQ.ret (by kernel_rfl) ?_
             cases h
             exact hQ
            | false =>
             have h := cF b12 h
             refine XQ.cond (s := (.tmp 124)) (b := false) (by kernel_rfl) (by kernel_rfl) (fun q => by cases q) (fun _ => ?_)
             refine XQ.skip (by kernel_rfl) ?_
             show XQ _ _ _ _ _ _ _ _
             refine XQ.block (id := 10) (by kernel_rfl) ?_
             refine XQ.seq E0_ok (by kernel_rfl) ?_
             refine XQ.region (by kernel_rfl) ?_
             refine XR.runS E0_ok 1 2 [(3, ii x3_3), (4, .map (some 0)), (12, ii x12_x85), (18, ii r44.1), (19, ii r44.2), (20, .bool ((Int.tmod r45 2) == 1)), (51, ii x51_3), (52, ii x52_3), (125, .bool r43.1)] rfl (by kernel_rfl) ?_
             refine XR.done (by kernel_rfl) ?_
             show XQ _ _ _ _ _ _ _ _
             cases b13 : (r43.1 : Bool) with
             | true =>
              have h := cT b13 h
              refine XQ.cond (s := (.tmp 125)) (b := true) (by kernel_rfl) (by kernel_rfl) (fun _ => ?_) (fun q => by cases q)
              refine XQ.seq E0_ok (by kernel_rfl) ?_
              refine XQ.region (by kernel_rfl) ?_
              refine XR.runS E0_ok 1 3 [(3, ii x3_3), (4, .map (some 0)), (18, ii r44.1), (51, ii x51_3), (52, ii x52_3), (129, .bool (r44.2 != 13))] rfl (by kernel_rfl) ?_
              cases b14 : (r44.2 != 13 : Bool) with
              | true =>
               have h := cT b14 h
               refine XR.runS E0_ok 1 3 [(3, ii x3_3), (4, .map (some 0)), (51, ii x51_3), (52, ii x52_3), (132, .bool true)] rfl (by kernel_rfl) ?_
               refine XR.done (by kernel_rfl) ?_
               show XQ _ _ _ _ _ _ _ _
               refine XQ.cond (s := (.tmp 132)) (b := true) (by kernel_rfl) (by kernel_rfl) (fun _ => ?_) (fun q => by cases q)
               refine XQ.seq E0_ok (by kernel_rfl) ?_
               refine XQ.region (by kernel_rfl) ?_
               refine XR.runS E0_ok 1 1 [(2, .bool false)] rfl (by kernel_rfl) ?_
               refine XR.done (by kernel_rfl) ?_
               show XQ _ _ _ _ _ _ _ _
               refine XQ.ren (σ' := [(2, .bool false)]) (h' := []) (c' := 0) [] (by decide) rfl ⟨by kernel_rfl, trivial⟩ trivial rfl ?_
               refine XQ.ret (by kernel_rfl) ?_
               cases h
               exact hQ
              | false =>
               have h := cF b14 h
               refine XR.runS E0_ok 1 3 [(3, ii x3_3), (4, .map (some 0)), (51, ii x51_3), (52, ii x52_3), (132, .bool (r44.1 != 0))] rfl (by kernel_rfl) ?_
               refine XR.done (by kernel_rfl) ?_
               show XQ _ _ _ _ _ _ _ _
               cases b15 : (r44.1 != 0 : Bool) with
               | true =>
                have h := cT b15 h
                refine XQ.cond (s := (.tmp 132)) (b := true) (by kernel_rfl) (by kernel_rfl) (fun _ => ?_) (fun q => by cases q)
                refine XQ.seq E0_ok (by kernel_rfl) ?_
                refine XQ.region (by kernel_rfl) ?_
                refine XR.runS E0_ok 1 1 [(2, .bool false)] rfl (by kernel_rfl) ?_
                refine XR.done (by kernel_rfl) ?_
                show XQ _ _ _ _ _ _ _ _
                refine XQ.ren (σ' := [(2, .bool false)]) (h' := []) (c' := 0) [] (by decide) rfl ⟨by kernel_rfl, trivial⟩ trivial rfl ?_
                refine XQ.ret (by kernel_rfl) ?_
                cases h
                exact hQ
               | false =>
                have h := cF b15 h
                refine XQ.cond (s := (.tmp 132)) (b := false) (by kernel_rfl) (by kernel_rfl) (fun q => by cases q) (fun _ => ?_)
                refine XQ.skip (by kernel_rfl) ?_
                show XQ _ _ _ _ _ _ _ _
                refine XQ.region (by kernel_rfl) ?_
                refine XR.runS E0_ok 1 2 [(3, ii x3_3), (4, .map (some 0)), (51, ii x51_3), (52, ii (w64 (x52_3 + 1)))] rfl (by kernel_rfl) ?_
                refine XR.done (by kernel_rfl) ?_
                show XL _ _ _ _ _ _ _ _ _
                refine XL.ren (σ' := [(3, ii x3_3), (4, .map (some 0)), (51, ii x51_3), (52, ii (w64 (x52_3 + 1)))]) (h' := [(0, .imap (imA Value.bool mh0_3))]) (c' := 1) [0] (by decide) rfl ⟨by kernel_rfl, by kernel_rfl, by kernel_rfl, by kernel_rfl, trivial⟩ ⟨⟨_, _, rfl, rfl, .inl ⟨rfl, trivial⟩⟩, trivial⟩ rfl ?_
                refine XL.conv (f6_3_ok m fuel x3_3 x51_3 (w64 (x52_3 + 1)) mh0_3 o h Q hQ) (by first | rfl | simp)
             | false =>
              have h := cF b13 h
              refine XQ.cond (s := (.tmp 125)) (b := false) (by kernel_rfl) (by kernel_rfl) (fun q => by cases q) (fun _ => ?_)
              refine XQ.seq E0_ok (by kernel_rfl) ?_
              refine XQ.region (by kernel_rfl) ?_
              refine XR.runS E0_ok 1 2 [(3, ii x3_3), (4, .map (some 0)), (12, ii x12_x85), (18, ii r44.1), (19, ii r44.2), (51, ii x51_3), (52, ii x52_3), (133, .bool ((Int.tmod r45 2) == 1))] rfl (by kernel_rfl) ?_
              refine XR.done (by kernel_rfl) ?_
              show XQ _ _ _ _ _ _ _ _
              cases b16 : ((Int.tmod r45 2) == 1 : Bool) with
              | true =>
               have h := cT b16 h
               refine XQ.cond (s := (.tmp 133)) (b := true) (by kernel_rfl) (by kernel_rfl) (fun _ => ?_) (fun q => by cases q)
               refine XQ.seq E0_ok (by kernel_rfl) ?_
               refine XQ.region (by kernel_rfl) ?_
               refine XR.runS E0_ok 1 3 [(3, ii x3_3), (4, .map (some 0)), (18, ii r44.1), (51, ii x51_3), (52, ii x52_3), (137, .bool (r44.2 != 17))] rfl (by kernel_rfl) ?_
               cases b17 : (r44.2 != 17 : Bool) with
               | true =>
                have h := cT b17 h
                refine XR.runS E0_ok 1 3 [(3, ii x3_3), (4, .map (some 0)), (51, ii x51_3), (52, ii x52_3), (140, .bool true)] rfl (by kernel_rfl) ?_
                refine XR.done (by kernel_rfl) ?_
                show XQ _ _ _ _ _ _ _ _
                refine XQ.cond (s := (.tmp 140)) (b := true) (by kernel_rfl) (by kernel_rfl) (fun _ => ?_) (fun q => by cases q)
                refine XQ.seq E0_ok (by kernel_rfl) ?_
                refine XQ.region (by kernel_rfl) ?_
                refine XR.runS E0_ok 1 1 [(2, .bool false)] rfl (by kernel_rfl) ?_
                refine XR.done (by kernel_rfl) ?_
                show XQ _ _ _ _ _ _ _ _
                refine XQ.ren (σ' := [(2, .bool false)]) (h' := []) (c' := 0) [] (by decide) rfl ⟨by kernel_rfl, trivial⟩ trivial rfl ?_
                refine XQ.ret (by kernel_rfl) ?_
                cases h
                exact hQ
               | false =>
                have h := cF b17 h
                refine XR.runS E0_ok 1 3 [(3, ii x3_3), (4, .map (some 0)), (51, ii x51_3), (52, ii x52_3), (140, .bool (r44.1 != 0))] rfl (by kernel_rfl) ?_
                refine XR.done (by kernel_rfl) ?_
                show XQ _ _ _ _ _ _ _ _
                cases b18 : (r44.1 != 0 : Bool) with
                | true =>
                 have h := cT b18 h
                 refine XQ.cond (s := (.tmp 140)) (b := true) (by kernel_rfl) (by kernel_rfl) (fun _ => ?_) (fun q => by cases q)
                 refine XQ.seq E0_ok (by kernel_rfl) ?_
                 refine XQ.region (by kernel_rfl) ?_
                 refine XR.runS E0_ok 1 1 [(2, .bool false)] rfl (by kernel_rfl) ?_
                 refine XR.done (by kernel_rfl) ?_
                 show XQ _ _ _ _ _ _ _ _
                 refine XQ.ren (σ' := [(2, .bool false)]) (h' := []) (c' := 0) [] (by decide) rfl ⟨by kernel_rfl, trivial⟩ trivial rfl ?_
                 refine XQ.ret (by kernel_rfl) ?_
                 cases h
                 exact hQ
                | false =>
                 have h := cF b18 h
                 refine XQ.cond (s := (.tmp 140)) (b := false) (by kernel_rfl) (by kernel_rfl) (fun q => by cases q) (fun _ => ?_)
                 refine XQ.skip (by kernel_rfl) ?_
                 show XQ _ _ _ _ _ _ _ _
                 refine XQ.region (by kernel_rfl) ?_
                 refine XR.runS E0_ok 1 2 [(3, ii x3_3), (4, .map (some 0)), (51, ii x51_3), (52, ii (w64 (x52_3 + 1)))] rfl (by kernel_rfl) ?_
                 refine XR.done (by kernel_rfl) ?_
                 show XL _ _ _ _ _ _ _ _ _
                 refine XL.ren (σ' := [(3, ii x3_3), (4, .map (some 0)), (51, ii x51_3), (52, ii (w64 (x52_3 + 1)))]) (h' := [(0, .imap (imA Value.bool mh0_3))]) (c' := 1) [0] (by decide) rfl ⟨by kernel_rfl, by kernel_rfl, by kernel_rfl, by kernel_rfl, trivial⟩ ⟨⟨_, _, rfl, rfl, .inl ⟨rfl, trivial⟩⟩, trivial⟩ rfl ?_
                 refine XL.conv (f6_3_ok m fuel x3_3 x51_3 (w64 (x52_3 + 1)) mh0_3 o h Q hQ) (by first | rfl | simp)
              | false =>
               have h := cF b16 h
               refine XQ.cond (s := (.tmp 133)) (b := false) (by kernel_rfl) (by kernel_rfl) (fun q => by cases q) (fun _ => ?_)
               refine XQ.seq E0_ok (by kernel_rfl) ?_
               refine XQ.region (by kernel_rfl) ?_
               refine XR.runS E0_ok 1 3 [(3, ii x3_3), (4, .map (some 0)), (12, ii x12_x85), (18, ii r44.1), (51, ii x51_3), (52, ii x52_3), (144, .bool (r44.2 != 0))] rfl (by kernel_rfl) ?_
               cases b19 : (r44.2 != 0 : Bool) with
               | true =>
                have h := cT b19 h
                refine XR.runS E0_ok 1 5 [(3, ii x3_3), (4, .map (some 0)), (51, ii x51_3), (52, ii x52_3), (141, .bool true)] rfl (by kernel_rfl) ?_
                refine XR.done (by kernel_rfl) ?_
                show XQ _ _ _ _ _ _ _ _
                refine XQ.cond (s := (.tmp 141)) (b := true) (by kernel_rfl) (by kernel_rfl) (fun _ => ?_) (fun q => by cases q)
                refine XQ.seq E0_ok (by kernel_rfl) ?_
                refine XQ.region (by kernel_rfl) ?_
                refine XR.runS E0_ok 1 1 [(2, .bool false)] rfl (by kernel_rfl) ?_
                refine XR.done (by kernel_rfl) ?_
                show XQ _ _ _ _ _ _ _ _
                refine XQ.ren (σ' := [(2, .bool false)]) (h' := []) (c' := 0) [] (by decide) rfl ⟨by kernel_rfl, trivial⟩ trivial rfl ?_
                refine XQ.ret (by kernel_rfl) ?_
                cases h
                exact hQ
               | false =>
                have h := cF b19 h
                refine XR.runS E0_ok 1 5 [(3, ii x3_3), (4, .map (some 0)), (51, ii x51_3), (52, ii x52_3), (141, .bool (r44.1 != x12_x85))] rfl (by kernel_rfl) ?_
                refine XR.done (by kernel_rfl) ?_
                show XQ _ _ _ _ _ _ _ _
                cases b20 : (r44.1 != x12_x85 : Bool) with
                | true =>
                 have h := cT b20 h
                 refine XQ.cond (s := (.tmp 141)) (b := true) (by kernel_rfl) (by kernel_rfl) (fun _ => ?_) (fun q => by cases q)
                 refine XQ.seq E0_ok (by kernel_rfl) ?_
                 refine XQ.region (by kernel_rfl) ?_
                 refine XR.runS E0_ok 1 1 [(2, .bool false)] rfl (by kernel_rfl) ?_
                 refine XR.done (by kernel_rfl) ?_
                 show XQ _ _ _ _ _ _ _ _
                 refine XQ.ren (σ' := [(2, .bool false)]) (h' := []) (c' := 0) [] (by decide) rfl ⟨by kernel_rfl, trivial⟩ trivial rfl ?_
                 refine XQ.ret (by kernel_rfl) ?_
                 cases h
                 exact hQ
                | false =>
                 have h := cF b20 h
                 refine XQ.cond (s := (.tmp 141)) (b := false) (by kernel_rfl) (by kernel_rfl) (fun q => by cases q) (fun _ => ?_)
                 refine XQ.skip (by kernel_rfl) ?_
                 show XQ _ _ _ _ _ _ _ _
                 refine XQ.region (by kernel_rfl) ?_
                 refine XR.runS E0_ok 1 2 [(3, ii x3_3), (4, .map (some 0)), (51, ii x51_3), (52, ii (w64 (x52_3 + 1)))] rfl (by kernel_rfl) ?_
                 refine XR.done (by kernel_rfl) ?_
                 show XL _ _ _ _ _ _ _ _ _
                 refine XL.ren (σ' := [(3, ii x3_3), (4, .map (some 0)), (51, ii x51_3), (52, ii (w64 (x52_3 + 1)))]) (h' := [(0, .imap (imA Value.bool mh0_3))]) (c' := 1) [0] (by decide) rfl ⟨by kernel_rfl, by kernel_rfl, by kernel_rfl, by kernel_rfl, trivial⟩ ⟨⟨_, _, rfl, rfl, .inl ⟨rfl, trivial⟩⟩, trivial⟩ rfl ?_
                 refine XL.conv (f6_3_ok m fuel x3_3 x51_3 (w64 (x52_3 + 1)) mh0_3 o h Q hQ) (by first | rfl | simp)
           | false =>
            have h := cF b11 h
            refine XR.runS E0_ok 1 5 [(3, ii x3_3), (4, .map (some 0)), (12, ii x12_x85), (16, .bool r43.1), (18, ii r44.1), (19, ii r44.2), (20, .bool ((Int.tmod r45 2) == 1)), (51, ii x51_3), (52, ii x52_3), (124, .bool (!(r43.1 == false)))] rfl (by kernel_rfl) ?_
            refine XR.done (by kernel_rfl) ?_
            show XQ _ _ _ _ _ _ _ _
            cases b21 : (!(r43.1 == false) : Bool) with
            | true =>
             have h := cT b21 h
             refine XQ.cond (s := (.tmp 124)) (b := true) (by kernel_rfl) (by kernel_rfl) (fun _ => ?_) (fun q => by cases q)
             refine XQ.seq E0_ok (by kernel_rfl) ?_
             refine XQ.region (by kernel_rfl) ?_
             refine XR.runS E0_ok 1 1 [(2, .bool false)] rfl (by kernel_rfl) ?_
             refine XR.done (by kernel_rfl) ?_
             show XQ _ _ _ _ _ _ _ _
             refine XQ.ren (σ' := [(2, .bool false)]) (h' := []) (c' := 0) [] (by decide) rfl ⟨by kernel_rfl, trivial⟩ trivial rfl ?_
             refine XQ.ret (by kernel_rfl) ?_
             cases h
             exact hQ
            | false =>
             have h := cF b21 h
             refine XQ.cond (s := (.tmp 124)) (b := false) (by kernel_rfl) (by kernel_rfl) (fun q => by cases q) (fun _ => ?_)
             refine XQ.skip (by kernel_rfl) ?_
             show XQ _ _ _ _ _ _ _ _
             refine XQ.block (id := 10) (by kernel_rfl) ?_
             refine XQ.seq E0_ok (by kernel_rfl) ?_
             refine XQ.region (by kernel_rfl) ?_
             refine XR.runS E0_ok 1 2 [(3, ii x3_3), (4, .map (some 0)), (12, ii x12_x85), (18, ii r44.1), (19, ii r44.2), (20, .bool ((Int.tmod r45 2) == 1)), (51, ii x51_3), (52, ii x52_3), (125, .bool r43.1)] rfl (by kernel_rfl) ?_
             refine XR.done (by kernel_rfl) ?_
             show XQ _ _ _ _ _ _ _ _
             cases b22 : (r43.1 : Bool) with
             | true =>
              have h := cT b22 h
              refine XQ.cond (s := (.tmp 125)) (b := true) (by kernel_rfl) (by kernel_rfl) (fun _ => ?_) (fun q => by cases q)
              refine XQ.seq E0_ok (by kernel_rfl) ?_
              refine XQ.region (by kernel_rfl) ?_
              refine XR.runS E0_ok 1 3 [(3, ii x3_3), (4, .map (some 0)), (18, ii r44.1), (51, ii x51_3), (52, ii x52_3), (129, .bool (r44.2 != 13))] rfl (by kernel_rfl) ?_
              cases b23 : (r44.2 != 13 : Bool) with
              | true =>
               have h := cT b23 h
               refine XR.runS E0_ok 1 3 [(3, ii x3_3), (4, .map (some 0)), (51, ii x51_3), (52, ii x52_3), (132, .bool true)] rfl (by kernel_rfl) ?_
               refine XR.done (by kernel_rfl) ?_
               show XQ _ _ _ _ _ _ _ _
               refine XQ.cond (s := (.tmp 132)) (b := true) (by kernel_rfl) (by kernel_rfl) (fun _ => ?_) (fun q => by cases q)
               refine XQ.seq E0_ok (by kernel_rfl) ?_
               refine XQ.region (by kernel_rfl) ?_
               refine XR.runS E0_ok 1 1 [(2, .bool false)] rfl (by kernel_rfl) ?_
               refine XR.done (by kernel_rfl) ?_
               show XQ _ _ _ _ _ _ _ _
               refine XQ.ren (σ' := [(2, .bool false)]) (h' := []) (c' := 0) [] (by decide) rfl ⟨by kernel_rfl, trivial⟩ trivial rfl ?_
               refine XQ.ret (by kernel_rfl) ?_
               cases h
               exact hQ
              | false =>
               have h := cF b23 h
               refine XR.runS E0_ok 1 3 [(3, ii x3_3), (4, .map (some 0)), (51, ii x51_3), (52, ii x52_3), (132, .bool (r44.1 != 0))] rfl (by kernel_rfl) ?_
               refine XR.done (by kernel_rfl) ?_
               show XQ _ _ _ _ _ _ _ _
               cases b24 : (r44.1 != 0 : Bool) with
               | true =>
                have h := cT b24 h
                refine XQ.cond (s := (.tmp 132)) (b := true) (by kernel_rfl) (by kernel_rfl) (fun _ => ?_) (fun q => by cases q)
                refine XQ.seq E0_ok (by kernel_rfl) ?_
                refine XQ.region (by kernel_rfl) ?_
                refine XR.runS E0_ok 1 1 [(2, .bool false)] rfl (by kernel_rfl) ?_
                refine XR.done (by kernel_rfl) ?_
                show XQ _ _ _ _ _ _ _ _
                refine XQ.ren (σ' := [(2, .bool false)]) (h' := []) (c' := 0) [] (by decide) rfl ⟨by kernel_rfl, trivial⟩ trivial rfl ?_
                refine XQ.ret (by kernel_rfl) ?_
                cases h
                exact hQ
               | false =>
                have h := cF b24 h
                refine XQ.cond (s := (.tmp 132)) (b := false) (by kernel_rfl) (by kernel_rfl) (fun q => by cases q) (fun _ => ?_)
                refine XQ.skip (by kernel_rfl) ?_
                show XQ _ _ _ _ _ _ _ _
                refine XQ.region (by kernel_rfl) ?_
                refine XR.runS E0_ok 1 2 [(3, ii x3_3), (4, .map (some 0)), (51, ii x51_3), (52, ii (w64 (x52_3 + 1)))] rfl (by kernel_rfl) ?_
                refine XR.done (by kernel_rfl) ?_
                show XL _ _ _ _ _ _ _ _ _
                refine XL.ren (σ' := [(3, ii x3_3), (4, .map (some 0)), (51, ii x51_3), (52, ii (w64 (x52_3 + 1)))]) (h' := [(0, .imap (imA Value.bool mh0_3))]) (c' := 1) [0] (by decide) rfl ⟨by kernel_rfl, by kernel_rfl, by kernel_rfl, by kernel_rfl, trivial⟩ ⟨⟨_, _, rfl, rfl, .inl ⟨rfl, trivial⟩⟩, trivial⟩ rfl ?_
                refine XL.conv (f6_3_ok m fuel x3_3 x51_3 (w64 (x52_3 + 1)) mh0_3 o h Q hQ) (by first | rfl | simp)
             | false =>
              have h := cF b22 h
              refine XQ.cond (s := (.tmp 125)) (b := false) (by kernel_rfl) (by kernel_rfl) (fun q => by cases q) (fun _ => ?_)
              refine XQ.seq E0_ok (by kernel_rfl) ?_
              refine XQ.region (by kernel_rfl) ?_
              refine XR.runS E0_ok 1 2 [(3, ii x3_3), (4, .map (some 0)), (12, ii x12_x85), (18, ii r44.1), (19, ii r44.2), (51, ii x51_3), (52, ii x52_3), (133, .bool ((Int.tmod r45 2) == 1))] rfl (by kernel_rfl) ?_
              refine XR.done (by kernel_rfl) ?_
              show XQ _ _ _ _ _ _ _ _
              cases b25 : ((Int.tmod r45 2) == 1 : Bool) with
              | true =>
               have h := cT b25 h
               refine XQ.cond (s := (.tmp 133)) (b := true) (by kernel_rfl) (by kernel_rfl) (fun _ => ?_) (fun q => by cases q)
               refine XQ.seq E0_ok (by kernel_rfl) ?_
               refine XQ.region (by kernel_rfl) ?_
               refine XR.runS E0_ok 1 3 [(3, ii x3_3), (4, .map (some 0)), (18, ii r44.1), (51, ii x51_3), (52, ii x52_3), (137, .bool (r44.2 != 17))] rfl (by kernel_rfl) ?_
               cases b26 : (r44.2 != 17 : Bool) with
               | true =>
                have h := cT b26 h
                refine XR.runS E0_ok 1 3 [(3, ii x3_3), (4, .map (some 0)), (51, ii x51_3), (52, ii x52_3), (140, .bool true)] rfl (by kernel_rfl) ?_
                refine XR.done (by kernel_rfl) ?_
                show XQ _ _ _ _ _ _ _ _
                refine XQ.cond (s := (.tmp 140)) (b := true) (by kernel_rfl) (by kernel_rfl) (fun _ => ?_) (fun q => by cases q)
                refine XQ.seq E0_ok (by kernel_rfl) ?_
                refine XQ.region (by kernel_rfl) ?_
                refine XR.runS E0_ok 1 1 [(2, .bool false)] rfl (by kernel_rfl) ?_
                refine XR.done (by kernel_rfl) ?_
                show XQ _ _ _ _ _ _ _ _
                refine XQ.ren (σ' := [(2, .bool false)]) (h' := []) (c' := 0) [] (by decide) rfl ⟨by kernel_rfl, trivial⟩ trivial rfl ?_
                refine XQ.ret (by kernel_rfl) ?_
                cases h
                exact hQ
               | false =>
                have h := cF b26 h
                refine XR.runS E0_ok 1 3 [(3, ii x3_3), (4, .map (some 0)), (51, ii x51_3), (52, ii x52_3), (140, .bool (r44.1 != 0))] rfl (by kernel_rfl) ?_
                refine XR.done (by kernel_rfl) ?_
                show XQ _ _ _ _ _ _ _ _
                cases b27 : (r44.1 != 0 : Bool) with
                | true =>
                 have h := cT b27 h
                 refine XQ.cond (s := (.tmp 140)) (b := true) (by kernel_rfl) (by kernel_rfl) (fun _ => ?_) (fun q => by cases q)
                 refine XQ.seq E0_ok (by kernel_rfl) ?_
                 refine XQ.region (by kernel_rfl) ?_
                 refine XR.runS E0_ok 1 1 [(2, .bool false)] rfl (by kernel_rfl) ?_
                 refine XR.done (by kernel_rfl) ?_
                 show XQ _ _ _ _ _ _ _ _
                 refine XQ.ren (σ' := [(2, .bool false)]) (h' := []) (c' := 0) [] (by decide) rfl ⟨by kernel_rfl, trivial⟩ trivial rfl ?_
                 refine XQ.ret (by kernel_rfl) ?_
                 cases h
                 exact hQ
                | false =>
                 have h := cF b27 h
                 refine XQ.cond (s := (.tmp 140)) (b := false) (by kernel_rfl) (by kernel_rfl) (fun q => by cases q) (fun _ => ?_)
                 refine XQ.skip (by kernel_rfl) ?_
                 show XQ _ _ _ _ _ _ _ _
                 refine XQ.region (by kernel_rfl) ?_
                 refine XR.runS E0_ok 1 2 [(3, ii x3_3), (4, .map (some 0)), (51, ii x51_3), (52, ii (w64 (x52_3 + 1)))] rfl (by kernel_rfl) ?_
                 refine XR.done (by kernel_rfl) ?_
                 show XL _ _ _ _ _ _ _ _ _
                 refine XL.ren (σ' := [(3, ii x3_3), (4, .map (some 0)), (51, ii x51_3), (52, ii (w64 (x52_3 + 1)))]) (h' := [(0, .imap (imA Value.bool mh0_3))]) (c' := 1) [0] (by decide) rfl ⟨by kernel_rfl, by kernel_rfl, by kernel_rfl, by kernel_rfl, trivial⟩ ⟨⟨_, _, rfl, rfl, .inl ⟨rfl, trivial⟩⟩, trivial⟩ rfl ?_
                 refine XL.conv (f6_3_ok m fuel x3_3 x51_3 (w64 (x52_3 + 1)) mh0_3 o h Q hQ) (by first | rfl | simp)
              | false =>
               have h := cF b25 h
               refine XQ.cond (s := (.tmp 133)) (b := false) (by kernel_rfl) (by kernel_rfl) (fun q => by cases q) (fun _ => ?_)
               refine XQ.seq E0_ok (by kernel_rfl) ?_
               refine XQ.region (by kernel_rfl) ?_
               refine XR.runS E0_ok 1 3 [(3, ii x3_3), (4, .map (some 0)), (12, ii x12_x85), (18, ii r44.1), (51, ii x51_3), (52, ii x52_3), (144, .bool (r44.2 != 0))] rfl (by kernel_rfl) ?_
               cases b28 : (r44.2 != 0 : Bool) with
               | true =>
                have h := cT b28 h
                refine XR.runS E0_ok 1 5 [(3, ii x3_3), (4, .map (some 0)), (51, ii x51_3), (52, ii x52_3), (141, .bool true)] rfl (by kernel_rfl) ?_
                refine XR.done (by kernel_rfl) ?_
                show XQ _ _ _ _ _ _ _ _
                refine XQ.cond (s := (.tmp 141)) (b := true) (by kernel_rfl) (by kernel_rfl) (fun _ => ?_) (fun q => by cases q)
                refine XQ.seq E0_ok (by kernel_rfl) ?_
                refine XQ.region (by kernel_rfl) ?_
                refine XR.runS E0_ok 1 1 [(2, .bool false)] rfl (by kernel_rfl) ?_
                refine XR.done (by kernel_rfl) ?_
                show XQ _ _ _ _ _ _ _ _
                refine XQ.ren (σ' := [(2, .bool false)]) (h' := []) (c' := 0) [] (by decide) rfl ⟨by kernel_rfl, trivial⟩ trivial rfl ?_
                refine XQ.ret (by kernel_rfl) ?_
                cases h
                exact hQ
               | false =>
                have h := cF b28 h
                refine XR.runS E0_ok 1 5 [(3, ii x3_3), (4, .map (some 0)), (51, ii x51_3), (52, ii x52_3), (141, .bool (r44.1 != x12_x85))] rfl (by kernel_rfl) ?_
                refine XR.done (by kernel_rfl) ?_
                show XQ _ _ _ _ _ _ _ _
                cases b29 : (r44.1 != x12_x85 : Bool) with
                | true =>
                 have h := cT b29 h
                 refine XQ.cond (s := (.tmp 141)) (b := true) (by kernel_rfl) (by kernel_rfl) (fun _ => ?_) (fun q => by cases q)
                 refine XQ.seq E0_ok (by kernel_rfl) ?_
                 refine XQ.region (by kernel_rfl) ?_
                 refine XR.runS E0_ok 1 1 [(2, .bool false)] rfl (by kernel_rfl) ?_
                 refine XR.done (by kernel_rfl) ?_
                 show XQ _ _ _ _ _ _ _ _
                 refine XQ.ren (σ' := [(2, .bool false)]) (h' := []) (c' := 0) [] (by decide) rfl ⟨by kernel_rfl, trivial⟩ trivial rfl ?_
                 refine XQ.ret (by kernel_rfl) ?_
                 cases h
                 exact hQ
                | false =>
                 have h := cF b29 h
                 refine XQ.cond (s := (.tmp 141)) (b := false) (by kernel_rfl) (by kernel_rfl) (fun q => by cases q) (fun _ => ?_)
                 refine XQ.skip (by kernel_rfl) ?_
                 show XQ _ _ _ _ _ _ _ _
                 refine XQ.region (by kernel_rfl) ?_
                 refine XR.runS E0_ok 1 2 [(3, ii x3_3), (4, .map (some 0)), (51, ii x51_3), (52, ii (w64 (x52_3 + 1)))] rfl (by kernel_rfl) ?_
                 refine XR.done (by kernel_rfl) ?_
                 show XL _ _ _ _ _ _ _ _ _
                 refine XL.ren (σ' := [(3, ii x3_3), (4, .map (some 0)), (51, ii x51_3), (52, ii (w64 (x52_3 + 1)))]) (h' := [(0, .imap (imA Value.bool mh0_3))]) (c' := 1) [0] (by decide) rfl ⟨by kernel_rfl, by kernel_rfl, by kernel_rfl, by kernel_rfl, trivial⟩ ⟨⟨_, _, rfl, rfl, .inl ⟨rfl, trivial⟩⟩, trivial⟩ rfl ?_
                 refine XL.conv (f6_3_ok m fuel x3_3 x51_3 (w64 (x52_3 + 1)) mh0_3 o h Q hQ) (by first | rfl | simp)
  | false =>
   have h := cF b1 h
   refine XQ.cond (s := (.tmp 53)) (b := false) (by kernel_rfl) (by kernel_rfl) (fun q => by cases q) (fun _ => ?_)
   refine XQ.ren (σ' := []) (h' := []) (c' := 0) [] (by decide) rfl trivial trivial rfl ?_
   refine XQ.exit (i := 4) (by kernel_rfl) ?_
   cases h
   exact hQ

def f6 (m : Nat) (a : Int) : Option (Bool) :=
 cond (decide (0 ≤ w64 (Int.tdiv (w64 ((w64 (1 + (Int.tmod (w64 a) 5))) * (w64 ((w64 (1 + (Int.tmod (w64 a) 5))) - 1)))) 2))) (
  (f6_1 m m (w64 (1 + (Int.tmod (w64 a) 5))) (shV true .u32 1 (w64 (Int.tdiv (w64 ((w64 (1 + (Int.tmod (w64 a) 5))) * (w64 ((w64 (1 + (Int.tmod (w64 a) 5))) - 1)))) 2))) 0 []).bind fun o1 =>
   (f6_2 m m o1.1 1 o1.1 0 o1.2).bind fun o2 =>
    (f6_3 m m o2.1 o2.2.1 0 o2.2.2).bind fun o3 =>
     match o3 with
     | .r =>
      some (false)
     | .x4 =>
      some (true)
 ) none

theorem f6_ok (m : Nat) (a : Int) (o : Bool) (h : f6 m a = some o) (w : World) (hI : seatInv w) : Calls Proofs.Tryd.prog 6 #[.int .u8 a] w fun e w' => e = .returned (.bool o) ∧ Below w.heap.size w w' := by
 refine KC.calls (E := E0) (args := [.int .u8 a]) (v := .bool o) rfl rfl (KC.bodyN E0_ok (F := Proofs.Tryd.f6) (by kernel_rfl) (code := f6_C6) (by kernel_rfl) (nt := 151) (by kernel_rfl) (rs := [.tmp 2]) (by kernel_rfl) (by kernel_rfl) (σ := [(0, .int .u8 a)]) (by kernel_rfl) ?_) w (seatInv_size hI) hI
 unfold f6 at h
 refine XQ.seq E0_ok (by kernel_rfl) ?_
 refine XQ.region (by kernel_rfl) ?_
 refine XR.runS E0_ok 1 1 [(0, .int .u8 a)] rfl (by kernel_rfl) ?_
 refine XR.done (by kernel_rfl) ?_
 show XQ _ _ _ _ _ _ _ _
 refine XQ.seq E0_ok (by kernel_rfl) ?_
 refine XQ.region (by kernel_rfl) ?_
 refine XR.runS E0_ok 1 5 [(3, ii (w64 (1 + (Int.tmod (w64 a) 5))))] rfl (by kernel_rfl) ?_
 refine XR.done (by kernel_rfl) ?_
 show XQ _ _ _ _ _ _ _ _
 refine XQ.seq E0_ok (by kernel_rfl) ?_
 refine XQ.region (by kernel_rfl) ?_
 refine XR.runT E0_ok 1 2 [(3, ii (w64 (1 + (Int.tmod (w64 a) 5)))), (4, .map (some 0))] [(0, .imap (imA Value.bool []))] 1 rfl (by kernel_rfl) ?_
 refine XR.done (by kernel_rfl) ?_
 show XQ _ _ _ _ _ _ _ _
 refine XQ.seq E0_ok (by kernel_rfl) ?_
 refine XQ.seq E0_ok (by kernel_rfl) ?_
 refine XQ.region (by kernel_rfl) ?_
 refine XR.runS E0_ok 1 5 [(3, ii (w64 (1 + (Int.tmod (w64 a) 5)))), (4, .map (some 0)), (30, ii (w64 (Int.tdiv (w64 ((w64 (1 + (Int.tmod (w64 a) 5))) * (w64 ((w64 (1 + (Int.tmod (w64 a) 5))) - 1)))) 2)))] rfl (by kernel_rfl) ?_
 cases b1 : (decide (0 ≤ w64 (Int.tdiv (w64 ((w64 (1 + (Int.tmod (w64 a) 5))) * (w64 ((w64 (1 + (Int.tmod (w64 a) 5))) - 1)))) 2)) : Bool) with
 | false => cases (cF b1 h)
 | true =>
  have h := cT b1 h
  have e2 : insV (headI ((gsOf E0 151 (opsOf (lft (lft (rgt (rgt (rgt f6_C6))))))).drop 5) (trS 151 [(3, ii (w64 (1 + (Int.tmod (w64 a) 5)))), (4, .map (some 0)), (30, ii (w64 (Int.tdiv (w64 ((w64 (1 + (Int.tmod (w64 a) 5))) * (w64 ((w64 (1 + (Int.tmod (w64 a) 5))) - 1)))) 2)))])) (trS 151 [(3, ii (w64 (1 + (Int.tmod (w64 a) 5)))), (4, .map (some 0)), (30, ii (w64 (Int.tdiv (w64 ((w64 (1 + (Int.tmod (w64 a) 5))) * (w64 ((w64 (1 + (Int.tmod (w64 a) 5))) - 1)))) 2)))]) [(0, .imap (imA Value.bool []))] = (match (decide (0 ≤ w64 (Int.tdiv (w64 ((w64 (1 + (Int.tmod (w64 a) 5))) * (w64 ((w64 (1 + (Int.tmod (w64 a) 5))) - 1)))) 2)) : Bool) with | true => some (.int .u32 (shV true .u32 1 (w64 (Int.tdiv (w64 ((w64 (1 + (Int.tmod (w64 a) 5))) * (w64 ((w64 (1 + (Int.tmod (w64 a) 5))) - 1)))) 2)))) | false => none) := by kernel_rfl
  refine XR.rd E0_ok [3, 4, 31] rfl (e2.trans (by rw [b1])) (σ' := [(3, ii (w64 (1 + (Int.tmod (w64 a) 5)))), (4, .map (some 0)), (31, .int .u32 (shV true .u32 1 (w64 (Int.tdiv (w64 ((w64 (1 + (Int.tmod (w64 a) 5))) * (w64 ((w64 (1 + (Int.tmod (w64 a) 5))) - 1)))) 2))))]) (by kernel_rfl) ?_
  refine XR.runS E0_ok 1 1 [(3, ii (w64 (1 + (Int.tmod (w64 a) 5)))), (4, .map (some 0)), (31, .int .u32 (shV true .u32 1 (w64 (Int.tdiv (w64 ((w64 (1 + (Int.tmod (w64 a) 5))) * (w64 ((w64 (1 + (Int.tmod (w64 a) 5))) - 1)))) 2)))), (32, .int .u32 0)] rfl (by kernel_rfl) ?_
  refine XR.done (by kernel_rfl) ?_
  show XQ _ _ _ _ _ _ _ _
  refine XQ.block (id := 0) (by kernel_rfl) ?_
  refine XQ.loop m (by kernel_rfl) ?_
  obtain ⟨o1, o1_h, h⟩ := bS h
  refine XL.ren (σ' := [(3, ii (w64 (1 + (Int.tmod (w64 a) 5)))), (4, .map (some 0)), (31, .int .u32 (shV true .u32 1 (w64 (Int.tdiv (w64 ((w64 (1 + (Int.tmod (w64 a) 5))) * (w64 ((w64 (1 + (Int.tmod (w64 a) 5))) - 1)))) 2)))), (32, .int .u32 0)]) (h' := [(0, .imap (imA Value.bool []))]) (c' := 1) [0] (by decide) rfl ⟨by kernel_rfl, by kernel_rfl, by kernel_rfl, by kernel_rfl, trivial⟩ ⟨⟨_, _, rfl, rfl, .inl ⟨rfl, trivial⟩⟩, trivial⟩ rfl ?_
  refine XL.conv (f6_1_ok m m (w64 (1 + (Int.tmod (w64 a) 5))) (shV true .u32 1 (w64 (Int.tdiv (w64 ((w64 (1 + (Int.tmod (w64 a) 5))) * (w64 ((w64 (1 + (Int.tmod (w64 a) 5))) - 1)))) 2))) 0 [] o1 o1_h _ ?_) (by first | rfl | simp)
  show XQ _ _ _ _ _ _ _ _
  refine XQ.seq E0_ok (by kernel_rfl) ?_
  refine XQ.region (by kernel_rfl) ?_
  refine XR.runS E0_ok 1 1 [(3, ii o1.1), (4, .map (some 0)), (7, ii 1)] rfl (by kernel_rfl) ?_
  refine XR.done (by kernel_rfl) ?_
  show XQ _ _ _ _ _ _ _ _
  refine XQ.seq E0_ok (by kernel_rfl) ?_
  refine XQ.seq E0_ok (by kernel_rfl) ?_
  refine XQ.region (by kernel_rfl) ?_
  refine XR.runS E0_ok 1 2 [(3, ii o1.1), (4, .map (some 0)), (7, ii 1), (44, ii o1.1), (45, ii 0)] rfl (by kernel_rfl) ?_
  refine XR.done (by kernel_rfl) ?_
  show XQ _ _ _ _ _ _ _ _
  refine XQ.block (id := 2) (by kernel_rfl) ?_
  refine XQ.loop m (by kernel_rfl) ?_
  obtain ⟨o2, o2_h, h⟩ := bS h
  refine XL.ren (σ' := [(3, ii o1.1), (4, .map (some 0)), (7, ii 1), (44, ii o1.1), (45, ii 0)]) (h' := [(0, .imap (imA Value.bool o1.2))]) (c' := 1) [0] (by decide) rfl ⟨by kernel_rfl, by kernel_rfl, by kernel_rfl, by kernel_rfl, by kernel_rfl, trivial⟩ ⟨⟨_, _, rfl, rfl, .inl ⟨rfl, trivial⟩⟩, trivial⟩ rfl ?_
  refine XL.conv (f6_2_ok m m o1.1 1 o1.1 0 o1.2 o2 o2_h _ ?_) (by first | rfl | simp)
  show XQ _ _ _ _ _ _ _ _
  refine XQ.seq E0_ok (by kernel_rfl) ?_
  refine XQ.seq E0_ok (by kernel_rfl) ?_
  refine XQ.region (by kernel_rfl) ?_
  refine XR.runS E0_ok 1 2 [(3, ii o2.1), (4, .map (some 0)), (51, ii o2.2.1), (52, ii 0)] rfl (by kernel_rfl) ?_
  refine XR.done (by kernel_rfl) ?_
  show XQ _ _ _ _ _ _ _ _
  refine XQ.block (id := 4) (by kernel_rfl) ?_
  refine XQ.loop m (by kernel_rfl) ?_
  obtain ⟨o3, o3_h, h⟩ := bS h
  refine XL.ren (σ' := [(3, ii o2.1), (4, .map (some 0)), (51, ii o2.2.1), (52, ii 0)]) (h' := [(0, .imap (imA Value.bool o2.2.2))]) (c' := 1) [0] (by decide) rfl ⟨by kernel_rfl, by kernel_rfl, by kernel_rfl, by kernel_rfl, trivial⟩ ⟨⟨_, _, rfl, rfl, .inl ⟨rfl, trivial⟩⟩, trivial⟩ rfl ?_
  cases o3 with
  | r =>
   dsimp only at h
   refine XL.conv (f6_3_ok m m o2.1 o2.2.1 0 o2.2.2 (.r) o3_h _ ?_) (by first | rfl | simp)
   have h := Option.some.inj h
   subst h
   exact ⟨fun i q => (by cases q), .bool false, (by kernel_rfl), rfl⟩
  | x4 =>
   dsimp only at h
   refine XL.conv (f6_3_ok m m o2.1 o2.2.1 0 o2.2.2 (.x4) o3_h _ ?_) (by first | rfl | simp)
   show XQ _ _ _ _ _ _ _ _
   refine XQ.seq E0_ok (by kernel_rfl) ?_
   refine XQ.region (by kernel_rfl) ?_
   refine XR.call E0_ok [150] rfl (K := 14) (args := []) (d := (some (path 12 150))) (by kernel_rfl) (KC.of_calls E0_ok (F := Proofs.Tryd.f14) (v := .bool true) (by kernel_rfl) rfl rfl (works_ok)) ?_
   rintro _ _ _ ⟨rfl, rfl, rfl⟩
   refine XR.conv (σ' := [(150, .bool true)]) (h' := []) (c' := 0) ?_ (by kernel_rfl)
   refine XR.runS E0_ok 1 1 [(2, .bool true)] rfl (by kernel_rfl) ?_
   refine XR.done (by kernel_rfl) ?_
   show XQ _ _ _ _ _ _ _ _
   refine XQ.ret (by kernel_rfl) ?_
   have h := Option.some.inj h
   subst h
   exact ⟨fun i q => (by cases q), .bool true, (by kernel_rfl), rfl⟩

end Go.Xm
