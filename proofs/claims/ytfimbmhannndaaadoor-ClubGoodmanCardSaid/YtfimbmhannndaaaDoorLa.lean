/- What these functions of the program compute, as functions in Lean, and the proofs that they do: vitolalaw12.seats, vitolalaw12.drawn, vitolalaw12.Day).made, slices.Contains[[][2]int,[2]int], slices.Index[[][2]int,[2]int], vitolalaw12.tables. Conditions: the library's variables hold what their texts lay. -/
import Derived.Test.YtfimbmhannndaaaDoorKb
namespace Go.Xm
open Go.RowKit
set_option linter.unusedVariables false
set_option linter.unusedSimpArgs false
set_option maxRecDepth 20000

/-! vitola/vitolalaw12.seats -/
noncomputable def f32_C32 : Code := Proofs.Tryd.f32.body.getD .skip
noncomputable def f32_L1 : Code := lft (lft (rgt (lft (rgt (rgt f32_C32)))))

def f32_1 (m : Nat) : Nat → List (Int × Int) → Int → Int → List Int → Option (List Int)
 | 0, _, _, _, _ => none
 | fuel + 1, a_Tables, x11_1, x12_1, lh1_1 =>
  cond (decide (x12_1 < x11_1)) (
   cond (inRow x12_1 a_Tables.length) (
    cond (inRow ((List.getD a_Tables (Int.toNat x12_1) (0, 0)).1) lh1_1.length) (
     cond (inRow ((List.getD a_Tables (Int.toNat x12_1) (0, 0)).2) lh1_1.length) (
      f32_1 m fuel a_Tables x11_1 (w64 (x12_1 + 1)) (List.set (List.set lh1_1 (Int.toNat ((List.getD a_Tables (Int.toNat x12_1) (0, 0)).1)) (w64 ((List.getD lh1_1 (Int.toNat ((List.getD a_Tables (Int.toNat x12_1) (0, 0)).1)) 0) + 1))) (Int.toNat ((List.getD a_Tables (Int.toNat x12_1) (0, 0)).2)) (w64 ((List.getD (List.set lh1_1 (Int.toNat ((List.getD a_Tables (Int.toNat x12_1) (0, 0)).1)) (w64 ((List.getD lh1_1 (Int.toNat ((List.getD a_Tables (Int.toNat x12_1) (0, 0)).1)) 0) + 1))) (Int.toNat ((List.getD a_Tables (Int.toNat x12_1) (0, 0)).2)) 0) + 1)))
     ) none
    ) none
   ) none
  ) (
   some (lh1_1)
  )

theorem f32_1_ok (m : Nat) : ∀ (fuel : Nat) (z0 : Nat) (y0 : Nat) (a_Tables : List (Int × Int)) (x11_1 : Int) (x12_1 : Int) (lh1_1 : List Int) (o : (List Int)), f32_1 m fuel a_Tables x11_1 x12_1 lh1_1 = some o → ∀ Q : QP, Q (.exit 0) [(3, s0 1 o.length)] [(1, rc (encI .i64) o 0 3 1), (0, rc encP a_Tables z0 y0 2)] 2 → XL E0 32 1 fuel f32_L1 [(3, s0 1 lh1_1.length), (10, s0 0 a_Tables.length), (11, ii x11_1), (12, ii x12_1)] [(1, rc (encI .i64) lh1_1 0 3 1), (0, rc encP a_Tables z0 y0 2)] 2 Q
 | 0, z0, y0, a_Tables, x11_1, x12_1, lh1_1, o, h, Q, hQ => by cases h
 | fuel + 1, z0, y0, a_Tables, x11_1, x12_1, lh1_1, o, h, Q, hQ => by
  unfold f32_1 at h
  refine XL.succ E0_ok ?_
  refine XQ.seq E0_ok (by kernel_rfl) ?_
  refine XQ.region (by kernel_rfl) ?_
  refine XR.runS E0_ok 1 1 [(3, s0 1 lh1_1.length), (10, s0 0 a_Tables.length), (11, ii x11_1), (12, ii x12_1), (13, .bool (decide (x12_1 < x11_1)))] rfl (by kernel_rfl) ?_
  refine XR.done (by kernel_rfl) ?_
  show XQ _ _ _ _ _ _ _ _
  refine XQ.seq E0_ok (by kernel_rfl) ?_
  cases b1 : (decide (x12_1 < x11_1) : Bool) with
  | true =>
   have h := cT b1 h
   refine XQ.cond (s := (.tmp 13)) (b := true) (by kernel_rfl) (by kernel_rfl) (fun _ => ?_) (fun q => by cases q)
   refine XQ.skip (by kernel_rfl) ?_
   show XQ _ _ _ _ _ _ _ _
   refine XQ.seq E0_ok (by kernel_rfl) ?_
   refine XQ.block (id := 1) (by kernel_rfl) ?_
   refine XQ.seq E0_ok (by kernel_rfl) ?_
   refine XQ.region (by kernel_rfl) ?_
   cases b2 : (inRow x12_1 a_Tables.length : Bool) with
   | false => cases (cF b2 h)
   | true =>
    have h := cT b2 h
    refine XR.rd E0_ok [3, 10, 11, 12, 14] rfl (v := pp 0 ((Int.toNat x12_1) * 2)) (v_idx (s := 2) (x := (src 32 (.tmp 10))) (y := (src 32 (.tmp 12))) (b := 0) (o := 0) (len := a_Tables.length) (cap := a_Tables.length) (ik := .i64) (i := x12_1) (off := (Int.toNat x12_1) * 2) (d := (some (path 12 14))) (by kernel_rfl) (by kernel_rfl) (by kernel_rfl) b2 (by omega)) (σ' := [(3, s0 1 lh1_1.length), (10, s0 0 a_Tables.length), (11, ii x11_1), (12, ii x12_1), (14, pp 0 ((Int.toNat x12_1) * 2))]) (by kernel_rfl) ?_
    refine XR.rd E0_ok [3, 10, 11, 12, 15] rfl (v := .agg #[ii ((List.getD a_Tables (Int.toNat x12_1) (0, 0)).1), ii ((List.getD a_Tables (Int.toNat x12_1) (0, 0)).2)]) (v_loadN encP_ok (x := (src 32 (.tmp 14))) (b := 0) (off := (Int.toNat x12_1) * 2) (xs := a_Tables) (fz := z0) (e := y0) (es := 2) (d := (some (path 12 15))) (by kernel_rfl) (by kernel_rfl) (by kernel_rfl) (Int.toNat x12_1) (0, 0) (by first | rfl | omega) (row_len (inRow_toNat b2) (by simp)) rfl) (σ' := [(3, s0 1 lh1_1.length), (10, s0 0 a_Tables.length), (11, ii x11_1), (12, ii x12_1), (15, .agg #[ii ((List.getD a_Tables (Int.toNat x12_1) (0, 0)).1), ii ((List.getD a_Tables (Int.toNat x12_1) (0, 0)).2)])]) (by kernel_rfl) ?_
    refine XR.runT E0_ok 1 2 [(3, s0 1 lh1_1.length), (5, pp 2 0), (10, s0 0 a_Tables.length), (11, ii x11_1), (12, ii x12_1)] [(2, .cells [ii ((List.getD a_Tables (Int.toNat x12_1) (0, 0)).1), ii ((List.getD a_Tables (Int.toNat x12_1) (0, 0)).2)] 0 55 0), (1, rc (encI .i64) lh1_1 0 3 1), (0, rc encP a_Tables z0 y0 2)] 3 rfl (by kernel_rfl) ?_
    refine XR.done (by kernel_rfl) ?_
    show XQ _ _ _ _ _ _ _ _
    refine XQ.seq E0_ok (by kernel_rfl) ?_
    refine XQ.region (by kernel_rfl) ?_
    refine XR.runS E0_ok 1 3 [(3, s0 1 lh1_1.length), (5, pp 2 0), (10, s0 0 a_Tables.length), (11, ii x11_1), (12, ii x12_1), (16, s0 1 lh1_1.length), (18, ii ((List.getD a_Tables (Int.toNat x12_1) (0, 0)).1))] rfl (by kernel_rfl) ?_
    cases b3 : (inRow ((List.getD a_Tables (Int.toNat x12_1) (0, 0)).1) lh1_1.length : Bool) with
    | false => cases (cF b3 h)
    | true =>
     have h := cT b3 h
     refine XR.rd E0_ok [3, 5, 10, 11, 12, 16, 18, 19] rfl (v := pp 1 ((Int.toNat ((List.getD a_Tables (Int.toNat x12_1) (0, 0)).1)) * 1)) (v_idx (s := 1) (x := (src 32 (.tmp 16))) (y := (src 32 (.tmp 18))) (b := 1) (o := 0) (len := lh1_1.length) (cap := lh1_1.length) (ik := .i64) (i := (List.getD a_Tables (Int.toNat x12_1) (0, 0)).1) (off := (Int.toNat ((List.getD a_Tables (Int.toNat x12_1) (0, 0)).1)) * 1) (d := (some (path 12 19))) (by kernel_rfl) (by kernel_rfl) (by kernel_rfl) b3 (by omega)) (σ' := [(3, s0 1 lh1_1.length), (5, pp 2 0), (10, s0 0 a_Tables.length), (11, ii x11_1), (12, ii x12_1), (16, s0 1 lh1_1.length), (18, ii ((List.getD a_Tables (Int.toNat x12_1) (0, 0)).1)), (19, pp 1 ((Int.toNat ((List.getD a_Tables (Int.toNat x12_1) (0, 0)).1)) * 1))]) (by kernel_rfl) ?_
     refine XR.rd E0_ok [3, 5, 10, 11, 12, 16, 18, 20] rfl (v := ii (List.getD lh1_1 (Int.toNat ((List.getD a_Tables (Int.toNat x12_1) (0, 0)).1)) 0)) (v_load1 (encI_ok .i64) (x := (src 32 (.tmp 19))) (b := 1) (off := (Int.toNat ((List.getD a_Tables (Int.toNat x12_1) (0, 0)).1)) * 1) (xs := lh1_1) (fz := 0) (e := 3) (es := 1) (d := (some (path 12 20))) (by kernel_rfl) (by kernel_rfl) (by kernel_rfl) (Int.toNat ((List.getD a_Tables (Int.toNat x12_1) (0, 0)).1)) 0 0 (by first | rfl | omega) (row_len (inRow_toNat b3) (by simp)) rfl rfl) (σ' := [(3, s0 1 lh1_1.length), (5, pp 2 0), (10, s0 0 a_Tables.length), (11, ii x11_1), (12, ii x12_1), (16, s0 1 lh1_1.length), (18, ii ((List.getD a_Tables (Int.toNat x12_1) (0, 0)).1)), (20, ii (List.getD lh1_1 (Int.toNat ((List.getD a_Tables (Int.toNat x12_1) (0, 0)).1)) 0))]) (by kernel_rfl) ?_
     refine XR.runS E0_ok 1 1 [(3, s0 1 lh1_1.length), (5, pp 2 0), (10, s0 0 a_Tables.length), (11, ii x11_1), (12, ii x12_1), (16, s0 1 lh1_1.length), (18, ii ((List.getD a_Tables (Int.toNat x12_1) (0, 0)).1)), (21, ii (w64 ((List.getD lh1_1 (Int.toNat ((List.getD a_Tables (Int.toNat x12_1) (0, 0)).1)) 0) + 1)))] rfl (by kernel_rfl) ?_
     refine XR.rd E0_ok [3, 5, 10, 11, 12, 21, 22] rfl (v := pp 1 ((Int.toNat ((List.getD a_Tables (Int.toNat x12_1) (0, 0)).1)) * 1)) (v_idx (s := 1) (x := (src 32 (.tmp 16))) (y := (src 32 (.tmp 18))) (b := 1) (o := 0) (len := lh1_1.length) (cap := lh1_1.length) (ik := .i64) (i := (List.getD a_Tables (Int.toNat x12_1) (0, 0)).1) (off := (Int.toNat ((List.getD a_Tables (Int.toNat x12_1) (0, 0)).1)) * 1) (d := (some (path 12 22))) (by kernel_rfl) (by kernel_rfl) (by kernel_rfl) b3 (by omega)) (σ' := [(3, s0 1 lh1_1.length), (5, pp 2 0), (10, s0 0 a_Tables.length), (11, ii x11_1), (12, ii x12_1), (21, ii (w64 ((List.getD lh1_1 (Int.toNat ((List.getD a_Tables (Int.toNat x12_1) (0, 0)).1)) 0) + 1))), (22, pp 1 ((Int.toNat ((List.getD a_Tables (Int.toNat x12_1) (0, 0)).1)) * 1))]) (by kernel_rfl) ?_
     refine XR.ef E0_ok [3, 5, 10, 11, 12] rfl (e_store (encI_ok .i64) (size := 1) (x := (src 32 (.tmp 22))) (y := (src 32 (.tmp 21))) (b := 1) (off := (Int.toNat ((List.getD a_Tables (Int.toNat x12_1) (0, 0)).1)) * 1) (xs := lh1_1) (e := 3) (es := 1) (d := none) (h' := [(2, .cells [ii ((List.getD a_Tables (Int.toNat x12_1) (0, 0)).1), ii ((List.getD a_Tables (Int.toNat x12_1) (0, 0)).2)] 0 55 0), (1, rc (encI .i64) (List.set lh1_1 (Int.toNat ((List.getD a_Tables (Int.toNat x12_1) (0, 0)).1)) (w64 ((List.getD lh1_1 (Int.toNat ((List.getD a_Tables (Int.toNat x12_1) (0, 0)).1)) 0) + 1))) 0 3 1), (0, rc encP a_Tables z0 y0 2)]) (w := ii (w64 ((List.getD lh1_1 (Int.toNat ((List.getD a_Tables (Int.toNat x12_1) (0, 0)).1)) 0) + 1))) (ws := [ii (w64 ((List.getD lh1_1 (Int.toNat ((List.getD a_Tables (Int.toNat x12_1) (0, 0)).1)) 0) + 1))]) (a := w64 ((List.getD lh1_1 (Int.toNat ((List.getD a_Tables (Int.toNat x12_1) (0, 0)).1)) 0) + 1)) (by kernel_rfl) (by kernel_rfl) (by kernel_rfl) (Int.toNat ((List.getD a_Tables (Int.toNat x12_1) (0, 0)).1)) 0 0 (by first | rfl | omega) (row_len (inRow_toNat b3) (by simp)) (by kernel_rfl) rfl rfl rfl rfl rfl (by kernel_rfl)) (σ' := [(3, s0 1 lh1_1.length), (5, pp 2 0), (10, s0 0 a_Tables.length), (11, ii x11_1), (12, ii x12_1)]) (by kernel_rfl) ?_
     refine XR.done (by kernel_rfl) ?_
     show XQ _ _ _ _ _ _ _ _
     refine XQ.region (by kernel_rfl) ?_
     refine XR.runS E0_ok 1 3 [(3, s0 1 lh1_1.length), (10, s0 0 a_Tables.length), (11, ii x11_1), (12, ii x12_1), (23, s0 1 lh1_1.length), (25, ii ((List.getD a_Tables (Int.toNat x12_1) (0, 0)).2))] rfl (by kernel_rfl) ?_
     cases b4 : (inRow ((List.getD a_Tables (Int.toNat x12_1) (0, 0)).2) lh1_1.length : Bool) with
     | false => cases (cF b4 h)
     | true =>
      have h := cT b4 h
      refine XR.rd E0_ok [3, 10, 11, 12, 23, 25, 26] rfl (v := pp 1 ((Int.toNat ((List.getD a_Tables (Int.toNat x12_1) (0, 0)).2)) * 1)) (v_idx (s := 1) (x := (src 32 (.tmp 23))) (y := (src 32 (.tmp 25))) (b := 1) (o := 0) (len := lh1_1.length) (cap := lh1_1.length) (ik := .i64) (i := (List.getD a_Tables (Int.toNat x12_1) (0, 0)).2) (off := (Int.toNat ((List.getD a_Tables (Int.toNat x12_1) (0, 0)).2)) * 1) (d := (some (path 12 26))) (by kernel_rfl) (by kernel_rfl) (by kernel_rfl) b4 (by omega)) (σ' := [(3, s0 1 lh1_1.length), (10, s0 0 a_Tables.length), (11, ii x11_1), (12, ii x12_1), (23, s0 1 lh1_1.length), (25, ii ((List.getD a_Tables (Int.toNat x12_1) (0, 0)).2)), (26, pp 1 ((Int.toNat ((List.getD a_Tables (Int.toNat x12_1) (0, 0)).2)) * 1))]) (by kernel_rfl) ?_
      refine XR.rd E0_ok [3, 10, 11, 12, 23, 25, 27] rfl (v := ii (List.getD (List.set lh1_1 (Int.toNat ((List.getD a_Tables (Int.toNat x12_1) (0, 0)).1)) (w64 ((List.getD lh1_1 (Int.toNat ((List.getD a_Tables (Int.toNat x12_1) (0, 0)).1)) 0) + 1))) (Int.toNat ((List.getD a_Tables (Int.toNat x12_1) (0, 0)).2)) 0)) (v_load1 (encI_ok .i64) (x := (src 32 (.tmp 26))) (b := 1) (off := (Int.toNat ((List.getD a_Tables (Int.toNat x12_1) (0, 0)).2)) * 1) (xs := List.set lh1_1 (Int.toNat ((List.getD a_Tables (Int.toNat x12_1) (0, 0)).1)) (w64 ((List.getD lh1_1 (Int.toNat ((List.getD a_Tables (Int.toNat x12_1) (0, 0)).1)) 0) + 1))) (fz := 0) (e := 3) (es := 1) (d := (some (path 12 27))) (by kernel_rfl) (by kernel_rfl) (by kernel_rfl) (Int.toNat ((List.getD a_Tables (Int.toNat x12_1) (0, 0)).2)) 0 0 (by first | rfl | omega) (row_len (inRow_toNat b4) (by simp)) rfl rfl) (σ' := [(3, s0 1 lh1_1.length), (10, s0 0 a_Tables.length), (11, ii x11_1), (12, ii x12_1), (23, s0 1 lh1_1.length), (25, ii ((List.getD a_Tables (Int.toNat x12_1) (0, 0)).2)), (27, ii (List.getD (List.set lh1_1 (Int.toNat ((List.getD a_Tables (Int.toNat x12_1) (0, 0)).1)) (w64 ((List.getD lh1_1 (Int.toNat ((List.getD a_Tables (Int.toNat x12_1) (0, 0)).1)) 0) + 1))) (Int.toNat ((List.getD a_Tables (Int.toNat x12_1) (0, 0)).2)) 0))]) (by kernel_rfl) ?_
      refine XR.runS E0_ok 1 1 [(3, s0 1 lh1_1.length), (10, s0 0 a_Tables.length), (11, ii x11_1), (12, ii x12_1), (23, s0 1 lh1_1.length), (25, ii ((List.getD a_Tables (Int.toNat x12_1) (0, 0)).2)), (28, ii (w64 ((List.getD (List.set lh1_1 (Int.toNat ((List.getD a_Tables (Int.toNat x12_1) (0, 0)).1)) (w64 ((List.getD lh1_1 (Int.toNat ((List.getD a_Tables (Int.toNat x12_1) (0, 0)).1)) 0) + 1))) (Int.toNat ((List.getD a_Tables (Int.toNat x12_1) (0, 0)).2)) 0) + 1)))] rfl (by kernel_rfl) ?_
      refine XR.rd E0_ok [3, 10, 11, 12, 28, 29] rfl (v := pp 1 ((Int.toNat ((List.getD a_Tables (Int.toNat x12_1) (0, 0)).2)) * 1)) (v_idx (s := 1) (x := (src 32 (.tmp 23))) (y := (src 32 (.tmp 25))) (b := 1) (o := 0) (len := lh1_1.length) (cap := lh1_1.length) (ik := .i64) (i := (List.getD a_Tables (Int.toNat x12_1) (0, 0)).2) (off := (Int.toNat ((List.getD a_Tables (Int.toNat x12_1) (0, 0)).2)) * 1) (d := (some (path 12 29))) (by kernel_rfl) (by kernel_rfl) (by kernel_rfl) b4 (by omega)) (σ' := [(3, s0 1 lh1_1.length), (10, s0 0 a_Tables.length), (11, ii x11_1), (12, ii x12_1), (28, ii (w64 ((List.getD (List.set lh1_1 (Int.toNat ((List.getD a_Tables (Int.toNat x12_1) (0, 0)).1)) (w64 ((List.getD lh1_1 (Int.toNat ((List.getD a_Tables (Int.toNat x12_1) (0, 0)).1)) 0) + 1))) (Int.toNat ((List.getD a_Tables (Int.toNat x12_1) (0, 0)).2)) 0) + 1))), (29, pp 1 ((Int.toNat ((List.getD a_Tables (Int.toNat x12_1) (0, 0)).2)) * 1))]) (by kernel_rfl) ?_
      refine XR.ef E0_ok [3, 10, 11, 12] rfl (e_store (encI_ok .i64) (size := 1) (x := (src 32 (.tmp 29))) (y := (src 32 (.tmp 28))) (b := 1) (off := (Int.toNat ((List.getD a_Tables (Int.toNat x12_1) (0, 0)).2)) * 1) (xs := List.set lh1_1 (Int.toNat ((List.getD a_Tables (Int.toNat x12_1) (0, 0)).1)) (w64 ((List.getD lh1_1 (Int.toNat ((List.getD a_Tables (Int.toNat x12_1) (0, 0)).1)) 0) + 1))) (e := 3) (es := 1) (d := none) (h' := [(2, .cells [ii ((List.getD a_Tables (Int.toNat x12_1) (0, 0)).1), ii ((List.getD a_Tables (Int.toNat x12_1) (0, 0)).2)] 0 55 0), (1, rc (encI .i64) (List.set (List.set lh1_1 (Int.toNat ((List.getD a_Tables (Int.toNat x12_1) (0, 0)).1)) (w64 ((List.getD lh1_1 (Int.toNat ((List.getD a_Tables (Int.toNat x12_1) (0, 0)).1)) 0) + 1))) (Int.toNat ((List.getD a_Tables (Int.toNat x12_1) (0, 0)).2)) (w64 ((List.getD (List.set lh1_1 (Int.toNat ((List.getD a_Tables (Int.toNat x12_1) (0, 0)).1)) (w64 ((List.getD lh1_1 (Int.toNat ((List.getD a_Tables (Int.toNat x12_1) (0, 0)).1)) 0) + 1))) (Int.toNat ((List.getD a_Tables (Int.toNat x12_1) (0, 0)).2)) 0) + 1))) 0 3 1), (0, rc encP a_Tables z0 y0 2)]) (w := ii (w64 ((List.getD (List.set lh1_1 (Int.toNat ((List.getD a_Tables (Int.toNat x12_1) (0, 0)).1)) (w64 ((List.getD lh1_1 (Int.toNat ((List.getD a_Tables (Int.toNat x12_1) (0, 0)).1)) 0) + 1))) (Int.toNat ((List.getD a_Tables (Int.toNat x12_1) (0, 0)).2)) 0) + 1))) (ws := [ii (w64 ((List.getD (List.set lh1_1 (Int.toNat ((List.getD a_Tables (Int.toNat x12_1) (0, 0)).1)) (w64 ((List.getD lh1_1 (Int.toNat ((List.getD a_Tables (Int.toNat x12_1) (0, 0)).1)) 0) + 1))) (Int.toNat ((List.getD a_Tables (Int.toNat x12_1) (0, 0)).2)) 0) + 1))]) (a := w64 ((List.getD (List.set lh1_1 (Int.toNat ((List.getD a_Tables (Int.toNat x12_1) (0, 0)).1)) (w64 ((List.getD lh1_1 (Int.toNat ((List.getD a_Tables (Int.toNat x12_1) (0, 0)).1)) 0) + 1))) (Int.toNat ((List.getD a_Tables (Int.toNat x12_1) (0, 0)).2)) 0) + 1)) (by kernel_rfl) (by kernel_rfl) (by kernel_rfl) (Int.toNat ((List.getD a_Tables (Int.toNat x12_1) (0, 0)).2)) 0 0 (by first | rfl | omega) (row_len (inRow_toNat b4) (by simp)) (by kernel_rfl) rfl rfl rfl rfl rfl (by kernel_rfl)) (σ' := [(3, s0 1 lh1_1.length), (10, s0 0 a_Tables.length), (11, ii x11_1), (12, ii x12_1)]) (by kernel_rfl) ?_
      refine XR.done (by kernel_rfl) ?_
      show XQ _ _ _ _ _ _ _ _
      refine XQ.region (by kernel_rfl) ?_
      refine XR.runS E0_ok 1 2 [(3, s0 1 lh1_1.length), (10, s0 0 a_Tables.length), (11, ii x11_1), (12, ii (w64 (x12_1 + 1)))] rfl (by kernel_rfl) ?_
      refine XR.done (by kernel_rfl) ?_
      show XL _ _ _ _ _ _ _ _ _
      refine XL.ren (σ' := [(3, s0 1 lh1_1.length), (10, s0 0 a_Tables.length), (11, ii x11_1), (12, ii (w64 (x12_1 + 1)))]) (h' := [(1, rc (encI .i64) (List.set (List.set lh1_1 (Int.toNat ((List.getD a_Tables (Int.toNat x12_1) (0, 0)).1)) (w64 ((List.getD lh1_1 (Int.toNat ((List.getD a_Tables (Int.toNat x12_1) (0, 0)).1)) 0) + 1))) (Int.toNat ((List.getD a_Tables (Int.toNat x12_1) (0, 0)).2)) (w64 ((List.getD (List.set lh1_1 (Int.toNat ((List.getD a_Tables (Int.toNat x12_1) (0, 0)).1)) (w64 ((List.getD lh1_1 (Int.toNat ((List.getD a_Tables (Int.toNat x12_1) (0, 0)).1)) 0) + 1))) (Int.toNat ((List.getD a_Tables (Int.toNat x12_1) (0, 0)).2)) 0) + 1))) 0 3 1), (0, rc encP a_Tables z0 y0 2)]) (c' := 2) [0, 1] (by decide) rfl ⟨by kernel_rfl, by kernel_rfl, by kernel_rfl, by kernel_rfl, trivial⟩ ⟨⟨_, _, rfl, rfl, .inl ⟨rfl, rowC_scal (encI_ok .i64) _⟩⟩, ⟨_, _, rfl, rfl, .inl ⟨rfl, rowC_scal encP_ok _⟩⟩, trivial⟩ rfl ?_
      refine XL.conv (f32_1_ok m fuel z0 y0 a_Tables x11_1 (w64 (x12_1 + 1)) (List.set (List.set lh1_1 (Int.toNat ((List.getD a_Tables (Int.toNat x12_1) (0, 0)).1)) (w64 ((List.getD lh1_1 (Int.toNat ((List.getD a_Tables (Int.toNat x12_1) (0, 0)).1)) 0) + 1))) (Int.toNat ((List.getD a_Tables (Int.toNat x12_1) (0, 0)).2)) (w64 ((List.getD (List.set lh1_1 (Int.toNat ((List.getD a_Tables (Int.toNat x12_1) (0, 0)).1)) (w64 ((List.getD lh1_1 (Int.toNat ((List.getD a_Tables (Int.toNat x12_1) (0, 0)).1)) 0) + 1))) (Int.toNat ((List.getD a_Tables (Int.toNat x12_1) (0, 0)).2)) 0) + 1))) o h Q hQ) (by first | rfl | simp)
  | false =>
   have h := cF b1 h
   refine XQ.cond (s := (.tmp 13)) (b := false) (by kernel_rfl) (by kernel_rfl) (fun q => by cases q) (fun _ => ?_)
   refine XQ.ren (σ' := [(3, s0 1 lh1_1.length)]) (h' := [(1, rc (encI .i64) lh1_1 0 3 1), (0, rc encP a_Tables z0 y0 2)]) (c' := 2) [0, 1] (by decide) rfl ⟨by kernel_rfl, trivial⟩ ⟨⟨_, _, rfl, rfl, .inl ⟨rfl, rowC_scal (encI_ok .i64) _⟩⟩, ⟨_, _, rfl, rfl, .inl ⟨rfl, rowC_scal encP_ok _⟩⟩, trivial⟩ rfl ?_
   refine XQ.exit (i := 0) (by kernel_rfl) ?_
   cases h
   exact hQ

def f32 (m : Nat) (a_Sorters : Int) (a_Tables : List (Int × Int)) : Option (List Int) :=
 cond (mkOK a_Sorters a_Sorters 8) (
  (f32_1 m m a_Tables ((a_Tables.length : Nat) : Int) 0 (List.replicate (Int.toNat a_Sorters) 0)).bind fun o1 =>
   some (o1)
 ) none

theorem f32_ok (m : Nat) (z0 : Nat) (y0 : Nat) (a_Sorters : Int) (a_Tables : List (Int × Int)) (o : List Int) (h : f32 m a_Sorters a_Tables = some o) : KC E0 32 [.agg #[ii a_Sorters, s0 0 a_Tables.length]] [(0, rc encP a_Tables z0 y0 2)] 1 (fun v h' c' => v = s0 1 o.length ∧ h' = [(1, rc (encI .i64) o 0 3 1)] ++ [(0, rc encP a_Tables z0 y0 2)] ∧ c' = 2) := by
 refine KC.bodyN E0_ok (F := Proofs.Tryd.f32) (by kernel_rfl) (code := f32_C32) (by kernel_rfl) (nt := 32) (by kernel_rfl) (rs := [.tmp 2]) (by kernel_rfl) (by kernel_rfl) (σ := [(0, .agg #[ii a_Sorters, s0 0 a_Tables.length])]) (by kernel_rfl) ?_
 unfold f32 at h
 refine XQ.seq E0_ok (by kernel_rfl) ?_
 refine XQ.region (by kernel_rfl) ?_
 refine XR.runT E0_ok 1 2 [(1, pp 1 0)] [(1, .cells [ii a_Sorters, s0 0 a_Tables.length] 0 34 0), (0, rc encP a_Tables z0 y0 2)] 2 rfl (by kernel_rfl) ?_
 refine XR.done (by kernel_rfl) ?_
 show XQ _ _ _ _ _ _ _ _
 refine XQ.seq E0_ok (by kernel_rfl) ?_
 refine XQ.region (by kernel_rfl) ?_
 refine XR.runS E0_ok 1 2 [(1, pp 1 0), (7, ii a_Sorters)] rfl (by kernel_rfl) ?_
 cases b1 : (mkOK a_Sorters a_Sorters 8 : Bool) with
 | false => cases (cF b1 h)
 | true =>
  have h := cT b1 h
  refine XR.ef E0_ok [1, 8] rfl (e_make (encI_ok .i64) (x := (src 32 (.tmp 7))) (y := (src 32 (.tmp 7))) (l := a_Sorters) (n := a_Sorters) (bytes := 8) (e := 3) (z := #[ii 0]) (d := (some (path 12 8))) (by kernel_rfl) (by kernel_rfl) (by kernel_rfl) 0 rfl (by kernel_rfl) b1) (σ' := [(1, pp 1 0), (8, s0 2 (Int.toNat a_Sorters))]) (by kernel_rfl) ?_
  refine XR.runS E0_ok 1 1 [(1, pp 1 0), (3, s0 2 (Int.toNat a_Sorters))] rfl (by kernel_rfl) ?_
  refine XR.done (by kernel_rfl) ?_
  show XQ _ _ _ _ _ _ _ _
  refine XQ.seq E0_ok (by kernel_rfl) ?_
  refine XQ.seq E0_ok (by kernel_rfl) ?_
  refine XQ.region (by kernel_rfl) ?_
  refine XR.runS E0_ok 1 4 [(3, s0 2 (Int.toNat a_Sorters)), (10, s0 0 a_Tables.length), (11, ii ((a_Tables.length : Nat) : Int)), (12, ii 0)] rfl (by kernel_rfl) ?_
  refine XR.done (by kernel_rfl) ?_
  show XQ _ _ _ _ _ _ _ _
  refine XQ.block (id := 0) (by kernel_rfl) ?_
  refine XQ.loop m (by kernel_rfl) ?_
  obtain ⟨o1, o1_h, h⟩ := bS h
  refine XL.ren (σ' := [(3, s0 1 (Int.toNat a_Sorters)), (10, s0 0 a_Tables.length), (11, ii ((a_Tables.length : Nat) : Int)), (12, ii 0)]) (h' := [(1, rc (encI .i64) (List.replicate (Int.toNat a_Sorters) 0) 0 3 1), (0, rc encP a_Tables z0 y0 2)]) (c' := 2) [0, 2] (by decide) rfl ⟨by kernel_rfl, by kernel_rfl, by kernel_rfl, by kernel_rfl, trivial⟩ ⟨⟨_, _, rfl, rfl, .inl ⟨rfl, rowC_scal (encI_ok .i64) _⟩⟩, ⟨_, _, rfl, rfl, .inl ⟨rfl, rowC_scal encP_ok _⟩⟩, trivial⟩ rfl ?_
  refine XL.conv (f32_1_ok m m z0 y0 a_Tables ((a_Tables.length : Nat) : Int) 0 (List.replicate (Int.toNat a_Sorters) 0) o1 o1_h _ ?_) (by first | rfl | simp)
  show XQ _ _ _ _ _ _ _ _
  refine XQ.seq E0_ok (by kernel_rfl) ?_
  refine XQ.region (by kernel_rfl) ?_
  refine XR.runS E0_ok 1 2 [(2, s0 1 o1.length)] rfl (by kernel_rfl) ?_
  refine XR.done (by kernel_rfl) ?_
  show XQ _ _ _ _ _ _ _ _
  refine XQ.ren (σ' := [(2, s0 1 o1.length)]) (h' := [(1, rc (encI .i64) o1 0 3 1), (0, rc encP a_Tables z0 y0 2)]) (c' := 2) [0, 1] (by decide) rfl ⟨by kernel_rfl, trivial⟩ ⟨⟨_, _, rfl, rfl, .inl ⟨rfl, rowC_scal (encI_ok .i64) _⟩⟩, ⟨_, _, rfl, rfl, .inl ⟨rfl, rowC_scal encP_ok _⟩⟩, trivial⟩ rfl ?_
  refine XQ.ret (by kernel_rfl) ?_
  have h := Option.some.inj h
  subst h
  exact ⟨fun i q => (by cases q), s0 1 o1.length, (by kernel_rfl), (by kernel_rfl), (by kernel_rfl), rfl⟩

/-! vitola/vitolalaw12.drawn -/
noncomputable def f33_C33 : Code := Proofs.Tryd.f33.body.getD .skip
noncomputable def f33_L1 : Code := lft (lft (rgt (lft (rgt (rgt (rgt f33_C33))))))
noncomputable def f33_L2 : Code := lft (lft (rgt (rgt (lft (lft (rgt (rgt f33_L1)))))))

def f33_2 (m : Nat) : Nat → Int → Int → Int → Int → Int → List (Int × Int) → Option (Int × (List (Int × Int)))
 | 0, _, _, _, _, _, _ => none
 | fuel + 1, a, b, x12_1, x6_2, x8_2, lh3_2 =>
  cond (decide (x8_2 < a)) (
   cond (decide (0 ≤ x6_2)) (
    cond ((andV .u32 (shV false .u32 b x6_2) 1) == 1) (
     cond (fitsB (lh3_2.length + 1) 16) (
      f33_2 m fuel a b x12_1 (w64 (x6_2 + 1)) (w64 (x8_2 + 1)) (lh3_2 ++ [(x12_1, x8_2)])
     ) none
    ) (
     f33_2 m fuel a b x12_1 (w64 (x6_2 + 1)) (w64 (x8_2 + 1)) lh3_2
    )
   ) none
  ) (
   some (x6_2, lh3_2)
  )

theorem f33_2_ok (m : Nat) : ∀ (fuel : Nat) (a : Int) (b : Int) (x12_1 : Int) (x6_2 : Int) (x8_2 : Int) (lh3_2 : List (Int × Int)) (o : (Int × (List (Int × Int)))), f33_2 m fuel a b x12_1 x6_2 x8_2 lh3_2 = some o → ∀ Q : QP, Q (.exit 2) [(0, ii a), (1, .int .u32 b), (4, pp 0 0), (5, pp 1 0), (6, ii o.1), (11, ii a), (12, ii x12_1)] [(3, rc encP o.2 0 55 2), (2, rc encP [] 0 55 2), (1, .cells [ii a, s0 3 o.2.length] 0 34 0), (0, .cells [ii 0, s0 2 0] 0 34 0)] 4 → XL E0 39 0 fuel f33_L2 [(0, ii a), (1, .int .u32 b), (4, pp 0 0), (5, pp 1 0), (6, ii x6_2), (7, ii x12_1), (8, ii x8_2), (11, ii a), (12, ii x12_1)] [(3, rc encP lh3_2 0 55 2), (2, rc encP [] 0 55 2), (1, .cells [ii a, s0 3 lh3_2.length] 0 34 0), (0, .cells [ii 0, s0 2 0] 0 34 0)] 4 Q
 | 0, a, b, x12_1, x6_2, x8_2, lh3_2, o, h, Q, hQ => by cases h
 | fuel + 1, a, b, x12_1, x6_2, x8_2, lh3_2, o, h, Q, hQ => by
  unfold f33_2 at h
  refine XL.succ E0_ok ?_
  refine XQ.seq E0_ok (by kernel_rfl) ?_
  refine XQ.seq E0_ok (by kernel_rfl) ?_
  refine XQ.region (by kernel_rfl) ?_
  refine XR.runS E0_ok 1 3 [(0, ii a), (1, .int .u32 b), (4, pp 0 0), (5, pp 1 0), (6, ii x6_2), (7, ii x12_1), (8, ii x8_2), (11, ii a), (12, ii x12_1), (19, .bool (decide (x8_2 < a)))] rfl (by kernel_rfl) ?_
  refine XR.done (by kernel_rfl) ?_
  show XQ _ _ _ _ _ _ _ _
  cases b1 : (decide (x8_2 < a) : Bool) with
  | true =>
   have h := cT b1 h
   refine XQ.cond (s := (.tmp 19)) (b := true) (by kernel_rfl) (by kernel_rfl) (fun _ => ?_) (fun q => by cases q)
   refine XQ.skip (by kernel_rfl) ?_
   show XQ _ _ _ _ _ _ _ _
   refine XQ.seq E0_ok (by kernel_rfl) ?_
   refine XQ.block (id := 3) (by kernel_rfl) ?_
   refine XQ.seq E0_ok (by kernel_rfl) ?_
   refine XQ.seq E0_ok (by kernel_rfl) ?_
   refine XQ.region (by kernel_rfl) ?_
   refine XR.runS E0_ok 1 2 [(0, ii a), (1, .int .u32 b), (4, pp 0 0), (5, pp 1 0), (6, ii x6_2), (7, ii x12_1), (8, ii x8_2), (11, ii a), (12, ii x12_1), (22, .int .u32 b), (23, ii x6_2)] rfl (by kernel_rfl) ?_
   cases b2 : (decide (0 ≤ x6_2) : Bool) with
   | false => cases (cF b2 h)
   | true =>
    have h := cT b2 h
    have e3 : insV (headI ((gsOf E0 39 (opsOf (lft (lft (lft (lft (rgt f33_L2))))))).drop 2) (trS 39 [(0, ii a), (1, .int .u32 b), (4, pp 0 0), (5, pp 1 0), (6, ii x6_2), (7, ii x12_1), (8, ii x8_2), (11, ii a), (12, ii x12_1), (22, .int .u32 b), (23, ii x6_2)])) (trS 39 [(0, ii a), (1, .int .u32 b), (4, pp 0 0), (5, pp 1 0), (6, ii x6_2), (7, ii x12_1), (8, ii x8_2), (11, ii a), (12, ii x12_1), (22, .int .u32 b), (23, ii x6_2)]) [(3, rc encP lh3_2 0 55 2), (2, rc encP [] 0 55 2), (1, .cells [ii a, s0 3 lh3_2.length] 0 34 0), (0, .cells [ii 0, s0 2 0] 0 34 0)] = (match (decide (0 ≤ x6_2) : Bool) with | true => some (.int .u32 (shV false .u32 b x6_2)) | false => none) := by kernel_rfl
    refine XR.rd E0_ok [0, 1, 4, 5, 6, 7, 8, 11, 12, 24] rfl (e3.trans (by rw [b2])) (σ' := [(0, ii a), (1, .int .u32 b), (4, pp 0 0), (5, pp 1 0), (6, ii x6_2), (7, ii x12_1), (8, ii x8_2), (11, ii a), (12, ii x12_1), (24, .int .u32 (shV false .u32 b x6_2))]) (by kernel_rfl) ?_
    refine XR.runS E0_ok 1 2 [(0, ii a), (1, .int .u32 b), (4, pp 0 0), (5, pp 1 0), (6, ii x6_2), (7, ii x12_1), (8, ii x8_2), (11, ii a), (12, ii x12_1), (26, .bool ((andV .u32 (shV false .u32 b x6_2) 1) == 1))] rfl (by kernel_rfl) ?_
    refine XR.done (by kernel_rfl) ?_
    show XQ _ _ _ _ _ _ _ _
    cases b4 : ((andV .u32 (shV false .u32 b x6_2) 1) == 1 : Bool) with
    | true =>
     have h := cT b4 h
     refine XQ.cond (s := (.tmp 26)) (b := true) (by kernel_rfl) (by kernel_rfl) (fun _ => ?_) (fun q => by cases q)
     refine XQ.region (by kernel_rfl) ?_
     refine XR.runT E0_ok 1 6 [(0, ii a), (1, .int .u32 b), (4, pp 0 0), (5, pp 1 0), (6, ii x6_2), (7, ii x12_1), (8, ii x8_2), (11, ii a), (12, ii x12_1), (28, s0 3 lh3_2.length), (32, s0 4 1)] [(4, .cells [ii x12_1, ii x8_2] 0 55 2), (3, rc encP lh3_2 0 55 2), (2, rc encP [] 0 55 2), (1, .cells [ii a, s0 3 lh3_2.length] 0 34 0), (0, .cells [ii 0, s0 2 0] 0 34 0)] 5 rfl (by kernel_rfl) ?_
     cases b5 : (fitsB (lh3_2.length + 1) 16 : Bool) with
     | false => cases (cF b5 h)
     | true =>
      have h := cT b5 h
      refine XR.ef E0_ok [0, 1, 4, 5, 6, 7, 8, 11, 12, 33] rfl (e_append encP_ok (bytes := 16) (e := 55) (x := (src 39 (.tmp 28))) (y := (src 39 (.tmp 32))) (b := 3) (len := lh3_2.length) (cap := lh3_2.length) (xs := lh3_2) (m := 0) (ys := [(x12_1, x8_2)]) (d := (some (path 12 33))) (n' := (lh3_2 ++ [(x12_1, x8_2)]).length) (h' := [(5, rc encP (lh3_2 ++ [(x12_1, x8_2)]) 0 55 2), (4, .cells [ii x12_1, ii x8_2] 0 55 2), (2, rc encP [] 0 55 2), (1, .cells [ii a, s0 3 lh3_2.length] 0 34 0), (0, .cells [ii 0, s0 2 0] 0 34 0)]) (by kernel_rfl) (by kernel_rfl) (by kernel_rfl) (by kernel_rfl) rfl (by simp) (by simp) b5 (by simp) (by kernel_rfl)) (σ' := [(0, ii a), (1, .int .u32 b), (4, pp 0 0), (5, pp 1 0), (6, ii x6_2), (7, ii x12_1), (8, ii x8_2), (11, ii a), (12, ii x12_1), (33, s0 5 ((lh3_2 ++ [(x12_1, x8_2)]).length))]) (by kernel_rfl) ?_
      refine XR.runT E0_ok 1 2 [(0, ii a), (1, .int .u32 b), (4, pp 0 0), (5, pp 1 0), (6, ii x6_2), (7, ii x12_1), (8, ii x8_2), (11, ii a), (12, ii x12_1)] [(5, rc encP (lh3_2 ++ [(x12_1, x8_2)]) 0 55 2), (4, .cells [ii x12_1, ii x8_2] 0 55 2), (2, rc encP [] 0 55 2), (1, .cells [ii a, s0 5 ((lh3_2 ++ [(x12_1, x8_2)]).length)] 0 34 0), (0, .cells [ii 0, s0 2 0] 0 34 0)] 6 rfl (by kernel_rfl) ?_
      refine XR.done (by kernel_rfl) ?_
      show XQ _ _ _ _ _ _ _ _
      refine XQ.region (by kernel_rfl) ?_
      refine XR.runS E0_ok 1 3 [(0, ii a), (1, .int .u32 b), (4, pp 0 0), (5, pp 1 0), (6, ii (w64 (x6_2 + 1))), (7, ii x12_1), (8, ii x8_2), (11, ii a), (12, ii x12_1)] rfl (by kernel_rfl) ?_
      refine XR.done (by kernel_rfl) ?_
      show XQ _ _ _ _ _ _ _ _
      refine XQ.region (by kernel_rfl) ?_
      refine XR.runS E0_ok 1 3 [(0, ii a), (1, .int .u32 b), (4, pp 0 0), (5, pp 1 0), (6, ii (w64 (x6_2 + 1))), (7, ii x12_1), (8, ii (w64 (x8_2 + 1))), (11, ii a), (12, ii x12_1)] rfl (by kernel_rfl) ?_
      refine XR.done (by kernel_rfl) ?_
      show XL _ _ _ _ _ _ _ _ _
      refine XL.ren (σ' := [(0, ii a), (1, .int .u32 b), (4, pp 0 0), (5, pp 1 0), (6, ii (w64 (x6_2 + 1))), (7, ii x12_1), (8, ii (w64 (x8_2 + 1))), (11, ii a), (12, ii x12_1)]) (h' := [(3, rc encP (lh3_2 ++ [(x12_1, x8_2)]) 0 55 2), (2, rc encP [] 0 55 2), (1, .cells [ii a, s0 3 ((lh3_2 ++ [(x12_1, x8_2)]).length)] 0 34 0), (0, .cells [ii 0, s0 2 0] 0 34 0)]) (c' := 4) [0, 1, 2, 5] (by decide) rfl ⟨by kernel_rfl, by kernel_rfl, by kernel_rfl, by kernel_rfl, by kernel_rfl, by kernel_rfl, by kernel_rfl, by kernel_rfl, by kernel_rfl, trivial⟩ ⟨⟨_, _, rfl, rfl, .inl ⟨rfl, rowC_scal encP_ok _⟩⟩, ⟨_, _, rfl, rfl, .inl ⟨rfl, rowC_scal encP_ok _⟩⟩, ⟨_, _, rfl, rfl, .inr ⟨_, _, _, _, rfl, rfl⟩⟩, ⟨_, _, rfl, rfl, .inr ⟨_, _, _, _, rfl, rfl⟩⟩, trivial⟩ rfl ?_
      refine XL.conv (f33_2_ok m fuel a b x12_1 (w64 (x6_2 + 1)) (w64 (x8_2 + 1)) (lh3_2 ++ [(x12_1, x8_2)]) o h Q hQ) (by first | rfl | simp)
    | false =>
     have h := cF b4 h
     refine XQ.cond (s := (.tmp 26)) (b := false) (by kernel_rfl) (by kernel_rfl) (fun q => by cases q) (fun _ => ?_)
     refine XQ.skip (by kernel_rfl) ?_
     show XQ _ _ _ _ _ _ _ _
     refine XQ.region (by kernel_rfl) ?_
     refine XR.runS E0_ok 1 3 [(0, ii a), (1, .int .u32 b), (4, pp 0 0), (5, pp 1 0), (6, ii (w64 (x6_2 + 1))), (7, ii x12_1), (8, ii x8_2), (11, ii a), (12, ii x12_1)] rfl (by kernel_rfl) ?_
     refine XR.done (by kernel_rfl) ?_
     show XQ _ _ _ _ _ _ _ _
     refine XQ.region (by kernel_rfl) ?_
     refine XR.runS E0_ok 1 3 [(0, ii a), (1, .int .u32 b), (4, pp 0 0), (5, pp 1 0), (6, ii (w64 (x6_2 + 1))), (7, ii x12_1), (8, ii (w64 (x8_2 + 1))), (11, ii a), (12, ii x12_1)] rfl (by kernel_rfl) ?_
     refine XR.done (by kernel_rfl) ?_
     show XL _ _ _ _ _ _ _ _ _
     refine XL.ren (σ' := [(0, ii a), (1, .int .u32 b), (4, pp 0 0), (5, pp 1 0), (6, ii (w64 (x6_2 + 1))), (7, ii x12_1), (8, ii (w64 (x8_2 + 1))), (11, ii a), (12, ii x12_1)]) (h' := [(3, rc encP lh3_2 0 55 2), (2, rc encP [] 0 55 2), (1, .cells [ii a, s0 3 lh3_2.length] 0 34 0), (0, .cells [ii 0, s0 2 0] 0 34 0)]) (c' := 4) [0, 1, 2, 3] (by decide) rfl ⟨by kernel_rfl, by kernel_rfl, by kernel_rfl, by kernel_rfl, by kernel_rfl, by kernel_rfl, by kernel_rfl, by kernel_rfl, by kernel_rfl, trivial⟩ ⟨⟨_, _, rfl, rfl, .inl ⟨rfl, rowC_scal encP_ok _⟩⟩, ⟨_, _, rfl, rfl, .inl ⟨rfl, rowC_scal encP_ok _⟩⟩, ⟨_, _, rfl, rfl, .inr ⟨_, _, _, _, rfl, rfl⟩⟩, ⟨_, _, rfl, rfl, .inr ⟨_, _, _, _, rfl, rfl⟩⟩, trivial⟩ rfl ?_
     refine XL.conv (f33_2_ok m fuel a b x12_1 (w64 (x6_2 + 1)) (w64 (x8_2 + 1)) lh3_2 o h Q hQ) (by first | rfl | simp)
  | false =>
   have h := cF b1 h
   refine XQ.cond (s := (.tmp 19)) (b := false) (by kernel_rfl) (by kernel_rfl) (fun q => by cases q) (fun _ => ?_)
   refine XQ.ren (σ' := [(0, ii a), (1, .int .u32 b), (4, pp 0 0), (5, pp 1 0), (6, ii x6_2), (11, ii a), (12, ii x12_1)]) (h' := [(3, rc encP lh3_2 0 55 2), (2, rc encP [] 0 55 2), (1, .cells [ii a, s0 3 lh3_2.length] 0 34 0), (0, .cells [ii 0, s0 2 0] 0 34 0)]) (c' := 4) [0, 1, 2, 3] (by decide) rfl ⟨by kernel_rfl, by kernel_rfl, by kernel_rfl, by kernel_rfl, by kernel_rfl, by kernel_rfl, by kernel_rfl, trivial⟩ ⟨⟨_, _, rfl, rfl, .inl ⟨rfl, rowC_scal encP_ok _⟩⟩, ⟨_, _, rfl, rfl, .inl ⟨rfl, rowC_scal encP_ok _⟩⟩, ⟨_, _, rfl, rfl, .inr ⟨_, _, _, _, rfl, rfl⟩⟩, ⟨_, _, rfl, rfl, .inr ⟨_, _, _, _, rfl, rfl⟩⟩, trivial⟩ rfl ?_
   refine XQ.exit (i := 2) (by kernel_rfl) ?_
   cases h
   exact hQ

def f33_1 (m : Nat) : Nat → Int → Int → Int → Int → List (Int × Int) → Option (List (Int × Int))
 | 0, _, _, _, _, _ => none
 | fuel + 1, a, b, x6_1, x12_1, lh3_1 =>
  cond (decide (x12_1 < a)) (
   (f33_2 m m a b x12_1 x6_1 (w64 (x12_1 + 1)) lh3_1).bind fun o2 =>
    f33_1 m fuel a b o2.1 (w64 (x12_1 + 1)) o2.2
  ) (
   some (lh3_1)
  )

theorem f33_1_ok (m : Nat) : ∀ (fuel : Nat) (a : Int) (b : Int) (x6_1 : Int) (x12_1 : Int) (lh3_1 : List (Int × Int)) (o : (List (Int × Int))), f33_1 m fuel a b x6_1 x12_1 lh3_1 = some o → ∀ Q : QP, Q (.exit 0) [(4, pp 0 0), (5, pp 1 0)] [(3, rc encP o 0 55 2), (2, rc encP [] 0 55 2), (1, .cells [ii a, s0 3 o.length] 0 34 0), (0, .cells [ii 0, s0 2 0] 0 34 0)] 4 → XL E0 39 0 fuel f33_L1 [(0, ii a), (1, .int .u32 b), (4, pp 0 0), (5, pp 1 0), (6, ii x6_1), (11, ii a), (12, ii x12_1)] [(3, rc encP lh3_1 0 55 2), (2, rc encP [] 0 55 2), (1, .cells [ii a, s0 3 lh3_1.length] 0 34 0), (0, .cells [ii 0, s0 2 0] 0 34 0)] 4 Q
 | 0, a, b, x6_1, x12_1, lh3_1, o, h, Q, hQ => by cases h
 | fuel + 1, a, b, x6_1, x12_1, lh3_1, o, h, Q, hQ => by
  unfold f33_1 at h
  refine XL.succ E0_ok ?_
  refine XQ.seq E0_ok (by kernel_rfl) ?_
  refine XQ.region (by kernel_rfl) ?_
  refine XR.runS E0_ok 1 1 [(0, ii a), (1, .int .u32 b), (4, pp 0 0), (5, pp 1 0), (6, ii x6_1), (11, ii a), (12, ii x12_1), (13, .bool (decide (x12_1 < a)))] rfl (by kernel_rfl) ?_
  refine XR.done (by kernel_rfl) ?_
  show XQ _ _ _ _ _ _ _ _
  refine XQ.seq E0_ok (by kernel_rfl) ?_
  cases b1 : (decide (x12_1 < a) : Bool) with
  | true =>
   have h := cT b1 h
   refine XQ.cond (s := (.tmp 13)) (b := true) (by kernel_rfl) (by kernel_rfl) (fun _ => ?_) (fun q => by cases q)
   refine XQ.skip (by kernel_rfl) ?_
   show XQ _ _ _ _ _ _ _ _
   refine XQ.seq E0_ok (by kernel_rfl) ?_
   refine XQ.block (id := 1) (by kernel_rfl) ?_
   refine XQ.seq E0_ok (by kernel_rfl) ?_
   refine XQ.region (by kernel_rfl) ?_
   refine XR.runS E0_ok 1 2 [(0, ii a), (1, .int .u32 b), (4, pp 0 0), (5, pp 1 0), (6, ii x6_1), (7, ii x12_1), (11, ii a), (12, ii x12_1)] rfl (by kernel_rfl) ?_
   refine XR.done (by kernel_rfl) ?_
   show XQ _ _ _ _ _ _ _ _
   refine XQ.seq E0_ok (by kernel_rfl) ?_
   refine XQ.region (by kernel_rfl) ?_
   refine XR.runS E0_ok 1 3 [(0, ii a), (1, .int .u32 b), (4, pp 0 0), (5, pp 1 0), (6, ii x6_1), (7, ii x12_1), (8, ii (w64 (x12_1 + 1))), (11, ii a), (12, ii x12_1)] rfl (by kernel_rfl) ?_
   refine XR.done (by kernel_rfl) ?_
   show XQ _ _ _ _ _ _ _ _
   refine XQ.block (id := 2) (by kernel_rfl) ?_
   refine XQ.loop m (by kernel_rfl) ?_
   obtain ⟨o2, o2_h, h⟩ := bS h
   refine XL.ren (σ' := [(0, ii a), (1, .int .u32 b), (4, pp 0 0), (5, pp 1 0), (6, ii x6_1), (7, ii x12_1), (8, ii (w64 (x12_1 + 1))), (11, ii a), (12, ii x12_1)]) (h' := [(3, rc encP lh3_1 0 55 2), (2, rc encP [] 0 55 2), (1, .cells [ii a, s0 3 lh3_1.length] 0 34 0), (0, .cells [ii 0, s0 2 0] 0 34 0)]) (c' := 4) [0, 1, 2, 3] (by decide) rfl ⟨by kernel_rfl, by kernel_rfl, by kernel_rfl, by kernel_rfl, by kernel_rfl, by kernel_rfl, by kernel_rfl, by kernel_rfl, by kernel_rfl, trivial⟩ ⟨⟨_, _, rfl, rfl, .inl ⟨rfl, rowC_scal encP_ok _⟩⟩, ⟨_, _, rfl, rfl, .inl ⟨rfl, rowC_scal encP_ok _⟩⟩, ⟨_, _, rfl, rfl, .inr ⟨_, _, _, _, rfl, rfl⟩⟩, ⟨_, _, rfl, rfl, .inr ⟨_, _, _, _, rfl, rfl⟩⟩, trivial⟩ rfl ?_
   refine XL.conv (f33_2_ok m m a b x12_1 x6_1 (w64 (x12_1 + 1)) lh3_1 o2 o2_h _ ?_) (by first | rfl | simp)
   show XQ _ _ _ _ _ _ _ _
   refine XQ.region (by kernel_rfl) ?_
   refine XR.runS E0_ok 1 2 [(0, ii a), (1, .int .u32 b), (4, pp 0 0), (5, pp 1 0), (6, ii o2.1), (11, ii a), (12, ii (w64 (x12_1 + 1)))] rfl (by kernel_rfl) ?_
   refine XR.done (by kernel_rfl) ?_
   show XL _ _ _ _ _ _ _ _ _
   refine XL.ren (σ' := [(0, ii a), (1, .int .u32 b), (4, pp 0 0), (5, pp 1 0), (6, ii o2.1), (11, ii a), (12, ii (w64 (x12_1 + 1)))]) (h' := [(3, rc encP o2.2 0 55 2), (2, rc encP [] 0 55 2), (1, .cells [ii a, s0 3 o2.2.length] 0 34 0), (0, .cells [ii 0, s0 2 0] 0 34 0)]) (c' := 4) [0, 1, 2, 3] (by decide) rfl ⟨by kernel_rfl, by kernel_rfl, by kernel_rfl, by kernel_rfl, by kernel_rfl, by kernel_rfl, by kernel_rfl, trivial⟩ ⟨⟨_, _, rfl, rfl, .inl ⟨rfl, rowC_scal encP_ok _⟩⟩, ⟨_, _, rfl, rfl, .inl ⟨rfl, rowC_scal encP_ok _⟩⟩, ⟨_, _, rfl, rfl, .inr ⟨_, _, _, _, rfl, rfl⟩⟩, ⟨_, _, rfl, rfl, .inr ⟨_, _, _, _, rfl, rfl⟩⟩, trivial⟩ rfl ?_
   refine XL.conv (f33_1_ok m fuel a b o2.1 (w64 (x12_1 + 1)) o2.2 o h Q hQ) (by first | rfl | simp)
  | false =>
   have h := cF b1 h
   refine XQ.cond (s := (.tmp 13)) (b := false) (by kernel_rfl) (by kernel_rfl) (fun q => by cases q) (fun _ => ?_)
   refine XQ.ren (σ' := [(4, pp 0 0), (5, pp 1 0)]) (h' := [(3, rc encP lh3_1 0 55 2), (2, rc encP [] 0 55 2), (1, .cells [ii a, s0 3 lh3_1.length] 0 34 0), (0, .cells [ii 0, s0 2 0] 0 34 0)]) (c' := 4) [0, 1, 2, 3] (by decide) rfl ⟨by kernel_rfl, by kernel_rfl, trivial⟩ ⟨⟨_, _, rfl, rfl, .inl ⟨rfl, rowC_scal encP_ok _⟩⟩, ⟨_, _, rfl, rfl, .inl ⟨rfl, rowC_scal encP_ok _⟩⟩, ⟨_, _, rfl, rfl, .inr ⟨_, _, _, _, rfl, rfl⟩⟩, ⟨_, _, rfl, rfl, .inr ⟨_, _, _, _, rfl, rfl⟩⟩, trivial⟩ rfl ?_
   refine XQ.exit (i := 0) (by kernel_rfl) ?_
   cases h
   exact hQ

def f33 (m : Nat) (a : Int) (b : Int) : Option (Int × (List (Int × Int))) :=
 (f33_1 m m a b 0 0 []).bind fun o1 =>
  some (a, o1)

theorem f33_ok (m : Nat) (a : Int) (b : Int) (o : Int × (List (Int × Int))) (h : f33 m a b = some o) : KC E0 33 [ii a, .int .u32 b] [] 0 (fun v h' c' => v = .agg #[ii o.1, s0 0 o.2.length] ∧ h' = [(0, rc encP o.2 0 55 2)] ∧ c' = 1) := by
 refine KC.renO ?_
 refine KC.bodyN E0_ok (F := Proofs.Tryd.f33) (by kernel_rfl) (code := f33_C33) (by kernel_rfl) (nt := 39) (by kernel_rfl) (rs := [.cell 4 34]) (by kernel_rfl) (by kernel_rfl) (σ := [(0, ii a), (1, .int .u32 b)]) (by kernel_rfl) ?_
 unfold f33 at h
 refine XQ.seq E0_ok (by kernel_rfl) ?_
 refine XQ.region (by kernel_rfl) ?_
 refine XR.runT E0_ok 1 1 [(0, ii a), (1, .int .u32 b), (4, pp 0 0)] [(0, .cells [ii 0, .slice none 0 0] 0 34 0)] 1 rfl (by kernel_rfl) ?_
 refine XR.done (by kernel_rfl) ?_
 show XQ _ _ _ _ _ _ _ _
 refine XQ.ghost 55 2 rfl (σ' := [(0, ii a), (1, .int .u32 b), (4, pp 0 0)]) (h' := [(0, .cells [ii 0, s0 1 0] 0 34 0)]) ⟨by kernel_rfl, by kernel_rfl, by kernel_rfl, trivial⟩ ⟨⟨_, rfl, .inr ⟨_, _, _, _, rfl, rfl⟩⟩, trivial⟩ ?_
 refine XQ.conv (σ' := [(0, ii a), (1, .int .u32 b), (4, pp 0 0)]) (h' := [(1, rc encP [] 0 55 2), (0, .cells [ii 0, s0 1 0] 0 34 0)]) (c' := 2) ?_ (by kernel_rfl)
 refine XQ.seq E0_ok (by kernel_rfl) ?_
 refine XQ.region (by kernel_rfl) ?_
 refine XR.runT E0_ok 1 4 [(0, ii a), (1, .int .u32 b), (4, pp 0 0), (5, pp 2 0)] [(2, .cells [ii a, .slice none 0 0] 0 34 0), (1, rc encP [] 0 55 2), (0, .cells [ii 0, s0 1 0] 0 34 0)] 3 rfl (by kernel_rfl) ?_
 refine XR.done (by kernel_rfl) ?_
 show XQ _ _ _ _ _ _ _ _
 refine XQ.ghost 55 2 rfl (σ' := [(0, ii a), (1, .int .u32 b), (4, pp 0 0), (5, pp 2 0)]) (h' := [(2, .cells [ii a, s0 3 0] 0 34 0), (1, rc encP [] 0 55 2), (0, .cells [ii 0, s0 1 0] 0 34 0)]) ⟨by kernel_rfl, by kernel_rfl, by kernel_rfl, by kernel_rfl, trivial⟩ ⟨⟨_, rfl, .inr ⟨_, _, _, _, rfl, rfl⟩⟩, ⟨_, rfl, .inl rfl⟩, ⟨_, rfl, .inl rfl⟩, trivial⟩ ?_
 refine XQ.conv (σ' := [(0, ii a), (1, .int .u32 b), (4, pp 0 0), (5, pp 2 0)]) (h' := [(3, rc encP [] 0 55 2), (2, .cells [ii a, s0 3 0] 0 34 0), (1, rc encP [] 0 55 2), (0, .cells [ii 0, s0 1 0] 0 34 0)]) (c' := 4) ?_ (by kernel_rfl)
 refine XQ.seq E0_ok (by kernel_rfl) ?_
 refine XQ.region (by kernel_rfl) ?_
 refine XR.runS E0_ok 1 1 [(0, ii a), (1, .int .u32 b), (4, pp 0 0), (5, pp 2 0), (6, ii 0)] rfl (by kernel_rfl) ?_
 refine XR.done (by kernel_rfl) ?_
 show XQ _ _ _ _ _ _ _ _
 refine XQ.seq E0_ok (by kernel_rfl) ?_
 refine XQ.seq E0_ok (by kernel_rfl) ?_
 refine XQ.region (by kernel_rfl) ?_
 refine XR.runS E0_ok 1 2 [(0, ii a), (1, .int .u32 b), (4, pp 0 0), (5, pp 2 0), (6, ii 0), (11, ii a), (12, ii 0)] rfl (by kernel_rfl) ?_
 refine XR.done (by kernel_rfl) ?_
 show XQ _ _ _ _ _ _ _ _
 refine XQ.block (id := 0) (by kernel_rfl) ?_
 refine XQ.loop m (by kernel_rfl) ?_
 obtain ⟨o1, o1_h, h⟩ := bS h
 refine XL.ren (σ' := [(0, ii a), (1, .int .u32 b), (4, pp 0 0), (5, pp 1 0), (6, ii 0), (11, ii a), (12, ii 0)]) (h' := [(3, rc encP [] 0 55 2), (2, rc encP [] 0 55 2), (1, .cells [ii a, s0 3 0] 0 34 0), (0, .cells [ii 0, s0 2 0] 0 34 0)]) (c' := 4) [0, 2, 1, 3] (by decide) rfl ⟨by kernel_rfl, by kernel_rfl, by kernel_rfl, by kernel_rfl, by kernel_rfl, by kernel_rfl, by kernel_rfl, trivial⟩ ⟨⟨_, _, rfl, rfl, .inl ⟨rfl, rowC_scal encP_ok _⟩⟩, ⟨_, _, rfl, rfl, .inl ⟨rfl, rowC_scal encP_ok _⟩⟩, ⟨_, _, rfl, rfl, .inr ⟨_, _, _, _, rfl, rfl⟩⟩, ⟨_, _, rfl, rfl, .inr ⟨_, _, _, _, rfl, rfl⟩⟩, trivial⟩ rfl ?_
 refine XL.conv (f33_1_ok m m a b 0 0 [] o1 o1_h _ ?_) (by first | rfl | simp)
 show XQ _ _ _ _ _ _ _ _
 refine XQ.seq E0_ok (by kernel_rfl) ?_
 refine XQ.region (by kernel_rfl) ?_
 refine XR.runT E0_ok 1 2 [(4, pp 0 0)] [(3, rc encP o1 0 55 2), (2, rc encP [] 0 55 2), (1, .cells [ii a, s0 3 o1.length] 0 34 0), (0, .cells [ii a, s0 3 o1.length] 0 34 0)] 4 rfl (by kernel_rfl) ?_
 refine XR.done (by kernel_rfl) ?_
 show XQ _ _ _ _ _ _ _ _
 refine XQ.ren (σ' := [(4, pp 0 0)]) (h' := [(1, rc encP o1 0 55 2), (0, .cells [ii a, s0 1 o1.length] 0 34 0)]) (c' := 2) [0, 3] (by decide) rfl ⟨by kernel_rfl, trivial⟩ ⟨⟨_, _, rfl, rfl, .inl ⟨rfl, rowC_scal encP_ok _⟩⟩, ⟨_, _, rfl, rfl, .inr ⟨_, _, _, _, rfl, rfl⟩⟩, trivial⟩ rfl ?_
 refine XQ.ret (by kernel_rfl) ?_
 have h := Option.some.inj h
 subst h
 exact ⟨fun i q => (by cases q), .agg #[ii a, s0 1 o1.length], (by kernel_rfl), [1], .agg #[ii a, s0 0 o1.length], [(0, rc encP o1 0 55 2)], (by decide), rfl, (by kernel_rfl), ⟨⟨_, _, rfl, rfl, .inl ⟨rfl, rowC_scal encP_ok _⟩⟩, trivial⟩, (by kernel_rfl), (by kernel_rfl), rfl⟩

/-! (vitola/vitolalaw12.Day).made -/
noncomputable def f36_C36 : Code := Proofs.Tryd.f36.body.getD .skip

def f36 (m : Nat) (a_Sorters : Int) (a_Tables : Int) (b : Int) : Option (Int × (List (Int × Int))) :=
 cond (b != 0) (
  (f33 m (w64 (1 + (Int.tmod (w64 a_Sorters) b))) a_Tables).bind fun r1 =>
   some (r1.1, r1.2)
 ) none

theorem f36_ok (m : Nat) (a_Sorters : Int) (a_Tables : Int) (b : Int) (o : Int × (List (Int × Int))) (h : f36 m a_Sorters a_Tables b = some o) : KC E0 36 [.agg #[.int .u8 a_Sorters, .int .u32 a_Tables], ii b] [] 0 (fun v h' c' => v = .agg #[ii o.1, s0 0 o.2.length] ∧ h' = [(0, rc encP o.2 0 55 2)] ∧ c' = 1) := by
 refine KC.renO ?_
 refine KC.bodyN E0_ok (F := Proofs.Tryd.f36) (by kernel_rfl) (code := f36_C36) (by kernel_rfl) (nt := 14) (by kernel_rfl) (rs := [.cell 4 34]) (by kernel_rfl) (by kernel_rfl) (σ := [(0, .agg #[.int .u8 a_Sorters, .int .u32 a_Tables]), (1, ii b)]) (by kernel_rfl) ?_
 unfold f36 at h
 refine XQ.seq E0_ok (by kernel_rfl) ?_
 refine XQ.region (by kernel_rfl) ?_
 refine XR.runT E0_ok 1 2 [(1, ii b), (2, pp 0 0), (4, pp 1 0)] [(1, .cells [ii 0, .slice none 0 0] 0 34 0), (0, .cells [.int .u8 a_Sorters, .int .u32 a_Tables] 0 53 0)] 2 rfl (by kernel_rfl) ?_
 refine XR.done (by kernel_rfl) ?_
 show XQ _ _ _ _ _ _ _ _
 refine XQ.ghost 55 2 rfl (σ' := [(1, ii b), (2, pp 0 0), (4, pp 1 0)]) (h' := [(1, .cells [ii 0, s0 2 0] 0 34 0), (0, .cells [.int .u8 a_Sorters, .int .u32 a_Tables] 0 53 0)]) ⟨by kernel_rfl, by kernel_rfl, by kernel_rfl, trivial⟩ ⟨⟨_, rfl, .inr ⟨_, _, _, _, rfl, rfl⟩⟩, ⟨_, rfl, .inl rfl⟩, trivial⟩ ?_
 refine XQ.conv (σ' := [(1, ii b), (2, pp 0 0), (4, pp 1 0)]) (h' := [(2, rc encP [] 0 55 2), (1, .cells [ii 0, s0 2 0] 0 34 0), (0, .cells [.int .u8 a_Sorters, .int .u32 a_Tables] 0 53 0)]) (c' := 3) ?_ (by kernel_rfl)
 refine XQ.seq E0_ok (by kernel_rfl) ?_
 refine XQ.tail E0_ok 8 (by kernel_rfl) (by kernel_rfl) ?_
 refine XS.step E0_ok 4 rfl [2, 4, 7, 8] rfl (σ' := [(2, pp 0 0), (4, pp 1 0), (7, ii (w64 a_Sorters)), (8, ii b)]) (by kernel_rfl) ?_
 cases b1 : (b != 0 : Bool) with
 | false => cases (cF b1 h)
 | true =>
  have h := cT b1 h
  have e2 : insV (headI ((gsOf E0 14 (opsOf (lft (rgt f36_C36)))).drop 4) (trS 14 [(2, pp 0 0), (4, pp 1 0), (7, ii (w64 a_Sorters)), (8, ii b)])) (trS 14 [(2, pp 0 0), (4, pp 1 0), (7, ii (w64 a_Sorters)), (8, ii b)]) [(2, rc encP [] 0 55 2), (1, .cells [ii 0, s0 2 0] 0 34 0), (0, .cells [.int .u8 a_Sorters, .int .u32 a_Tables] 0 53 0)] = (match (b != 0 : Bool) with | true => some (ii (Int.tmod (w64 a_Sorters) b)) | false => none) := by kernel_rfl
  refine XS.rd E0_ok rfl [2, 4, 9] rfl (e2.trans (by rw [b1])) (σ' := [(2, pp 0 0), (4, pp 1 0), (9, ii (Int.tmod (w64 a_Sorters) b))]) (by kernel_rfl) ?_
  refine XS.step E0_ok 3 rfl [4, 10, 12] rfl (σ' := [(4, pp 1 0), (10, ii (w64 (1 + (Int.tmod (w64 a_Sorters) b)))), (12, .int .u32 a_Tables)]) (by kernel_rfl) ?_
  refine XS.done (by kernel_rfl) ?_
  obtain ⟨r1, r1_h, h⟩ := bS h
  refine XR.call E0_ok [4, 13] rfl (K := 33) (args := [ii (w64 (1 + (Int.tmod (w64 a_Sorters) b))), .int .u32 a_Tables]) (d := (some (path 12 13))) (by kernel_rfl) (KC.lift (V2 := .agg #[ii r1.1, s0 3 r1.2.length]) (H2 := [(3, rc encP r1.2 0 55 2)]) [1, 2, 3, 0] (f33_ok m (w64 (1 + (Int.tmod (w64 a_Sorters) b))) a_Tables r1 r1_h) rfl (by decide) (by decide) (by kernel_rfl) ⟨⟨_, _, rfl, rfl, .inl ⟨rfl, rowC_scal encP_ok _⟩⟩, trivial⟩ (by rfl)) ?_
  rintro _ _ _ ⟨rfl, rfl, rfl⟩
  refine XR.conv (σ' := [(4, pp 1 0), (13, .agg #[ii r1.1, s0 3 r1.2.length])]) (h' := [(3, rc encP r1.2 0 55 2), (2, rc encP [] 0 55 2), (1, .cells [ii 0, s0 2 0] 0 34 0), (0, .cells [.int .u8 a_Sorters, .int .u32 a_Tables] 0 53 0)]) (c' := 4) ?_ (by kernel_rfl)
  refine XR.runT E0_ok 1 1 [(4, pp 1 0)] [(3, rc encP r1.2 0 55 2), (2, rc encP [] 0 55 2), (1, .cells [ii r1.1, s0 3 r1.2.length] 0 34 0), (0, .cells [.int .u8 a_Sorters, .int .u32 a_Tables] 0 53 0)] 4 rfl (by kernel_rfl) ?_
  refine XR.done (by kernel_rfl) ?_
  show XQ _ _ _ _ _ _ _ _
  refine XQ.ren (σ' := [(4, pp 0 0)]) (h' := [(1, rc encP r1.2 0 55 2), (0, .cells [ii r1.1, s0 1 r1.2.length] 0 34 0)]) (c' := 2) [1, 3] (by decide) rfl ⟨by kernel_rfl, trivial⟩ ⟨⟨_, _, rfl, rfl, .inl ⟨rfl, rowC_scal encP_ok _⟩⟩, ⟨_, _, rfl, rfl, .inr ⟨_, _, _, _, rfl, rfl⟩⟩, trivial⟩ rfl ?_
  refine XQ.ret (by kernel_rfl) ?_
  have h := Option.some.inj h
  subst h
  exact ⟨fun i q => (by cases q), .agg #[ii r1.1, s0 1 r1.2.length], (by kernel_rfl), [1], .agg #[ii r1.1, s0 0 r1.2.length], [(0, rc encP r1.2 0 55 2)], (by decide), rfl, (by kernel_rfl), ⟨⟨_, _, rfl, rfl, .inl ⟨rfl, rowC_scal encP_ok _⟩⟩, trivial⟩, (by kernel_rfl), (by kernel_rfl), rfl⟩

/-! slices.Contains[[][2]int,[2]int] -/
noncomputable def f38_C38 : Code := Proofs.Tryd.f38.body.getD .skip
noncomputable def f38_C84 : Code := Proofs.Tryd.f84.body.getD .skip
noncomputable def f38_L1 : Code := lft (lft (rgt (lft (rgt f38_C84))))

inductive Of38_1 where
 | r (x4_r1 : Int)
 | x0

def f38_1 (m : Nat) : Nat → List (Int × Int) → Int → Int → Int → Int → Option Of38_1
 | 0, _, _, _, _, _ => none
 | fuel + 1, a, b_0, b_1, x7_1, x8_1 =>
  cond (decide (x8_1 < x7_1)) (
   cond (inRow x8_1 a.length) (
    cond (b_0 == ((List.getD a (Int.toNat x8_1) (0, 0)).1) && b_1 == ((List.getD a (Int.toNat x8_1) (0, 0)).2)) (
     some (.r x8_1)
    ) (
     f38_1 m fuel a b_0 b_1 x7_1 (w64 (x8_1 + 1))
    )
   ) none
  ) (
   some (.x0)
  )

theorem f38_1_ok (m : Nat) : ∀ (fuel : Nat) (z0 : Nat) (y0 : Nat) (a : List (Int × Int)) (b_0 : Int) (b_1 : Int) (x7_1 : Int) (x8_1 : Int) (o : Of38_1), f38_1 m fuel a b_0 b_1 x7_1 x8_1 = some o → ∀ Q : QP, (match o with | .r x4_r1 => Q .ret [(4, ii x4_r1)] [(1, .cells [ii b_0, ii b_1] 0 55 0), (0, rc encP a z0 y0 2)] 2 | .x0 => Q (.exit 0) [] [(1, .cells [ii b_0, ii b_1] 0 55 0), (0, rc encP a z0 y0 2)] 2) → XL E0 19 2 fuel f38_L1 [(0, s0 0 a.length), (3, pp 2 0), (7, ii x7_1), (8, ii x8_1)] [(2, .cells [ii b_0, ii b_1] 0 55 0), (1, .cells [ii b_0, ii b_1] 0 55 0), (0, rc encP a z0 y0 2)] 3 Q
 | 0, z0, y0, a, b_0, b_1, x7_1, x8_1, o, h, Q, hQ => by cases h
 | fuel + 1, z0, y0, a, b_0, b_1, x7_1, x8_1, o, h, Q, hQ => by
  unfold f38_1 at h
  refine XL.succ E0_ok ?_
  refine XQ.seq E0_ok (by kernel_rfl) ?_
  refine XQ.region (by kernel_rfl) ?_
  refine XR.runS E0_ok 1 1 [(0, s0 0 a.length), (3, pp 2 0), (7, ii x7_1), (8, ii x8_1), (9, .bool (decide (x8_1 < x7_1)))] rfl (by kernel_rfl) ?_
  refine XR.done (by kernel_rfl) ?_
  show XQ _ _ _ _ _ _ _ _
  refine XQ.seq E0_ok (by kernel_rfl) ?_
  cases b1 : (decide (x8_1 < x7_1) : Bool) with
  | true =>
   have h := cT b1 h
   refine XQ.cond (s := (.tmp 9)) (b := true) (by kernel_rfl) (by kernel_rfl) (fun _ => ?_) (fun q => by cases q)
   refine XQ.skip (by kernel_rfl) ?_
   show XQ _ _ _ _ _ _ _ _
   refine XQ.seq E0_ok (by kernel_rfl) ?_
   refine XQ.block (id := 1) (by kernel_rfl) ?_
   refine XQ.seq E0_ok (by kernel_rfl) ?_
   refine XQ.region (by kernel_rfl) ?_
   refine XR.runS E0_ok 1 2 [(0, s0 0 a.length), (3, pp 2 0), (5, ii x8_1), (7, ii x7_1), (8, ii x8_1)] rfl (by kernel_rfl) ?_
   refine XR.done (by kernel_rfl) ?_
   show XQ _ _ _ _ _ _ _ _
   refine XQ.seq E0_ok (by kernel_rfl) ?_
   refine XQ.quiet E0_ok (by kernel_rfl) (by kernel_rfl) ?_
   refine XU.run E0_ok 1 3 [0, 3, 5, 7, 8, 11, 12, 13] rfl (σ' := [(0, s0 0 a.length), (3, pp 2 0), (5, ii x8_1), (7, ii x7_1), (8, ii x8_1), (11, .agg #[ii b_0, ii b_1]), (12, s0 0 a.length), (13, ii x8_1)]) (by kernel_rfl) ?_
   cases b2 : (inRow x8_1 a.length : Bool) with
   | false => cases (cF b2 h)
   | true =>
    have h := cT b2 h
    refine XU.rd E0_ok [0, 3, 5, 7, 8, 11, 14] rfl (v := pp 0 ((Int.toNat x8_1) * 2)) (v_idx (s := 2) (x := (src 19 (.tmp 12))) (y := (src 19 (.tmp 13))) (b := 0) (o := 0) (len := a.length) (cap := a.length) (ik := .i64) (i := x8_1) (off := (Int.toNat x8_1) * 2) (d := (some (path 12 14))) (by kernel_rfl) (by kernel_rfl) (by kernel_rfl) b2 (by omega)) (σ' := [(0, s0 0 a.length), (3, pp 2 0), (5, ii x8_1), (7, ii x7_1), (8, ii x8_1), (11, .agg #[ii b_0, ii b_1]), (14, pp 0 ((Int.toNat x8_1) * 2))]) (by kernel_rfl) ?_
    refine XU.rd E0_ok [0, 3, 5, 7, 8, 11, 15] rfl (v := .agg #[ii ((List.getD a (Int.toNat x8_1) (0, 0)).1), ii ((List.getD a (Int.toNat x8_1) (0, 0)).2)]) (v_loadN encP_ok (x := (src 19 (.tmp 14))) (b := 0) (off := (Int.toNat x8_1) * 2) (xs := a) (fz := z0) (e := y0) (es := 2) (d := (some (path 12 15))) (by kernel_rfl) (by kernel_rfl) (by kernel_rfl) (Int.toNat x8_1) (0, 0) (by first | rfl | omega) (row_len (inRow_toNat b2) (by simp)) rfl) (σ' := [(0, s0 0 a.length), (3, pp 2 0), (5, ii x8_1), (7, ii x7_1), (8, ii x8_1), (11, .agg #[ii b_0, ii b_1]), (15, .agg #[ii ((List.getD a (Int.toNat x8_1) (0, 0)).1), ii ((List.getD a (Int.toNat x8_1) (0, 0)).2)])]) (by kernel_rfl) ?_
    refine XU.run E0_ok 1 1 [0, 3, 5, 7, 8, 16] rfl (σ' := [(0, s0 0 a.length), (3, pp 2 0), (5, ii x8_1), (7, ii x7_1), (8, ii x8_1), (16, .bool (b_0 == ((List.getD a (Int.toNat x8_1) (0, 0)).1) && b_1 == ((List.getD a (Int.toNat x8_1) (0, 0)).2)))]) (by kernel_rfl) ?_
    refine XU.done (by kernel_rfl) ?_
    show XQ _ _ _ _ _ _ _ _
    cases b3 : (b_0 == ((List.getD a (Int.toNat x8_1) (0, 0)).1) && b_1 == ((List.getD a (Int.toNat x8_1) (0, 0)).2) : Bool) with
    | true =>
     have h := cT b3 h
     refine XQ.cond (s := (.tmp 16)) (b := true) (by kernel_rfl) (by kernel_rfl) (fun _ => ?_) (fun q => by cases q)
     refine XQ.seq E0_ok (by kernel_rfl) ?_
     refine XQ.region (by kernel_rfl) ?_
     refine XR.runS E0_ok 1 2 [(4, ii x8_1)] rfl (by kernel_rfl) ?_
     refine XR.done (by kernel_rfl) ?_
     show XQ _ _ _ _ _ _ _ _
     refine XQ.ren (σ' := [(4, ii x8_1)]) (h' := [(1, .cells [ii b_0, ii b_1] 0 55 0), (0, rc encP a z0 y0 2)]) (c' := 2) [0, 1] (by decide) rfl ⟨by kernel_rfl, trivial⟩ ⟨⟨_, _, rfl, rfl, .inr ⟨_, _, _, _, rfl, rfl⟩⟩, ⟨_, _, rfl, rfl, .inl ⟨rfl, rowC_scal encP_ok _⟩⟩, trivial⟩ rfl ?_
     refine XQ.ret (by kernel_rfl) ?_
     cases h
     exact hQ
    | false =>
     have h := cF b3 h
     refine XQ.cond (s := (.tmp 16)) (b := false) (by kernel_rfl) (by kernel_rfl) (fun q => by cases q) (fun _ => ?_)
     refine XQ.skip (by kernel_rfl) ?_
     show XQ _ _ _ _ _ _ _ _
     refine XQ.region (by kernel_rfl) ?_
     refine XR.runS E0_ok 1 2 [(0, s0 0 a.length), (3, pp 2 0), (7, ii x7_1), (8, ii (w64 (x8_1 + 1)))] rfl (by kernel_rfl) ?_
     refine XR.done (by kernel_rfl) ?_
     show XL _ _ _ _ _ _ _ _ _
     refine XL.ren (σ' := [(0, s0 0 a.length), (3, pp 2 0), (7, ii x7_1), (8, ii (w64 (x8_1 + 1)))]) (h' := [(2, .cells [ii b_0, ii b_1] 0 55 0), (1, .cells [ii b_0, ii b_1] 0 55 0), (0, rc encP a z0 y0 2)]) (c' := 3) [0, 1, 2] (by decide) rfl ⟨by kernel_rfl, by kernel_rfl, by kernel_rfl, by kernel_rfl, trivial⟩ ⟨⟨_, _, rfl, rfl, .inr ⟨_, _, _, _, rfl, rfl⟩⟩, ⟨_, _, rfl, rfl, .inr ⟨_, _, _, _, rfl, rfl⟩⟩, ⟨_, _, rfl, rfl, .inl ⟨rfl, rowC_scal encP_ok _⟩⟩, trivial⟩ rfl ?_
     refine XL.conv (f38_1_ok m fuel z0 y0 a b_0 b_1 x7_1 (w64 (x8_1 + 1)) o h Q hQ) (by first | rfl | simp)
  | false =>
   have h := cF b1 h
   refine XQ.cond (s := (.tmp 9)) (b := false) (by kernel_rfl) (by kernel_rfl) (fun q => by cases q) (fun _ => ?_)
   refine XQ.ren (σ' := []) (h' := [(1, .cells [ii b_0, ii b_1] 0 55 0), (0, rc encP a z0 y0 2)]) (c' := 2) [0, 1] (by decide) rfl trivial ⟨⟨_, _, rfl, rfl, .inr ⟨_, _, _, _, rfl, rfl⟩⟩, ⟨_, _, rfl, rfl, .inl ⟨rfl, rowC_scal encP_ok _⟩⟩, trivial⟩ rfl ?_
   refine XQ.exit (i := 0) (by kernel_rfl) ?_
   cases h
   exact hQ

def f38 (m : Nat) (a : List (Int × Int)) (b_0 : Int) (b_1 : Int) : Option (Bool) :=
 (f38_1 m m a b_0 b_1 ((a.length : Nat) : Int) 0).bind fun o1 =>
  match o1 with
  | .r x4_r1 =>
   some (decide (x4_r1 ≥ 0))
  | .x0 =>
   some (false)

theorem f38_ok (m : Nat) (z0 : Nat) (y0 : Nat) (a : List (Int × Int)) (b_0 : Int) (b_1 : Int) (o : Bool) (h : f38 m a b_0 b_1 = some o) : KC E0 38 [s0 0 a.length, .agg #[ii b_0, ii b_1]] [(0, rc encP a z0 y0 2)] 1 (fun v _ _ => v = .bool o) := by
 refine KC.bodyN E0_ok (F := Proofs.Tryd.f38) (by kernel_rfl) (code := f38_C38) (by kernel_rfl) (nt := 9) (by kernel_rfl) (rs := [.tmp 4]) (by kernel_rfl) (by kernel_rfl) (σ := [(0, s0 0 a.length), (1, .agg #[ii b_0, ii b_1])]) (by kernel_rfl) ?_
 unfold f38 at h
 refine XQ.seq E0_ok (by kernel_rfl) ?_
 refine XQ.region (by kernel_rfl) ?_
 refine XR.runT E0_ok 1 2 [(0, s0 0 a.length), (3, pp 1 0)] [(1, .cells [ii b_0, ii b_1] 0 55 0), (0, rc encP a z0 y0 2)] 2 rfl (by kernel_rfl) ?_
 refine XR.done (by kernel_rfl) ?_
 show XQ _ _ _ _ _ _ _ _
 refine XQ.seq E0_ok (by kernel_rfl) ?_
 refine XQ.region (by kernel_rfl) ?_
 refine XR.runS E0_ok 1 2 [(5, s0 0 a.length), (6, .agg #[ii b_0, ii b_1])] rfl (by kernel_rfl) ?_
 refine XR.callK E0_ok [7] rfl (K := 84) (args := [s0 0 a.length, .agg #[ii b_0, ii b_1]]) (d := (some (path 12 7))) (by kernel_rfl) ?_
 refine KC.bodyN E0_ok (F := Proofs.Tryd.f84) (by kernel_rfl) (code := f38_C84) (by kernel_rfl) (nt := 19) (by kernel_rfl) (rs := [.tmp 4]) (by kernel_rfl) (by kernel_rfl) (σ := [(0, s0 0 a.length), (1, .agg #[ii b_0, ii b_1])]) (by kernel_rfl) ?_
 refine XQ.seq E0_ok (by kernel_rfl) ?_
 refine XQ.region (by kernel_rfl) ?_
 refine XR.runT E0_ok 1 2 [(0, s0 0 a.length), (3, pp 2 0)] [(2, .cells [ii b_0, ii b_1] 0 55 0), (1, .cells [ii b_0, ii b_1] 0 55 0), (0, rc encP a z0 y0 2)] 3 rfl (by kernel_rfl) ?_
 refine XR.done (by kernel_rfl) ?_
 show XQ _ _ _ _ _ _ _ _
 refine XQ.seq E0_ok (by kernel_rfl) ?_
 refine XQ.seq E0_ok (by kernel_rfl) ?_
 refine XQ.region (by kernel_rfl) ?_
 refine XR.runS E0_ok 1 3 [(0, s0 0 a.length), (3, pp 2 0), (7, ii ((a.length : Nat) : Int)), (8, ii 0)] rfl (by kernel_rfl) ?_
 refine XR.done (by kernel_rfl) ?_
 show XQ _ _ _ _ _ _ _ _
 refine XQ.block (id := 0) (by kernel_rfl) ?_
 refine XQ.loop m (by kernel_rfl) ?_
 obtain ⟨o1, o1_h, h⟩ := bS h
 refine XL.ren (σ' := [(0, s0 0 a.length), (3, pp 2 0), (7, ii ((a.length : Nat) : Int)), (8, ii 0)]) (h' := [(2, .cells [ii b_0, ii b_1] 0 55 0), (1, .cells [ii b_0, ii b_1] 0 55 0), (0, rc encP a z0 y0 2)]) (c' := 3) [0, 1, 2] (by decide) rfl ⟨by kernel_rfl, by kernel_rfl, by kernel_rfl, by kernel_rfl, trivial⟩ ⟨⟨_, _, rfl, rfl, .inr ⟨_, _, _, _, rfl, rfl⟩⟩, ⟨_, _, rfl, rfl, .inr ⟨_, _, _, _, rfl, rfl⟩⟩, ⟨_, _, rfl, rfl, .inl ⟨rfl, rowC_scal encP_ok _⟩⟩, trivial⟩ rfl ?_
 cases o1 with
 | r x4_r1 =>
  dsimp only at h
  refine XL.conv (f38_1_ok m m z0 y0 a b_0 b_1 ((a.length : Nat) : Int) 0 (.r x4_r1) o1_h _ ?_) (by first | rfl | simp)
  refine ⟨fun i q => (by cases q), ii x4_r1, (by kernel_rfl), ?_⟩
  refine XR.conv (σ' := [(7, ii x4_r1)]) (h' := [(1, .cells [ii b_0, ii b_1] 0 55 0), (0, rc encP a z0 y0 2)]) (c' := 2) ?_ (by kernel_rfl)
  refine XR.runS E0_ok 1 2 [(4, .bool (decide (x4_r1 ≥ 0)))] rfl (by kernel_rfl) ?_
  refine XR.done (by kernel_rfl) ?_
  show XQ _ _ _ _ _ _ _ _
  refine XQ.ret (by kernel_rfl) ?_
  have h := Option.some.inj h
  subst h
  exact ⟨fun i q => (by cases q), .bool (decide (x4_r1 ≥ 0)), (by kernel_rfl), rfl⟩
 | x0 =>
  dsimp only at h
  refine XL.conv (f38_1_ok m m z0 y0 a b_0 b_1 ((a.length : Nat) : Int) 0 (.x0) o1_h _ ?_) (by first | rfl | simp)
  show XQ _ _ _ _ _ _ _ _
  refine XQ.seq E0_ok (by kernel_rfl) ?_
  refine XQ.region (by kernel_rfl) ?_
  refine XR.runS E0_ok 1 1 [(4, ii (-1))] rfl (by kernel_rfl) ?_
  refine XR.done (by kernel_rfl) ?_
  show XQ _ _ _ _ _ _ _ _
  refine XQ.ret (by kernel_rfl) ?_
  refine ⟨fun i q => (by cases q), ii (-1), (by kernel_rfl), ?_⟩
  refine XR.conv (σ' := [(7, ii (-1))]) (h' := [(1, .cells [ii b_0, ii b_1] 0 55 0), (0, rc encP a z0 y0 2)]) (c' := 2) ?_ (by kernel_rfl)
  refine XR.runS E0_ok 1 2 [(4, .bool false)] rfl (by kernel_rfl) ?_
  refine XR.done (by kernel_rfl) ?_
  show XQ _ _ _ _ _ _ _ _
  refine XQ.ret (by kernel_rfl) ?_
  have h := Option.some.inj h
  subst h
  exact ⟨fun i q => (by cases q), .bool false, (by kernel_rfl), rfl⟩

/-! slices.Index[[][2]int,[2]int] -/
inductive Of84_1 where
 | r (x4_r1 : Int)
 | x0

def f84_1 (m : Nat) : Nat → List (Int × Int) → Int → Int → Int → Int → Option Of84_1
 | 0, _, _, _, _, _ => none
 | fuel + 1, a, b_0, b_1, x7_1, x8_1 =>
  cond (decide (x8_1 < x7_1)) (
   cond (inRow x8_1 a.length) (
    cond (b_0 == ((List.getD a (Int.toNat x8_1) (0, 0)).1) && b_1 == ((List.getD a (Int.toNat x8_1) (0, 0)).2)) (
     some (.r x8_1)
    ) (
     f84_1 m fuel a b_0 b_1 x7_1 (w64 (x8_1 + 1))
    )
   ) none
  ) (
   some (.x0)
  )

def f84 (m : Nat) (a : List (Int × Int)) (b_0 : Int) (b_1 : Int) : Option (Int) :=
 (f84_1 m m a b_0 b_1 ((a.length : Nat) : Int) 0).bind fun o1 =>
  match o1 with
  | .r x4_r1 =>
   some (x4_r1)
  | .x0 =>
   some ((-1))

/-! vitola/vitolalaw12.tables -/
noncomputable def f39_C39 : Code := Proofs.Tryd.f39.body.getD .skip
noncomputable def f39_L1 : Code := lft (lft (rgt (lft (rgt (rgt f39_C39)))))

inductive Of39_1 where
 | r
 | x0

def f39_1 (m : Nat) : Nat → List (Int × Int) → List (Int × Int) → Int → Option Of39_1
 | 0, _, _, _ => none
 | fuel + 1, a, b, x5_1 =>
  cond (decide (x5_1 < ((a.length : Nat) : Int))) (
   cond (inRow x5_1 a.length) (
    cond (inRow x5_1 b.length) (
     cond (!(((List.getD a (Int.toNat x5_1) (0, 0)).1) == ((List.getD b (Int.toNat x5_1) (0, 0)).1) && ((List.getD a (Int.toNat x5_1) (0, 0)).2) == ((List.getD b (Int.toNat x5_1) (0, 0)).2))) (
      some (.r)
     ) (
      f39_1 m fuel a b (w64 (x5_1 + 1))
     )
    ) none
   ) none
  ) (
   some (.x0)
  )

theorem f39_1_ok (m : Nat) : ∀ (fuel : Nat) (z0 : Nat) (y0 : Nat) (a : List (Int × Int)) (z1 : Nat) (y1 : Nat) (b : List (Int × Int)) (x5_1 : Int) (o : Of39_1), f39_1 m fuel a b x5_1 = some o → ∀ Q : QP, (match o with | .r => Q .ret [(4, .bool false)] [(1, rc encP b z1 y1 2), (0, rc encP a z0 y0 2)] 2 | .x0 => Q (.exit 0) [] [(1, rc encP b z1 y1 2), (0, rc encP a z0 y0 2)] 2) → XL E0 26 2 fuel f39_L1 [(0, s0 0 a.length), (1, s0 1 b.length), (5, ii x5_1)] [(1, rc encP b z1 y1 2), (0, rc encP a z0 y0 2)] 2 Q
 | 0, z0, y0, a, z1, y1, b, x5_1, o, h, Q, hQ => by cases h
 | fuel + 1, z0, y0, a, z1, y1, b, x5_1, o, h, Q, hQ => by
  unfold f39_1 at h
  refine XL.succ E0_ok ?_
  refine XQ.seq E0_ok (by kernel_rfl) ?_
  refine XQ.seq E0_ok (by kernel_rfl) ?_
  refine XQ.region (by kernel_rfl) ?_
  refine XR.runS E0_ok 1 4 [(0, s0 0 a.length), (1, s0 1 b.length), (5, ii x5_1), (14, .bool (decide (x5_1 < ((a.length : Nat) : Int))))] rfl (by kernel_rfl) ?_
  refine XR.done (by kernel_rfl) ?_
  show XQ _ _ _ _ _ _ _ _
  cases b1 : (decide (x5_1 < ((a.length : Nat) : Int)) : Bool) with
  | true =>
   have h := cT b1 h
   refine XQ.cond (s := (.tmp 14)) (b := true) (by kernel_rfl) (by kernel_rfl) (fun _ => ?_) (fun q => by cases q)
   refine XQ.skip (by kernel_rfl) ?_
   show XQ _ _ _ _ _ _ _ _
   refine XQ.seq E0_ok (by kernel_rfl) ?_
   refine XQ.block (id := 1) (by kernel_rfl) ?_
   refine XQ.seq E0_ok (by kernel_rfl) ?_
   refine XQ.quiet E0_ok (by kernel_rfl) (by kernel_rfl) ?_
   refine XU.run E0_ok 1 2 [0, 1, 5, 17, 18] rfl (σ' := [(0, s0 0 a.length), (1, s0 1 b.length), (5, ii x5_1), (17, s0 0 a.length), (18, ii x5_1)]) (by kernel_rfl) ?_
   cases b2 : (inRow x5_1 a.length : Bool) with
   | false => cases (cF b2 h)
   | true =>
    have h := cT b2 h
    refine XU.rd E0_ok [0, 1, 5, 19] rfl (v := pp 0 ((Int.toNat x5_1) * 2)) (v_idx (s := 2) (x := (src 26 (.tmp 17))) (y := (src 26 (.tmp 18))) (b := 0) (o := 0) (len := a.length) (cap := a.length) (ik := .i64) (i := x5_1) (off := (Int.toNat x5_1) * 2) (d := (some (path 12 19))) (by kernel_rfl) (by kernel_rfl) (by kernel_rfl) b2 (by omega)) (σ' := [(0, s0 0 a.length), (1, s0 1 b.length), (5, ii x5_1), (19, pp 0 ((Int.toNat x5_1) * 2))]) (by kernel_rfl) ?_
    refine XU.rd E0_ok [0, 1, 5, 20] rfl (v := .agg #[ii ((List.getD a (Int.toNat x5_1) (0, 0)).1), ii ((List.getD a (Int.toNat x5_1) (0, 0)).2)]) (v_loadN encP_ok (x := (src 26 (.tmp 19))) (b := 0) (off := (Int.toNat x5_1) * 2) (xs := a) (fz := z0) (e := y0) (es := 2) (d := (some (path 12 20))) (by kernel_rfl) (by kernel_rfl) (by kernel_rfl) (Int.toNat x5_1) (0, 0) (by first | rfl | omega) (row_len (inRow_toNat b2) (by simp)) rfl) (σ' := [(0, s0 0 a.length), (1, s0 1 b.length), (5, ii x5_1), (20, .agg #[ii ((List.getD a (Int.toNat x5_1) (0, 0)).1), ii ((List.getD a (Int.toNat x5_1) (0, 0)).2)])]) (by kernel_rfl) ?_
    refine XU.run E0_ok 1 2 [0, 1, 5, 20, 21, 22] rfl (σ' := [(0, s0 0 a.length), (1, s0 1 b.length), (5, ii x5_1), (20, .agg #[ii ((List.getD a (Int.toNat x5_1) (0, 0)).1), ii ((List.getD a (Int.toNat x5_1) (0, 0)).2)]), (21, s0 1 b.length), (22, ii x5_1)]) (by kernel_rfl) ?_
    cases b3 : (inRow x5_1 b.length : Bool) with
    | false => cases (cF b3 h)
    | true =>
     have h := cT b3 h
     refine XU.rd E0_ok [0, 1, 5, 20, 23] rfl (v := pp 1 ((Int.toNat x5_1) * 2)) (v_idx (s := 2) (x := (src 26 (.tmp 21))) (y := (src 26 (.tmp 22))) (b := 1) (o := 0) (len := b.length) (cap := b.length) (ik := .i64) (i := x5_1) (off := (Int.toNat x5_1) * 2) (d := (some (path 12 23))) (by kernel_rfl) (by kernel_rfl) (by kernel_rfl) b3 (by omega)) (σ' := [(0, s0 0 a.length), (1, s0 1 b.length), (5, ii x5_1), (20, .agg #[ii ((List.getD a (Int.toNat x5_1) (0, 0)).1), ii ((List.getD a (Int.toNat x5_1) (0, 0)).2)]), (23, pp 1 ((Int.toNat x5_1) * 2))]) (by kernel_rfl) ?_
     refine XU.rd E0_ok [0, 1, 5, 20, 24] rfl (v := .agg #[ii ((List.getD b (Int.toNat x5_1) (0, 0)).1), ii ((List.getD b (Int.toNat x5_1) (0, 0)).2)]) (v_loadN encP_ok (x := (src 26 (.tmp 23))) (b := 1) (off := (Int.toNat x5_1) * 2) (xs := b) (fz := z1) (e := y1) (es := 2) (d := (some (path 12 24))) (by kernel_rfl) (by kernel_rfl) (by kernel_rfl) (Int.toNat x5_1) (0, 0) (by first | rfl | omega) (row_len (inRow_toNat b3) (by simp)) rfl) (σ' := [(0, s0 0 a.length), (1, s0 1 b.length), (5, ii x5_1), (20, .agg #[ii ((List.getD a (Int.toNat x5_1) (0, 0)).1), ii ((List.getD a (Int.toNat x5_1) (0, 0)).2)]), (24, .agg #[ii ((List.getD b (Int.toNat x5_1) (0, 0)).1), ii ((List.getD b (Int.toNat x5_1) (0, 0)).2)])]) (by kernel_rfl) ?_
     refine XU.run E0_ok 1 1 [0, 1, 5, 25] rfl (σ' := [(0, s0 0 a.length), (1, s0 1 b.length), (5, ii x5_1), (25, .bool (!(((List.getD a (Int.toNat x5_1) (0, 0)).1) == ((List.getD b (Int.toNat x5_1) (0, 0)).1) && ((List.getD a (Int.toNat x5_1) (0, 0)).2) == ((List.getD b (Int.toNat x5_1) (0, 0)).2))))]) (by kernel_rfl) ?_
     refine XU.done (by kernel_rfl) ?_
     show XQ _ _ _ _ _ _ _ _
     cases b4 : (!(((List.getD a (Int.toNat x5_1) (0, 0)).1) == ((List.getD b (Int.toNat x5_1) (0, 0)).1) && ((List.getD a (Int.toNat x5_1) (0, 0)).2) == ((List.getD b (Int.toNat x5_1) (0, 0)).2)) : Bool) with
     | true =>
      have h := cT b4 h
      refine XQ.cond (s := (.tmp 25)) (b := true) (by kernel_rfl) (by kernel_rfl) (fun _ => ?_) (fun q => by cases q)
      refine XQ.seq E0_ok (by kernel_rfl) ?_
      refine XQ.region (by kernel_rfl) ?_
      refine XR.runS E0_ok 1 1 [(4, .bool false)] rfl (by kernel_rfl) ?_
      refine XR.done (by kernel_rfl) ?_
      show XQ _ _ _ _ _ _ _ _
      refine XQ.ren (σ' := [(4, .bool false)]) (h' := [(1, rc encP b z1 y1 2), (0, rc encP a z0 y0 2)]) (c' := 2) [0, 1] (by decide) rfl ⟨by kernel_rfl, trivial⟩ ⟨⟨_, _, rfl, rfl, .inl ⟨rfl, rowC_scal encP_ok _⟩⟩, ⟨_, _, rfl, rfl, .inl ⟨rfl, rowC_scal encP_ok _⟩⟩, trivial⟩ rfl ?_
      refine XQ.ret (by kernel_rfl) ?_
      cases h
      exact hQ
     | false =>
      have h := cF b4 h
      refine XQ.cond (s := (.tmp 25)) (b := false) (by kernel_rfl) (by kernel_rfl) (fun q => by cases q) (fun _ => ?_)
      refine XQ.skip (by kernel_rfl) ?_
      show XQ _ _ _ _ _ _ _ _
      refine XQ.region (by kernel_rfl) ?_
      refine XR.runS E0_ok 1 3 [(0, s0 0 a.length), (1, s0 1 b.length), (5, ii (w64 (x5_1 + 1)))] rfl (by kernel_rfl) ?_
      refine XR.done (by kernel_rfl) ?_
      show XL _ _ _ _ _ _ _ _ _
      refine XL.ren (σ' := [(0, s0 0 a.length), (1, s0 1 b.length), (5, ii (w64 (x5_1 + 1)))]) (h' := [(1, rc encP b z1 y1 2), (0, rc encP a z0 y0 2)]) (c' := 2) [0, 1] (by decide) rfl ⟨by kernel_rfl, by kernel_rfl, by kernel_rfl, trivial⟩ ⟨⟨_, _, rfl, rfl, .inl ⟨rfl, rowC_scal encP_ok _⟩⟩, ⟨_, _, rfl, rfl, .inl ⟨rfl, rowC_scal encP_ok _⟩⟩, trivial⟩ rfl ?_
      refine XL.conv (f39_1_ok m fuel z0 y0 a z1 y1 b (w64 (x5_1 + 1)) o h Q hQ) (by first | rfl | simp)
  | false =>
   have h := cF b1 h
   refine XQ.cond (s := (.tmp 14)) (b := false) (by kernel_rfl) (by kernel_rfl) (fun q => by cases q) (fun _ => ?_)
   refine XQ.ren (σ' := []) (h' := [(1, rc encP b z1 y1 2), (0, rc encP a z0 y0 2)]) (c' := 2) [0, 1] (by decide) rfl trivial ⟨⟨_, _, rfl, rfl, .inl ⟨rfl, rowC_scal encP_ok _⟩⟩, ⟨_, _, rfl, rfl, .inl ⟨rfl, rowC_scal encP_ok _⟩⟩, trivial⟩ rfl ?_
   refine XQ.exit (i := 0) (by kernel_rfl) ?_
   cases h
   exact hQ

def f39 (m : Nat) (a : List (Int × Int)) (b : List (Int × Int)) : Option (Bool) :=
 cond (((a.length : Nat) : Int) != ((b.length : Nat) : Int)) (
  some (false)
 ) (
  (f39_1 m m a b 0).bind fun o1 =>
   match o1 with
   | .r =>
    some (false)
   | .x0 =>
    some (true)
 )

theorem f39_ok (m : Nat) (z0 : Nat) (y0 : Nat) (z1 : Nat) (y1 : Nat) (a : List (Int × Int)) (b : List (Int × Int)) (o : Bool) (h : f39 m a b = some o) : KC E0 39 [s0 0 a.length, s0 1 b.length] [(1, rc encP b z1 y1 2), (0, rc encP a z0 y0 2)] 2 (fun v _ _ => v = .bool o) := by
 refine KC.bodyN E0_ok (F := Proofs.Tryd.f39) (by kernel_rfl) (code := f39_C39) (by kernel_rfl) (nt := 26) (by kernel_rfl) (rs := [.tmp 4]) (by kernel_rfl) (by kernel_rfl) (σ := [(0, s0 0 a.length), (1, s0 1 b.length)]) (by kernel_rfl) ?_
 unfold f39 at h
 refine XQ.seq E0_ok (by kernel_rfl) ?_
 refine XQ.region (by kernel_rfl) ?_
 refine XR.runS E0_ok 1 1 [(0, s0 0 a.length), (1, s0 1 b.length)] rfl (by kernel_rfl) ?_
 refine XR.done (by kernel_rfl) ?_
 show XQ _ _ _ _ _ _ _ _
 refine XQ.seq E0_ok (by kernel_rfl) ?_
 refine XQ.seq E0_ok (by kernel_rfl) ?_
 refine XQ.region (by kernel_rfl) ?_
 refine XR.runS E0_ok 1 5 [(0, s0 0 a.length), (1, s0 1 b.length), (10, .bool (((a.length : Nat) : Int) != ((b.length : Nat) : Int)))] rfl (by kernel_rfl) ?_
 refine XR.done (by kernel_rfl) ?_
 show XQ _ _ _ _ _ _ _ _
 cases b1 : (((a.length : Nat) : Int) != ((b.length : Nat) : Int) : Bool) with
 | true =>
  have h := cT b1 h
  refine XQ.cond (s := (.tmp 10)) (b := true) (by kernel_rfl) (by kernel_rfl) (fun _ => ?_) (fun q => by cases q)
  refine XQ.seq E0_ok (by kernel_rfl) ?_
  refine XQ.region (by kernel_rfl) ?_
  refine XR.runS E0_ok 1 1 [(4, .bool false)] rfl (by kernel_rfl) ?_
  refine XR.done (by kernel_rfl) ?_
  show XQ _ _ _ _ _ _ _ _
  refine XQ.ret (by kernel_rfl) ?_
  have h := Option.some.inj h
  subst h
  exact ⟨fun i q => (by cases q), .bool false, (by kernel_rfl), rfl⟩
 | false =>
  have h := cF b1 h
  refine XQ.cond (s := (.tmp 10)) (b := false) (by kernel_rfl) (by kernel_rfl) (fun q => by cases q) (fun _ => ?_)
  refine XQ.skip (by kernel_rfl) ?_
  show XQ _ _ _ _ _ _ _ _
  refine XQ.seq E0_ok (by kernel_rfl) ?_
  refine XQ.seq E0_ok (by kernel_rfl) ?_
  refine XQ.region (by kernel_rfl) ?_
  refine XR.runS E0_ok 1 1 [(0, s0 0 a.length), (1, s0 1 b.length), (5, ii 0)] rfl (by kernel_rfl) ?_
  refine XR.done (by kernel_rfl) ?_
  show XQ _ _ _ _ _ _ _ _
  refine XQ.block (id := 0) (by kernel_rfl) ?_
  refine XQ.loop m (by kernel_rfl) ?_
  obtain ⟨o1, o1_h, h⟩ := bS h
  refine XL.ren (σ' := [(0, s0 0 a.length), (1, s0 1 b.length), (5, ii 0)]) (h' := [(1, rc encP b z1 y1 2), (0, rc encP a z0 y0 2)]) (c' := 2) [0, 1] (by decide) rfl ⟨by kernel_rfl, by kernel_rfl, by kernel_rfl, trivial⟩ ⟨⟨_, _, rfl, rfl, .inl ⟨rfl, rowC_scal encP_ok _⟩⟩, ⟨_, _, rfl, rfl, .inl ⟨rfl, rowC_scal encP_ok _⟩⟩, trivial⟩ rfl ?_
  cases o1 with
  | r =>
   dsimp only at h
   refine XL.conv (f39_1_ok m m z0 y0 a z1 y1 b 0 (.r) o1_h _ ?_) (by first | rfl | simp)
   have h := Option.some.inj h
   subst h
   exact ⟨fun i q => (by cases q), .bool false, (by kernel_rfl), rfl⟩
  | x0 =>
   dsimp only at h
   refine XL.conv (f39_1_ok m m z0 y0 a z1 y1 b 0 (.x0) o1_h _ ?_) (by first | rfl | simp)
   show XQ _ _ _ _ _ _ _ _
   refine XQ.seq E0_ok (by kernel_rfl) ?_
   refine XQ.region (by kernel_rfl) ?_
   refine XR.runS E0_ok 1 1 [(4, .bool true)] rfl (by kernel_rfl) ?_
   refine XR.done (by kernel_rfl) ?_
   show XQ _ _ _ _ _ _ _ _
   refine XQ.ret (by kernel_rfl) ?_
   have h := Option.some.inj h
   subst h
   exact ⟨fun i q => (by cases q), .bool true, (by kernel_rfl), rfl⟩

end Go.Xm
