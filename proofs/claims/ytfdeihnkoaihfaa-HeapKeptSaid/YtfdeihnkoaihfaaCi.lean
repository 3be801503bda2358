/- What these functions of the program compute, as functions in Lean, and the proofs that they do: vitolalaw02.HeapKept. Conditions: none. -/
import Derived.Test.YtfdeihnkoaihfaaBp
import Derived.Test.YtfdeihnkoaihfaaBb
import Derived.Test.YtfdeihnkoaihfaaCd
namespace Go.Xm
open Go.RowKit
set_option linter.unusedVariables false
set_option linter.unusedSimpArgs false
set_option maxRecDepth 20000

/-! vitola/vitolalaw02.HeapKept -/
noncomputable def f13_C13 : Code := Proofs.Try.f13.body.getD .skip
noncomputable def f13_C54 : Code := Proofs.Try.f54.body.getD .skip
noncomputable def f13_C86 : Code := Proofs.Try.f86.body.getD .skip
noncomputable def f13_C96 : Code := Proofs.Try.f96.body.getD .skip
noncomputable def f13_L1 : Code := lft (lft (rgt (lft (rgt (rgt (rgt (rgt (rgt f13_C13))))))))
noncomputable def f13_L2 : Code := lft (lft (rgt (lft (rgt (rgt (lft (lft (rgt (rgt f13_L1)))))))))
noncomputable def f13_L3 : Code := lft (lft (rgt (lft (rgt (rgt (rgt (rgt (rgt (rgt (rgt (rgt f13_C13)))))))))))
noncomputable def f13_L4 : Code := lft (lft (rgt (lft (rgt (rgt (rgt (rgt (lft (lft (rgt (rgt f13_L3)))))))))))
noncomputable def f13_L5 : Code := lft (lft (rgt (lft (rgt f13_C54))))
noncomputable def f13_L6 : Code := lft (lft (rgt (lft (rgt f13_C54))))

def f13_2 (m : Nat) : Nat → Int → Int → Int → Int → List (Int × Int) → List Bool → Int → Int → List (Int × Int) → Option (List (Int × Int))
  | 0, _, _, _, _, _, _, _, _, _ => none
  | fuel + 1, x8_1, x10_1, x39_1, x40_1, lh0_1, lh1_1, x44_2, x45_2, lh2_2 =>
    cond (decide (x45_2 < x44_2)) (
      cond (inRow x45_2 lh0_1.length) (
        cond (decide (0 ≤ x45_2)) (
          cond ((andV .i64 (shV false .i64 x40_1 x45_2) 1) == 1) (
            cond (fitsB (lh2_2.length + 1) 16) (
              f13_2 m fuel x8_1 x10_1 x39_1 x40_1 lh0_1 lh1_1 x44_2 (w64 (x45_2 + 1)) (lh2_2 ++ [((List.getD lh0_1 (Int.toNat x45_2) (0, 0)).1, (List.getD lh0_1 (Int.toNat x45_2) (0, 0)).2)])
            ) none
          ) (
            f13_2 m fuel x8_1 x10_1 x39_1 x40_1 lh0_1 lh1_1 x44_2 (w64 (x45_2 + 1)) lh2_2
          )
        ) none
      ) none
    ) (
      some (lh2_2)
    )

theorem f13_2_ok (m : Nat) : ∀ (fuel : Nat) (x8_1 : Int) (x10_1 : Int) (x39_1 : Int) (x40_1 : Int) (lh0_1 : List (Int × Int)) (lh1_1 : List Bool) (x44_2 : Int) (x45_2 : Int) (lh2_2 : List (Int × Int)) (o : (List (Int × Int))), f13_2 m fuel x8_1 x10_1 x39_1 x40_1 lh0_1 lh1_1 x44_2 x45_2 lh2_2 = some o → ∀ Q : QP, Q (.exit 2) [(7, s0 0 lh0_1.length), (8, ii x8_1), (9, s0 1 lh1_1.length), (10, ii x10_1), (11, ii x40_1), (12, s0 2 o.length), (39, ii x39_1), (40, ii x40_1)] [(2, rc encP o 0 61 2), (1, rc encB lh1_1 0 4 1), (0, rc encP lh0_1 0 61 2)] 3 → XL E0 145 0 fuel f13_L2 [(7, s0 0 lh0_1.length), (8, ii x8_1), (9, s0 1 lh1_1.length), (10, ii x10_1), (11, ii x40_1), (12, s0 2 lh2_2.length), (39, ii x39_1), (40, ii x40_1), (43, s0 0 lh0_1.length), (44, ii x44_2), (45, ii x45_2)] [(2, rc encP lh2_2 0 61 2), (1, rc encB lh1_1 0 4 1), (0, rc encP lh0_1 0 61 2)] 3 Q
  | 0, x8_1, x10_1, x39_1, x40_1, lh0_1, lh1_1, x44_2, x45_2, lh2_2, o, h, Q, hQ => by cases h
  | fuel + 1, x8_1, x10_1, x39_1, x40_1, lh0_1, lh1_1, x44_2, x45_2, lh2_2, o, h, Q, hQ => by
    unfold f13_2 at h
    refine XL.succ E0_ok ?_
    refine XQ.seq E0_ok (by kernel_rfl) ?_
    refine XQ.region (by kernel_rfl) ?_
    refine XR.runS E0_ok 1 1 [(7, s0 0 lh0_1.length), (8, ii x8_1), (9, s0 1 lh1_1.length), (10, ii x10_1), (11, ii x40_1), (12, s0 2 lh2_2.length), (39, ii x39_1), (40, ii x40_1), (43, s0 0 lh0_1.length), (44, ii x44_2), (45, ii x45_2), (46, .bool (decide (x45_2 < x44_2)))] rfl (by kernel_rfl) ?_
    refine XR.done (by kernel_rfl) ?_
    show XQ _ _ _ _ _ _ _ _
    refine XQ.seq E0_ok (by kernel_rfl) ?_
    cases b1 : (decide (x45_2 < x44_2) : Bool) with
    | true =>
      have h := cT b1 h
      refine XQ.cond (s := (.tmp 46)) (b := true) (by kernel_rfl) (by kernel_rfl) (fun _ => ?_) (fun q => by cases q)
      refine XQ.skip (by kernel_rfl) ?_
      show XQ _ _ _ _ _ _ _ _
      refine XQ.seq E0_ok (by kernel_rfl) ?_
      refine XQ.block (id := 3) (by kernel_rfl) ?_
      refine XQ.seq E0_ok (by kernel_rfl) ?_
      refine XQ.region (by kernel_rfl) ?_
      refine XR.runS E0_ok 1 1 [(7, s0 0 lh0_1.length), (8, ii x8_1), (9, s0 1 lh1_1.length), (10, ii x10_1), (11, ii x40_1), (12, s0 2 lh2_2.length), (39, ii x39_1), (40, ii x40_1), (43, s0 0 lh0_1.length), (44, ii x44_2), (45, ii x45_2), (47, ii x45_2)] rfl (by kernel_rfl) ?_
      cases b2 : (inRow x45_2 lh0_1.length : Bool) with
      | false => cases (cF b2 h)
      | true =>
        have h := cT b2 h
        refine XR.rd E0_ok [7, 8, 9, 10, 11, 12, 39, 40, 43, 44, 45, 47, 48] rfl (v := pp 0 ((Int.toNat x45_2) * 2)) (v_idx (s := 2) (x := (src 145 (.tmp 43))) (y := (src 145 (.tmp 45))) (b := 0) (o := 0) (len := lh0_1.length) (cap := lh0_1.length) (ik := .i64) (i := x45_2) (off := (Int.toNat x45_2) * 2) (d := (some (path 12 48))) (by kernel_rfl) (by kernel_rfl) (by kernel_rfl) b2 (by omega)) (σ' := [(7, s0 0 lh0_1.length), (8, ii x8_1), (9, s0 1 lh1_1.length), (10, ii x10_1), (11, ii x40_1), (12, s0 2 lh2_2.length), (39, ii x39_1), (40, ii x40_1), (43, s0 0 lh0_1.length), (44, ii x44_2), (45, ii x45_2), (47, ii x45_2), (48, pp 0 ((Int.toNat x45_2) * 2))]) (by kernel_rfl) ?_
        refine XR.rd E0_ok [7, 8, 9, 10, 11, 12, 39, 40, 43, 44, 45, 47, 49] rfl (v := .agg #[ii ((List.getD lh0_1 (Int.toNat x45_2) (0, 0)).1), ii ((List.getD lh0_1 (Int.toNat x45_2) (0, 0)).2)]) (v_loadN encP_ok (x := (src 145 (.tmp 48))) (b := 0) (off := (Int.toNat x45_2) * 2) (xs := lh0_1) (fz := 0) (e := 61) (es := 2) (d := (some (path 12 49))) (by kernel_rfl) (by kernel_rfl) (by kernel_rfl) (Int.toNat x45_2) (0, 0) (by first | rfl | omega) (row_len (inRow_toNat b2) (by simp)) rfl) (σ' := [(7, s0 0 lh0_1.length), (8, ii x8_1), (9, s0 1 lh1_1.length), (10, ii x10_1), (11, ii x40_1), (12, s0 2 lh2_2.length), (39, ii x39_1), (40, ii x40_1), (43, s0 0 lh0_1.length), (44, ii x44_2), (45, ii x45_2), (47, ii x45_2), (49, .agg #[ii ((List.getD lh0_1 (Int.toNat x45_2) (0, 0)).1), ii ((List.getD lh0_1 (Int.toNat x45_2) (0, 0)).2)])]) (by kernel_rfl) ?_
        refine XR.runT E0_ok 1 3 [(7, s0 0 lh0_1.length), (8, ii x8_1), (9, s0 1 lh1_1.length), (10, ii x10_1), (11, ii x40_1), (12, s0 2 lh2_2.length), (13, ii x45_2), (14, pp 3 0), (39, ii x39_1), (40, ii x40_1), (43, s0 0 lh0_1.length), (44, ii x44_2), (45, ii x45_2)] [(3, .cells [ii ((List.getD lh0_1 (Int.toNat x45_2) (0, 0)).1), ii ((List.getD lh0_1 (Int.toNat x45_2) (0, 0)).2)] 0 61 0), (2, rc encP lh2_2 0 61 2), (1, rc encB lh1_1 0 4 1), (0, rc encP lh0_1 0 61 2)] 4 rfl (by kernel_rfl) ?_
        refine XR.done (by kernel_rfl) ?_
        show XQ _ _ _ _ _ _ _ _
        refine XQ.seq E0_ok (by kernel_rfl) ?_
        refine XQ.region (by kernel_rfl) ?_
        refine XR.runS E0_ok 1 2 [(7, s0 0 lh0_1.length), (8, ii x8_1), (9, s0 1 lh1_1.length), (10, ii x10_1), (11, ii x40_1), (12, s0 2 lh2_2.length), (14, pp 3 0), (39, ii x39_1), (40, ii x40_1), (43, s0 0 lh0_1.length), (44, ii x44_2), (45, ii x45_2), (50, ii x40_1), (51, ii x45_2)] rfl (by kernel_rfl) ?_
        cases b3 : (decide (0 ≤ x45_2) : Bool) with
        | false => cases (cF b3 h)
        | true =>
          have h := cT b3 h
          have e4 : insV (headI ((gsOf E0 145 (opsOf (lft (rgt (lft (lft (rgt (rgt f13_L2)))))))).drop 2) (trS 145 [(7, s0 0 lh0_1.length), (8, ii x8_1), (9, s0 1 lh1_1.length), (10, ii x10_1), (11, ii x40_1), (12, s0 2 lh2_2.length), (14, pp 3 0), (39, ii x39_1), (40, ii x40_1), (43, s0 0 lh0_1.length), (44, ii x44_2), (45, ii x45_2), (50, ii x40_1), (51, ii x45_2)])) (trS 145 [(7, s0 0 lh0_1.length), (8, ii x8_1), (9, s0 1 lh1_1.length), (10, ii x10_1), (11, ii x40_1), (12, s0 2 lh2_2.length), (14, pp 3 0), (39, ii x39_1), (40, ii x40_1), (43, s0 0 lh0_1.length), (44, ii x44_2), (45, ii x45_2), (50, ii x40_1), (51, ii x45_2)]) [(3, .cells [ii ((List.getD lh0_1 (Int.toNat x45_2) (0, 0)).1), ii ((List.getD lh0_1 (Int.toNat x45_2) (0, 0)).2)] 0 61 0), (2, rc encP lh2_2 0 61 2), (1, rc encB lh1_1 0 4 1), (0, rc encP lh0_1 0 61 2)] = (match (decide (0 ≤ x45_2) : Bool) with | true => some (ii (shV false .i64 x40_1 x45_2)) | false => none) := by kernel_rfl
          refine XR.rd E0_ok [7, 8, 9, 10, 11, 12, 14, 39, 40, 43, 44, 45, 52] rfl (e4.trans (by rw [b3])) (σ' := [(7, s0 0 lh0_1.length), (8, ii x8_1), (9, s0 1 lh1_1.length), (10, ii x10_1), (11, ii x40_1), (12, s0 2 lh2_2.length), (14, pp 3 0), (39, ii x39_1), (40, ii x40_1), (43, s0 0 lh0_1.length), (44, ii x44_2), (45, ii x45_2), (52, ii (shV false .i64 x40_1 x45_2))]) (by kernel_rfl) ?_
          refine XR.runS E0_ok 1 2 [(7, s0 0 lh0_1.length), (8, ii x8_1), (9, s0 1 lh1_1.length), (10, ii x10_1), (11, ii x40_1), (12, s0 2 lh2_2.length), (14, pp 3 0), (39, ii x39_1), (40, ii x40_1), (43, s0 0 lh0_1.length), (44, ii x44_2), (45, ii x45_2), (54, .bool ((andV .i64 (shV false .i64 x40_1 x45_2) 1) == 1))] rfl (by kernel_rfl) ?_
          refine XR.done (by kernel_rfl) ?_
          show XQ _ _ _ _ _ _ _ _
          cases b5 : ((andV .i64 (shV false .i64 x40_1 x45_2) 1) == 1 : Bool) with
          | true =>
            have h := cT b5 h
            refine XQ.cond (s := (.tmp 54)) (b := true) (by kernel_rfl) (by kernel_rfl) (fun _ => ?_) (fun q => by cases q)
            refine XQ.region (by kernel_rfl) ?_
            refine XR.runT E0_ok 1 3 [(7, s0 0 lh0_1.length), (8, ii x8_1), (9, s0 1 lh1_1.length), (10, ii x10_1), (11, ii x40_1), (39, ii x39_1), (40, ii x40_1), (43, s0 0 lh0_1.length), (44, ii x44_2), (45, ii x45_2), (55, s0 2 lh2_2.length), (57, s0 4 1)] [(4, .cells [ii ((List.getD lh0_1 (Int.toNat x45_2) (0, 0)).1), ii ((List.getD lh0_1 (Int.toNat x45_2) (0, 0)).2)] 0 61 2), (3, .cells [ii ((List.getD lh0_1 (Int.toNat x45_2) (0, 0)).1), ii ((List.getD lh0_1 (Int.toNat x45_2) (0, 0)).2)] 0 61 0), (2, rc encP lh2_2 0 61 2), (1, rc encB lh1_1 0 4 1), (0, rc encP lh0_1 0 61 2)] 5 rfl (by kernel_rfl) ?_
            cases b6 : (fitsB (lh2_2.length + 1) 16 : Bool) with
            | false => cases (cF b6 h)
            | true =>
              have h := cT b6 h
              refine XR.ef E0_ok [7, 8, 9, 10, 11, 39, 40, 43, 44, 45, 58] rfl (e_append encP_ok (bytes := 16) (e := 61) (x := (src 145 (.tmp 55))) (y := (src 145 (.tmp 57))) (b := 2) (len := lh2_2.length) (cap := lh2_2.length) (xs := lh2_2) (m := 0) (ys := [((List.getD lh0_1 (Int.toNat x45_2) (0, 0)).1, (List.getD lh0_1 (Int.toNat x45_2) (0, 0)).2)]) (d := (some (path 12 58))) (n' := (lh2_2 ++ [((List.getD lh0_1 (Int.toNat x45_2) (0, 0)).1, (List.getD lh0_1 (Int.toNat x45_2) (0, 0)).2)]).length) (h' := [(5, rc encP (lh2_2 ++ [((List.getD lh0_1 (Int.toNat x45_2) (0, 0)).1, (List.getD lh0_1 (Int.toNat x45_2) (0, 0)).2)]) 0 61 2), (4, .cells [ii ((List.getD lh0_1 (Int.toNat x45_2) (0, 0)).1), ii ((List.getD lh0_1 (Int.toNat x45_2) (0, 0)).2)] 0 61 2), (3, .cells [ii ((List.getD lh0_1 (Int.toNat x45_2) (0, 0)).1), ii ((List.getD lh0_1 (Int.toNat x45_2) (0, 0)).2)] 0 61 0), (1, rc encB lh1_1 0 4 1), (0, rc encP lh0_1 0 61 2)]) (by kernel_rfl) (by kernel_rfl) (by kernel_rfl) (by kernel_rfl) rfl (by simp) (by simp) b6 (by simp) (by kernel_rfl)) (σ' := [(7, s0 0 lh0_1.length), (8, ii x8_1), (9, s0 1 lh1_1.length), (10, ii x10_1), (11, ii x40_1), (39, ii x39_1), (40, ii x40_1), (43, s0 0 lh0_1.length), (44, ii x44_2), (45, ii x45_2), (58, s0 5 ((lh2_2 ++ [((List.getD lh0_1 (Int.toNat x45_2) (0, 0)).1, (List.getD lh0_1 (Int.toNat x45_2) (0, 0)).2)]).length))]) (by kernel_rfl) ?_
              refine XR.runS E0_ok 1 1 [(7, s0 0 lh0_1.length), (8, ii x8_1), (9, s0 1 lh1_1.length), (10, ii x10_1), (11, ii x40_1), (12, s0 5 ((lh2_2 ++ [((List.getD lh0_1 (Int.toNat x45_2) (0, 0)).1, (List.getD lh0_1 (Int.toNat x45_2) (0, 0)).2)]).length)), (39, ii x39_1), (40, ii x40_1), (43, s0 0 lh0_1.length), (44, ii x44_2), (45, ii x45_2)] rfl (by kernel_rfl) ?_
              refine XR.done (by kernel_rfl) ?_
              show XQ _ _ _ _ _ _ _ _
              refine XQ.region (by kernel_rfl) ?_
              refine XR.runS E0_ok 1 2 [(7, s0 0 lh0_1.length), (8, ii x8_1), (9, s0 1 lh1_1.length), (10, ii x10_1), (11, ii x40_1), (12, s0 5 ((lh2_2 ++ [((List.getD lh0_1 (Int.toNat x45_2) (0, 0)).1, (List.getD lh0_1 (Int.toNat x45_2) (0, 0)).2)]).length)), (39, ii x39_1), (40, ii x40_1), (43, s0 0 lh0_1.length), (44, ii x44_2), (45, ii (w64 (x45_2 + 1)))] rfl (by kernel_rfl) ?_
              refine XR.done (by kernel_rfl) ?_
              show XL _ _ _ _ _ _ _ _ _
              refine XL.ren (σ' := [(7, s0 0 lh0_1.length), (8, ii x8_1), (9, s0 1 lh1_1.length), (10, ii x10_1), (11, ii x40_1), (12, s0 2 ((lh2_2 ++ [((List.getD lh0_1 (Int.toNat x45_2) (0, 0)).1, (List.getD lh0_1 (Int.toNat x45_2) (0, 0)).2)]).length)), (39, ii x39_1), (40, ii x40_1), (43, s0 0 lh0_1.length), (44, ii x44_2), (45, ii (w64 (x45_2 + 1)))]) (h' := [(2, rc encP (lh2_2 ++ [((List.getD lh0_1 (Int.toNat x45_2) (0, 0)).1, (List.getD lh0_1 (Int.toNat x45_2) (0, 0)).2)]) 0 61 2), (1, rc encB lh1_1 0 4 1), (0, rc encP lh0_1 0 61 2)]) (c' := 3) [0, 1, 5] (by decide) rfl ⟨by kernel_rfl, by kernel_rfl, by kernel_rfl, by kernel_rfl, by kernel_rfl, by kernel_rfl, by kernel_rfl, by kernel_rfl, by kernel_rfl, by kernel_rfl, by kernel_rfl, trivial⟩ ⟨⟨_, _, rfl, rfl, .inl ⟨rfl, rowC_scal encP_ok _⟩⟩, ⟨_, _, rfl, rfl, .inl ⟨rfl, rowC_scal encB_ok _⟩⟩, ⟨_, _, rfl, rfl, .inl ⟨rfl, rowC_scal encP_ok _⟩⟩, trivial⟩ rfl ?_
              refine XL.conv (f13_2_ok m fuel x8_1 x10_1 x39_1 x40_1 lh0_1 lh1_1 x44_2 (w64 (x45_2 + 1)) (lh2_2 ++ [((List.getD lh0_1 (Int.toNat x45_2) (0, 0)).1, (List.getD lh0_1 (Int.toNat x45_2) (0, 0)).2)]) o h Q hQ) (by first | rfl | simp)
          | false =>
            have h := cF b5 h
            refine XQ.cond (s := (.tmp 54)) (b := false) (by kernel_rfl) (by kernel_rfl) (fun q => by cases q) (fun _ => ?_)
            refine XQ.skip (by kernel_rfl) ?_
            show XQ _ _ _ _ _ _ _ _
            refine XQ.region (by kernel_rfl) ?_
            refine XR.runS E0_ok 1 2 [(7, s0 0 lh0_1.length), (8, ii x8_1), (9, s0 1 lh1_1.length), (10, ii x10_1), (11, ii x40_1), (12, s0 2 lh2_2.length), (39, ii x39_1), (40, ii x40_1), (43, s0 0 lh0_1.length), (44, ii x44_2), (45, ii (w64 (x45_2 + 1)))] rfl (by kernel_rfl) ?_
            refine XR.done (by kernel_rfl) ?_
            show XL _ _ _ _ _ _ _ _ _
            refine XL.ren (σ' := [(7, s0 0 lh0_1.length), (8, ii x8_1), (9, s0 1 lh1_1.length), (10, ii x10_1), (11, ii x40_1), (12, s0 2 lh2_2.length), (39, ii x39_1), (40, ii x40_1), (43, s0 0 lh0_1.length), (44, ii x44_2), (45, ii (w64 (x45_2 + 1)))]) (h' := [(2, rc encP lh2_2 0 61 2), (1, rc encB lh1_1 0 4 1), (0, rc encP lh0_1 0 61 2)]) (c' := 3) [0, 1, 2] (by decide) rfl ⟨by kernel_rfl, by kernel_rfl, by kernel_rfl, by kernel_rfl, by kernel_rfl, by kernel_rfl, by kernel_rfl, by kernel_rfl, by kernel_rfl, by kernel_rfl, by kernel_rfl, trivial⟩ ⟨⟨_, _, rfl, rfl, .inl ⟨rfl, rowC_scal encP_ok _⟩⟩, ⟨_, _, rfl, rfl, .inl ⟨rfl, rowC_scal encB_ok _⟩⟩, ⟨_, _, rfl, rfl, .inl ⟨rfl, rowC_scal encP_ok _⟩⟩, trivial⟩ rfl ?_
            refine XL.conv (f13_2_ok m fuel x8_1 x10_1 x39_1 x40_1 lh0_1 lh1_1 x44_2 (w64 (x45_2 + 1)) lh2_2 o h Q hQ) (by first | rfl | simp)
    | false =>
      have h := cF b1 h
      refine XQ.cond (s := (.tmp 46)) (b := false) (by kernel_rfl) (by kernel_rfl) (fun q => by cases q) (fun _ => ?_)
      refine XQ.ren (σ' := [(7, s0 0 lh0_1.length), (8, ii x8_1), (9, s0 1 lh1_1.length), (10, ii x10_1), (11, ii x40_1), (12, s0 2 lh2_2.length), (39, ii x39_1), (40, ii x40_1)]) (h' := [(2, rc encP lh2_2 0 61 2), (1, rc encB lh1_1 0 4 1), (0, rc encP lh0_1 0 61 2)]) (c' := 3) [0, 1, 2] (by decide) rfl ⟨by kernel_rfl, by kernel_rfl, by kernel_rfl, by kernel_rfl, by kernel_rfl, by kernel_rfl, by kernel_rfl, by kernel_rfl, trivial⟩ ⟨⟨_, _, rfl, rfl, .inl ⟨rfl, rowC_scal encP_ok _⟩⟩, ⟨_, _, rfl, rfl, .inl ⟨rfl, rowC_scal encB_ok _⟩⟩, ⟨_, _, rfl, rfl, .inl ⟨rfl, rowC_scal encP_ok _⟩⟩, trivial⟩ rfl ?_
      refine XQ.exit (i := 2) (by kernel_rfl) ?_
      cases h
      exact hQ

def f13_1 (m : Nat) : Nat → Int → Int → Int → Int → List (Int × Int) → List Bool → Option (Int × Int × (List (Int × Int)) × (List Bool))
  | 0, _, _, _, _, _, _ => none
  | fuel + 1, x8_1, x10_1, x39_1, x40_1, lh0_1, lh1_1 =>
    cond (decide (x40_1 < x39_1)) (
      (f13_2 m m x8_1 x10_1 x39_1 x40_1 lh0_1 lh1_1 ((lh0_1.length : Nat) : Int) 0 []).bind fun o2 =>
        (f42 m o2 x8_1).bind fun r4 =>
          cond (r4.2) (
            cond (inRow x40_1 lh1_1.length) (
              f13_1 m fuel x8_1 (iMax x10_1 ((o2.length : Nat) : Int)) x39_1 (w64 (x40_1 + 1)) lh0_1 (List.set lh1_1 (Int.toNat x40_1) true)
            ) none
          ) (
            f13_1 m fuel x8_1 x10_1 x39_1 (w64 (x40_1 + 1)) lh0_1 lh1_1
          )
    ) (
      some (x8_1, x10_1, lh0_1, lh1_1)
    )

theorem f13_1_ok (m : Nat) : ∀ (fuel : Nat) (x8_1 : Int) (x10_1 : Int) (x39_1 : Int) (x40_1 : Int) (lh0_1 : List (Int × Int)) (lh1_1 : List Bool) (o : (Int × Int × (List (Int × Int)) × (List Bool))), f13_1 m fuel x8_1 x10_1 x39_1 x40_1 lh0_1 lh1_1 = some o → ∀ Q : QP, Q (.exit 0) [(7, s0 0 o.2.2.1.length), (8, ii o.1), (9, s0 1 o.2.2.2.length), (10, ii o.2.1)] [(1, rc encB o.2.2.2 0 4 1), (0, rc encP o.2.2.1 0 61 2)] 2 → XL E0 145 0 fuel f13_L1 [(7, s0 0 lh0_1.length), (8, ii x8_1), (9, s0 1 lh1_1.length), (10, ii x10_1), (39, ii x39_1), (40, ii x40_1)] [(1, rc encB lh1_1 0 4 1), (0, rc encP lh0_1 0 61 2)] 2 Q
  | 0, x8_1, x10_1, x39_1, x40_1, lh0_1, lh1_1, o, h, Q, hQ => by cases h
  | fuel + 1, x8_1, x10_1, x39_1, x40_1, lh0_1, lh1_1, o, h, Q, hQ => by
    unfold f13_1 at h
    refine XL.succ E0_ok ?_
    refine XQ.seq E0_ok (by kernel_rfl) ?_
    refine XQ.region (by kernel_rfl) ?_
    refine XR.runS E0_ok 1 1 [(7, s0 0 lh0_1.length), (8, ii x8_1), (9, s0 1 lh1_1.length), (10, ii x10_1), (39, ii x39_1), (40, ii x40_1), (41, .bool (decide (x40_1 < x39_1)))] rfl (by kernel_rfl) ?_
    refine XR.done (by kernel_rfl) ?_
    show XQ _ _ _ _ _ _ _ _
    refine XQ.seq E0_ok (by kernel_rfl) ?_
    cases b1 : (decide (x40_1 < x39_1) : Bool) with
    | true =>
      have h := cT b1 h
      refine XQ.cond (s := (.tmp 41)) (b := true) (by kernel_rfl) (by kernel_rfl) (fun _ => ?_) (fun q => by cases q)
      refine XQ.skip (by kernel_rfl) ?_
      show XQ _ _ _ _ _ _ _ _
      refine XQ.seq E0_ok (by kernel_rfl) ?_
      refine XQ.block (id := 1) (by kernel_rfl) ?_
      refine XQ.seq E0_ok (by kernel_rfl) ?_
      refine XQ.region (by kernel_rfl) ?_
      refine XR.runS E0_ok 1 2 [(7, s0 0 lh0_1.length), (8, ii x8_1), (9, s0 1 lh1_1.length), (10, ii x10_1), (11, ii x40_1), (39, ii x39_1), (40, ii x40_1)] rfl (by kernel_rfl) ?_
      refine XR.done (by kernel_rfl) ?_
      show XQ _ _ _ _ _ _ _ _
      refine XQ.seq E0_ok (by kernel_rfl) ?_
      refine XQ.region (by kernel_rfl) ?_
      refine XR.runS E0_ok 1 1 [(7, s0 0 lh0_1.length), (8, ii x8_1), (9, s0 1 lh1_1.length), (10, ii x10_1), (11, ii x40_1), (12, .slice none 0 0), (39, ii x39_1), (40, ii x40_1)] rfl (by kernel_rfl) ?_
      refine XR.done (by kernel_rfl) ?_
      show XQ _ _ _ _ _ _ _ _
      refine XQ.ghost 61 2 rfl (σ' := [(7, s0 0 lh0_1.length), (8, ii x8_1), (9, s0 1 lh1_1.length), (10, ii x10_1), (11, ii x40_1), (12, s0 2 0), (39, ii x39_1), (40, ii x40_1)]) (h' := [(1, rc encB lh1_1 0 4 1), (0, rc encP lh0_1 0 61 2)]) ⟨by kernel_rfl, by kernel_rfl, by kernel_rfl, by kernel_rfl, by kernel_rfl, by kernel_rfl, by kernel_rfl, by kernel_rfl, trivial⟩ ⟨⟨_, rfl, .inl rfl⟩, ⟨_, rfl, .inl rfl⟩, trivial⟩ ?_
      refine XQ.conv (σ' := [(7, s0 0 lh0_1.length), (8, ii x8_1), (9, s0 1 lh1_1.length), (10, ii x10_1), (11, ii x40_1), (12, s0 2 0), (39, ii x39_1), (40, ii x40_1)]) (h' := [(2, rc encP [] 0 61 2), (1, rc encB lh1_1 0 4 1), (0, rc encP lh0_1 0 61 2)]) (c' := 3) ?_ (by kernel_rfl)
      refine XQ.seq E0_ok (by kernel_rfl) ?_
      refine XQ.seq E0_ok (by kernel_rfl) ?_
      refine XQ.region (by kernel_rfl) ?_
      refine XR.runS E0_ok 1 3 [(7, s0 0 lh0_1.length), (8, ii x8_1), (9, s0 1 lh1_1.length), (10, ii x10_1), (11, ii x40_1), (12, s0 2 0), (39, ii x39_1), (40, ii x40_1), (43, s0 0 lh0_1.length), (44, ii ((lh0_1.length : Nat) : Int)), (45, ii 0)] rfl (by kernel_rfl) ?_
      refine XR.done (by kernel_rfl) ?_
      show XQ _ _ _ _ _ _ _ _
      refine XQ.block (id := 2) (by kernel_rfl) ?_
      refine XQ.loop m (by kernel_rfl) ?_
      obtain ⟨o2, o2_h, h⟩ := bS h
      refine XL.ren (σ' := [(7, s0 0 lh0_1.length), (8, ii x8_1), (9, s0 1 lh1_1.length), (10, ii x10_1), (11, ii x40_1), (12, s0 2 0), (39, ii x39_1), (40, ii x40_1), (43, s0 0 lh0_1.length), (44, ii ((lh0_1.length : Nat) : Int)), (45, ii 0)]) (h' := [(2, rc encP [] 0 61 2), (1, rc encB lh1_1 0 4 1), (0, rc encP lh0_1 0 61 2)]) (c' := 3) [0, 1, 2] (by decide) rfl ⟨by kernel_rfl, by kernel_rfl, by kernel_rfl, by kernel_rfl, by kernel_rfl, by kernel_rfl, by kernel_rfl, by kernel_rfl, by kernel_rfl, by kernel_rfl, by kernel_rfl, trivial⟩ ⟨⟨_, _, rfl, rfl, .inl ⟨rfl, rowC_scal encP_ok _⟩⟩, ⟨_, _, rfl, rfl, .inl ⟨rfl, rowC_scal encB_ok _⟩⟩, ⟨_, _, rfl, rfl, .inl ⟨rfl, rowC_scal encP_ok _⟩⟩, trivial⟩ rfl ?_
      refine XL.conv (f13_2_ok m m x8_1 x10_1 x39_1 x40_1 lh0_1 lh1_1 ((lh0_1.length : Nat) : Int) 0 [] o2 o2_h _ ?_) (by first | rfl | simp)
      show XQ _ _ _ _ _ _ _ _
      refine XQ.seq E0_ok (by kernel_rfl) ?_
      refine XQ.region (by kernel_rfl) ?_
      refine XR.runS E0_ok 1 2 [(7, s0 0 lh0_1.length), (8, ii x8_1), (9, s0 1 lh1_1.length), (10, ii x10_1), (11, ii x40_1), (12, s0 2 o2.length), (39, ii x39_1), (40, ii x40_1), (61, s0 2 o2.length), (62, ii x8_1)] rfl (by kernel_rfl) ?_
      obtain ⟨r4, r4_h, h⟩ := bS h
      refine XR.call E0_ok [7, 8, 9, 10, 11, 12, 39, 40, 63] rfl (K := 42) (args := [s0 2 o2.length, ii x8_1]) (d := (some (path 12 63))) (by kernel_rfl) (KC.liftH (n0 := 1) (m := 1) (args0 := [s0 0 o2.length, ii x8_1]) (h0 := [(0, rc encP o2 (0 + ((rowC encP o2).length + 1)) 61 2)]) (V := .tuple #[s0 1 r4.1.length, .bool r4.2]) (V2 := .tuple #[s0 3 r4.1.length, .bool r4.2]) (H := [(1, rc (encI .i64) r4.1 0 3 1)]) (H2 := [(3, rc (encI .i64) r4.1 0 3 1)]) [2] [2, 3, 4, 1] (f42_ok m (0 + ((rowC encP o2).length + 1)) 61 o2 x8_1 r4 r4_h) (by rfl) (by decide) rfl (by kernel_rfl) ⟨⟨_, _, rfl, rfl, .inl ⟨rfl, rowC_scal encP_ok _⟩⟩, trivial⟩ (by decide) (by decide) (by kernel_rfl) ⟨⟨_, _, rfl, rfl, .inl ⟨rfl, rowC_scal (encI_ok .i64) _⟩⟩, trivial⟩ (by rfl)) ?_
      rintro _ _ _ ⟨rfl, rfl, rfl⟩
      refine XR.conv (σ' := [(7, s0 0 lh0_1.length), (8, ii x8_1), (9, s0 1 lh1_1.length), (10, ii x10_1), (11, ii x40_1), (12, s0 2 o2.length), (39, ii x39_1), (40, ii x40_1), (63, .tuple #[s0 3 r4.1.length, .bool r4.2])]) (h' := [(3, rc (encI .i64) r4.1 0 3 1), (2, rc encP o2 0 61 2), (1, rc encB lh1_1 0 4 1), (0, rc encP lh0_1 0 61 2)]) (c' := 4) ?_ (by kernel_rfl)
      refine XR.runS E0_ok 1 5 [(7, s0 0 lh0_1.length), (8, ii x8_1), (9, s0 1 lh1_1.length), (10, ii x10_1), (11, ii x40_1), (12, s0 2 o2.length), (16, .bool r4.2), (39, ii x39_1), (40, ii x40_1)] rfl (by kernel_rfl) ?_
      refine XR.done (by kernel_rfl) ?_
      show XQ _ _ _ _ _ _ _ _
      refine XQ.seq E0_ok (by kernel_rfl) ?_
      refine XQ.region (by kernel_rfl) ?_
      refine XR.runS E0_ok 1 1 [(7, s0 0 lh0_1.length), (8, ii x8_1), (9, s0 1 lh1_1.length), (10, ii x10_1), (11, ii x40_1), (12, s0 2 o2.length), (39, ii x39_1), (40, ii x40_1), (66, .bool r4.2)] rfl (by kernel_rfl) ?_
      refine XR.done (by kernel_rfl) ?_
      show XQ _ _ _ _ _ _ _ _
      cases b3 : (r4.2 : Bool) with
      | true =>
        have h := cT b3 h
        refine XQ.cond (s := (.tmp 66)) (b := true) (by kernel_rfl) (by kernel_rfl) (fun _ => ?_) (fun q => by cases q)
        refine XQ.seq E0_ok (by kernel_rfl) ?_
        refine XQ.region (by kernel_rfl) ?_
        refine XR.runS E0_ok 1 2 [(7, s0 0 lh0_1.length), (8, ii x8_1), (9, s0 1 lh1_1.length), (10, ii x10_1), (12, s0 2 o2.length), (39, ii x39_1), (40, ii x40_1), (67, s0 1 lh1_1.length), (68, ii x40_1)] rfl (by kernel_rfl) ?_
        cases b4 : (inRow x40_1 lh1_1.length : Bool) with
        | false => cases (cF b4 h)
        | true =>
          have h := cT b4 h
          refine XR.rd E0_ok [7, 8, 9, 10, 12, 39, 40, 69] rfl (v := pp 1 ((Int.toNat x40_1) * 1)) (v_idx (s := 1) (x := (src 145 (.tmp 67))) (y := (src 145 (.tmp 68))) (b := 1) (o := 0) (len := lh1_1.length) (cap := lh1_1.length) (ik := .i64) (i := x40_1) (off := (Int.toNat x40_1) * 1) (d := (some (path 12 69))) (by kernel_rfl) (by kernel_rfl) (by kernel_rfl) b4 (by omega)) (σ' := [(7, s0 0 lh0_1.length), (8, ii x8_1), (9, s0 1 lh1_1.length), (10, ii x10_1), (12, s0 2 o2.length), (39, ii x39_1), (40, ii x40_1), (69, pp 1 ((Int.toNat x40_1) * 1))]) (by kernel_rfl) ?_
          refine XR.ef E0_ok [7, 8, 9, 10, 12, 39, 40] rfl (e_store encB_ok (size := 1) (x := (src 145 (.tmp 69))) (y := (src 145 (.const (.bool true)))) (b := 1) (off := (Int.toNat x40_1) * 1) (xs := lh1_1) (e := 4) (es := 1) (d := none) (h' := [(3, rc (encI .i64) r4.1 0 3 1), (2, rc encP o2 0 61 2), (1, rc encB (List.set lh1_1 (Int.toNat x40_1) true) 0 4 1), (0, rc encP lh0_1 0 61 2)]) (w := .bool true) (ws := [.bool true]) (a := true) (by kernel_rfl) (by kernel_rfl) (by kernel_rfl) (Int.toNat x40_1) 0 false (by first | rfl | omega) (row_len (inRow_toNat b4) (by simp)) (by kernel_rfl) rfl rfl rfl rfl rfl (by kernel_rfl)) (σ' := [(7, s0 0 lh0_1.length), (8, ii x8_1), (9, s0 1 lh1_1.length), (10, ii x10_1), (12, s0 2 o2.length), (39, ii x39_1), (40, ii x40_1)]) (by kernel_rfl) ?_
          refine XR.done (by kernel_rfl) ?_
          show XQ _ _ _ _ _ _ _ _
          refine XQ.region (by kernel_rfl) ?_
          refine XR.runS E0_ok 1 5 [(7, s0 0 lh0_1.length), (8, ii x8_1), (9, s0 1 lh1_1.length), (10, ii (iMax x10_1 ((o2.length : Nat) : Int))), (39, ii x39_1), (40, ii x40_1)] rfl (by kernel_rfl) ?_
          refine XR.done (by kernel_rfl) ?_
          show XQ _ _ _ _ _ _ _ _
          refine XQ.region (by kernel_rfl) ?_
          refine XR.runS E0_ok 1 2 [(7, s0 0 lh0_1.length), (8, ii x8_1), (9, s0 1 lh1_1.length), (10, ii (iMax x10_1 ((o2.length : Nat) : Int))), (39, ii x39_1), (40, ii (w64 (x40_1 + 1)))] rfl (by kernel_rfl) ?_
          refine XR.done (by kernel_rfl) ?_
          show XL _ _ _ _ _ _ _ _ _
          refine XL.ren (σ' := [(7, s0 0 lh0_1.length), (8, ii x8_1), (9, s0 1 lh1_1.length), (10, ii (iMax x10_1 ((o2.length : Nat) : Int))), (39, ii x39_1), (40, ii (w64 (x40_1 + 1)))]) (h' := [(1, rc encB (List.set lh1_1 (Int.toNat x40_1) true) 0 4 1), (0, rc encP lh0_1 0 61 2)]) (c' := 2) [0, 1] (by decide) rfl ⟨by kernel_rfl, by kernel_rfl, by kernel_rfl, by kernel_rfl, by kernel_rfl, by kernel_rfl, trivial⟩ ⟨⟨_, _, rfl, rfl, .inl ⟨rfl, rowC_scal encB_ok _⟩⟩, ⟨_, _, rfl, rfl, .inl ⟨rfl, rowC_scal encP_ok _⟩⟩, trivial⟩ rfl ?_
          refine XL.conv (f13_1_ok m fuel x8_1 (iMax x10_1 ((o2.length : Nat) : Int)) x39_1 (w64 (x40_1 + 1)) lh0_1 (List.set lh1_1 (Int.toNat x40_1) true) o h Q hQ) (by first | rfl | simp)
      | false =>
        have h := cF b3 h
        refine XQ.cond (s := (.tmp 66)) (b := false) (by kernel_rfl) (by kernel_rfl) (fun q => by cases q) (fun _ => ?_)
        refine XQ.skip (by kernel_rfl) ?_
        show XQ _ _ _ _ _ _ _ _
        refine XQ.region (by kernel_rfl) ?_
        refine XR.runS E0_ok 1 2 [(7, s0 0 lh0_1.length), (8, ii x8_1), (9, s0 1 lh1_1.length), (10, ii x10_1), (39, ii x39_1), (40, ii (w64 (x40_1 + 1)))] rfl (by kernel_rfl) ?_
        refine XR.done (by kernel_rfl) ?_
        show XL _ _ _ _ _ _ _ _ _
        refine XL.ren (σ' := [(7, s0 0 lh0_1.length), (8, ii x8_1), (9, s0 1 lh1_1.length), (10, ii x10_1), (39, ii x39_1), (40, ii (w64 (x40_1 + 1)))]) (h' := [(1, rc encB lh1_1 0 4 1), (0, rc encP lh0_1 0 61 2)]) (c' := 2) [0, 1] (by decide) rfl ⟨by kernel_rfl, by kernel_rfl, by kernel_rfl, by kernel_rfl, by kernel_rfl, by kernel_rfl, trivial⟩ ⟨⟨_, _, rfl, rfl, .inl ⟨rfl, rowC_scal encB_ok _⟩⟩, ⟨_, _, rfl, rfl, .inl ⟨rfl, rowC_scal encP_ok _⟩⟩, trivial⟩ rfl ?_
        refine XL.conv (f13_1_ok m fuel x8_1 x10_1 x39_1 (w64 (x40_1 + 1)) lh0_1 lh1_1 o h Q hQ) (by first | rfl | simp)
    | false =>
      have h := cF b1 h
      refine XQ.cond (s := (.tmp 41)) (b := false) (by kernel_rfl) (by kernel_rfl) (fun q => by cases q) (fun _ => ?_)
      refine XQ.ren (σ' := [(7, s0 0 lh0_1.length), (8, ii x8_1), (9, s0 1 lh1_1.length), (10, ii x10_1)]) (h' := [(1, rc encB lh1_1 0 4 1), (0, rc encP lh0_1 0 61 2)]) (c' := 2) [0, 1] (by decide) rfl ⟨by kernel_rfl, by kernel_rfl, by kernel_rfl, by kernel_rfl, trivial⟩ ⟨⟨_, _, rfl, rfl, .inl ⟨rfl, rowC_scal encB_ok _⟩⟩, ⟨_, _, rfl, rfl, .inl ⟨rfl, rowC_scal encP_ok _⟩⟩, trivial⟩ rfl ?_
      refine XQ.exit (i := 0) (by kernel_rfl) ?_
      cases h
      exact hQ

def f13_4 (m : Nat) : Nat → Int → Int → Bool → Int → Int → List (Int × Int) → List Bool → List Int → Bool → Int → Int → List Int → Option (Bool × (List Int))
  | 0, _, _, _, _, _, _, _, _, _, _, _, _ => none
  | fuel + 1, x8_3, x10_3, b18_3, x76_3, x77_3, lh0_3, lh1_3, lh2_3, b22_4, x85_4, x86_4, lh3_4 =>
    cond (decide (x86_4 < x85_4)) (
      cond (decide (0 ≤ x86_4)) (
        cond ((andV .i64 (shV false .i64 x77_3 x86_4) 1) == 1) (
          cond (fitsB (lh3_4.length + 1) 8) (
            f13_4 m fuel x8_3 x10_3 b18_3 x76_3 x77_3 lh0_3 lh1_3 lh2_3 b22_4 x85_4 (w64 (x86_4 + 1)) (lh3_4 ++ [x86_4])
          ) none
        ) (
          cond (inRow (orV .i64 x77_3 (shV true .i64 1 x86_4)) lh1_3.length) (
            f13_4 m fuel x8_3 x10_3 b18_3 x76_3 x77_3 lh0_3 lh1_3 lh2_3 (cond (List.getD lh1_3 (Int.toNat (orV .i64 x77_3 (shV true .i64 1 x86_4))) false) false b22_4) x85_4 (w64 (x86_4 + 1)) lh3_4
          ) none
        )
      ) none
    ) (
      some (b22_4, lh3_4)
    )

theorem f13_4_ok (m : Nat) : ∀ (fuel : Nat) (x8_3 : Int) (x10_3 : Int) (b18_3 : Bool) (x76_3 : Int) (x77_3 : Int) (lh0_3 : List (Int × Int)) (lh1_3 : List Bool) (lh2_3 : List Int) (b22_4 : Bool) (x85_4 : Int) (x86_4 : Int) (lh3_4 : List Int) (o : (Bool × (List Int))), f13_4 m fuel x8_3 x10_3 b18_3 x76_3 x77_3 lh0_3 lh1_3 lh2_3 b22_4 x85_4 x86_4 lh3_4 = some o → ∀ Q : QP, Q (.exit 6) [(7, s0 0 lh0_3.length), (8, ii x8_3), (9, s0 1 lh1_3.length), (10, ii x10_3), (17, s0 2 lh2_3.length), (18, .bool b18_3), (21, s0 3 o.2.length), (22, .bool o.1), (75, s0 1 lh1_3.length), (76, ii x76_3), (77, ii x77_3)] [(3, rc (encI .i64) o.2 0 3 1), (2, rc (encI .i64) lh2_3 0 3 1), (1, rc encB lh1_3 0 4 1), (0, rc encP lh0_3 0 61 2)] 4 → XL E0 145 0 fuel f13_L4 [(7, s0 0 lh0_3.length), (8, ii x8_3), (9, s0 1 lh1_3.length), (10, ii x10_3), (17, s0 2 lh2_3.length), (18, .bool b18_3), (19, ii x77_3), (21, s0 3 lh3_4.length), (22, .bool b22_4), (75, s0 1 lh1_3.length), (76, ii x76_3), (77, ii x77_3), (85, ii x85_4), (86, ii x86_4)] [(3, rc (encI .i64) lh3_4 0 3 1), (2, rc (encI .i64) lh2_3 0 3 1), (1, rc encB lh1_3 0 4 1), (0, rc encP lh0_3 0 61 2)] 4 Q
  | 0, x8_3, x10_3, b18_3, x76_3, x77_3, lh0_3, lh1_3, lh2_3, b22_4, x85_4, x86_4, lh3_4, o, h, Q, hQ => by cases h
  | fuel + 1, x8_3, x10_3, b18_3, x76_3, x77_3, lh0_3, lh1_3, lh2_3, b22_4, x85_4, x86_4, lh3_4, o, h, Q, hQ => by
    unfold f13_4 at h
    refine XL.succ E0_ok ?_
    refine XQ.seq E0_ok (by kernel_rfl) ?_
    refine XQ.region (by kernel_rfl) ?_
    refine XR.runS E0_ok 1 1 [(7, s0 0 lh0_3.length), (8, ii x8_3), (9, s0 1 lh1_3.length), (10, ii x10_3), (17, s0 2 lh2_3.length), (18, .bool b18_3), (19, ii x77_3), (21, s0 3 lh3_4.length), (22, .bool b22_4), (75, s0 1 lh1_3.length), (76, ii x76_3), (77, ii x77_3), (85, ii x85_4), (86, ii x86_4), (87, .bool (decide (x86_4 < x85_4)))] rfl (by kernel_rfl) ?_
    refine XR.done (by kernel_rfl) ?_
    show XQ _ _ _ _ _ _ _ _
    refine XQ.seq E0_ok (by kernel_rfl) ?_
    cases b1 : (decide (x86_4 < x85_4) : Bool) with
    | true =>
      have h := cT b1 h
      refine XQ.cond (s := (.tmp 87)) (b := true) (by kernel_rfl) (by kernel_rfl) (fun _ => ?_) (fun q => by cases q)
      refine XQ.skip (by kernel_rfl) ?_
      show XQ _ _ _ _ _ _ _ _
      refine XQ.seq E0_ok (by kernel_rfl) ?_
      refine XQ.block (id := 7) (by kernel_rfl) ?_
      refine XQ.seq E0_ok (by kernel_rfl) ?_
      refine XQ.region (by kernel_rfl) ?_
      refine XR.runS E0_ok 1 2 [(7, s0 0 lh0_3.length), (8, ii x8_3), (9, s0 1 lh1_3.length), (10, ii x10_3), (17, s0 2 lh2_3.length), (18, .bool b18_3), (19, ii x77_3), (21, s0 3 lh3_4.length), (22, .bool b22_4), (23, ii x86_4), (75, s0 1 lh1_3.length), (76, ii x76_3), (77, ii x77_3), (85, ii x85_4), (86, ii x86_4)] rfl (by kernel_rfl) ?_
      refine XR.done (by kernel_rfl) ?_
      show XQ _ _ _ _ _ _ _ _
      refine XQ.seq E0_ok (by kernel_rfl) ?_
      refine XQ.region (by kernel_rfl) ?_
      refine XR.runS E0_ok 1 2 [(7, s0 0 lh0_3.length), (8, ii x8_3), (9, s0 1 lh1_3.length), (10, ii x10_3), (17, s0 2 lh2_3.length), (18, .bool b18_3), (19, ii x77_3), (21, s0 3 lh3_4.length), (22, .bool b22_4), (23, ii x86_4), (75, s0 1 lh1_3.length), (76, ii x76_3), (77, ii x77_3), (85, ii x85_4), (86, ii x86_4), (89, ii x77_3), (90, ii x86_4)] rfl (by kernel_rfl) ?_
      cases b2 : (decide (0 ≤ x86_4) : Bool) with
      | false => cases (cF b2 h)
      | true =>
        have h := cT b2 h
        have e3 : insV (headI ((gsOf E0 145 (opsOf (lft (rgt (lft (lft (rgt (rgt f13_L4)))))))).drop 2) (trS 145 [(7, s0 0 lh0_3.length), (8, ii x8_3), (9, s0 1 lh1_3.length), (10, ii x10_3), (17, s0 2 lh2_3.length), (18, .bool b18_3), (19, ii x77_3), (21, s0 3 lh3_4.length), (22, .bool b22_4), (23, ii x86_4), (75, s0 1 lh1_3.length), (76, ii x76_3), (77, ii x77_3), (85, ii x85_4), (86, ii x86_4), (89, ii x77_3), (90, ii x86_4)])) (trS 145 [(7, s0 0 lh0_3.length), (8, ii x8_3), (9, s0 1 lh1_3.length), (10, ii x10_3), (17, s0 2 lh2_3.length), (18, .bool b18_3), (19, ii x77_3), (21, s0 3 lh3_4.length), (22, .bool b22_4), (23, ii x86_4), (75, s0 1 lh1_3.length), (76, ii x76_3), (77, ii x77_3), (85, ii x85_4), (86, ii x86_4), (89, ii x77_3), (90, ii x86_4)]) [(3, rc (encI .i64) lh3_4 0 3 1), (2, rc (encI .i64) lh2_3 0 3 1), (1, rc encB lh1_3 0 4 1), (0, rc encP lh0_3 0 61 2)] = (match (decide (0 ≤ x86_4) : Bool) with | true => some (ii (shV false .i64 x77_3 x86_4)) | false => none) := by kernel_rfl
        refine XR.rd E0_ok [7, 8, 9, 10, 17, 18, 19, 21, 22, 23, 75, 76, 77, 85, 86, 91] rfl (e3.trans (by rw [b2])) (σ' := [(7, s0 0 lh0_3.length), (8, ii x8_3), (9, s0 1 lh1_3.length), (10, ii x10_3), (17, s0 2 lh2_3.length), (18, .bool b18_3), (19, ii x77_3), (21, s0 3 lh3_4.length), (22, .bool b22_4), (23, ii x86_4), (75, s0 1 lh1_3.length), (76, ii x76_3), (77, ii x77_3), (85, ii x85_4), (86, ii x86_4), (91, ii (shV false .i64 x77_3 x86_4))]) (by kernel_rfl) ?_
        refine XR.runS E0_ok 1 2 [(7, s0 0 lh0_3.length), (8, ii x8_3), (9, s0 1 lh1_3.length), (10, ii x10_3), (17, s0 2 lh2_3.length), (18, .bool b18_3), (19, ii x77_3), (21, s0 3 lh3_4.length), (22, .bool b22_4), (23, ii x86_4), (75, s0 1 lh1_3.length), (76, ii x76_3), (77, ii x77_3), (85, ii x85_4), (86, ii x86_4), (93, .bool ((andV .i64 (shV false .i64 x77_3 x86_4) 1) == 1))] rfl (by kernel_rfl) ?_
        refine XR.done (by kernel_rfl) ?_
        show XQ _ _ _ _ _ _ _ _
        cases b4 : ((andV .i64 (shV false .i64 x77_3 x86_4) 1) == 1 : Bool) with
        | true =>
          have h := cT b4 h
          refine XQ.cond (s := (.tmp 93)) (b := true) (by kernel_rfl) (by kernel_rfl) (fun _ => ?_) (fun q => by cases q)
          refine XQ.region (by kernel_rfl) ?_
          refine XR.runT E0_ok 1 3 [(7, s0 0 lh0_3.length), (8, ii x8_3), (9, s0 1 lh1_3.length), (10, ii x10_3), (17, s0 2 lh2_3.length), (18, .bool b18_3), (19, ii x77_3), (22, .bool b22_4), (75, s0 1 lh1_3.length), (76, ii x76_3), (77, ii x77_3), (85, ii x85_4), (86, ii x86_4), (94, s0 3 lh3_4.length), (96, s0 4 1)] [(4, .cells [ii x86_4] 0 3 1), (3, rc (encI .i64) lh3_4 0 3 1), (2, rc (encI .i64) lh2_3 0 3 1), (1, rc encB lh1_3 0 4 1), (0, rc encP lh0_3 0 61 2)] 5 rfl (by kernel_rfl) ?_
          cases b5 : (fitsB (lh3_4.length + 1) 8 : Bool) with
          | false => cases (cF b5 h)
          | true =>
            have h := cT b5 h
            refine XR.ef E0_ok [7, 8, 9, 10, 17, 18, 19, 22, 75, 76, 77, 85, 86, 97] rfl (e_append (encI_ok .i64) (bytes := 8) (e := 3) (x := (src 145 (.tmp 94))) (y := (src 145 (.tmp 96))) (b := 3) (len := lh3_4.length) (cap := lh3_4.length) (xs := lh3_4) (m := 0) (ys := [x86_4]) (d := (some (path 12 97))) (n' := (lh3_4 ++ [x86_4]).length) (h' := [(5, rc (encI .i64) (lh3_4 ++ [x86_4]) 0 3 1), (4, .cells [ii x86_4] 0 3 1), (2, rc (encI .i64) lh2_3 0 3 1), (1, rc encB lh1_3 0 4 1), (0, rc encP lh0_3 0 61 2)]) (by kernel_rfl) (by kernel_rfl) (by kernel_rfl) (by kernel_rfl) rfl (by simp) (by simp) b5 (by simp) (by kernel_rfl)) (σ' := [(7, s0 0 lh0_3.length), (8, ii x8_3), (9, s0 1 lh1_3.length), (10, ii x10_3), (17, s0 2 lh2_3.length), (18, .bool b18_3), (19, ii x77_3), (22, .bool b22_4), (75, s0 1 lh1_3.length), (76, ii x76_3), (77, ii x77_3), (85, ii x85_4), (86, ii x86_4), (97, s0 5 ((lh3_4 ++ [x86_4]).length))]) (by kernel_rfl) ?_
            refine XR.runS E0_ok 1 1 [(7, s0 0 lh0_3.length), (8, ii x8_3), (9, s0 1 lh1_3.length), (10, ii x10_3), (17, s0 2 lh2_3.length), (18, .bool b18_3), (19, ii x77_3), (21, s0 5 ((lh3_4 ++ [x86_4]).length)), (22, .bool b22_4), (75, s0 1 lh1_3.length), (76, ii x76_3), (77, ii x77_3), (85, ii x85_4), (86, ii x86_4)] rfl (by kernel_rfl) ?_
            refine XR.done (by kernel_rfl) ?_
            show XQ _ _ _ _ _ _ _ _
            refine XQ.region (by kernel_rfl) ?_
            refine XR.runS E0_ok 1 2 [(7, s0 0 lh0_3.length), (8, ii x8_3), (9, s0 1 lh1_3.length), (10, ii x10_3), (17, s0 2 lh2_3.length), (18, .bool b18_3), (19, ii x77_3), (21, s0 5 ((lh3_4 ++ [x86_4]).length)), (22, .bool b22_4), (75, s0 1 lh1_3.length), (76, ii x76_3), (77, ii x77_3), (85, ii x85_4), (86, ii (w64 (x86_4 + 1)))] rfl (by kernel_rfl) ?_
            refine XR.done (by kernel_rfl) ?_
            show XL _ _ _ _ _ _ _ _ _
            refine XL.ren (σ' := [(7, s0 0 lh0_3.length), (8, ii x8_3), (9, s0 1 lh1_3.length), (10, ii x10_3), (17, s0 2 lh2_3.length), (18, .bool b18_3), (19, ii x77_3), (21, s0 3 ((lh3_4 ++ [x86_4]).length)), (22, .bool b22_4), (75, s0 1 lh1_3.length), (76, ii x76_3), (77, ii x77_3), (85, ii x85_4), (86, ii (w64 (x86_4 + 1)))]) (h' := [(3, rc (encI .i64) (lh3_4 ++ [x86_4]) 0 3 1), (2, rc (encI .i64) lh2_3 0 3 1), (1, rc encB lh1_3 0 4 1), (0, rc encP lh0_3 0 61 2)]) (c' := 4) [0, 1, 2, 5] (by decide) rfl ⟨by kernel_rfl, by kernel_rfl, by kernel_rfl, by kernel_rfl, by kernel_rfl, by kernel_rfl, by kernel_rfl, by kernel_rfl, by kernel_rfl, by kernel_rfl, by kernel_rfl, by kernel_rfl, by kernel_rfl, by kernel_rfl, trivial⟩ ⟨⟨_, _, rfl, rfl, .inl ⟨rfl, rowC_scal (encI_ok .i64) _⟩⟩, ⟨_, _, rfl, rfl, .inl ⟨rfl, rowC_scal (encI_ok .i64) _⟩⟩, ⟨_, _, rfl, rfl, .inl ⟨rfl, rowC_scal encB_ok _⟩⟩, ⟨_, _, rfl, rfl, .inl ⟨rfl, rowC_scal encP_ok _⟩⟩, trivial⟩ rfl ?_
            refine XL.conv (f13_4_ok m fuel x8_3 x10_3 b18_3 x76_3 x77_3 lh0_3 lh1_3 lh2_3 b22_4 x85_4 (w64 (x86_4 + 1)) (lh3_4 ++ [x86_4]) o h Q hQ) (by first | rfl | simp)
        | false =>
          have h := cF b4 h
          refine XQ.cond (s := (.tmp 93)) (b := false) (by kernel_rfl) (by kernel_rfl) (fun q => by cases q) (fun _ => ?_)
          refine XQ.seq E0_ok (by kernel_rfl) ?_
          refine XQ.region (by kernel_rfl) ?_
          refine XR.runS E0_ok 1 3 [(7, s0 0 lh0_3.length), (8, ii x8_3), (9, s0 1 lh1_3.length), (10, ii x10_3), (17, s0 2 lh2_3.length), (18, .bool b18_3), (19, ii x77_3), (21, s0 3 lh3_4.length), (22, .bool b22_4), (75, s0 1 lh1_3.length), (76, ii x76_3), (77, ii x77_3), (85, ii x85_4), (86, ii x86_4), (98, s0 1 lh1_3.length), (99, ii x77_3), (100, ii x86_4)] rfl (by kernel_rfl) ?_
          have e6 : insV (headI ((gsOf E0 145 (opsOf (lft (rgt (rgt (rgt (lft (lft (rgt (rgt f13_L4)))))))))).drop 3) (trS 145 [(7, s0 0 lh0_3.length), (8, ii x8_3), (9, s0 1 lh1_3.length), (10, ii x10_3), (17, s0 2 lh2_3.length), (18, .bool b18_3), (19, ii x77_3), (21, s0 3 lh3_4.length), (22, .bool b22_4), (75, s0 1 lh1_3.length), (76, ii x76_3), (77, ii x77_3), (85, ii x85_4), (86, ii x86_4), (98, s0 1 lh1_3.length), (99, ii x77_3), (100, ii x86_4)])) (trS 145 [(7, s0 0 lh0_3.length), (8, ii x8_3), (9, s0 1 lh1_3.length), (10, ii x10_3), (17, s0 2 lh2_3.length), (18, .bool b18_3), (19, ii x77_3), (21, s0 3 lh3_4.length), (22, .bool b22_4), (75, s0 1 lh1_3.length), (76, ii x76_3), (77, ii x77_3), (85, ii x85_4), (86, ii x86_4), (98, s0 1 lh1_3.length), (99, ii x77_3), (100, ii x86_4)]) [(3, rc (encI .i64) lh3_4 0 3 1), (2, rc (encI .i64) lh2_3 0 3 1), (1, rc encB lh1_3 0 4 1), (0, rc encP lh0_3 0 61 2)] = (match (decide (0 ≤ x86_4) : Bool) with | true => some (ii (shV true .i64 1 x86_4)) | false => none) := by kernel_rfl
          refine XR.rd E0_ok [7, 8, 9, 10, 17, 18, 19, 21, 22, 75, 76, 77, 85, 86, 98, 99, 101] rfl (e6.trans (by rw [b2])) (σ' := [(7, s0 0 lh0_3.length), (8, ii x8_3), (9, s0 1 lh1_3.length), (10, ii x10_3), (17, s0 2 lh2_3.length), (18, .bool b18_3), (19, ii x77_3), (21, s0 3 lh3_4.length), (22, .bool b22_4), (75, s0 1 lh1_3.length), (76, ii x76_3), (77, ii x77_3), (85, ii x85_4), (86, ii x86_4), (98, s0 1 lh1_3.length), (99, ii x77_3), (101, ii (shV true .i64 1 x86_4))]) (by kernel_rfl) ?_
          refine XR.runS E0_ok 1 1 [(7, s0 0 lh0_3.length), (8, ii x8_3), (9, s0 1 lh1_3.length), (10, ii x10_3), (17, s0 2 lh2_3.length), (18, .bool b18_3), (19, ii x77_3), (21, s0 3 lh3_4.length), (22, .bool b22_4), (75, s0 1 lh1_3.length), (76, ii x76_3), (77, ii x77_3), (85, ii x85_4), (86, ii x86_4), (98, s0 1 lh1_3.length), (102, ii (orV .i64 x77_3 (shV true .i64 1 x86_4)))] rfl (by kernel_rfl) ?_
          cases b7 : (inRow (orV .i64 x77_3 (shV true .i64 1 x86_4)) lh1_3.length : Bool) with
          | false => cases (cF b7 h)
          | true =>
            have h := cT b7 h
            refine XR.rd E0_ok [7, 8, 9, 10, 17, 18, 19, 21, 22, 75, 76, 77, 85, 86, 103] rfl (v := pp 1 ((Int.toNat (orV .i64 x77_3 (shV true .i64 1 x86_4))) * 1)) (v_idx (s := 1) (x := (src 145 (.tmp 98))) (y := (src 145 (.tmp 102))) (b := 1) (o := 0) (len := lh1_3.length) (cap := lh1_3.length) (ik := .i64) (i := orV .i64 x77_3 (shV true .i64 1 x86_4)) (off := (Int.toNat (orV .i64 x77_3 (shV true .i64 1 x86_4))) * 1) (d := (some (path 12 103))) (by kernel_rfl) (by kernel_rfl) (by kernel_rfl) b7 (by omega)) (σ' := [(7, s0 0 lh0_3.length), (8, ii x8_3), (9, s0 1 lh1_3.length), (10, ii x10_3), (17, s0 2 lh2_3.length), (18, .bool b18_3), (19, ii x77_3), (21, s0 3 lh3_4.length), (22, .bool b22_4), (75, s0 1 lh1_3.length), (76, ii x76_3), (77, ii x77_3), (85, ii x85_4), (86, ii x86_4), (103, pp 1 ((Int.toNat (orV .i64 x77_3 (shV true .i64 1 x86_4))) * 1))]) (by kernel_rfl) ?_
            refine XR.rd E0_ok [7, 8, 9, 10, 17, 18, 19, 21, 22, 75, 76, 77, 85, 86, 104] rfl (v := .bool (List.getD lh1_3 (Int.toNat (orV .i64 x77_3 (shV true .i64 1 x86_4))) false)) (v_load1 encB_ok (x := (src 145 (.tmp 103))) (b := 1) (off := (Int.toNat (orV .i64 x77_3 (shV true .i64 1 x86_4))) * 1) (xs := lh1_3) (fz := 0) (e := 4) (es := 1) (d := (some (path 12 104))) (by kernel_rfl) (by kernel_rfl) (by kernel_rfl) (Int.toNat (orV .i64 x77_3 (shV true .i64 1 x86_4))) 0 false (by first | rfl | omega) (row_len (inRow_toNat b7) (by simp)) rfl rfl) (σ' := [(7, s0 0 lh0_3.length), (8, ii x8_3), (9, s0 1 lh1_3.length), (10, ii x10_3), (17, s0 2 lh2_3.length), (18, .bool b18_3), (19, ii x77_3), (21, s0 3 lh3_4.length), (22, .bool b22_4), (75, s0 1 lh1_3.length), (76, ii x76_3), (77, ii x77_3), (85, ii x85_4), (86, ii x86_4), (104, .bool (List.getD lh1_3 (Int.toNat (orV .i64 x77_3 (shV true .i64 1 x86_4))) false))]) (by kernel_rfl) ?_
            refine XR.done (by kernel_rfl) ?_
            show XQ _ _ _ _ _ _ _ _
            refine XQ.meetC (σ' := [(7, s0 0 lh0_3.length), (8, ii x8_3), (9, s0 1 lh1_3.length), (10, ii x10_3), (17, s0 2 lh2_3.length), (18, .bool b18_3), (19, ii x77_3), (21, s0 3 lh3_4.length), (22, .bool (cond (List.getD lh1_3 (Int.toNat (orV .i64 x77_3 (shV true .i64 1 x86_4))) false) false b22_4)), (75, s0 1 lh1_3.length), (76, ii x76_3), (77, ii x77_3), (85, ii x85_4), (86, ii x86_4)]) (h' := [(3, rc (encI .i64) lh3_4 0 3 1), (2, rc (encI .i64) lh2_3 0 3 1), (1, rc encB lh1_3 0 4 1), (0, rc encP lh0_3 0 61 2)]) (c' := 4) ?_ ?_
            rotate_left
            · refine XQ.cond (s := (.tmp 104)) (b := List.getD lh1_3 (Int.toNat (orV .i64 x77_3 (shV true .i64 1 x86_4))) false) (by kernel_rfl) (by kernel_rfl) (fun b8 => ?_) (fun b8 => ?_)
              · refine XQ.region (by kernel_rfl) ?_
                refine XR.runS E0_ok 1 1 [(7, s0 0 lh0_3.length), (8, ii x8_3), (9, s0 1 lh1_3.length), (10, ii x10_3), (17, s0 2 lh2_3.length), (18, .bool b18_3), (19, ii x77_3), (21, s0 3 lh3_4.length), (22, .bool false), (75, s0 1 lh1_3.length), (76, ii x76_3), (77, ii x77_3), (85, ii x85_4), (86, ii x86_4)] rfl (by kernel_rfl) ?_
                refine XR.done (by kernel_rfl) ?_
                refine ⟨rfl, ?_, ?_⟩
                · try rw [b8]
                  exact ⟨by kernel_rfl, by kernel_rfl, by kernel_rfl, by kernel_rfl, by kernel_rfl, by kernel_rfl, by kernel_rfl, by kernel_rfl, by kernel_rfl, by kernel_rfl, by kernel_rfl, by kernel_rfl, by kernel_rfl, by kernel_rfl, trivial⟩
                · try rw [b8]
                  kernel_rfl
              · refine XQ.skip (by kernel_rfl) ?_
                refine ⟨rfl, ?_, ?_⟩
                · try rw [b8]
                  exact ⟨by kernel_rfl, by kernel_rfl, by kernel_rfl, by kernel_rfl, by kernel_rfl, by kernel_rfl, by kernel_rfl, by kernel_rfl, by kernel_rfl, by kernel_rfl, by kernel_rfl, by kernel_rfl, by kernel_rfl, by kernel_rfl, trivial⟩
                · try rw [b8]
                  kernel_rfl
            show XQ _ _ _ _ _ _ _ _
            refine XQ.region (by kernel_rfl) ?_
            refine XR.runS E0_ok 1 2 [(7, s0 0 lh0_3.length), (8, ii x8_3), (9, s0 1 lh1_3.length), (10, ii x10_3), (17, s0 2 lh2_3.length), (18, .bool b18_3), (19, ii x77_3), (21, s0 3 lh3_4.length), (22, .bool (cond (List.getD lh1_3 (Int.toNat (orV .i64 x77_3 (shV true .i64 1 x86_4))) false) false b22_4)), (75, s0 1 lh1_3.length), (76, ii x76_3), (77, ii x77_3), (85, ii x85_4), (86, ii (w64 (x86_4 + 1)))] rfl (by kernel_rfl) ?_
            refine XR.done (by kernel_rfl) ?_
            show XL _ _ _ _ _ _ _ _ _
            refine XL.ren (σ' := [(7, s0 0 lh0_3.length), (8, ii x8_3), (9, s0 1 lh1_3.length), (10, ii x10_3), (17, s0 2 lh2_3.length), (18, .bool b18_3), (19, ii x77_3), (21, s0 3 lh3_4.length), (22, .bool (cond (List.getD lh1_3 (Int.toNat (orV .i64 x77_3 (shV true .i64 1 x86_4))) false) false b22_4)), (75, s0 1 lh1_3.length), (76, ii x76_3), (77, ii x77_3), (85, ii x85_4), (86, ii (w64 (x86_4 + 1)))]) (h' := [(3, rc (encI .i64) lh3_4 0 3 1), (2, rc (encI .i64) lh2_3 0 3 1), (1, rc encB lh1_3 0 4 1), (0, rc encP lh0_3 0 61 2)]) (c' := 4) [0, 1, 2, 3] (by decide) rfl ⟨by kernel_rfl, by kernel_rfl, by kernel_rfl, by kernel_rfl, by kernel_rfl, by kernel_rfl, by kernel_rfl, by kernel_rfl, by kernel_rfl, by kernel_rfl, by kernel_rfl, by kernel_rfl, by kernel_rfl, by kernel_rfl, trivial⟩ ⟨⟨_, _, rfl, rfl, .inl ⟨rfl, rowC_scal (encI_ok .i64) _⟩⟩, ⟨_, _, rfl, rfl, .inl ⟨rfl, rowC_scal (encI_ok .i64) _⟩⟩, ⟨_, _, rfl, rfl, .inl ⟨rfl, rowC_scal encB_ok _⟩⟩, ⟨_, _, rfl, rfl, .inl ⟨rfl, rowC_scal encP_ok _⟩⟩, trivial⟩ rfl ?_
            refine XL.conv (f13_4_ok m fuel x8_3 x10_3 b18_3 x76_3 x77_3 lh0_3 lh1_3 lh2_3 (cond (List.getD lh1_3 (Int.toNat (orV .i64 x77_3 (shV true .i64 1 x86_4))) false) false b22_4) x85_4 (w64 (x86_4 + 1)) lh3_4 o h Q hQ) (by first | rfl | simp)
    | false =>
      have h := cF b1 h
      refine XQ.cond (s := (.tmp 87)) (b := false) (by kernel_rfl) (by kernel_rfl) (fun q => by cases q) (fun _ => ?_)
      refine XQ.ren (σ' := [(7, s0 0 lh0_3.length), (8, ii x8_3), (9, s0 1 lh1_3.length), (10, ii x10_3), (17, s0 2 lh2_3.length), (18, .bool b18_3), (21, s0 3 lh3_4.length), (22, .bool b22_4), (75, s0 1 lh1_3.length), (76, ii x76_3), (77, ii x77_3)]) (h' := [(3, rc (encI .i64) lh3_4 0 3 1), (2, rc (encI .i64) lh2_3 0 3 1), (1, rc encB lh1_3 0 4 1), (0, rc encP lh0_3 0 61 2)]) (c' := 4) [0, 1, 2, 3] (by decide) rfl ⟨by kernel_rfl, by kernel_rfl, by kernel_rfl, by kernel_rfl, by kernel_rfl, by kernel_rfl, by kernel_rfl, by kernel_rfl, by kernel_rfl, by kernel_rfl, by kernel_rfl, trivial⟩ ⟨⟨_, _, rfl, rfl, .inl ⟨rfl, rowC_scal (encI_ok .i64) _⟩⟩, ⟨_, _, rfl, rfl, .inl ⟨rfl, rowC_scal (encI_ok .i64) _⟩⟩, ⟨_, _, rfl, rfl, .inl ⟨rfl, rowC_scal encB_ok _⟩⟩, ⟨_, _, rfl, rfl, .inl ⟨rfl, rowC_scal encP_ok _⟩⟩, trivial⟩ rfl ?_
      refine XQ.exit (i := 6) (by kernel_rfl) ?_
      cases h
      exact hQ

inductive Of13_5 where
  | r (x4_r5 : Int) (lh3_r5 : List Int)
  | x0 (lh3_x05 : List Int)

def f13_5 (m : Nat) : Nat → List (Int × Int) → List Bool → List Int → Int → Int → List Int → Option Of13_5
  | 0, _, _, _, _, _, _ => none
  | fuel + 1, lh0_3, lh1_3, lh2_3, x10_5, x11_5, lh3_5 =>
    cond (decide (x11_5 < x10_5)) (
      cond (inRow x11_5 lh3_5.length) (
        cond (decide (x11_5 ≥ ((lh2_3.length : Nat) : Int))) (
          some (.r 1 lh3_5)
        ) (
          cond (inRow x11_5 lh2_3.length) (
            cond ((List.getD lh3_5 (Int.toNat x11_5) 0) != (List.getD lh3_5 (Int.toNat x11_5) 0)) (
              cond ((List.getD lh2_3 (Int.toNat x11_5) 0) != (List.getD lh2_3 (Int.toNat x11_5) 0)) (
                f13_5 m fuel lh0_3 lh1_3 lh2_3 x10_5 (w64 (x11_5 + 1)) lh3_5
              ) (
                some (.r (-1) lh3_5)
              )
            ) (
              cond ((List.getD lh2_3 (Int.toNat x11_5) 0) != (List.getD lh2_3 (Int.toNat x11_5) 0)) (
                some (.r 1 lh3_5)
              ) (
                cond (decide ((List.getD lh3_5 (Int.toNat x11_5) 0) < (List.getD lh2_3 (Int.toNat x11_5) 0))) (
                  some (.r (-1) lh3_5)
                ) (
                  cond (decide ((List.getD lh3_5 (Int.toNat x11_5) 0) > (List.getD lh2_3 (Int.toNat x11_5) 0))) (
                    some (.r 1 lh3_5)
                  ) (
                    f13_5 m fuel lh0_3 lh1_3 lh2_3 x10_5 (w64 (x11_5 + 1)) lh3_5
                  )
                )
              )
            )
          ) none
        )
      ) none
    ) (
      some (.x0 lh3_5)
    )

theorem f13_5_ok (m : Nat) : ∀ (fuel : Nat) (lh0_3 : List (Int × Int)) (lh1_3 : List Bool) (lh2_3 : List Int) (x10_5 : Int) (x11_5 : Int) (lh3_5 : List Int) (o : Of13_5), f13_5 m fuel lh0_3 lh1_3 lh2_3 x10_5 x11_5 lh3_5 = some o → ∀ Q : QP, (match o with | .r x4_r5 lh3_r5 => Q .ret [(4, ii x4_r5)] [(3, rc (encI .i64) lh3_r5 0 3 1), (2, rc (encI .i64) lh2_3 0 3 1), (1, rc encB lh1_3 0 4 1), (0, rc encP lh0_3 0 61 2)] 4 | .x0 lh3_x05 => Q (.exit 0) [(0, s0 3 lh3_x05.length), (1, s0 2 lh2_3.length)] [(3, rc (encI .i64) lh3_x05 0 3 1), (2, rc (encI .i64) lh2_3 0 3 1), (1, rc encB lh1_3 0 4 1), (0, rc encP lh0_3 0 61 2)] 4) → XL E0 36 4 fuel f13_L5 [(0, s0 3 lh3_5.length), (1, s0 2 lh2_3.length), (9, s0 3 lh3_5.length), (10, ii x10_5), (11, ii x11_5)] [(3, rc (encI .i64) lh3_5 0 3 1), (2, rc (encI .i64) lh2_3 0 3 1), (1, rc encB lh1_3 0 4 1), (0, rc encP lh0_3 0 61 2)] 4 Q
  | 0, lh0_3, lh1_3, lh2_3, x10_5, x11_5, lh3_5, o, h, Q, hQ => by cases h
  | fuel + 1, lh0_3, lh1_3, lh2_3, x10_5, x11_5, lh3_5, o, h, Q, hQ => by
    unfold f13_5 at h
    refine XL.succ E0_ok ?_
    refine XQ.seq E0_ok (by kernel_rfl) ?_
    refine XQ.region (by kernel_rfl) ?_
    refine XR.runS E0_ok 1 1 [(0, s0 3 lh3_5.length), (1, s0 2 lh2_3.length), (9, s0 3 lh3_5.length), (10, ii x10_5), (11, ii x11_5), (12, .bool (decide (x11_5 < x10_5)))] rfl (by kernel_rfl) ?_
    refine XR.done (by kernel_rfl) ?_
    show XQ _ _ _ _ _ _ _ _
    refine XQ.seq E0_ok (by kernel_rfl) ?_
    cases b1 : (decide (x11_5 < x10_5) : Bool) with
    | true =>
      have h := cT b1 h
      refine XQ.cond (s := (.tmp 12)) (b := true) (by kernel_rfl) (by kernel_rfl) (fun _ => ?_) (fun q => by cases q)
      refine XQ.skip (by kernel_rfl) ?_
      show XQ _ _ _ _ _ _ _ _
      refine XQ.seq E0_ok (by kernel_rfl) ?_
      refine XQ.block (id := 1) (by kernel_rfl) ?_
      refine XQ.seq E0_ok (by kernel_rfl) ?_
      refine XQ.region (by kernel_rfl) ?_
      refine XR.runS E0_ok 1 1 [(0, s0 3 lh3_5.length), (1, s0 2 lh2_3.length), (9, s0 3 lh3_5.length), (10, ii x10_5), (11, ii x11_5), (13, ii x11_5)] rfl (by kernel_rfl) ?_
      cases b2 : (inRow x11_5 lh3_5.length : Bool) with
      | false => cases (cF b2 h)
      | true =>
        have h := cT b2 h
        refine XR.rd E0_ok [0, 1, 9, 10, 11, 13, 14] rfl (v := pp 3 ((Int.toNat x11_5) * 1)) (v_idx (s := 1) (x := (src 36 (.tmp 9))) (y := (src 36 (.tmp 11))) (b := 3) (o := 0) (len := lh3_5.length) (cap := lh3_5.length) (ik := .i64) (i := x11_5) (off := (Int.toNat x11_5) * 1) (d := (some (path 12 14))) (by kernel_rfl) (by kernel_rfl) (by kernel_rfl) b2 (by omega)) (σ' := [(0, s0 3 lh3_5.length), (1, s0 2 lh2_3.length), (9, s0 3 lh3_5.length), (10, ii x10_5), (11, ii x11_5), (13, ii x11_5), (14, pp 3 ((Int.toNat x11_5) * 1))]) (by kernel_rfl) ?_
        refine XR.rd E0_ok [0, 1, 9, 10, 11, 13, 15] rfl (v := ii (List.getD lh3_5 (Int.toNat x11_5) 0)) (v_load1 (encI_ok .i64) (x := (src 36 (.tmp 14))) (b := 3) (off := (Int.toNat x11_5) * 1) (xs := lh3_5) (fz := 0) (e := 3) (es := 1) (d := (some (path 12 15))) (by kernel_rfl) (by kernel_rfl) (by kernel_rfl) (Int.toNat x11_5) 0 0 (by first | rfl | omega) (row_len (inRow_toNat b2) (by simp)) rfl rfl) (σ' := [(0, s0 3 lh3_5.length), (1, s0 2 lh2_3.length), (9, s0 3 lh3_5.length), (10, ii x10_5), (11, ii x11_5), (13, ii x11_5), (15, ii (List.getD lh3_5 (Int.toNat x11_5) 0))]) (by kernel_rfl) ?_
        refine XR.runS E0_ok 1 2 [(0, s0 3 lh3_5.length), (1, s0 2 lh2_3.length), (5, ii x11_5), (6, ii (List.getD lh3_5 (Int.toNat x11_5) 0)), (9, s0 3 lh3_5.length), (10, ii x10_5), (11, ii x11_5)] rfl (by kernel_rfl) ?_
        refine XR.done (by kernel_rfl) ?_
        show XQ _ _ _ _ _ _ _ _
        refine XQ.seq E0_ok (by kernel_rfl) ?_
        refine XQ.seq E0_ok (by kernel_rfl) ?_
        refine XQ.region (by kernel_rfl) ?_
        refine XR.runS E0_ok 1 4 [(0, s0 3 lh3_5.length), (1, s0 2 lh2_3.length), (5, ii x11_5), (6, ii (List.getD lh3_5 (Int.toNat x11_5) 0)), (9, s0 3 lh3_5.length), (10, ii x10_5), (11, ii x11_5), (19, .bool (decide (x11_5 ≥ ((lh2_3.length : Nat) : Int))))] rfl (by kernel_rfl) ?_
        refine XR.done (by kernel_rfl) ?_
        show XQ _ _ _ _ _ _ _ _
        cases b3 : (decide (x11_5 ≥ ((lh2_3.length : Nat) : Int)) : Bool) with
        | true =>
          have h := cT b3 h
          refine XQ.cond (s := (.tmp 19)) (b := true) (by kernel_rfl) (by kernel_rfl) (fun _ => ?_) (fun q => by cases q)
          refine XQ.seq E0_ok (by kernel_rfl) ?_
          refine XQ.region (by kernel_rfl) ?_
          refine XR.runS E0_ok 1 1 [(4, ii 1)] rfl (by kernel_rfl) ?_
          refine XR.done (by kernel_rfl) ?_
          show XQ _ _ _ _ _ _ _ _
          refine XQ.ren (σ' := [(4, ii 1)]) (h' := [(3, rc (encI .i64) lh3_5 0 3 1), (2, rc (encI .i64) lh2_3 0 3 1), (1, rc encB lh1_3 0 4 1), (0, rc encP lh0_3 0 61 2)]) (c' := 4) [0, 1, 2, 3] (by decide) rfl ⟨by kernel_rfl, trivial⟩ ⟨⟨_, _, rfl, rfl, .inl ⟨rfl, rowC_scal (encI_ok .i64) _⟩⟩, ⟨_, _, rfl, rfl, .inl ⟨rfl, rowC_scal (encI_ok .i64) _⟩⟩, ⟨_, _, rfl, rfl, .inl ⟨rfl, rowC_scal encB_ok _⟩⟩, ⟨_, _, rfl, rfl, .inl ⟨rfl, rowC_scal encP_ok _⟩⟩, trivial⟩ rfl ?_
          refine XQ.ret (by kernel_rfl) ?_
          cases h
          exact hQ
        | false =>
          have h := cF b3 h
          refine XQ.cond (s := (.tmp 19)) (b := false) (by kernel_rfl) (by kernel_rfl) (fun q => by cases q) (fun _ => ?_)
          refine XQ.skip (by kernel_rfl) ?_
          show XQ _ _ _ _ _ _ _ _
          refine XQ.seq E0_ok (by kernel_rfl) ?_
          refine XQ.region (by kernel_rfl) ?_
          refine XR.runS E0_ok 1 2 [(0, s0 3 lh3_5.length), (1, s0 2 lh2_3.length), (6, ii (List.getD lh3_5 (Int.toNat x11_5) 0)), (9, s0 3 lh3_5.length), (10, ii x10_5), (11, ii x11_5), (20, s0 2 lh2_3.length), (21, ii x11_5)] rfl (by kernel_rfl) ?_
          cases b4 : (inRow x11_5 lh2_3.length : Bool) with
          | false => cases (cF b4 h)
          | true =>
            have h := cT b4 h
            refine XR.rd E0_ok [0, 1, 6, 9, 10, 11, 22] rfl (v := pp 2 ((Int.toNat x11_5) * 1)) (v_idx (s := 1) (x := (src 36 (.tmp 20))) (y := (src 36 (.tmp 21))) (b := 2) (o := 0) (len := lh2_3.length) (cap := lh2_3.length) (ik := .i64) (i := x11_5) (off := (Int.toNat x11_5) * 1) (d := (some (path 12 22))) (by kernel_rfl) (by kernel_rfl) (by kernel_rfl) b4 (by omega)) (σ' := [(0, s0 3 lh3_5.length), (1, s0 2 lh2_3.length), (6, ii (List.getD lh3_5 (Int.toNat x11_5) 0)), (9, s0 3 lh3_5.length), (10, ii x10_5), (11, ii x11_5), (22, pp 2 ((Int.toNat x11_5) * 1))]) (by kernel_rfl) ?_
            refine XR.rd E0_ok [0, 1, 6, 9, 10, 11, 23] rfl (v := ii (List.getD lh2_3 (Int.toNat x11_5) 0)) (v_load1 (encI_ok .i64) (x := (src 36 (.tmp 22))) (b := 2) (off := (Int.toNat x11_5) * 1) (xs := lh2_3) (fz := 0) (e := 3) (es := 1) (d := (some (path 12 23))) (by kernel_rfl) (by kernel_rfl) (by kernel_rfl) (Int.toNat x11_5) 0 0 (by first | rfl | omega) (row_len (inRow_toNat b4) (by simp)) rfl rfl) (σ' := [(0, s0 3 lh3_5.length), (1, s0 2 lh2_3.length), (6, ii (List.getD lh3_5 (Int.toNat x11_5) 0)), (9, s0 3 lh3_5.length), (10, ii x10_5), (11, ii x11_5), (23, ii (List.getD lh2_3 (Int.toNat x11_5) 0))]) (by kernel_rfl) ?_
            refine XR.runS E0_ok 1 1 [(0, s0 3 lh3_5.length), (1, s0 2 lh2_3.length), (6, ii (List.getD lh3_5 (Int.toNat x11_5) 0)), (7, ii (List.getD lh2_3 (Int.toNat x11_5) 0)), (9, s0 3 lh3_5.length), (10, ii x10_5), (11, ii x11_5)] rfl (by kernel_rfl) ?_
            refine XR.done (by kernel_rfl) ?_
            show XQ _ _ _ _ _ _ _ _
            refine XQ.seq E0_ok (by kernel_rfl) ?_
            refine XQ.region (by kernel_rfl) ?_
            refine XR.runS E0_ok 1 2 [(0, s0 3 lh3_5.length), (1, s0 2 lh2_3.length), (9, s0 3 lh3_5.length), (10, ii x10_5), (11, ii x11_5), (24, ii (List.getD lh3_5 (Int.toNat x11_5) 0)), (25, ii (List.getD lh2_3 (Int.toNat x11_5) 0))] rfl (by kernel_rfl) ?_
            refine XR.callK E0_ok [0, 1, 9, 10, 11, 26] rfl (K := 86) (args := [ii (List.getD lh3_5 (Int.toNat x11_5) 0), ii (List.getD lh2_3 (Int.toNat x11_5) 0)]) (d := (some (path 12 26))) (by kernel_rfl) ?_
            refine KC.bodyN E0_ok (F := Proofs.Try.f86) (by kernel_rfl) (code := f13_C86) (by kernel_rfl) (nt := 20) (by kernel_rfl) (rs := [.tmp 4]) (by kernel_rfl) (by kernel_rfl) (σ := [(0, ii (List.getD lh3_5 (Int.toNat x11_5) 0)), (1, ii (List.getD lh2_3 (Int.toNat x11_5) 0))]) (by kernel_rfl) ?_
            refine XQ.seq E0_ok (by kernel_rfl) ?_
            refine XQ.region (by kernel_rfl) ?_
            refine XR.runS E0_ok 1 1 [(0, ii (List.getD lh3_5 (Int.toNat x11_5) 0)), (1, ii (List.getD lh2_3 (Int.toNat x11_5) 0))] rfl (by kernel_rfl) ?_
            refine XR.done (by kernel_rfl) ?_
            show XQ _ _ _ _ _ _ _ _
            refine XQ.seq E0_ok (by kernel_rfl) ?_
            refine XQ.region (by kernel_rfl) ?_
            refine XR.runS E0_ok 1 1 [(0, ii (List.getD lh3_5 (Int.toNat x11_5) 0)), (1, ii (List.getD lh2_3 (Int.toNat x11_5) 0)), (7, ii (List.getD lh3_5 (Int.toNat x11_5) 0))] rfl (by kernel_rfl) ?_
            refine XR.callK E0_ok [0, 1, 8] rfl (K := 96) (args := [ii (List.getD lh3_5 (Int.toNat x11_5) 0)]) (d := (some (path 12 8))) (by kernel_rfl) ?_
            refine KC.bodyN E0_ok (F := Proofs.Try.f96) (by kernel_rfl) (code := f13_C96) (by kernel_rfl) (nt := 6) (by kernel_rfl) (rs := [.tmp 2]) (by kernel_rfl) (by kernel_rfl) (σ := [(0, ii (List.getD lh3_5 (Int.toNat x11_5) 0))]) (by kernel_rfl) ?_
            refine XQ.seq E0_ok (by kernel_rfl) ?_
            refine XQ.region (by kernel_rfl) ?_
            refine XR.runS E0_ok 1 1 [(0, ii (List.getD lh3_5 (Int.toNat x11_5) 0))] rfl (by kernel_rfl) ?_
            refine XR.done (by kernel_rfl) ?_
            show XQ _ _ _ _ _ _ _ _
            refine XQ.seq E0_ok (by kernel_rfl) ?_
            refine XQ.region (by kernel_rfl) ?_
            refine XR.runS E0_ok 1 4 [(2, .bool ((List.getD lh3_5 (Int.toNat x11_5) 0) != (List.getD lh3_5 (Int.toNat x11_5) 0)))] rfl (by kernel_rfl) ?_
            refine XR.done (by kernel_rfl) ?_
            show XQ _ _ _ _ _ _ _ _
            refine XQ.ret (by kernel_rfl) ?_
            refine ⟨fun i q => (by cases q), .bool ((List.getD lh3_5 (Int.toNat x11_5) 0) != (List.getD lh3_5 (Int.toNat x11_5) 0)), (by kernel_rfl), ?_⟩
            refine XR.conv (σ' := [(0, ii (List.getD lh3_5 (Int.toNat x11_5) 0)), (1, ii (List.getD lh2_3 (Int.toNat x11_5) 0)), (8, .bool ((List.getD lh3_5 (Int.toNat x11_5) 0) != (List.getD lh3_5 (Int.toNat x11_5) 0)))]) (h' := [(3, rc (encI .i64) lh3_5 0 3 1), (2, rc (encI .i64) lh2_3 0 3 1), (1, rc encB lh1_3 0 4 1), (0, rc encP lh0_3 0 61 2)]) (c' := 4) ?_ (by kernel_rfl)
            refine XR.runS E0_ok 1 1 [(0, ii (List.getD lh3_5 (Int.toNat x11_5) 0)), (1, ii (List.getD lh2_3 (Int.toNat x11_5) 0)), (5, .bool ((List.getD lh3_5 (Int.toNat x11_5) 0) != (List.getD lh3_5 (Int.toNat x11_5) 0)))] rfl (by kernel_rfl) ?_
            refine XR.done (by kernel_rfl) ?_
            show XQ _ _ _ _ _ _ _ _
            refine XQ.seq E0_ok (by kernel_rfl) ?_
            refine XQ.region (by kernel_rfl) ?_
            refine XR.runS E0_ok 1 1 [(0, ii (List.getD lh3_5 (Int.toNat x11_5) 0)), (1, ii (List.getD lh2_3 (Int.toNat x11_5) 0)), (5, .bool ((List.getD lh3_5 (Int.toNat x11_5) 0) != (List.getD lh3_5 (Int.toNat x11_5) 0))), (9, ii (List.getD lh2_3 (Int.toNat x11_5) 0))] rfl (by kernel_rfl) ?_
            refine XR.callK E0_ok [0, 1, 5, 10] rfl (K := 96) (args := [ii (List.getD lh2_3 (Int.toNat x11_5) 0)]) (d := (some (path 12 10))) (by kernel_rfl) ?_
            refine KC.bodyN E0_ok (F := Proofs.Try.f96) (by kernel_rfl) (code := f13_C96) (by kernel_rfl) (nt := 6) (by kernel_rfl) (rs := [.tmp 2]) (by kernel_rfl) (by kernel_rfl) (σ := [(0, ii (List.getD lh2_3 (Int.toNat x11_5) 0))]) (by kernel_rfl) ?_
            refine XQ.seq E0_ok (by kernel_rfl) ?_
            refine XQ.region (by kernel_rfl) ?_
            refine XR.runS E0_ok 1 1 [(0, ii (List.getD lh2_3 (Int.toNat x11_5) 0))] rfl (by kernel_rfl) ?_
            refine XR.done (by kernel_rfl) ?_
            show XQ _ _ _ _ _ _ _ _
            refine XQ.seq E0_ok (by kernel_rfl) ?_
            refine XQ.region (by kernel_rfl) ?_
            refine XR.runS E0_ok 1 4 [(2, .bool ((List.getD lh2_3 (Int.toNat x11_5) 0) != (List.getD lh2_3 (Int.toNat x11_5) 0)))] rfl (by kernel_rfl) ?_
            refine XR.done (by kernel_rfl) ?_
            show XQ _ _ _ _ _ _ _ _
            refine XQ.ret (by kernel_rfl) ?_
            refine ⟨fun i q => (by cases q), .bool ((List.getD lh2_3 (Int.toNat x11_5) 0) != (List.getD lh2_3 (Int.toNat x11_5) 0)), (by kernel_rfl), ?_⟩
            refine XR.conv (σ' := [(0, ii (List.getD lh3_5 (Int.toNat x11_5) 0)), (1, ii (List.getD lh2_3 (Int.toNat x11_5) 0)), (5, .bool ((List.getD lh3_5 (Int.toNat x11_5) 0) != (List.getD lh3_5 (Int.toNat x11_5) 0))), (10, .bool ((List.getD lh2_3 (Int.toNat x11_5) 0) != (List.getD lh2_3 (Int.toNat x11_5) 0)))]) (h' := [(3, rc (encI .i64) lh3_5 0 3 1), (2, rc (encI .i64) lh2_3 0 3 1), (1, rc encB lh1_3 0 4 1), (0, rc encP lh0_3 0 61 2)]) (c' := 4) ?_ (by kernel_rfl)
            refine XR.runS E0_ok 1 1 [(0, ii (List.getD lh3_5 (Int.toNat x11_5) 0)), (1, ii (List.getD lh2_3 (Int.toNat x11_5) 0)), (5, .bool ((List.getD lh3_5 (Int.toNat x11_5) 0) != (List.getD lh3_5 (Int.toNat x11_5) 0))), (6, .bool ((List.getD lh2_3 (Int.toNat x11_5) 0) != (List.getD lh2_3 (Int.toNat x11_5) 0)))] rfl (by kernel_rfl) ?_
            refine XR.done (by kernel_rfl) ?_
            show XQ _ _ _ _ _ _ _ _
            refine XQ.seq E0_ok (by kernel_rfl) ?_
            refine XQ.seq E0_ok (by kernel_rfl) ?_
            refine XQ.region (by kernel_rfl) ?_
            refine XR.runS E0_ok 1 1 [(0, ii (List.getD lh3_5 (Int.toNat x11_5) 0)), (1, ii (List.getD lh2_3 (Int.toNat x11_5) 0)), (6, .bool ((List.getD lh2_3 (Int.toNat x11_5) 0) != (List.getD lh2_3 (Int.toNat x11_5) 0))), (11, .bool ((List.getD lh3_5 (Int.toNat x11_5) 0) != (List.getD lh3_5 (Int.toNat x11_5) 0)))] rfl (by kernel_rfl) ?_
            refine XR.done (by kernel_rfl) ?_
            show XQ _ _ _ _ _ _ _ _
            cases b5 : ((List.getD lh3_5 (Int.toNat x11_5) 0) != (List.getD lh3_5 (Int.toNat x11_5) 0) : Bool) with
            | true =>
              have h := cT b5 h
              refine XQ.cond (s := (.tmp 11)) (b := true) (by kernel_rfl) (by kernel_rfl) (fun _ => ?_) (fun q => by cases q)
              refine XQ.seq E0_ok (by kernel_rfl) ?_
              refine XQ.seq E0_ok (by kernel_rfl) ?_
              refine XQ.region (by kernel_rfl) ?_
              refine XR.runS E0_ok 1 1 [(12, .bool ((List.getD lh2_3 (Int.toNat x11_5) 0) != (List.getD lh2_3 (Int.toNat x11_5) 0)))] rfl (by kernel_rfl) ?_
              refine XR.done (by kernel_rfl) ?_
              show XQ _ _ _ _ _ _ _ _
              cases b6 : ((List.getD lh2_3 (Int.toNat x11_5) 0) != (List.getD lh2_3 (Int.toNat x11_5) 0) : Bool) with
              | true =>
                have h := cT b6 h
                refine XQ.cond (s := (.tmp 12)) (b := true) (by kernel_rfl) (by kernel_rfl) (fun _ => ?_) (fun q => by cases q)
                refine XQ.seq E0_ok (by kernel_rfl) ?_
                refine XQ.region (by kernel_rfl) ?_
                refine XR.runS E0_ok 1 1 [(4, ii 0)] rfl (by kernel_rfl) ?_
                refine XR.done (by kernel_rfl) ?_
                show XQ _ _ _ _ _ _ _ _
                refine XQ.ret (by kernel_rfl) ?_
                refine ⟨fun i q => (by cases q), ii 0, (by kernel_rfl), ?_⟩
                refine XR.conv (σ' := [(0, s0 3 lh3_5.length), (1, s0 2 lh2_3.length), (9, s0 3 lh3_5.length), (10, ii x10_5), (11, ii x11_5), (26, ii 0)]) (h' := [(3, rc (encI .i64) lh3_5 0 3 1), (2, rc (encI .i64) lh2_3 0 3 1), (1, rc encB lh1_3 0 4 1), (0, rc encP lh0_3 0 61 2)]) (c' := 4) ?_ (by kernel_rfl)
                refine XR.runS E0_ok 1 1 [(0, s0 3 lh3_5.length), (1, s0 2 lh2_3.length), (8, ii 0), (9, s0 3 lh3_5.length), (10, ii x10_5), (11, ii x11_5)] rfl (by kernel_rfl) ?_
                refine XR.done (by kernel_rfl) ?_
                show XQ _ _ _ _ _ _ _ _
                refine XQ.seq E0_ok (by kernel_rfl) ?_
                refine XQ.region (by kernel_rfl) ?_
                refine XR.runS E0_ok 1 2 [(0, s0 3 lh3_5.length), (1, s0 2 lh2_3.length), (8, ii 0), (9, s0 3 lh3_5.length), (10, ii x10_5), (11, ii x11_5), (28, .bool false)] rfl (by kernel_rfl) ?_
                refine XR.done (by kernel_rfl) ?_
                show XQ _ _ _ _ _ _ _ _
                refine XQ.cond (s := (.tmp 28)) (b := false) (by kernel_rfl) (by kernel_rfl) (fun q => by cases q) (fun _ => ?_)
                refine XQ.skip (by kernel_rfl) ?_
                show XQ _ _ _ _ _ _ _ _
                refine XQ.region (by kernel_rfl) ?_
                refine XR.runS E0_ok 1 2 [(0, s0 3 lh3_5.length), (1, s0 2 lh2_3.length), (9, s0 3 lh3_5.length), (10, ii x10_5), (11, ii (w64 (x11_5 + 1)))] rfl (by kernel_rfl) ?_
                refine XR.done (by kernel_rfl) ?_
                show XL _ _ _ _ _ _ _ _ _
                refine XL.ren (σ' := [(0, s0 3 lh3_5.length), (1, s0 2 lh2_3.length), (9, s0 3 lh3_5.length), (10, ii x10_5), (11, ii (w64 (x11_5 + 1)))]) (h' := [(3, rc (encI .i64) lh3_5 0 3 1), (2, rc (encI .i64) lh2_3 0 3 1), (1, rc encB lh1_3 0 4 1), (0, rc encP lh0_3 0 61 2)]) (c' := 4) [0, 1, 2, 3] (by decide) rfl ⟨by kernel_rfl, by kernel_rfl, by kernel_rfl, by kernel_rfl, by kernel_rfl, trivial⟩ ⟨⟨_, _, rfl, rfl, .inl ⟨rfl, rowC_scal (encI_ok .i64) _⟩⟩, ⟨_, _, rfl, rfl, .inl ⟨rfl, rowC_scal (encI_ok .i64) _⟩⟩, ⟨_, _, rfl, rfl, .inl ⟨rfl, rowC_scal encB_ok _⟩⟩, ⟨_, _, rfl, rfl, .inl ⟨rfl, rowC_scal encP_ok _⟩⟩, trivial⟩ rfl ?_
                refine XL.conv (f13_5_ok m fuel lh0_3 lh1_3 lh2_3 x10_5 (w64 (x11_5 + 1)) lh3_5 o h Q hQ) (by first | rfl | simp)
              | false =>
                have h := cF b6 h
                refine XQ.cond (s := (.tmp 12)) (b := false) (by kernel_rfl) (by kernel_rfl) (fun q => by cases q) (fun _ => ?_)
                refine XQ.skip (by kernel_rfl) ?_
                show XQ _ _ _ _ _ _ _ _
                refine XQ.seq E0_ok (by kernel_rfl) ?_
                refine XQ.region (by kernel_rfl) ?_
                refine XR.runS E0_ok 1 1 [(4, ii (-1))] rfl (by kernel_rfl) ?_
                refine XR.done (by kernel_rfl) ?_
                show XQ _ _ _ _ _ _ _ _
                refine XQ.ret (by kernel_rfl) ?_
                refine ⟨fun i q => (by cases q), ii (-1), (by kernel_rfl), ?_⟩
                refine XR.conv (σ' := [(0, s0 3 lh3_5.length), (1, s0 2 lh2_3.length), (9, s0 3 lh3_5.length), (10, ii x10_5), (11, ii x11_5), (26, ii (-1))]) (h' := [(3, rc (encI .i64) lh3_5 0 3 1), (2, rc (encI .i64) lh2_3 0 3 1), (1, rc encB lh1_3 0 4 1), (0, rc encP lh0_3 0 61 2)]) (c' := 4) ?_ (by kernel_rfl)
                refine XR.runS E0_ok 1 1 [(0, s0 3 lh3_5.length), (1, s0 2 lh2_3.length), (8, ii (-1)), (9, s0 3 lh3_5.length), (10, ii x10_5), (11, ii x11_5)] rfl (by kernel_rfl) ?_
                refine XR.done (by kernel_rfl) ?_
                show XQ _ _ _ _ _ _ _ _
                refine XQ.seq E0_ok (by kernel_rfl) ?_
                refine XQ.region (by kernel_rfl) ?_
                refine XR.runS E0_ok 1 2 [(0, s0 3 lh3_5.length), (1, s0 2 lh2_3.length), (8, ii (-1)), (9, s0 3 lh3_5.length), (10, ii x10_5), (11, ii x11_5), (28, .bool true)] rfl (by kernel_rfl) ?_
                refine XR.done (by kernel_rfl) ?_
                show XQ _ _ _ _ _ _ _ _
                refine XQ.cond (s := (.tmp 28)) (b := true) (by kernel_rfl) (by kernel_rfl) (fun _ => ?_) (fun q => by cases q)
                refine XQ.seq E0_ok (by kernel_rfl) ?_
                refine XQ.region (by kernel_rfl) ?_
                refine XR.runS E0_ok 1 2 [(4, ii (-1))] rfl (by kernel_rfl) ?_
                refine XR.done (by kernel_rfl) ?_
                show XQ _ _ _ _ _ _ _ _
                refine XQ.ren (σ' := [(4, ii (-1))]) (h' := [(3, rc (encI .i64) lh3_5 0 3 1), (2, rc (encI .i64) lh2_3 0 3 1), (1, rc encB lh1_3 0 4 1), (0, rc encP lh0_3 0 61 2)]) (c' := 4) [0, 1, 2, 3] (by decide) rfl ⟨by kernel_rfl, trivial⟩ ⟨⟨_, _, rfl, rfl, .inl ⟨rfl, rowC_scal (encI_ok .i64) _⟩⟩, ⟨_, _, rfl, rfl, .inl ⟨rfl, rowC_scal (encI_ok .i64) _⟩⟩, ⟨_, _, rfl, rfl, .inl ⟨rfl, rowC_scal encB_ok _⟩⟩, ⟨_, _, rfl, rfl, .inl ⟨rfl, rowC_scal encP_ok _⟩⟩, trivial⟩ rfl ?_
                refine XQ.ret (by kernel_rfl) ?_
                cases h
                exact hQ
            | false =>
              have h := cF b5 h
              refine XQ.cond (s := (.tmp 11)) (b := false) (by kernel_rfl) (by kernel_rfl) (fun q => by cases q) (fun _ => ?_)
              refine XQ.skip (by kernel_rfl) ?_
              show XQ _ _ _ _ _ _ _ _
              refine XQ.seq E0_ok (by kernel_rfl) ?_
              refine XQ.seq E0_ok (by kernel_rfl) ?_
              refine XQ.region (by kernel_rfl) ?_
              refine XR.runS E0_ok 1 1 [(0, ii (List.getD lh3_5 (Int.toNat x11_5) 0)), (1, ii (List.getD lh2_3 (Int.toNat x11_5) 0)), (13, .bool ((List.getD lh2_3 (Int.toNat x11_5) 0) != (List.getD lh2_3 (Int.toNat x11_5) 0)))] rfl (by kernel_rfl) ?_
              refine XR.done (by kernel_rfl) ?_
              show XQ _ _ _ _ _ _ _ _
              cases b7 : ((List.getD lh2_3 (Int.toNat x11_5) 0) != (List.getD lh2_3 (Int.toNat x11_5) 0) : Bool) with
              | true =>
                have h := cT b7 h
                refine XQ.cond (s := (.tmp 13)) (b := true) (by kernel_rfl) (by kernel_rfl) (fun _ => ?_) (fun q => by cases q)
                refine XQ.seq E0_ok (by kernel_rfl) ?_
                refine XQ.region (by kernel_rfl) ?_
                refine XR.runS E0_ok 1 1 [(4, ii 1)] rfl (by kernel_rfl) ?_
                refine XR.done (by kernel_rfl) ?_
                show XQ _ _ _ _ _ _ _ _
                refine XQ.ret (by kernel_rfl) ?_
                refine ⟨fun i q => (by cases q), ii 1, (by kernel_rfl), ?_⟩
                refine XR.conv (σ' := [(0, s0 3 lh3_5.length), (1, s0 2 lh2_3.length), (9, s0 3 lh3_5.length), (10, ii x10_5), (11, ii x11_5), (26, ii 1)]) (h' := [(3, rc (encI .i64) lh3_5 0 3 1), (2, rc (encI .i64) lh2_3 0 3 1), (1, rc encB lh1_3 0 4 1), (0, rc encP lh0_3 0 61 2)]) (c' := 4) ?_ (by kernel_rfl)
                refine XR.runS E0_ok 1 1 [(0, s0 3 lh3_5.length), (1, s0 2 lh2_3.length), (8, ii 1), (9, s0 3 lh3_5.length), (10, ii x10_5), (11, ii x11_5)] rfl (by kernel_rfl) ?_
                refine XR.done (by kernel_rfl) ?_
                show XQ _ _ _ _ _ _ _ _
                refine XQ.seq E0_ok (by kernel_rfl) ?_
                refine XQ.region (by kernel_rfl) ?_
                refine XR.runS E0_ok 1 2 [(0, s0 3 lh3_5.length), (1, s0 2 lh2_3.length), (8, ii 1), (9, s0 3 lh3_5.length), (10, ii x10_5), (11, ii x11_5), (28, .bool true)] rfl (by kernel_rfl) ?_
                refine XR.done (by kernel_rfl) ?_
                show XQ _ _ _ _ _ _ _ _
                refine XQ.cond (s := (.tmp 28)) (b := true) (by kernel_rfl) (by kernel_rfl) (fun _ => ?_) (fun q => by cases q)
                refine XQ.seq E0_ok (by kernel_rfl) ?_
                refine XQ.region (by kernel_rfl) ?_
                refine XR.runS E0_ok 1 2 [(4, ii 1)] rfl (by kernel_rfl) ?_
                refine XR.done (by kernel_rfl) ?_
                show XQ _ _ _ _ _ _ _ _
                refine XQ.ren (σ' := [(4, ii 1)]) (h' := [(3, rc (encI .i64) lh3_5 0 3 1), (2, rc (encI .i64) lh2_3 0 3 1), (1, rc encB lh1_3 0 4 1), (0, rc encP lh0_3 0 61 2)]) (c' := 4) [0, 1, 2, 3] (by decide) rfl ⟨by kernel_rfl, trivial⟩ ⟨⟨_, _, rfl, rfl, .inl ⟨rfl, rowC_scal (encI_ok .i64) _⟩⟩, ⟨_, _, rfl, rfl, .inl ⟨rfl, rowC_scal (encI_ok .i64) _⟩⟩, ⟨_, _, rfl, rfl, .inl ⟨rfl, rowC_scal encB_ok _⟩⟩, ⟨_, _, rfl, rfl, .inl ⟨rfl, rowC_scal encP_ok _⟩⟩, trivial⟩ rfl ?_
                refine XQ.ret (by kernel_rfl) ?_
                cases h
                exact hQ
              | false =>
                have h := cF b7 h
                refine XQ.cond (s := (.tmp 13)) (b := false) (by kernel_rfl) (by kernel_rfl) (fun q => by cases q) (fun _ => ?_)
                refine XQ.skip (by kernel_rfl) ?_
                show XQ _ _ _ _ _ _ _ _
                refine XQ.seq E0_ok (by kernel_rfl) ?_
                refine XQ.seq E0_ok (by kernel_rfl) ?_
                refine XQ.region (by kernel_rfl) ?_
                refine XR.runS E0_ok 1 3 [(0, ii (List.getD lh3_5 (Int.toNat x11_5) 0)), (1, ii (List.getD lh2_3 (Int.toNat x11_5) 0)), (16, .bool (decide ((List.getD lh3_5 (Int.toNat x11_5) 0) < (List.getD lh2_3 (Int.toNat x11_5) 0))))] rfl (by kernel_rfl) ?_
                refine XR.done (by kernel_rfl) ?_
                show XQ _ _ _ _ _ _ _ _
                cases b8 : (decide ((List.getD lh3_5 (Int.toNat x11_5) 0) < (List.getD lh2_3 (Int.toNat x11_5) 0)) : Bool) with
                | true =>
                  have h := cT b8 h
                  refine XQ.cond (s := (.tmp 16)) (b := true) (by kernel_rfl) (by kernel_rfl) (fun _ => ?_) (fun q => by cases q)
                  refine XQ.seq E0_ok (by kernel_rfl) ?_
                  refine XQ.region (by kernel_rfl) ?_
                  refine XR.runS E0_ok 1 1 [(4, ii (-1))] rfl (by kernel_rfl) ?_
                  refine XR.done (by kernel_rfl) ?_
                  show XQ _ _ _ _ _ _ _ _
                  refine XQ.ret (by kernel_rfl) ?_
                  refine ⟨fun i q => (by cases q), ii (-1), (by kernel_rfl), ?_⟩
                  refine XR.conv (σ' := [(0, s0 3 lh3_5.length), (1, s0 2 lh2_3.length), (9, s0 3 lh3_5.length), (10, ii x10_5), (11, ii x11_5), (26, ii (-1))]) (h' := [(3, rc (encI .i64) lh3_5 0 3 1), (2, rc (encI .i64) lh2_3 0 3 1), (1, rc encB lh1_3 0 4 1), (0, rc encP lh0_3 0 61 2)]) (c' := 4) ?_ (by kernel_rfl)
                  refine XR.runS E0_ok 1 1 [(0, s0 3 lh3_5.length), (1, s0 2 lh2_3.length), (8, ii (-1)), (9, s0 3 lh3_5.length), (10, ii x10_5), (11, ii x11_5)] rfl (by kernel_rfl) ?_
                  refine XR.done (by kernel_rfl) ?_
                  show XQ _ _ _ _ _ _ _ _
                  refine XQ.seq E0_ok (by kernel_rfl) ?_
                  refine XQ.region (by kernel_rfl) ?_
                  refine XR.runS E0_ok 1 2 [(0, s0 3 lh3_5.length), (1, s0 2 lh2_3.length), (8, ii (-1)), (9, s0 3 lh3_5.length), (10, ii x10_5), (11, ii x11_5), (28, .bool true)] rfl (by kernel_rfl) ?_
                  refine XR.done (by kernel_rfl) ?_
                  show XQ _ _ _ _ _ _ _ _
                  refine XQ.cond (s := (.tmp 28)) (b := true) (by kernel_rfl) (by kernel_rfl) (fun _ => ?_) (fun q => by cases q)
                  refine XQ.seq E0_ok (by kernel_rfl) ?_
                  refine XQ.region (by kernel_rfl) ?_
                  refine XR.runS E0_ok 1 2 [(4, ii (-1))] rfl (by kernel_rfl) ?_
                  refine XR.done (by kernel_rfl) ?_
                  show XQ _ _ _ _ _ _ _ _
                  refine XQ.ren (σ' := [(4, ii (-1))]) (h' := [(3, rc (encI .i64) lh3_5 0 3 1), (2, rc (encI .i64) lh2_3 0 3 1), (1, rc encB lh1_3 0 4 1), (0, rc encP lh0_3 0 61 2)]) (c' := 4) [0, 1, 2, 3] (by decide) rfl ⟨by kernel_rfl, trivial⟩ ⟨⟨_, _, rfl, rfl, .inl ⟨rfl, rowC_scal (encI_ok .i64) _⟩⟩, ⟨_, _, rfl, rfl, .inl ⟨rfl, rowC_scal (encI_ok .i64) _⟩⟩, ⟨_, _, rfl, rfl, .inl ⟨rfl, rowC_scal encB_ok _⟩⟩, ⟨_, _, rfl, rfl, .inl ⟨rfl, rowC_scal encP_ok _⟩⟩, trivial⟩ rfl ?_
                  refine XQ.ret (by kernel_rfl) ?_
                  cases h
                  exact hQ
                | false =>
                  have h := cF b8 h
                  refine XQ.cond (s := (.tmp 16)) (b := false) (by kernel_rfl) (by kernel_rfl) (fun q => by cases q) (fun _ => ?_)
                  refine XQ.skip (by kernel_rfl) ?_
                  show XQ _ _ _ _ _ _ _ _
                  refine XQ.seq E0_ok (by kernel_rfl) ?_
                  refine XQ.seq E0_ok (by kernel_rfl) ?_
                  refine XQ.region (by kernel_rfl) ?_
                  refine XR.runS E0_ok 1 3 [(19, .bool (decide ((List.getD lh3_5 (Int.toNat x11_5) 0) > (List.getD lh2_3 (Int.toNat x11_5) 0))))] rfl (by kernel_rfl) ?_
                  refine XR.done (by kernel_rfl) ?_
                  show XQ _ _ _ _ _ _ _ _
                  cases b9 : (decide ((List.getD lh3_5 (Int.toNat x11_5) 0) > (List.getD lh2_3 (Int.toNat x11_5) 0)) : Bool) with
                  | true =>
                    have h := cT b9 h
                    refine XQ.cond (s := (.tmp 19)) (b := true) (by kernel_rfl) (by kernel_rfl) (fun _ => ?_) (fun q => by cases q)
                    refine XQ.seq E0_ok (by kernel_rfl) ?_
                    refine XQ.region (by kernel_rfl) ?_
                    refine XR.runS E0_ok 1 1 [(4, ii 1)] rfl (by kernel_rfl) ?_
                    refine XR.done (by kernel_rfl) ?_
                    show XQ _ _ _ _ _ _ _ _
                    refine XQ.ret (by kernel_rfl) ?_
                    refine ⟨fun i q => (by cases q), ii 1, (by kernel_rfl), ?_⟩
                    refine XR.conv (σ' := [(0, s0 3 lh3_5.length), (1, s0 2 lh2_3.length), (9, s0 3 lh3_5.length), (10, ii x10_5), (11, ii x11_5), (26, ii 1)]) (h' := [(3, rc (encI .i64) lh3_5 0 3 1), (2, rc (encI .i64) lh2_3 0 3 1), (1, rc encB lh1_3 0 4 1), (0, rc encP lh0_3 0 61 2)]) (c' := 4) ?_ (by kernel_rfl)
                    refine XR.runS E0_ok 1 1 [(0, s0 3 lh3_5.length), (1, s0 2 lh2_3.length), (8, ii 1), (9, s0 3 lh3_5.length), (10, ii x10_5), (11, ii x11_5)] rfl (by kernel_rfl) ?_
                    refine XR.done (by kernel_rfl) ?_
                    show XQ _ _ _ _ _ _ _ _
                    refine XQ.seq E0_ok (by kernel_rfl) ?_
                    refine XQ.region (by kernel_rfl) ?_
                    refine XR.runS E0_ok 1 2 [(0, s0 3 lh3_5.length), (1, s0 2 lh2_3.length), (8, ii 1), (9, s0 3 lh3_5.length), (10, ii x10_5), (11, ii x11_5), (28, .bool true)] rfl (by kernel_rfl) ?_
                    refine XR.done (by kernel_rfl) ?_
                    show XQ _ _ _ _ _ _ _ _
                    refine XQ.cond (s := (.tmp 28)) (b := true) (by kernel_rfl) (by kernel_rfl) (fun _ => ?_) (fun q => by cases q)
                    refine XQ.seq E0_ok (by kernel_rfl) ?_
                    refine XQ.region (by kernel_rfl) ?_
                    refine XR.runS E0_ok 1 2 [(4, ii 1)] rfl (by kernel_rfl) ?_
                    refine XR.done (by kernel_rfl) ?_
                    show XQ _ _ _ _ _ _ _ _
                    refine XQ.ren (σ' := [(4, ii 1)]) (h' := [(3, rc (encI .i64) lh3_5 0 3 1), (2, rc (encI .i64) lh2_3 0 3 1), (1, rc encB lh1_3 0 4 1), (0, rc encP lh0_3 0 61 2)]) (c' := 4) [0, 1, 2, 3] (by decide) rfl ⟨by kernel_rfl, trivial⟩ ⟨⟨_, _, rfl, rfl, .inl ⟨rfl, rowC_scal (encI_ok .i64) _⟩⟩, ⟨_, _, rfl, rfl, .inl ⟨rfl, rowC_scal (encI_ok .i64) _⟩⟩, ⟨_, _, rfl, rfl, .inl ⟨rfl, rowC_scal encB_ok _⟩⟩, ⟨_, _, rfl, rfl, .inl ⟨rfl, rowC_scal encP_ok _⟩⟩, trivial⟩ rfl ?_
                    refine XQ.ret (by kernel_rfl) ?_
                    cases h
                    exact hQ
                  | false =>
                    have h := cF b9 h
                    refine XQ.cond (s := (.tmp 19)) (b := false) (by kernel_rfl) (by kernel_rfl) (fun q => by cases q) (fun _ => ?_)
                    refine XQ.skip (by kernel_rfl) ?_
                    show XQ _ _ _ _ _ _ _ _
                    refine XQ.seq E0_ok (by kernel_rfl) ?_
                    refine XQ.region (by kernel_rfl) ?_
                    refine XR.runS E0_ok 1 1 [(4, ii 0)] rfl (by kernel_rfl) ?_
                    refine XR.done (by kernel_rfl) ?_
                    show XQ _ _ _ _ _ _ _ _
                    refine XQ.ret (by kernel_rfl) ?_
                    refine ⟨fun i q => (by cases q), ii 0, (by kernel_rfl), ?_⟩
                    refine XR.conv (σ' := [(0, s0 3 lh3_5.length), (1, s0 2 lh2_3.length), (9, s0 3 lh3_5.length), (10, ii x10_5), (11, ii x11_5), (26, ii 0)]) (h' := [(3, rc (encI .i64) lh3_5 0 3 1), (2, rc (encI .i64) lh2_3 0 3 1), (1, rc encB lh1_3 0 4 1), (0, rc encP lh0_3 0 61 2)]) (c' := 4) ?_ (by kernel_rfl)
                    refine XR.runS E0_ok 1 1 [(0, s0 3 lh3_5.length), (1, s0 2 lh2_3.length), (8, ii 0), (9, s0 3 lh3_5.length), (10, ii x10_5), (11, ii x11_5)] rfl (by kernel_rfl) ?_
                    refine XR.done (by kernel_rfl) ?_
                    show XQ _ _ _ _ _ _ _ _
                    refine XQ.seq E0_ok (by kernel_rfl) ?_
                    refine XQ.region (by kernel_rfl) ?_
                    refine XR.runS E0_ok 1 2 [(0, s0 3 lh3_5.length), (1, s0 2 lh2_3.length), (8, ii 0), (9, s0 3 lh3_5.length), (10, ii x10_5), (11, ii x11_5), (28, .bool false)] rfl (by kernel_rfl) ?_
                    refine XR.done (by kernel_rfl) ?_
                    show XQ _ _ _ _ _ _ _ _
                    refine XQ.cond (s := (.tmp 28)) (b := false) (by kernel_rfl) (by kernel_rfl) (fun q => by cases q) (fun _ => ?_)
                    refine XQ.skip (by kernel_rfl) ?_
                    show XQ _ _ _ _ _ _ _ _
                    refine XQ.region (by kernel_rfl) ?_
                    refine XR.runS E0_ok 1 2 [(0, s0 3 lh3_5.length), (1, s0 2 lh2_3.length), (9, s0 3 lh3_5.length), (10, ii x10_5), (11, ii (w64 (x11_5 + 1)))] rfl (by kernel_rfl) ?_
                    refine XR.done (by kernel_rfl) ?_
                    show XL _ _ _ _ _ _ _ _ _
                    refine XL.ren (σ' := [(0, s0 3 lh3_5.length), (1, s0 2 lh2_3.length), (9, s0 3 lh3_5.length), (10, ii x10_5), (11, ii (w64 (x11_5 + 1)))]) (h' := [(3, rc (encI .i64) lh3_5 0 3 1), (2, rc (encI .i64) lh2_3 0 3 1), (1, rc encB lh1_3 0 4 1), (0, rc encP lh0_3 0 61 2)]) (c' := 4) [0, 1, 2, 3] (by decide) rfl ⟨by kernel_rfl, by kernel_rfl, by kernel_rfl, by kernel_rfl, by kernel_rfl, trivial⟩ ⟨⟨_, _, rfl, rfl, .inl ⟨rfl, rowC_scal (encI_ok .i64) _⟩⟩, ⟨_, _, rfl, rfl, .inl ⟨rfl, rowC_scal (encI_ok .i64) _⟩⟩, ⟨_, _, rfl, rfl, .inl ⟨rfl, rowC_scal encB_ok _⟩⟩, ⟨_, _, rfl, rfl, .inl ⟨rfl, rowC_scal encP_ok _⟩⟩, trivial⟩ rfl ?_
                    refine XL.conv (f13_5_ok m fuel lh0_3 lh1_3 lh2_3 x10_5 (w64 (x11_5 + 1)) lh3_5 o h Q hQ) (by first | rfl | simp)
    | false =>
      have h := cF b1 h
      refine XQ.cond (s := (.tmp 12)) (b := false) (by kernel_rfl) (by kernel_rfl) (fun q => by cases q) (fun _ => ?_)
      refine XQ.ren (σ' := [(0, s0 3 lh3_5.length), (1, s0 2 lh2_3.length)]) (h' := [(3, rc (encI .i64) lh3_5 0 3 1), (2, rc (encI .i64) lh2_3 0 3 1), (1, rc encB lh1_3 0 4 1), (0, rc encP lh0_3 0 61 2)]) (c' := 4) [0, 1, 2, 3] (by decide) rfl ⟨by kernel_rfl, by kernel_rfl, trivial⟩ ⟨⟨_, _, rfl, rfl, .inl ⟨rfl, rowC_scal (encI_ok .i64) _⟩⟩, ⟨_, _, rfl, rfl, .inl ⟨rfl, rowC_scal (encI_ok .i64) _⟩⟩, ⟨_, _, rfl, rfl, .inl ⟨rfl, rowC_scal encB_ok _⟩⟩, ⟨_, _, rfl, rfl, .inl ⟨rfl, rowC_scal encP_ok _⟩⟩, trivial⟩ rfl ?_
      refine XQ.exit (i := 0) (by kernel_rfl) ?_
      cases h
      exact hQ

inductive Of13_6 where
  | r (x4_r6 : Int) (lh3_r6 : List Int)
  | x0 (lh3_x06 : List Int)

def f13_6 (m : Nat) : Nat → List (Int × Int) → List Bool → List Int → Int → Int → List Int → Option Of13_6
  | 0, _, _, _, _, _, _ => none
  | fuel + 1, lh0_3, lh1_3, lh2_3, x10_6, x11_6, lh3_6 =>
    cond (decide (x11_6 < x10_6)) (
      cond (inRow x11_6 lh3_6.length) (
        cond (decide (x11_6 ≥ ((lh2_3.length : Nat) : Int))) (
          some (.r 1 lh3_6)
        ) (
          cond (inRow x11_6 lh2_3.length) (
            cond ((List.getD lh3_6 (Int.toNat x11_6) 0) != (List.getD lh3_6 (Int.toNat x11_6) 0)) (
              cond ((List.getD lh2_3 (Int.toNat x11_6) 0) != (List.getD lh2_3 (Int.toNat x11_6) 0)) (
                f13_6 m fuel lh0_3 lh1_3 lh2_3 x10_6 (w64 (x11_6 + 1)) lh3_6
              ) (
                some (.r (-1) lh3_6)
              )
            ) (
              cond ((List.getD lh2_3 (Int.toNat x11_6) 0) != (List.getD lh2_3 (Int.toNat x11_6) 0)) (
                some (.r 1 lh3_6)
              ) (
                cond (decide ((List.getD lh3_6 (Int.toNat x11_6) 0) < (List.getD lh2_3 (Int.toNat x11_6) 0))) (
                  some (.r (-1) lh3_6)
                ) (
                  cond (decide ((List.getD lh3_6 (Int.toNat x11_6) 0) > (List.getD lh2_3 (Int.toNat x11_6) 0))) (
                    some (.r 1 lh3_6)
                  ) (
                    f13_6 m fuel lh0_3 lh1_3 lh2_3 x10_6 (w64 (x11_6 + 1)) lh3_6
                  )
                )
              )
            )
          ) none
        )
      ) none
    ) (
      some (.x0 lh3_6)
    )

theorem f13_6_ok (m : Nat) : ∀ (fuel : Nat) (lh0_3 : List (Int × Int)) (lh1_3 : List Bool) (lh2_3 : List Int) (x10_6 : Int) (x11_6 : Int) (lh3_6 : List Int) (o : Of13_6), f13_6 m fuel lh0_3 lh1_3 lh2_3 x10_6 x11_6 lh3_6 = some o → ∀ Q : QP, (match o with | .r x4_r6 lh3_r6 => Q .ret [(4, ii x4_r6)] [(3, rc (encI .i64) lh3_r6 0 3 1), (2, rc (encI .i64) lh2_3 0 3 1), (1, rc encB lh1_3 0 4 1), (0, rc encP lh0_3 0 61 2)] 4 | .x0 lh3_x06 => Q (.exit 0) [(0, s0 3 lh3_x06.length), (1, s0 2 lh2_3.length)] [(3, rc (encI .i64) lh3_x06 0 3 1), (2, rc (encI .i64) lh2_3 0 3 1), (1, rc encB lh1_3 0 4 1), (0, rc encP lh0_3 0 61 2)] 4) → XL E0 36 4 fuel f13_L6 [(0, s0 3 lh3_6.length), (1, s0 2 lh2_3.length), (9, s0 3 lh3_6.length), (10, ii x10_6), (11, ii x11_6)] [(3, rc (encI .i64) lh3_6 0 3 1), (2, rc (encI .i64) lh2_3 0 3 1), (1, rc encB lh1_3 0 4 1), (0, rc encP lh0_3 0 61 2)] 4 Q
  | 0, lh0_3, lh1_3, lh2_3, x10_6, x11_6, lh3_6, o, h, Q, hQ => by cases h
  | fuel + 1, lh0_3, lh1_3, lh2_3, x10_6, x11_6, lh3_6, o, h, Q, hQ => by
    unfold f13_6 at h
    refine XL.succ E0_ok ?_
    refine XQ.seq E0_ok (by kernel_rfl) ?_
    refine XQ.region (by kernel_rfl) ?_
    refine XR.runS E0_ok 1 1 [(0, s0 3 lh3_6.length), (1, s0 2 lh2_3.length), (9, s0 3 lh3_6.length), (10, ii x10_6), (11, ii x11_6), (12, .bool (decide (x11_6 < x10_6)))] rfl (by kernel_rfl) ?_
    refine XR.done (by kernel_rfl) ?_
    show XQ _ _ _ _ _ _ _ _
    refine XQ.seq E0_ok (by kernel_rfl) ?_
    cases b1 : (decide (x11_6 < x10_6) : Bool) with
    | true =>
      have h := cT b1 h
      refine XQ.cond (s := (.tmp 12)) (b := true) (by kernel_rfl) (by kernel_rfl) (fun _ => ?_) (fun q => by cases q)
      refine XQ.skip (by kernel_rfl) ?_
      show XQ _ _ _ _ _ _ _ _
      refine XQ.seq E0_ok (by kernel_rfl) ?_
      refine XQ.block (id := 1) (by kernel_rfl) ?_
      refine XQ.seq E0_ok (by kernel_rfl) ?_
      refine XQ.region (by kernel_rfl) ?_
      refine XR.runS E0_ok 1 1 [(0, s0 3 lh3_6.length), (1, s0 2 lh2_3.length), (9, s0 3 lh3_6.length), (10, ii x10_6), (11, ii x11_6), (13, ii x11_6)] rfl (by kernel_rfl) ?_
      cases b2 : (inRow x11_6 lh3_6.length : Bool) with
      | false => cases (cF b2 h)
      | true =>
        have h := cT b2 h
        refine XR.rd E0_ok [0, 1, 9, 10, 11, 13, 14] rfl (v := pp 3 ((Int.toNat x11_6) * 1)) (v_idx (s := 1) (x := (src 36 (.tmp 9))) (y := (src 36 (.tmp 11))) (b := 3) (o := 0) (len := lh3_6.length) (cap := lh3_6.length) (ik := .i64) (i := x11_6) (off := (Int.toNat x11_6) * 1) (d := (some (path 12 14))) (by kernel_rfl) (by kernel_rfl) (by kernel_rfl) b2 (by omega)) (σ' := [(0, s0 3 lh3_6.length), (1, s0 2 lh2_3.length), (9, s0 3 lh3_6.length), (10, ii x10_6), (11, ii x11_6), (13, ii x11_6), (14, pp 3 ((Int.toNat x11_6) * 1))]) (by kernel_rfl) ?_
        refine XR.rd E0_ok [0, 1, 9, 10, 11, 13, 15] rfl (v := ii (List.getD lh3_6 (Int.toNat x11_6) 0)) (v_load1 (encI_ok .i64) (x := (src 36 (.tmp 14))) (b := 3) (off := (Int.toNat x11_6) * 1) (xs := lh3_6) (fz := 0) (e := 3) (es := 1) (d := (some (path 12 15))) (by kernel_rfl) (by kernel_rfl) (by kernel_rfl) (Int.toNat x11_6) 0 0 (by first | rfl | omega) (row_len (inRow_toNat b2) (by simp)) rfl rfl) (σ' := [(0, s0 3 lh3_6.length), (1, s0 2 lh2_3.length), (9, s0 3 lh3_6.length), (10, ii x10_6), (11, ii x11_6), (13, ii x11_6), (15, ii (List.getD lh3_6 (Int.toNat x11_6) 0))]) (by kernel_rfl) ?_
        refine XR.runS E0_ok 1 2 [(0, s0 3 lh3_6.length), (1, s0 2 lh2_3.length), (5, ii x11_6), (6, ii (List.getD lh3_6 (Int.toNat x11_6) 0)), (9, s0 3 lh3_6.length), (10, ii x10_6), (11, ii x11_6)] rfl (by kernel_rfl) ?_
        refine XR.done (by kernel_rfl) ?_
        show XQ _ _ _ _ _ _ _ _
        refine XQ.seq E0_ok (by kernel_rfl) ?_
        refine XQ.seq E0_ok (by kernel_rfl) ?_
        refine XQ.region (by kernel_rfl) ?_
        refine XR.runS E0_ok 1 4 [(0, s0 3 lh3_6.length), (1, s0 2 lh2_3.length), (5, ii x11_6), (6, ii (List.getD lh3_6 (Int.toNat x11_6) 0)), (9, s0 3 lh3_6.length), (10, ii x10_6), (11, ii x11_6), (19, .bool (decide (x11_6 ≥ ((lh2_3.length : Nat) : Int))))] rfl (by kernel_rfl) ?_
        refine XR.done (by kernel_rfl) ?_
        show XQ _ _ _ _ _ _ _ _
        cases b3 : (decide (x11_6 ≥ ((lh2_3.length : Nat) : Int)) : Bool) with
        | true =>
          have h := cT b3 h
          refine XQ.cond (s := (.tmp 19)) (b := true) (by kernel_rfl) (by kernel_rfl) (fun _ => ?_) (fun q => by cases q)
          refine XQ.seq E0_ok (by kernel_rfl) ?_
          refine XQ.region (by kernel_rfl) ?_
          refine XR.runS E0_ok 1 1 [(4, ii 1)] rfl (by kernel_rfl) ?_
          refine XR.done (by kernel_rfl) ?_
          show XQ _ _ _ _ _ _ _ _
          refine XQ.ren (σ' := [(4, ii 1)]) (h' := [(3, rc (encI .i64) lh3_6 0 3 1), (2, rc (encI .i64) lh2_3 0 3 1), (1, rc encB lh1_3 0 4 1), (0, rc encP lh0_3 0 61 2)]) (c' := 4) [0, 1, 2, 3] (by decide) rfl ⟨by kernel_rfl, trivial⟩ ⟨⟨_, _, rfl, rfl, .inl ⟨rfl, rowC_scal (encI_ok .i64) _⟩⟩, ⟨_, _, rfl, rfl, .inl ⟨rfl, rowC_scal (encI_ok .i64) _⟩⟩, ⟨_, _, rfl, rfl, .inl ⟨rfl, rowC_scal encB_ok _⟩⟩, ⟨_, _, rfl, rfl, .inl ⟨rfl, rowC_scal encP_ok _⟩⟩, trivial⟩ rfl ?_
          refine XQ.ret (by kernel_rfl) ?_
          cases h
          exact hQ
        | false =>
          have h := cF b3 h
          refine XQ.cond (s := (.tmp 19)) (b := false) (by kernel_rfl) (by kernel_rfl) (fun q => by cases q) (fun _ => ?_)
          refine XQ.skip (by kernel_rfl) ?_
          show XQ _ _ _ _ _ _ _ _
          refine XQ.seq E0_ok (by kernel_rfl) ?_
          refine XQ.region (by kernel_rfl) ?_
          refine XR.runS E0_ok 1 2 [(0, s0 3 lh3_6.length), (1, s0 2 lh2_3.length), (6, ii (List.getD lh3_6 (Int.toNat x11_6) 0)), (9, s0 3 lh3_6.length), (10, ii x10_6), (11, ii x11_6), (20, s0 2 lh2_3.length), (21, ii x11_6)] rfl (by kernel_rfl) ?_
          cases b4 : (inRow x11_6 lh2_3.length : Bool) with
          | false => cases (cF b4 h)
          | true =>
            have h := cT b4 h
            refine XR.rd E0_ok [0, 1, 6, 9, 10, 11, 22] rfl (v := pp 2 ((Int.toNat x11_6) * 1)) (v_idx (s := 1) (x := (src 36 (.tmp 20))) (y := (src 36 (.tmp 21))) (b := 2) (o := 0) (len := lh2_3.length) (cap := lh2_3.length) (ik := .i64) (i := x11_6) (off := (Int.toNat x11_6) * 1) (d := (some (path 12 22))) (by kernel_rfl) (by kernel_rfl) (by kernel_rfl) b4 (by omega)) (σ' := [(0, s0 3 lh3_6.length), (1, s0 2 lh2_3.length), (6, ii (List.getD lh3_6 (Int.toNat x11_6) 0)), (9, s0 3 lh3_6.length), (10, ii x10_6), (11, ii x11_6), (22, pp 2 ((Int.toNat x11_6) * 1))]) (by kernel_rfl) ?_
            refine XR.rd E0_ok [0, 1, 6, 9, 10, 11, 23] rfl (v := ii (List.getD lh2_3 (Int.toNat x11_6) 0)) (v_load1 (encI_ok .i64) (x := (src 36 (.tmp 22))) (b := 2) (off := (Int.toNat x11_6) * 1) (xs := lh2_3) (fz := 0) (e := 3) (es := 1) (d := (some (path 12 23))) (by kernel_rfl) (by kernel_rfl) (by kernel_rfl) (Int.toNat x11_6) 0 0 (by first | rfl | omega) (row_len (inRow_toNat b4) (by simp)) rfl rfl) (σ' := [(0, s0 3 lh3_6.length), (1, s0 2 lh2_3.length), (6, ii (List.getD lh3_6 (Int.toNat x11_6) 0)), (9, s0 3 lh3_6.length), (10, ii x10_6), (11, ii x11_6), (23, ii (List.getD lh2_3 (Int.toNat x11_6) 0))]) (by kernel_rfl) ?_
            refine XR.runS E0_ok 1 1 [(0, s0 3 lh3_6.length), (1, s0 2 lh2_3.length), (6, ii (List.getD lh3_6 (Int.toNat x11_6) 0)), (7, ii (List.getD lh2_3 (Int.toNat x11_6) 0)), (9, s0 3 lh3_6.length), (10, ii x10_6), (11, ii x11_6)] rfl (by kernel_rfl) ?_
            refine XR.done (by kernel_rfl) ?_
            show XQ _ _ _ _ _ _ _ _
            refine XQ.seq E0_ok (by kernel_rfl) ?_
            refine XQ.region (by kernel_rfl) ?_
            refine XR.runS E0_ok 1 2 [(0, s0 3 lh3_6.length), (1, s0 2 lh2_3.length), (9, s0 3 lh3_6.length), (10, ii x10_6), (11, ii x11_6), (24, ii (List.getD lh3_6 (Int.toNat x11_6) 0)), (25, ii (List.getD lh2_3 (Int.toNat x11_6) 0))] rfl (by kernel_rfl) ?_
            refine XR.callK E0_ok [0, 1, 9, 10, 11, 26] rfl (K := 86) (args := [ii (List.getD lh3_6 (Int.toNat x11_6) 0), ii (List.getD lh2_3 (Int.toNat x11_6) 0)]) (d := (some (path 12 26))) (by kernel_rfl) ?_
            refine KC.bodyN E0_ok (F := Proofs.Try.f86) (by kernel_rfl) (code := f13_C86) (by kernel_rfl) (nt := 20) (by kernel_rfl) (rs := [.tmp 4]) (by kernel_rfl) (by kernel_rfl) (σ := [(0, ii (List.getD lh3_6 (Int.toNat x11_6) 0)), (1, ii (List.getD lh2_3 (Int.toNat x11_6) 0))]) (by kernel_rfl) ?_
            refine XQ.seq E0_ok (by kernel_rfl) ?_
            refine XQ.region (by kernel_rfl) ?_
            refine XR.runS E0_ok 1 1 [(0, ii (List.getD lh3_6 (Int.toNat x11_6) 0)), (1, ii (List.getD lh2_3 (Int.toNat x11_6) 0))] rfl (by kernel_rfl) ?_
            refine XR.done (by kernel_rfl) ?_
            show XQ _ _ _ _ _ _ _ _
            refine XQ.seq E0_ok (by kernel_rfl) ?_
            refine XQ.region (by kernel_rfl) ?_
            refine XR.runS E0_ok 1 1 [(0, ii (List.getD lh3_6 (Int.toNat x11_6) 0)), (1, ii (List.getD lh2_3 (Int.toNat x11_6) 0)), (7, ii (List.getD lh3_6 (Int.toNat x11_6) 0))] rfl (by kernel_rfl) ?_
            refine XR.callK E0_ok [0, 1, 8] rfl (K := 96) (args := [ii (List.getD lh3_6 (Int.toNat x11_6) 0)]) (d := (some (path 12 8))) (by kernel_rfl) ?_
            refine KC.bodyN E0_ok (F := Proofs.Try.f96) (by kernel_rfl) (code := f13_C96) (by kernel_rfl) (nt := 6) (by kernel_rfl) (rs := [.tmp 2]) (by kernel_rfl) (by kernel_rfl) (σ := [(0, ii (List.getD lh3_6 (Int.toNat x11_6) 0))]) (by kernel_rfl) ?_
            refine XQ.seq E0_ok (by kernel_rfl) ?_
            refine XQ.region (by kernel_rfl) ?_
            refine XR.runS E0_ok 1 1 [(0, ii (List.getD lh3_6 (Int.toNat x11_6) 0))] rfl (by kernel_rfl) ?_
            refine XR.done (by kernel_rfl) ?_
            show XQ _ _ _ _ _ _ _ _
            refine XQ.seq E0_ok (by kernel_rfl) ?_
            refine XQ.region (by kernel_rfl) ?_
            refine XR.runS E0_ok 1 4 [(2, .bool ((List.getD lh3_6 (Int.toNat x11_6) 0) != (List.getD lh3_6 (Int.toNat x11_6) 0)))] rfl (by kernel_rfl) ?_
            refine XR.done (by kernel_rfl) ?_
            show XQ _ _ _ _ _ _ _ _
            refine XQ.ret (by kernel_rfl) ?_
            refine ⟨fun i q => (by cases q), .bool ((List.getD lh3_6 (Int.toNat x11_6) 0) != (List.getD lh3_6 (Int.toNat x11_6) 0)), (by kernel_rfl), ?_⟩
            refine XR.conv (σ' := [(0, ii (List.getD lh3_6 (Int.toNat x11_6) 0)), (1, ii (List.getD lh2_3 (Int.toNat x11_6) 0)), (8, .bool ((List.getD lh3_6 (Int.toNat x11_6) 0) != (List.getD lh3_6 (Int.toNat x11_6) 0)))]) (h' := [(3, rc (encI .i64) lh3_6 0 3 1), (2, rc (encI .i64) lh2_3 0 3 1), (1, rc encB lh1_3 0 4 1), (0, rc encP lh0_3 0 61 2)]) (c' := 4) ?_ (by kernel_rfl)
            refine XR.runS E0_ok 1 1 [(0, ii (List.getD lh3_6 (Int.toNat x11_6) 0)), (1, ii (List.getD lh2_3 (Int.toNat x11_6) 0)), (5, .bool ((List.getD lh3_6 (Int.toNat x11_6) 0) != (List.getD lh3_6 (Int.toNat x11_6) 0)))] rfl (by kernel_rfl) ?_
            refine XR.done (by kernel_rfl) ?_
            show XQ _ _ _ _ _ _ _ _
            refine XQ.seq E0_ok (by kernel_rfl) ?_
            refine XQ.region (by kernel_rfl) ?_
            refine XR.runS E0_ok 1 1 [(0, ii (List.getD lh3_6 (Int.toNat x11_6) 0)), (1, ii (List.getD lh2_3 (Int.toNat x11_6) 0)), (5, .bool ((List.getD lh3_6 (Int.toNat x11_6) 0) != (List.getD lh3_6 (Int.toNat x11_6) 0))), (9, ii (List.getD lh2_3 (Int.toNat x11_6) 0))] rfl (by kernel_rfl) ?_
            refine XR.callK E0_ok [0, 1, 5, 10] rfl (K := 96) (args := [ii (List.getD lh2_3 (Int.toNat x11_6) 0)]) (d := (some (path 12 10))) (by kernel_rfl) ?_
            refine KC.bodyN E0_ok (F := Proofs.Try.f96) (by kernel_rfl) (code := f13_C96) (by kernel_rfl) (nt := 6) (by kernel_rfl) (rs := [.tmp 2]) (by kernel_rfl) (by kernel_rfl) (σ := [(0, ii (List.getD lh2_3 (Int.toNat x11_6) 0))]) (by kernel_rfl) ?_
            refine XQ.seq E0_ok (by kernel_rfl) ?_
            refine XQ.region (by kernel_rfl) ?_
            refine XR.runS E0_ok 1 1 [(0, ii (List.getD lh2_3 (Int.toNat x11_6) 0))] rfl (by kernel_rfl) ?_
            refine XR.done (by kernel_rfl) ?_
            show XQ _ _ _ _ _ _ _ _
            refine XQ.seq E0_ok (by kernel_rfl) ?_
            refine XQ.region (by kernel_rfl) ?_
            refine XR.runS E0_ok 1 4 [(2, .bool ((List.getD lh2_3 (Int.toNat x11_6) 0) != (List.getD lh2_3 (Int.toNat x11_6) 0)))] rfl (by kernel_rfl) ?_
            refine XR.done (by kernel_rfl) ?_
            show XQ _ _ _ _ _ _ _ _
            refine XQ.ret (by kernel_rfl) ?_
            refine ⟨fun i q => (by cases q), .bool ((List.getD lh2_3 (Int.toNat x11_6) 0) != (List.getD lh2_3 (Int.toNat x11_6) 0)), (by kernel_rfl), ?_⟩
            refine XR.conv (σ' := [(0, ii (List.getD lh3_6 (Int.toNat x11_6) 0)), (1, ii (List.getD lh2_3 (Int.toNat x11_6) 0)), (5, .bool ((List.getD lh3_6 (Int.toNat x11_6) 0) != (List.getD lh3_6 (Int.toNat x11_6) 0))), (10, .bool ((List.getD lh2_3 (Int.toNat x11_6) 0) != (List.getD lh2_3 (Int.toNat x11_6) 0)))]) (h' := [(3, rc (encI .i64) lh3_6 0 3 1), (2, rc (encI .i64) lh2_3 0 3 1), (1, rc encB lh1_3 0 4 1), (0, rc encP lh0_3 0 61 2)]) (c' := 4) ?_ (by kernel_rfl)
            refine XR.runS E0_ok 1 1 [(0, ii (List.getD lh3_6 (Int.toNat x11_6) 0)), (1, ii (List.getD lh2_3 (Int.toNat x11_6) 0)), (5, .bool ((List.getD lh3_6 (Int.toNat x11_6) 0) != (List.getD lh3_6 (Int.toNat x11_6) 0))), (6, .bool ((List.getD lh2_3 (Int.toNat x11_6) 0) != (List.getD lh2_3 (Int.toNat x11_6) 0)))] rfl (by kernel_rfl) ?_
            refine XR.done (by kernel_rfl) ?_
            show XQ _ _ _ _ _ _ _ _
            refine XQ.seq E0_ok (by kernel_rfl) ?_
            refine XQ.seq E0_ok (by kernel_rfl) ?_
            refine XQ.region (by kernel_rfl) ?_
            refine XR.runS E0_ok 1 1 [(0, ii (List.getD lh3_6 (Int.toNat x11_6) 0)), (1, ii (List.getD lh2_3 (Int.toNat x11_6) 0)), (6, .bool ((List.getD lh2_3 (Int.toNat x11_6) 0) != (List.getD lh2_3 (Int.toNat x11_6) 0))), (11, .bool ((List.getD lh3_6 (Int.toNat x11_6) 0) != (List.getD lh3_6 (Int.toNat x11_6) 0)))] rfl (by kernel_rfl) ?_
            refine XR.done (by kernel_rfl) ?_
            show XQ _ _ _ _ _ _ _ _
            cases b5 : ((List.getD lh3_6 (Int.toNat x11_6) 0) != (List.getD lh3_6 (Int.toNat x11_6) 0) : Bool) with
            | true =>
              have h := cT b5 h
              refine XQ.cond (s := (.tmp 11)) (b := true) (by kernel_rfl) (by kernel_rfl) (fun _ => ?_) (fun q => by cases q)
              refine XQ.seq E0_ok (by kernel_rfl) ?_
              refine XQ.seq E0_ok (by kernel_rfl) ?_
              refine XQ.region (by kernel_rfl) ?_
              refine XR.runS E0_ok 1 1 [(12, .bool ((List.getD lh2_3 (Int.toNat x11_6) 0) != (List.getD lh2_3 (Int.toNat x11_6) 0)))] rfl (by kernel_rfl) ?_
              refine XR.done (by kernel_rfl) ?_
              show XQ _ _ _ _ _ _ _ _
              cases b6 : ((List.getD lh2_3 (Int.toNat x11_6) 0) != (List.getD lh2_3 (Int.toNat x11_6) 0) : Bool) with
              | true =>
                have h := cT b6 h
                refine XQ.cond (s := (.tmp 12)) (b := true) (by kernel_rfl) (by kernel_rfl) (fun _ => ?_) (fun q => by cases q)
                refine XQ.seq E0_ok (by kernel_rfl) ?_
                refine XQ.region (by kernel_rfl) ?_
                refine XR.runS E0_ok 1 1 [(4, ii 0)] rfl (by kernel_rfl) ?_
                refine XR.done (by kernel_rfl) ?_
                show XQ _ _ _ _ _ _ _ _
                refine XQ.ret (by kernel_rfl) ?_
                refine ⟨fun i q => (by cases q), ii 0, (by kernel_rfl), ?_⟩
                refine XR.conv (σ' := [(0, s0 3 lh3_6.length), (1, s0 2 lh2_3.length), (9, s0 3 lh3_6.length), (10, ii x10_6), (11, ii x11_6), (26, ii 0)]) (h' := [(3, rc (encI .i64) lh3_6 0 3 1), (2, rc (encI .i64) lh2_3 0 3 1), (1, rc encB lh1_3 0 4 1), (0, rc encP lh0_3 0 61 2)]) (c' := 4) ?_ (by kernel_rfl)
                refine XR.runS E0_ok 1 1 [(0, s0 3 lh3_6.length), (1, s0 2 lh2_3.length), (8, ii 0), (9, s0 3 lh3_6.length), (10, ii x10_6), (11, ii x11_6)] rfl (by kernel_rfl) ?_
                refine XR.done (by kernel_rfl) ?_
                show XQ _ _ _ _ _ _ _ _
                refine XQ.seq E0_ok (by kernel_rfl) ?_
                refine XQ.region (by kernel_rfl) ?_
                refine XR.runS E0_ok 1 2 [(0, s0 3 lh3_6.length), (1, s0 2 lh2_3.length), (8, ii 0), (9, s0 3 lh3_6.length), (10, ii x10_6), (11, ii x11_6), (28, .bool false)] rfl (by kernel_rfl) ?_
                refine XR.done (by kernel_rfl) ?_
                show XQ _ _ _ _ _ _ _ _
                refine XQ.cond (s := (.tmp 28)) (b := false) (by kernel_rfl) (by kernel_rfl) (fun q => by cases q) (fun _ => ?_)
                refine XQ.skip (by kernel_rfl) ?_
                show XQ _ _ _ _ _ _ _ _
                refine XQ.region (by kernel_rfl) ?_
                refine XR.runS E0_ok 1 2 [(0, s0 3 lh3_6.length), (1, s0 2 lh2_3.length), (9, s0 3 lh3_6.length), (10, ii x10_6), (11, ii (w64 (x11_6 + 1)))] rfl (by kernel_rfl) ?_
                refine XR.done (by kernel_rfl) ?_
                show XL _ _ _ _ _ _ _ _ _
                refine XL.ren (σ' := [(0, s0 3 lh3_6.length), (1, s0 2 lh2_3.length), (9, s0 3 lh3_6.length), (10, ii x10_6), (11, ii (w64 (x11_6 + 1)))]) (h' := [(3, rc (encI .i64) lh3_6 0 3 1), (2, rc (encI .i64) lh2_3 0 3 1), (1, rc encB lh1_3 0 4 1), (0, rc encP lh0_3 0 61 2)]) (c' := 4) [0, 1, 2, 3] (by decide) rfl ⟨by kernel_rfl, by kernel_rfl, by kernel_rfl, by kernel_rfl, by kernel_rfl, trivial⟩ ⟨⟨_, _, rfl, rfl, .inl ⟨rfl, rowC_scal (encI_ok .i64) _⟩⟩, ⟨_, _, rfl, rfl, .inl ⟨rfl, rowC_scal (encI_ok .i64) _⟩⟩, ⟨_, _, rfl, rfl, .inl ⟨rfl, rowC_scal encB_ok _⟩⟩, ⟨_, _, rfl, rfl, .inl ⟨rfl, rowC_scal encP_ok _⟩⟩, trivial⟩ rfl ?_
                refine XL.conv (f13_6_ok m fuel lh0_3 lh1_3 lh2_3 x10_6 (w64 (x11_6 + 1)) lh3_6 o h Q hQ) (by first | rfl | simp)
              | false =>
                have h := cF b6 h
                refine XQ.cond (s := (.tmp 12)) (b := false) (by kernel_rfl) (by kernel_rfl) (fun q => by cases q) (fun _ => ?_)
                refine XQ.skip (by kernel_rfl) ?_
                show XQ _ _ _ _ _ _ _ _
                refine XQ.seq E0_ok (by kernel_rfl) ?_
                refine XQ.region (by kernel_rfl) ?_
                refine XR.runS E0_ok 1 1 [(4, ii (-1))] rfl (by kernel_rfl) ?_
                refine XR.done (by kernel_rfl) ?_
                show XQ _ _ _ _ _ _ _ _
                refine XQ.ret (by kernel_rfl) ?_
                refine ⟨fun i q => (by cases q), ii (-1), (by kernel_rfl), ?_⟩
                refine XR.conv (σ' := [(0, s0 3 lh3_6.length), (1, s0 2 lh2_3.length), (9, s0 3 lh3_6.length), (10, ii x10_6), (11, ii x11_6), (26, ii (-1))]) (h' := [(3, rc (encI .i64) lh3_6 0 3 1), (2, rc (encI .i64) lh2_3 0 3 1), (1, rc encB lh1_3 0 4 1), (0, rc encP lh0_3 0 61 2)]) (c' := 4) ?_ (by kernel_rfl)
                refine XR.runS E0_ok 1 1 [(0, s0 3 lh3_6.length), (1, s0 2 lh2_3.length), (8, ii (-1)), (9, s0 3 lh3_6.length), (10, ii x10_6), (11, ii x11_6)] rfl (by kernel_rfl) ?_
                refine XR.done (by kernel_rfl) ?_
                show XQ _ _ _ _ _ _ _ _
                refine XQ.seq E0_ok (by kernel_rfl) ?_
                refine XQ.region (by kernel_rfl) ?_
                refine XR.runS E0_ok 1 2 [(0, s0 3 lh3_6.length), (1, s0 2 lh2_3.length), (8, ii (-1)), (9, s0 3 lh3_6.length), (10, ii x10_6), (11, ii x11_6), (28, .bool true)] rfl (by kernel_rfl) ?_
                refine XR.done (by kernel_rfl) ?_
                show XQ _ _ _ _ _ _ _ _
                refine XQ.cond (s := (.tmp 28)) (b := true) (by kernel_rfl) (by kernel_rfl) (fun _ => ?_) (fun q => by cases q)
                refine XQ.seq E0_ok (by kernel_rfl) ?_
                refine XQ.region (by kernel_rfl) ?_
                refine XR.runS E0_ok 1 2 [(4, ii (-1))] rfl (by kernel_rfl) ?_
                refine XR.done (by kernel_rfl) ?_
                show XQ _ _ _ _ _ _ _ _
                refine XQ.ren (σ' := [(4, ii (-1))]) (h' := [(3, rc (encI .i64) lh3_6 0 3 1), (2, rc (encI .i64) lh2_3 0 3 1), (1, rc encB lh1_3 0 4 1), (0, rc encP lh0_3 0 61 2)]) (c' := 4) [0, 1, 2, 3] (by decide) rfl ⟨by kernel_rfl, trivial⟩ ⟨⟨_, _, rfl, rfl, .inl ⟨rfl, rowC_scal (encI_ok .i64) _⟩⟩, ⟨_, _, rfl, rfl, .inl ⟨rfl, rowC_scal (encI_ok .i64) _⟩⟩, ⟨_, _, rfl, rfl, .inl ⟨rfl, rowC_scal encB_ok _⟩⟩, ⟨_, _, rfl, rfl, .inl ⟨rfl, rowC_scal encP_ok _⟩⟩, trivial⟩ rfl ?_
                refine XQ.ret (by kernel_rfl) ?_
                cases h
                exact hQ
            | false =>
              have h := cF b5 h
              refine XQ.cond (s := (.tmp 11)) (b := false) (by kernel_rfl) (by kernel_rfl) (fun q => by cases q) (fun _ => ?_)
              refine XQ.skip (by kernel_rfl) ?_
              show XQ _ _ _ _ _ _ _ _
              refine XQ.seq E0_ok (by kernel_rfl) ?_
              refine XQ.seq E0_ok (by kernel_rfl) ?_
              refine XQ.region (by kernel_rfl) ?_
              refine XR.runS E0_ok 1 1 [(0, ii (List.getD lh3_6 (Int.toNat x11_6) 0)), (1, ii (List.getD lh2_3 (Int.toNat x11_6) 0)), (13, .bool ((List.getD lh2_3 (Int.toNat x11_6) 0) != (List.getD lh2_3 (Int.toNat x11_6) 0)))] rfl (by kernel_rfl) ?_
              refine XR.done (by kernel_rfl) ?_
              show XQ _ _ _ _ _ _ _ _
              cases b7 : ((List.getD lh2_3 (Int.toNat x11_6) 0) != (List.getD lh2_3 (Int.toNat x11_6) 0) : Bool) with
              | true =>
                have h := cT b7 h
                refine XQ.cond (s := (.tmp 13)) (b := true) (by kernel_rfl) (by kernel_rfl) (fun _ => ?_) (fun q => by cases q)
                refine XQ.seq E0_ok (by kernel_rfl) ?_
                refine XQ.region (by kernel_rfl) ?_
                refine XR.runS E0_ok 1 1 [(4, ii 1)] rfl (by kernel_rfl) ?_
                refine XR.done (by kernel_rfl) ?_
                show XQ _ _ _ _ _ _ _ _
                refine XQ.ret (by kernel_rfl) ?_
                refine ⟨fun i q => (by cases q), ii 1, (by kernel_rfl), ?_⟩
                refine XR.conv (σ' := [(0, s0 3 lh3_6.length), (1, s0 2 lh2_3.length), (9, s0 3 lh3_6.length), (10, ii x10_6), (11, ii x11_6), (26, ii 1)]) (h' := [(3, rc (encI .i64) lh3_6 0 3 1), (2, rc (encI .i64) lh2_3 0 3 1), (1, rc encB lh1_3 0 4 1), (0, rc encP lh0_3 0 61 2)]) (c' := 4) ?_ (by kernel_rfl)
                refine XR.runS E0_ok 1 1 [(0, s0 3 lh3_6.length), (1, s0 2 lh2_3.length), (8, ii 1), (9, s0 3 lh3_6.length), (10, ii x10_6), (11, ii x11_6)] rfl (by kernel_rfl) ?_
                refine XR.done (by kernel_rfl) ?_
                show XQ _ _ _ _ _ _ _ _
                refine XQ.seq E0_ok (by kernel_rfl) ?_
                refine XQ.region (by kernel_rfl) ?_
                refine XR.runS E0_ok 1 2 [(0, s0 3 lh3_6.length), (1, s0 2 lh2_3.length), (8, ii 1), (9, s0 3 lh3_6.length), (10, ii x10_6), (11, ii x11_6), (28, .bool true)] rfl (by kernel_rfl) ?_
                refine XR.done (by kernel_rfl) ?_
                show XQ _ _ _ _ _ _ _ _
                refine XQ.cond (s := (.tmp 28)) (b := true) (by kernel_rfl) (by kernel_rfl) (fun _ => ?_) (fun q => by cases q)
                refine XQ.seq E0_ok (by kernel_rfl) ?_
                refine XQ.region (by kernel_rfl) ?_
                refine XR.runS E0_ok 1 2 [(4, ii 1)] rfl (by kernel_rfl) ?_
                refine XR.done (by kernel_rfl) ?_
                show XQ _ _ _ _ _ _ _ _
                refine XQ.ren (σ' := [(4, ii 1)]) (h' := [(3, rc (encI .i64) lh3_6 0 3 1), (2, rc (encI .i64) lh2_3 0 3 1), (1, rc encB lh1_3 0 4 1), (0, rc encP lh0_3 0 61 2)]) (c' := 4) [0, 1, 2, 3] (by decide) rfl ⟨by kernel_rfl, trivial⟩ ⟨⟨_, _, rfl, rfl, .inl ⟨rfl, rowC_scal (encI_ok .i64) _⟩⟩, ⟨_, _, rfl, rfl, .inl ⟨rfl, rowC_scal (encI_ok .i64) _⟩⟩, ⟨_, _, rfl, rfl, .inl ⟨rfl, rowC_scal encB_ok _⟩⟩, ⟨_, _, rfl, rfl, .inl ⟨rfl, rowC_scal encP_ok _⟩⟩, trivial⟩ rfl ?_
                refine XQ.ret (by kernel_rfl) ?_
                cases h
                exact hQ
              | false =>
                have h := cF b7 h
                refine XQ.cond (s := (.tmp 13)) (b := false) (by kernel_rfl) (by kernel_rfl) (fun q => by cases q) (fun _ => ?_)
                refine XQ.skip (by kernel_rfl) ?_
                show XQ _ _ _ _ _ _ _ _
                refine XQ.seq E0_ok (by kernel_rfl) ?_
                refine XQ.seq E0_ok (by kernel_rfl) ?_
                refine XQ.region (by kernel_rfl) ?_
                refine XR.runS E0_ok 1 3 [(0, ii (List.getD lh3_6 (Int.toNat x11_6) 0)), (1, ii (List.getD lh2_3 (Int.toNat x11_6) 0)), (16, .bool (decide ((List.getD lh3_6 (Int.toNat x11_6) 0) < (List.getD lh2_3 (Int.toNat x11_6) 0))))] rfl (by kernel_rfl) ?_
                refine XR.done (by kernel_rfl) ?_
                show XQ _ _ _ _ _ _ _ _
                cases b8 : (decide ((List.getD lh3_6 (Int.toNat x11_6) 0) < (List.getD lh2_3 (Int.toNat x11_6) 0)) : Bool) with
                | true =>
                  have h := cT b8 h
                  refine XQ.cond (s := (.tmp 16)) (b := true) (by kernel_rfl) (by kernel_rfl) (fun _ => ?_) (fun q => by cases q)
                  refine XQ.seq E0_ok (by kernel_rfl) ?_
                  refine XQ.region (by kernel_rfl) ?_
                  refine XR.runS E0_ok 1 1 [(4, ii (-1))] rfl (by kernel_rfl) ?_
                  refine XR.done (by kernel_rfl) ?_
                  show XQ _ _ _ _ _ _ _ _
                  refine XQ.ret (by kernel_rfl) ?_
                  refine ⟨fun i q => (by cases q), ii (-1), (by kernel_rfl), ?_⟩
                  refine XR.conv (σ' := [(0, s0 3 lh3_6.length), (1, s0 2 lh2_3.length), (9, s0 3 lh3_6.length), (10, ii x10_6), (11, ii x11_6), (26, ii (-1))]) (h' := [(3, rc (encI .i64) lh3_6 0 3 1), (2, rc (encI .i64) lh2_3 0 3 1), (1, rc encB lh1_3 0 4 1), (0, rc encP lh0_3 0 61 2)]) (c' := 4) ?_ (by kernel_rfl)
                  refine XR.runS E0_ok 1 1 [(0, s0 3 lh3_6.length), (1, s0 2 lh2_3.length), (8, ii (-1)), (9, s0 3 lh3_6.length), (10, ii x10_6), (11, ii x11_6)] rfl (by kernel_rfl) ?_
                  refine XR.done (by kernel_rfl) ?_
                  show XQ _ _ _ _ _ _ _ _
                  refine XQ.seq E0_ok (by kernel_rfl) ?_
                  refine XQ.region (by kernel_rfl) ?_
                  refine XR.runS E0_ok 1 2 [(0, s0 3 lh3_6.length), (1, s0 2 lh2_3.length), (8, ii (-1)), (9, s0 3 lh3_6.length), (10, ii x10_6), (11, ii x11_6), (28, .bool true)] rfl (by kernel_rfl) ?_
                  refine XR.done (by kernel_rfl) ?_
                  show XQ _ _ _ _ _ _ _ _
                  refine XQ.cond (s := (.tmp 28)) (b := true) (by kernel_rfl) (by kernel_rfl) (fun _ => ?_) (fun q => by cases q)
                  refine XQ.seq E0_ok (by kernel_rfl) ?_
                  refine XQ.region (by kernel_rfl) ?_
                  refine XR.runS E0_ok 1 2 [(4, ii (-1))] rfl (by kernel_rfl) ?_
                  refine XR.done (by kernel_rfl) ?_
                  show XQ _ _ _ _ _ _ _ _
                  refine XQ.ren (σ' := [(4, ii (-1))]) (h' := [(3, rc (encI .i64) lh3_6 0 3 1), (2, rc (encI .i64) lh2_3 0 3 1), (1, rc encB lh1_3 0 4 1), (0, rc encP lh0_3 0 61 2)]) (c' := 4) [0, 1, 2, 3] (by decide) rfl ⟨by kernel_rfl, trivial⟩ ⟨⟨_, _, rfl, rfl, .inl ⟨rfl, rowC_scal (encI_ok .i64) _⟩⟩, ⟨_, _, rfl, rfl, .inl ⟨rfl, rowC_scal (encI_ok .i64) _⟩⟩, ⟨_, _, rfl, rfl, .inl ⟨rfl, rowC_scal encB_ok _⟩⟩, ⟨_, _, rfl, rfl, .inl ⟨rfl, rowC_scal encP_ok _⟩⟩, trivial⟩ rfl ?_
                  refine XQ.ret (by kernel_rfl) ?_
                  cases h
                  exact hQ
                | false =>
                  have h := cF b8 h
                  refine XQ.cond (s := (.tmp 16)) (b := false) (by kernel_rfl) (by kernel_rfl) (fun q => by cases q) (fun _ => ?_)
                  refine XQ.skip (by kernel_rfl) ?_
                  show XQ _ _ _ _ _ _ _ _
                  refine XQ.seq E0_ok (by kernel_rfl) ?_
                  refine XQ.seq E0_ok (by kernel_rfl) ?_
                  refine XQ.region (by kernel_rfl) ?_
                  refine XR.runS E0_ok 1 3 [(19, .bool (decide ((List.getD lh3_6 (Int.toNat x11_6) 0) > (List.getD lh2_3 (Int.toNat x11_6) 0))))] rfl (by kernel_rfl) ?_
                  refine XR.done (by kernel_rfl) ?_
                  show XQ _ _ _ _ _ _ _ _
                  cases b9 : (decide ((List.getD lh3_6 (Int.toNat x11_6) 0) > (List.getD lh2_3 (Int.toNat x11_6) 0)) : Bool) with
                  | true =>
                    have h := cT b9 h
                    refine XQ.cond (s := (.tmp 19)) (b := true) (by kernel_rfl) (by kernel_rfl) (fun _ => ?_) (fun q => by cases q)
                    refine XQ.seq E0_ok (by kernel_rfl) ?_
                    refine XQ.region (by kernel_rfl) ?_
                    refine XR.runS E0_ok 1 1 [(4, ii 1)] rfl (by kernel_rfl) ?_
                    refine XR.done (by kernel_rfl) ?_
                    show XQ _ _ _ _ _ _ _ _
                    refine XQ.ret (by kernel_rfl) ?_
                    refine ⟨fun i q => (by cases q), ii 1, (by kernel_rfl), ?_⟩
                    refine XR.conv (σ' := [(0, s0 3 lh3_6.length), (1, s0 2 lh2_3.length), (9, s0 3 lh3_6.length), (10, ii x10_6), (11, ii x11_6), (26, ii 1)]) (h' := [(3, rc (encI .i64) lh3_6 0 3 1), (2, rc (encI .i64) lh2_3 0 3 1), (1, rc encB lh1_3 0 4 1), (0, rc encP lh0_3 0 61 2)]) (c' := 4) ?_ (by kernel_rfl)
                    refine XR.runS E0_ok 1 1 [(0, s0 3 lh3_6.length), (1, s0 2 lh2_3.length), (8, ii 1), (9, s0 3 lh3_6.length), (10, ii x10_6), (11, ii x11_6)] rfl (by kernel_rfl) ?_
                    refine XR.done (by kernel_rfl) ?_
                    show XQ _ _ _ _ _ _ _ _
                    refine XQ.seq E0_ok (by kernel_rfl) ?_
                    refine XQ.region (by kernel_rfl) ?_
                    refine XR.runS E0_ok 1 2 [(0, s0 3 lh3_6.length), (1, s0 2 lh2_3.length), (8, ii 1), (9, s0 3 lh3_6.length), (10, ii x10_6), (11, ii x11_6), (28, .bool true)] rfl (by kernel_rfl) ?_
                    refine XR.done (by kernel_rfl) ?_
                    show XQ _ _ _ _ _ _ _ _
                    refine XQ.cond (s := (.tmp 28)) (b := true) (by kernel_rfl) (by kernel_rfl) (fun _ => ?_) (fun q => by cases q)
                    refine XQ.seq E0_ok (by kernel_rfl) ?_
                    refine XQ.region (by kernel_rfl) ?_
                    refine XR.runS E0_ok 1 2 [(4, ii 1)] rfl (by kernel_rfl) ?_
                    refine XR.done (by kernel_rfl) ?_
                    show XQ _ _ _ _ _ _ _ _
                    refine XQ.ren (σ' := [(4, ii 1)]) (h' := [(3, rc (encI .i64) lh3_6 0 3 1), (2, rc (encI .i64) lh2_3 0 3 1), (1, rc encB lh1_3 0 4 1), (0, rc encP lh0_3 0 61 2)]) (c' := 4) [0, 1, 2, 3] (by decide) rfl ⟨by kernel_rfl, trivial⟩ ⟨⟨_, _, rfl, rfl, .inl ⟨rfl, rowC_scal (encI_ok .i64) _⟩⟩, ⟨_, _, rfl, rfl, .inl ⟨rfl, rowC_scal (encI_ok .i64) _⟩⟩, ⟨_, _, rfl, rfl, .inl ⟨rfl, rowC_scal encB_ok _⟩⟩, ⟨_, _, rfl, rfl, .inl ⟨rfl, rowC_scal encP_ok _⟩⟩, trivial⟩ rfl ?_
                    refine XQ.ret (by kernel_rfl) ?_
                    cases h
                    exact hQ
                  | false =>
                    have h := cF b9 h
                    refine XQ.cond (s := (.tmp 19)) (b := false) (by kernel_rfl) (by kernel_rfl) (fun q => by cases q) (fun _ => ?_)
                    refine XQ.skip (by kernel_rfl) ?_
                    show XQ _ _ _ _ _ _ _ _
                    refine XQ.seq E0_ok (by kernel_rfl) ?_
                    refine XQ.region (by kernel_rfl) ?_
                    refine XR.runS E0_ok 1 1 [(4, ii 0)] rfl (by kernel_rfl) ?_
                    refine XR.done (by kernel_rfl) ?_
                    show XQ _ _ _ _ _ _ _ _
                    refine XQ.ret (by kernel_rfl) ?_
                    refine ⟨fun i q => (by cases q), ii 0, (by kernel_rfl), ?_⟩
                    refine XR.conv (σ' := [(0, s0 3 lh3_6.length), (1, s0 2 lh2_3.length), (9, s0 3 lh3_6.length), (10, ii x10_6), (11, ii x11_6), (26, ii 0)]) (h' := [(3, rc (encI .i64) lh3_6 0 3 1), (2, rc (encI .i64) lh2_3 0 3 1), (1, rc encB lh1_3 0 4 1), (0, rc encP lh0_3 0 61 2)]) (c' := 4) ?_ (by kernel_rfl)
                    refine XR.runS E0_ok 1 1 [(0, s0 3 lh3_6.length), (1, s0 2 lh2_3.length), (8, ii 0), (9, s0 3 lh3_6.length), (10, ii x10_6), (11, ii x11_6)] rfl (by kernel_rfl) ?_
                    refine XR.done (by kernel_rfl) ?_
                    show XQ _ _ _ _ _ _ _ _
                    refine XQ.seq E0_ok (by kernel_rfl) ?_
                    refine XQ.region (by kernel_rfl) ?_
                    refine XR.runS E0_ok 1 2 [(0, s0 3 lh3_6.length), (1, s0 2 lh2_3.length), (8, ii 0), (9, s0 3 lh3_6.length), (10, ii x10_6), (11, ii x11_6), (28, .bool false)] rfl (by kernel_rfl) ?_
                    refine XR.done (by kernel_rfl) ?_
                    show XQ _ _ _ _ _ _ _ _
                    refine XQ.cond (s := (.tmp 28)) (b := false) (by kernel_rfl) (by kernel_rfl) (fun q => by cases q) (fun _ => ?_)
                    refine XQ.skip (by kernel_rfl) ?_
                    show XQ _ _ _ _ _ _ _ _
                    refine XQ.region (by kernel_rfl) ?_
                    refine XR.runS E0_ok 1 2 [(0, s0 3 lh3_6.length), (1, s0 2 lh2_3.length), (9, s0 3 lh3_6.length), (10, ii x10_6), (11, ii (w64 (x11_6 + 1)))] rfl (by kernel_rfl) ?_
                    refine XR.done (by kernel_rfl) ?_
                    show XL _ _ _ _ _ _ _ _ _
                    refine XL.ren (σ' := [(0, s0 3 lh3_6.length), (1, s0 2 lh2_3.length), (9, s0 3 lh3_6.length), (10, ii x10_6), (11, ii (w64 (x11_6 + 1)))]) (h' := [(3, rc (encI .i64) lh3_6 0 3 1), (2, rc (encI .i64) lh2_3 0 3 1), (1, rc encB lh1_3 0 4 1), (0, rc encP lh0_3 0 61 2)]) (c' := 4) [0, 1, 2, 3] (by decide) rfl ⟨by kernel_rfl, by kernel_rfl, by kernel_rfl, by kernel_rfl, by kernel_rfl, trivial⟩ ⟨⟨_, _, rfl, rfl, .inl ⟨rfl, rowC_scal (encI_ok .i64) _⟩⟩, ⟨_, _, rfl, rfl, .inl ⟨rfl, rowC_scal (encI_ok .i64) _⟩⟩, ⟨_, _, rfl, rfl, .inl ⟨rfl, rowC_scal encB_ok _⟩⟩, ⟨_, _, rfl, rfl, .inl ⟨rfl, rowC_scal encP_ok _⟩⟩, trivial⟩ rfl ?_
                    refine XL.conv (f13_6_ok m fuel lh0_3 lh1_3 lh2_3 x10_6 (w64 (x11_6 + 1)) lh3_6 o h Q hQ) (by first | rfl | simp)
    | false =>
      have h := cF b1 h
      refine XQ.cond (s := (.tmp 12)) (b := false) (by kernel_rfl) (by kernel_rfl) (fun q => by cases q) (fun _ => ?_)
      refine XQ.ren (σ' := [(0, s0 3 lh3_6.length), (1, s0 2 lh2_3.length)]) (h' := [(3, rc (encI .i64) lh3_6 0 3 1), (2, rc (encI .i64) lh2_3 0 3 1), (1, rc encB lh1_3 0 4 1), (0, rc encP lh0_3 0 61 2)]) (c' := 4) [0, 1, 2, 3] (by decide) rfl ⟨by kernel_rfl, by kernel_rfl, trivial⟩ ⟨⟨_, _, rfl, rfl, .inl ⟨rfl, rowC_scal (encI_ok .i64) _⟩⟩, ⟨_, _, rfl, rfl, .inl ⟨rfl, rowC_scal (encI_ok .i64) _⟩⟩, ⟨_, _, rfl, rfl, .inl ⟨rfl, rowC_scal encB_ok _⟩⟩, ⟨_, _, rfl, rfl, .inl ⟨rfl, rowC_scal encP_ok _⟩⟩, trivial⟩ rfl ?_
      refine XQ.exit (i := 0) (by kernel_rfl) ?_
      cases h
      exact hQ

inductive Of13_3 where
  | r
  | x4 (x8_x43 : Int) (lh0_x43 : List (Int × Int)) (lh1_x43 : List Int)

def f13_3 (m : Nat) : Nat → Int → Int → Bool → Int → Int → List (Int × Int) → List Bool → List Int → Option Of13_3
  | 0, _, _, _, _, _, _, _, _ => none
  | fuel + 1, x8_3, x10_3, b18_3, x76_3, x77_3, lh0_3, lh1_3, lh2_3 =>
    cond (decide (x77_3 < x76_3)) (
      cond (inRow x77_3 lh1_3.length) (
        cond (!(List.getD lh1_3 (Int.toNat x77_3) false)) (
          f13_3 m fuel x8_3 x10_3 b18_3 x76_3 (w64 (x77_3 + 1)) lh0_3 lh1_3 lh2_3
        ) (
          (f13_4 m m x8_3 x10_3 b18_3 x76_3 x77_3 lh0_3 lh1_3 lh2_3 true ((lh0_3.length : Nat) : Int) 0 []).bind fun o4 =>
            cond (o4.1) (
              cond (((o4.2.length : Nat) : Int) != x10_3) (
                some (.r)
              ) (
                cond (((o4.2.length : Nat) : Int) == x10_3) (
                  cond (!b18_3) (
                    f13_3 m fuel x8_3 x10_3 true x76_3 (w64 (x77_3 + 1)) lh0_3 lh1_3 o4.2
                  ) (
                    (f13_5 m m lh0_3 lh1_3 lh2_3 ((o4.2.length : Nat) : Int) 0 o4.2).bind fun o5 =>
                      match o5 with
                      | .r x4_r5 lh3_r5 =>
                        cond (decide (o4.2.length = lh3_r5.length)) (
                          cond (decide (x4_r5 < 0)) (
                            f13_3 m fuel x8_3 x10_3 true x76_3 (w64 (x77_3 + 1)) lh0_3 lh1_3 lh3_r5
                          ) (
                            f13_3 m fuel x8_3 x10_3 b18_3 x76_3 (w64 (x77_3 + 1)) lh0_3 lh1_3 lh2_3
                          )
                        ) none
                      | .x0 lh3_x05 =>
                        cond (decide (((lh3_x05.length : Nat) : Int) < ((lh2_3.length : Nat) : Int))) (
                          cond (decide (o4.2.length = lh3_x05.length)) (
                            f13_3 m fuel x8_3 x10_3 true x76_3 (w64 (x77_3 + 1)) lh0_3 lh1_3 lh3_x05
                          ) none
                        ) (
                          cond (decide (o4.2.length = lh3_x05.length)) (
                            f13_3 m fuel x8_3 x10_3 b18_3 x76_3 (w64 (x77_3 + 1)) lh0_3 lh1_3 lh2_3
                          ) none
                        )
                  )
                ) (
                  f13_3 m fuel x8_3 x10_3 b18_3 x76_3 (w64 (x77_3 + 1)) lh0_3 lh1_3 lh2_3
                )
              )
            ) (
              cond (((o4.2.length : Nat) : Int) == x10_3) (
                cond (!b18_3) (
                  f13_3 m fuel x8_3 x10_3 true x76_3 (w64 (x77_3 + 1)) lh0_3 lh1_3 o4.2
                ) (
                  (f13_6 m m lh0_3 lh1_3 lh2_3 ((o4.2.length : Nat) : Int) 0 o4.2).bind fun o6 =>
                    match o6 with
                    | .r x4_r6 lh3_r6 =>
                      cond (decide (o4.2.length = lh3_r6.length)) (
                        cond (decide (x4_r6 < 0)) (
                          f13_3 m fuel x8_3 x10_3 true x76_3 (w64 (x77_3 + 1)) lh0_3 lh1_3 lh3_r6
                        ) (
                          f13_3 m fuel x8_3 x10_3 b18_3 x76_3 (w64 (x77_3 + 1)) lh0_3 lh1_3 lh2_3
                        )
                      ) none
                    | .x0 lh3_x06 =>
                      cond (decide (((lh3_x06.length : Nat) : Int) < ((lh2_3.length : Nat) : Int))) (
                        cond (decide (o4.2.length = lh3_x06.length)) (
                          f13_3 m fuel x8_3 x10_3 true x76_3 (w64 (x77_3 + 1)) lh0_3 lh1_3 lh3_x06
                        ) none
                      ) (
                        cond (decide (o4.2.length = lh3_x06.length)) (
                          f13_3 m fuel x8_3 x10_3 b18_3 x76_3 (w64 (x77_3 + 1)) lh0_3 lh1_3 lh2_3
                        ) none
                      )
                )
              ) (
                f13_3 m fuel x8_3 x10_3 b18_3 x76_3 (w64 (x77_3 + 1)) lh0_3 lh1_3 lh2_3
              )
            )
        )
      ) none
    ) (
      some (.x4 x8_3 lh0_3 lh2_3)
    )

theorem f13_3_ok (m : Nat) : ∀ (fuel : Nat) (x8_3 : Int) (x10_3 : Int) (b18_3 : Bool) (x76_3 : Int) (x77_3 : Int) (lh0_3 : List (Int × Int)) (lh1_3 : List Bool) (lh2_3 : List Int) (o : Of13_3), f13_3 m fuel x8_3 x10_3 b18_3 x76_3 x77_3 lh0_3 lh1_3 lh2_3 = some o → ∀ Q : QP, (match o with | .r => Q .ret [(6, .bool false)] [] 0 | .x4 x8_x43 lh0_x43 lh1_x43 => Q (.exit 4) [(7, s0 0 lh0_x43.length), (8, ii x8_x43), (17, s0 1 lh1_x43.length)] [(1, rc (encI .i64) lh1_x43 0 3 1), (0, rc encP lh0_x43 0 61 2)] 2) → XL E0 145 0 fuel f13_L3 [(7, s0 0 lh0_3.length), (8, ii x8_3), (9, s0 1 lh1_3.length), (10, ii x10_3), (17, s0 2 lh2_3.length), (18, .bool b18_3), (75, s0 1 lh1_3.length), (76, ii x76_3), (77, ii x77_3)] [(2, rc (encI .i64) lh2_3 0 3 1), (1, rc encB lh1_3 0 4 1), (0, rc encP lh0_3 0 61 2)] 3 Q
  | 0, x8_3, x10_3, b18_3, x76_3, x77_3, lh0_3, lh1_3, lh2_3, o, h, Q, hQ => by cases h
  | fuel + 1, x8_3, x10_3, b18_3, x76_3, x77_3, lh0_3, lh1_3, lh2_3, o, h, Q, hQ => by
    unfold f13_3 at h
    refine XL.succ E0_ok ?_
    refine XQ.seq E0_ok (by kernel_rfl) ?_
    refine XQ.region (by kernel_rfl) ?_
    refine XR.runS E0_ok 1 1 [(7, s0 0 lh0_3.length), (8, ii x8_3), (9, s0 1 lh1_3.length), (10, ii x10_3), (17, s0 2 lh2_3.length), (18, .bool b18_3), (75, s0 1 lh1_3.length), (76, ii x76_3), (77, ii x77_3), (78, .bool (decide (x77_3 < x76_3)))] rfl (by kernel_rfl) ?_
    refine XR.done (by kernel_rfl) ?_
    show XQ _ _ _ _ _ _ _ _
    refine XQ.seq E0_ok (by kernel_rfl) ?_
    cases b1 : (decide (x77_3 < x76_3) : Bool) with
    | true =>
      have h := cT b1 h
      refine XQ.cond (s := (.tmp 78)) (b := true) (by kernel_rfl) (by kernel_rfl) (fun _ => ?_) (fun q => by cases q)
      refine XQ.skip (by kernel_rfl) ?_
      show XQ _ _ _ _ _ _ _ _
      refine XQ.seq E0_ok (by kernel_rfl) ?_
      refine XQ.block (id := 5) (by kernel_rfl) ?_
      refine XQ.seq E0_ok (by kernel_rfl) ?_
      refine XQ.region (by kernel_rfl) ?_
      refine XR.runS E0_ok 1 1 [(7, s0 0 lh0_3.length), (8, ii x8_3), (9, s0 1 lh1_3.length), (10, ii x10_3), (17, s0 2 lh2_3.length), (18, .bool b18_3), (75, s0 1 lh1_3.length), (76, ii x76_3), (77, ii x77_3), (79, ii x77_3)] rfl (by kernel_rfl) ?_
      cases b2 : (inRow x77_3 lh1_3.length : Bool) with
      | false => cases (cF b2 h)
      | true =>
        have h := cT b2 h
        refine XR.rd E0_ok [7, 8, 9, 10, 17, 18, 75, 76, 77, 79, 80] rfl (v := pp 1 ((Int.toNat x77_3) * 1)) (v_idx (s := 1) (x := (src 145 (.tmp 75))) (y := (src 145 (.tmp 77))) (b := 1) (o := 0) (len := lh1_3.length) (cap := lh1_3.length) (ik := .i64) (i := x77_3) (off := (Int.toNat x77_3) * 1) (d := (some (path 12 80))) (by kernel_rfl) (by kernel_rfl) (by kernel_rfl) b2 (by omega)) (σ' := [(7, s0 0 lh0_3.length), (8, ii x8_3), (9, s0 1 lh1_3.length), (10, ii x10_3), (17, s0 2 lh2_3.length), (18, .bool b18_3), (75, s0 1 lh1_3.length), (76, ii x76_3), (77, ii x77_3), (79, ii x77_3), (80, pp 1 ((Int.toNat x77_3) * 1))]) (by kernel_rfl) ?_
        refine XR.rd E0_ok [7, 8, 9, 10, 17, 18, 75, 76, 77, 79, 81] rfl (v := .bool (List.getD lh1_3 (Int.toNat x77_3) false)) (v_load1 encB_ok (x := (src 145 (.tmp 80))) (b := 1) (off := (Int.toNat x77_3) * 1) (xs := lh1_3) (fz := 0) (e := 4) (es := 1) (d := (some (path 12 81))) (by kernel_rfl) (by kernel_rfl) (by kernel_rfl) (Int.toNat x77_3) 0 false (by first | rfl | omega) (row_len (inRow_toNat b2) (by simp)) rfl rfl) (σ' := [(7, s0 0 lh0_3.length), (8, ii x8_3), (9, s0 1 lh1_3.length), (10, ii x10_3), (17, s0 2 lh2_3.length), (18, .bool b18_3), (75, s0 1 lh1_3.length), (76, ii x76_3), (77, ii x77_3), (79, ii x77_3), (81, .bool (List.getD lh1_3 (Int.toNat x77_3) false))]) (by kernel_rfl) ?_
        refine XR.runS E0_ok 1 2 [(7, s0 0 lh0_3.length), (8, ii x8_3), (9, s0 1 lh1_3.length), (10, ii x10_3), (17, s0 2 lh2_3.length), (18, .bool b18_3), (19, ii x77_3), (20, .bool (List.getD lh1_3 (Int.toNat x77_3) false)), (75, s0 1 lh1_3.length), (76, ii x76_3), (77, ii x77_3)] rfl (by kernel_rfl) ?_
        refine XR.done (by kernel_rfl) ?_
        show XQ _ _ _ _ _ _ _ _
        refine XQ.seq E0_ok (by kernel_rfl) ?_
        refine XQ.seq E0_ok (by kernel_rfl) ?_
        refine XQ.region (by kernel_rfl) ?_
        refine XR.runS E0_ok 1 2 [(7, s0 0 lh0_3.length), (8, ii x8_3), (9, s0 1 lh1_3.length), (10, ii x10_3), (17, s0 2 lh2_3.length), (18, .bool b18_3), (19, ii x77_3), (75, s0 1 lh1_3.length), (76, ii x76_3), (77, ii x77_3), (83, .bool (!(List.getD lh1_3 (Int.toNat x77_3) false)))] rfl (by kernel_rfl) ?_
        refine XR.done (by kernel_rfl) ?_
        show XQ _ _ _ _ _ _ _ _
        cases b3 : (!(List.getD lh1_3 (Int.toNat x77_3) false) : Bool) with
        | true =>
          have h := cT b3 h
          refine XQ.cond (s := (.tmp 83)) (b := true) (by kernel_rfl) (by kernel_rfl) (fun _ => ?_) (fun q => by cases q)
          refine XQ.exit (i := 5) (by kernel_rfl) ?_
          show XQ _ _ _ _ _ _ _ _
          refine XQ.region (by kernel_rfl) ?_
          refine XR.runS E0_ok 1 2 [(7, s0 0 lh0_3.length), (8, ii x8_3), (9, s0 1 lh1_3.length), (10, ii x10_3), (17, s0 2 lh2_3.length), (18, .bool b18_3), (75, s0 1 lh1_3.length), (76, ii x76_3), (77, ii (w64 (x77_3 + 1)))] rfl (by kernel_rfl) ?_
          refine XR.done (by kernel_rfl) ?_
          show XL _ _ _ _ _ _ _ _ _
          refine XL.ren (σ' := [(7, s0 0 lh0_3.length), (8, ii x8_3), (9, s0 1 lh1_3.length), (10, ii x10_3), (17, s0 2 lh2_3.length), (18, .bool b18_3), (75, s0 1 lh1_3.length), (76, ii x76_3), (77, ii (w64 (x77_3 + 1)))]) (h' := [(2, rc (encI .i64) lh2_3 0 3 1), (1, rc encB lh1_3 0 4 1), (0, rc encP lh0_3 0 61 2)]) (c' := 3) [0, 1, 2] (by decide) rfl ⟨by kernel_rfl, by kernel_rfl, by kernel_rfl, by kernel_rfl, by kernel_rfl, by kernel_rfl, by kernel_rfl, by kernel_rfl, by kernel_rfl, trivial⟩ ⟨⟨_, _, rfl, rfl, .inl ⟨rfl, rowC_scal (encI_ok .i64) _⟩⟩, ⟨_, _, rfl, rfl, .inl ⟨rfl, rowC_scal encB_ok _⟩⟩, ⟨_, _, rfl, rfl, .inl ⟨rfl, rowC_scal encP_ok _⟩⟩, trivial⟩ rfl ?_
          refine XL.conv (f13_3_ok m fuel x8_3 x10_3 b18_3 x76_3 (w64 (x77_3 + 1)) lh0_3 lh1_3 lh2_3 o h Q hQ) (by first | rfl | simp)
        | false =>
          have h := cF b3 h
          refine XQ.cond (s := (.tmp 83)) (b := false) (by kernel_rfl) (by kernel_rfl) (fun q => by cases q) (fun _ => ?_)
          refine XQ.skip (by kernel_rfl) ?_
          show XQ _ _ _ _ _ _ _ _
          refine XQ.seq E0_ok (by kernel_rfl) ?_
          refine XQ.region (by kernel_rfl) ?_
          refine XR.runS E0_ok 1 1 [(7, s0 0 lh0_3.length), (8, ii x8_3), (9, s0 1 lh1_3.length), (10, ii x10_3), (17, s0 2 lh2_3.length), (18, .bool b18_3), (19, ii x77_3), (21, .slice none 0 0), (75, s0 1 lh1_3.length), (76, ii x76_3), (77, ii x77_3)] rfl (by kernel_rfl) ?_
          refine XR.done (by kernel_rfl) ?_
          show XQ _ _ _ _ _ _ _ _
          refine XQ.ghost 3 1 rfl (σ' := [(7, s0 0 lh0_3.length), (8, ii x8_3), (9, s0 1 lh1_3.length), (10, ii x10_3), (17, s0 2 lh2_3.length), (18, .bool b18_3), (19, ii x77_3), (21, s0 3 0), (75, s0 1 lh1_3.length), (76, ii x76_3), (77, ii x77_3)]) (h' := [(2, rc (encI .i64) lh2_3 0 3 1), (1, rc encB lh1_3 0 4 1), (0, rc encP lh0_3 0 61 2)]) ⟨by kernel_rfl, by kernel_rfl, by kernel_rfl, by kernel_rfl, by kernel_rfl, by kernel_rfl, by kernel_rfl, by kernel_rfl, by kernel_rfl, by kernel_rfl, by kernel_rfl, trivial⟩ ⟨⟨_, rfl, .inl rfl⟩, ⟨_, rfl, .inl rfl⟩, ⟨_, rfl, .inl rfl⟩, trivial⟩ ?_
          refine XQ.conv (σ' := [(7, s0 0 lh0_3.length), (8, ii x8_3), (9, s0 1 lh1_3.length), (10, ii x10_3), (17, s0 2 lh2_3.length), (18, .bool b18_3), (19, ii x77_3), (21, s0 3 0), (75, s0 1 lh1_3.length), (76, ii x76_3), (77, ii x77_3)]) (h' := [(3, rc (encI .i64) [] 0 3 1), (2, rc (encI .i64) lh2_3 0 3 1), (1, rc encB lh1_3 0 4 1), (0, rc encP lh0_3 0 61 2)]) (c' := 4) ?_ (by kernel_rfl)
          refine XQ.seq E0_ok (by kernel_rfl) ?_
          refine XQ.region (by kernel_rfl) ?_
          refine XR.runS E0_ok 1 1 [(7, s0 0 lh0_3.length), (8, ii x8_3), (9, s0 1 lh1_3.length), (10, ii x10_3), (17, s0 2 lh2_3.length), (18, .bool b18_3), (19, ii x77_3), (21, s0 3 0), (22, .bool true), (75, s0 1 lh1_3.length), (76, ii x76_3), (77, ii x77_3)] rfl (by kernel_rfl) ?_
          refine XR.done (by kernel_rfl) ?_
          show XQ _ _ _ _ _ _ _ _
          refine XQ.seq E0_ok (by kernel_rfl) ?_
          refine XQ.seq E0_ok (by kernel_rfl) ?_
          refine XQ.region (by kernel_rfl) ?_
          refine XR.runS E0_ok 1 3 [(7, s0 0 lh0_3.length), (8, ii x8_3), (9, s0 1 lh1_3.length), (10, ii x10_3), (17, s0 2 lh2_3.length), (18, .bool b18_3), (19, ii x77_3), (21, s0 3 0), (22, .bool true), (75, s0 1 lh1_3.length), (76, ii x76_3), (77, ii x77_3), (85, ii ((lh0_3.length : Nat) : Int)), (86, ii 0)] rfl (by kernel_rfl) ?_
          refine XR.done (by kernel_rfl) ?_
          show XQ _ _ _ _ _ _ _ _
          refine XQ.block (id := 6) (by kernel_rfl) ?_
          refine XQ.loop m (by kernel_rfl) ?_
          obtain ⟨o4, o4_h, h⟩ := bS h
          refine XL.ren (σ' := [(7, s0 0 lh0_3.length), (8, ii x8_3), (9, s0 1 lh1_3.length), (10, ii x10_3), (17, s0 2 lh2_3.length), (18, .bool b18_3), (19, ii x77_3), (21, s0 3 0), (22, .bool true), (75, s0 1 lh1_3.length), (76, ii x76_3), (77, ii x77_3), (85, ii ((lh0_3.length : Nat) : Int)), (86, ii 0)]) (h' := [(3, rc (encI .i64) [] 0 3 1), (2, rc (encI .i64) lh2_3 0 3 1), (1, rc encB lh1_3 0 4 1), (0, rc encP lh0_3 0 61 2)]) (c' := 4) [0, 1, 2, 3] (by decide) rfl ⟨by kernel_rfl, by kernel_rfl, by kernel_rfl, by kernel_rfl, by kernel_rfl, by kernel_rfl, by kernel_rfl, by kernel_rfl, by kernel_rfl, by kernel_rfl, by kernel_rfl, by kernel_rfl, by kernel_rfl, by kernel_rfl, trivial⟩ ⟨⟨_, _, rfl, rfl, .inl ⟨rfl, rowC_scal (encI_ok .i64) _⟩⟩, ⟨_, _, rfl, rfl, .inl ⟨rfl, rowC_scal (encI_ok .i64) _⟩⟩, ⟨_, _, rfl, rfl, .inl ⟨rfl, rowC_scal encB_ok _⟩⟩, ⟨_, _, rfl, rfl, .inl ⟨rfl, rowC_scal encP_ok _⟩⟩, trivial⟩ rfl ?_
          refine XL.conv (f13_4_ok m m x8_3 x10_3 b18_3 x76_3 x77_3 lh0_3 lh1_3 lh2_3 true ((lh0_3.length : Nat) : Int) 0 [] o4 o4_h _ ?_) (by first | rfl | simp)
          show XQ _ _ _ _ _ _ _ _
          refine XQ.seq E0_ok (by kernel_rfl) ?_
          refine XQ.seq E0_ok (by kernel_rfl) ?_
          refine XQ.region (by kernel_rfl) ?_
          refine XR.runS E0_ok 1 2 [(7, s0 0 lh0_3.length), (8, ii x8_3), (9, s0 1 lh1_3.length), (10, ii x10_3), (17, s0 2 lh2_3.length), (18, .bool b18_3), (21, s0 3 o4.2.length), (75, s0 1 lh1_3.length), (76, ii x76_3), (77, ii x77_3), (107, .bool o4.1)] rfl (by kernel_rfl) ?_
          cases b5 : (o4.1 : Bool) with
          | true =>
            have h := cT b5 h
            refine XR.runS E0_ok 1 5 [(7, s0 0 lh0_3.length), (8, ii x8_3), (9, s0 1 lh1_3.length), (10, ii x10_3), (17, s0 2 lh2_3.length), (18, .bool b18_3), (21, s0 3 o4.2.length), (75, s0 1 lh1_3.length), (76, ii x76_3), (77, ii x77_3), (112, .bool (((o4.2.length : Nat) : Int) != x10_3))] rfl (by kernel_rfl) ?_
            refine XR.done (by kernel_rfl) ?_
            show XQ _ _ _ _ _ _ _ _
            cases b6 : (((o4.2.length : Nat) : Int) != x10_3 : Bool) with
            | true =>
              have h := cT b6 h
              refine XQ.cond (s := (.tmp 112)) (b := true) (by kernel_rfl) (by kernel_rfl) (fun _ => ?_) (fun q => by cases q)
              refine XQ.seq E0_ok (by kernel_rfl) ?_
              refine XQ.region (by kernel_rfl) ?_
              refine XR.runS E0_ok 1 1 [(6, .bool false)] rfl (by kernel_rfl) ?_
              refine XR.done (by kernel_rfl) ?_
              show XQ _ _ _ _ _ _ _ _
              refine XQ.ren (σ' := [(6, .bool false)]) (h' := []) (c' := 0) [] (by decide) rfl ⟨by kernel_rfl, trivial⟩ trivial rfl ?_
              refine XQ.ret (by kernel_rfl) ?_
              cases h
              exact hQ
            | false =>
              have h := cF b6 h
              refine XQ.cond (s := (.tmp 112)) (b := false) (by kernel_rfl) (by kernel_rfl) (fun q => by cases q) (fun _ => ?_)
              refine XQ.skip (by kernel_rfl) ?_
              show XQ _ _ _ _ _ _ _ _
              refine XQ.seq E0_ok (by kernel_rfl) ?_
              refine XQ.region (by kernel_rfl) ?_
              refine XR.runS E0_ok 1 5 [(7, s0 0 lh0_3.length), (8, ii x8_3), (9, s0 1 lh1_3.length), (10, ii x10_3), (17, s0 2 lh2_3.length), (18, .bool b18_3), (21, s0 3 o4.2.length), (75, s0 1 lh1_3.length), (76, ii x76_3), (77, ii x77_3), (117, .bool (((o4.2.length : Nat) : Int) == x10_3))] rfl (by kernel_rfl) ?_
              cases b7 : (((o4.2.length : Nat) : Int) == x10_3 : Bool) with
              | true =>
                have h := cT b7 h
                refine XR.runS E0_ok 1 3 [(7, s0 0 lh0_3.length), (8, ii x8_3), (9, s0 1 lh1_3.length), (10, ii x10_3), (17, s0 2 lh2_3.length), (18, .bool b18_3), (21, s0 3 o4.2.length), (75, s0 1 lh1_3.length), (76, ii x76_3), (77, ii x77_3), (117, .bool true), (120, .bool (!b18_3))] rfl (by kernel_rfl) ?_
                cases b8 : (!b18_3 : Bool) with
                | true =>
                  have h := cT b8 h
                  refine XR.runS E0_ok 1 6 [(7, s0 0 lh0_3.length), (8, ii x8_3), (9, s0 1 lh1_3.length), (10, ii x10_3), (17, s0 2 lh2_3.length), (18, .bool b18_3), (21, s0 3 o4.2.length), (75, s0 1 lh1_3.length), (76, ii x76_3), (77, ii x77_3), (126, .bool true)] rfl (by kernel_rfl) ?_
                  refine XR.done (by kernel_rfl) ?_
                  show XQ _ _ _ _ _ _ _ _
                  refine XQ.cond (s := (.tmp 126)) (b := true) (by kernel_rfl) (by kernel_rfl) (fun _ => ?_) (fun q => by cases q)
                  refine XQ.region (by kernel_rfl) ?_
                  refine XR.runS E0_ok 1 3 [(7, s0 0 lh0_3.length), (8, ii x8_3), (9, s0 1 lh1_3.length), (10, ii x10_3), (17, s0 3 o4.2.length), (18, .bool true), (75, s0 1 lh1_3.length), (76, ii x76_3), (77, ii x77_3)] rfl (by kernel_rfl) ?_
                  refine XR.done (by kernel_rfl) ?_
                  show XQ _ _ _ _ _ _ _ _
                  refine XQ.region (by kernel_rfl) ?_
                  refine XR.runS E0_ok 1 2 [(7, s0 0 lh0_3.length), (8, ii x8_3), (9, s0 1 lh1_3.length), (10, ii x10_3), (17, s0 3 o4.2.length), (18, .bool true), (75, s0 1 lh1_3.length), (76, ii x76_3), (77, ii (w64 (x77_3 + 1)))] rfl (by kernel_rfl) ?_
                  refine XR.done (by kernel_rfl) ?_
                  show XL _ _ _ _ _ _ _ _ _
                  refine XL.ren (σ' := [(7, s0 0 lh0_3.length), (8, ii x8_3), (9, s0 1 lh1_3.length), (10, ii x10_3), (17, s0 2 o4.2.length), (18, .bool true), (75, s0 1 lh1_3.length), (76, ii x76_3), (77, ii (w64 (x77_3 + 1)))]) (h' := [(2, rc (encI .i64) o4.2 0 3 1), (1, rc encB lh1_3 0 4 1), (0, rc encP lh0_3 0 61 2)]) (c' := 3) [0, 1, 3] (by decide) rfl ⟨by kernel_rfl, by kernel_rfl, by kernel_rfl, by kernel_rfl, by kernel_rfl, by kernel_rfl, by kernel_rfl, by kernel_rfl, by kernel_rfl, trivial⟩ ⟨⟨_, _, rfl, rfl, .inl ⟨rfl, rowC_scal (encI_ok .i64) _⟩⟩, ⟨_, _, rfl, rfl, .inl ⟨rfl, rowC_scal encB_ok _⟩⟩, ⟨_, _, rfl, rfl, .inl ⟨rfl, rowC_scal encP_ok _⟩⟩, trivial⟩ rfl ?_
                  refine XL.conv (f13_3_ok m fuel x8_3 x10_3 true x76_3 (w64 (x77_3 + 1)) lh0_3 lh1_3 o4.2 o h Q hQ) (by first | rfl | simp)
                | false =>
                  have h := cF b8 h
                  refine XR.runS E0_ok 1 2 [(7, s0 0 lh0_3.length), (8, ii x8_3), (9, s0 1 lh1_3.length), (10, ii x10_3), (17, s0 2 lh2_3.length), (18, .bool b18_3), (21, s0 3 o4.2.length), (75, s0 1 lh1_3.length), (76, ii x76_3), (77, ii x77_3), (117, .bool true), (120, .bool false), (121, s0 3 o4.2.length), (122, s0 2 lh2_3.length)] rfl (by kernel_rfl) ?_
                  refine XR.callK E0_ok [7, 8, 9, 10, 17, 18, 21, 75, 76, 77, 117, 120, 123] rfl (K := 54) (args := [s0 3 o4.2.length, s0 2 lh2_3.length]) (d := (some (path 12 123))) (by kernel_rfl) ?_
                  refine KC.bodyN E0_ok (F := Proofs.Try.f54) (by kernel_rfl) (code := f13_C54) (by kernel_rfl) (nt := 36) (by kernel_rfl) (rs := [.tmp 4]) (by kernel_rfl) (by kernel_rfl) (σ := [(0, s0 3 o4.2.length), (1, s0 2 lh2_3.length)]) (by kernel_rfl) ?_
                  refine XQ.seq E0_ok (by kernel_rfl) ?_
                  refine XQ.region (by kernel_rfl) ?_
                  refine XR.runS E0_ok 1 1 [(0, s0 3 o4.2.length), (1, s0 2 lh2_3.length)] rfl (by kernel_rfl) ?_
                  refine XR.done (by kernel_rfl) ?_
                  show XQ _ _ _ _ _ _ _ _
                  refine XQ.seq E0_ok (by kernel_rfl) ?_
                  refine XQ.seq E0_ok (by kernel_rfl) ?_
                  refine XQ.region (by kernel_rfl) ?_
                  refine XR.runS E0_ok 1 3 [(0, s0 3 o4.2.length), (1, s0 2 lh2_3.length), (9, s0 3 o4.2.length), (10, ii ((o4.2.length : Nat) : Int)), (11, ii 0)] rfl (by kernel_rfl) ?_
                  refine XR.done (by kernel_rfl) ?_
                  show XQ _ _ _ _ _ _ _ _
                  refine XQ.block (id := 0) (by kernel_rfl) ?_
                  refine XQ.loop m (by kernel_rfl) ?_
                  obtain ⟨o5, o5_h, h⟩ := bS h
                  refine XL.ren (σ' := [(0, s0 3 o4.2.length), (1, s0 2 lh2_3.length), (9, s0 3 o4.2.length), (10, ii ((o4.2.length : Nat) : Int)), (11, ii 0)]) (h' := [(3, rc (encI .i64) o4.2 0 3 1), (2, rc (encI .i64) lh2_3 0 3 1), (1, rc encB lh1_3 0 4 1), (0, rc encP lh0_3 0 61 2)]) (c' := 4) [0, 1, 2, 3] (by decide) rfl ⟨by kernel_rfl, by kernel_rfl, by kernel_rfl, by kernel_rfl, by kernel_rfl, trivial⟩ ⟨⟨_, _, rfl, rfl, .inl ⟨rfl, rowC_scal (encI_ok .i64) _⟩⟩, ⟨_, _, rfl, rfl, .inl ⟨rfl, rowC_scal (encI_ok .i64) _⟩⟩, ⟨_, _, rfl, rfl, .inl ⟨rfl, rowC_scal encB_ok _⟩⟩, ⟨_, _, rfl, rfl, .inl ⟨rfl, rowC_scal encP_ok _⟩⟩, trivial⟩ rfl ?_
                  cases o5 with
                  | r x4_r5 lh3_r5 =>
                    dsimp only at h
                    refine XL.conv (f13_5_ok m m lh0_3 lh1_3 lh2_3 ((o4.2.length : Nat) : Int) 0 o4.2 (.r x4_r5 lh3_r5) o5_h _ ?_) (by first | rfl | simp)
                    refine ⟨fun i q => (by cases q), ii x4_r5, (by kernel_rfl), ?_⟩
                    refine XR.conv (σ' := [(7, s0 0 lh0_3.length), (8, ii x8_3), (9, s0 1 lh1_3.length), (10, ii x10_3), (17, s0 2 lh2_3.length), (18, .bool b18_3), (21, s0 3 o4.2.length), (75, s0 1 lh1_3.length), (76, ii x76_3), (77, ii x77_3), (117, .bool true), (120, .bool false), (123, ii x4_r5)]) (h' := [(3, rc (encI .i64) lh3_r5 0 3 1), (2, rc (encI .i64) lh2_3 0 3 1), (1, rc encB lh1_3 0 4 1), (0, rc encP lh0_3 0 61 2)]) (c' := 4) ?_ (by kernel_rfl)
                    cases b10 : (decide (o4.2.length = lh3_r5.length) : Bool) with
                    | false => cases (cF b10 h)
                    | true =>
                      have h := cT b10 h
                      refine XR.conv (σ' := [(7, s0 0 lh0_3.length), (8, ii x8_3), (9, s0 1 lh1_3.length), (10, ii x10_3), (17, s0 2 lh2_3.length), (18, .bool b18_3), (21, s0 3 lh3_r5.length), (75, s0 1 lh1_3.length), (76, ii x76_3), (77, ii x77_3), (117, .bool true), (120, .bool false), (123, ii x4_r5)]) (h' := [(3, rc (encI .i64) lh3_r5 0 3 1), (2, rc (encI .i64) lh2_3 0 3 1), (1, rc encB lh1_3 0 4 1), (0, rc encP lh0_3 0 61 2)]) (c' := 4) ?_ (by rw [of_decide_eq_true b10])
                      refine XR.runS E0_ok 1 3 [(7, s0 0 lh0_3.length), (8, ii x8_3), (9, s0 1 lh1_3.length), (10, ii x10_3), (17, s0 2 lh2_3.length), (18, .bool b18_3), (21, s0 3 lh3_r5.length), (75, s0 1 lh1_3.length), (76, ii x76_3), (77, ii x77_3), (126, .bool (decide (x4_r5 < 0)))] rfl (by kernel_rfl) ?_
                      refine XR.done (by kernel_rfl) ?_
                      show XQ _ _ _ _ _ _ _ _
                      cases b11 : (decide (x4_r5 < 0) : Bool) with
                      | true =>
                        have h := cT b11 h
                        refine XQ.cond (s := (.tmp 126)) (b := true) (by kernel_rfl) (by kernel_rfl) (fun _ => ?_) (fun q => by cases q)
                        refine XQ.region (by kernel_rfl) ?_
                        refine XR.runS E0_ok 1 3 [(7, s0 0 lh0_3.length), (8, ii x8_3), (9, s0 1 lh1_3.length), (10, ii x10_3), (17, s0 3 lh3_r5.length), (18, .bool true), (75, s0 1 lh1_3.length), (76, ii x76_3), (77, ii x77_3)] rfl (by kernel_rfl) ?_
                        refine XR.done (by kernel_rfl) ?_
                        show XQ _ _ _ _ _ _ _ _
                        refine XQ.region (by kernel_rfl) ?_
                        refine XR.runS E0_ok 1 2 [(7, s0 0 lh0_3.length), (8, ii x8_3), (9, s0 1 lh1_3.length), (10, ii x10_3), (17, s0 3 lh3_r5.length), (18, .bool true), (75, s0 1 lh1_3.length), (76, ii x76_3), (77, ii (w64 (x77_3 + 1)))] rfl (by kernel_rfl) ?_
                        refine XR.done (by kernel_rfl) ?_
                        show XL _ _ _ _ _ _ _ _ _
                        refine XL.ren (σ' := [(7, s0 0 lh0_3.length), (8, ii x8_3), (9, s0 1 lh1_3.length), (10, ii x10_3), (17, s0 2 lh3_r5.length), (18, .bool true), (75, s0 1 lh1_3.length), (76, ii x76_3), (77, ii (w64 (x77_3 + 1)))]) (h' := [(2, rc (encI .i64) lh3_r5 0 3 1), (1, rc encB lh1_3 0 4 1), (0, rc encP lh0_3 0 61 2)]) (c' := 3) [0, 1, 3] (by decide) rfl ⟨by kernel_rfl, by kernel_rfl, by kernel_rfl, by kernel_rfl, by kernel_rfl, by kernel_rfl, by kernel_rfl, by kernel_rfl, by kernel_rfl, trivial⟩ ⟨⟨_, _, rfl, rfl, .inl ⟨rfl, rowC_scal (encI_ok .i64) _⟩⟩, ⟨_, _, rfl, rfl, .inl ⟨rfl, rowC_scal encB_ok _⟩⟩, ⟨_, _, rfl, rfl, .inl ⟨rfl, rowC_scal encP_ok _⟩⟩, trivial⟩ rfl ?_
                        refine XL.conv (f13_3_ok m fuel x8_3 x10_3 true x76_3 (w64 (x77_3 + 1)) lh0_3 lh1_3 lh3_r5 o h Q hQ) (by first | rfl | simp)
                      | false =>
                        have h := cF b11 h
                        refine XQ.cond (s := (.tmp 126)) (b := false) (by kernel_rfl) (by kernel_rfl) (fun q => by cases q) (fun _ => ?_)
                        refine XQ.skip (by kernel_rfl) ?_
                        show XQ _ _ _ _ _ _ _ _
                        refine XQ.region (by kernel_rfl) ?_
                        refine XR.runS E0_ok 1 2 [(7, s0 0 lh0_3.length), (8, ii x8_3), (9, s0 1 lh1_3.length), (10, ii x10_3), (17, s0 2 lh2_3.length), (18, .bool b18_3), (75, s0 1 lh1_3.length), (76, ii x76_3), (77, ii (w64 (x77_3 + 1)))] rfl (by kernel_rfl) ?_
                        refine XR.done (by kernel_rfl) ?_
                        show XL _ _ _ _ _ _ _ _ _
                        refine XL.ren (σ' := [(7, s0 0 lh0_3.length), (8, ii x8_3), (9, s0 1 lh1_3.length), (10, ii x10_3), (17, s0 2 lh2_3.length), (18, .bool b18_3), (75, s0 1 lh1_3.length), (76, ii x76_3), (77, ii (w64 (x77_3 + 1)))]) (h' := [(2, rc (encI .i64) lh2_3 0 3 1), (1, rc encB lh1_3 0 4 1), (0, rc encP lh0_3 0 61 2)]) (c' := 3) [0, 1, 2] (by decide) rfl ⟨by kernel_rfl, by kernel_rfl, by kernel_rfl, by kernel_rfl, by kernel_rfl, by kernel_rfl, by kernel_rfl, by kernel_rfl, by kernel_rfl, trivial⟩ ⟨⟨_, _, rfl, rfl, .inl ⟨rfl, rowC_scal (encI_ok .i64) _⟩⟩, ⟨_, _, rfl, rfl, .inl ⟨rfl, rowC_scal encB_ok _⟩⟩, ⟨_, _, rfl, rfl, .inl ⟨rfl, rowC_scal encP_ok _⟩⟩, trivial⟩ rfl ?_
                        refine XL.conv (f13_3_ok m fuel x8_3 x10_3 b18_3 x76_3 (w64 (x77_3 + 1)) lh0_3 lh1_3 lh2_3 o h Q hQ) (by first | rfl | simp)
                  | x0 lh3_x05 =>
                    dsimp only at h
                    refine XL.conv (f13_5_ok m m lh0_3 lh1_3 lh2_3 ((o4.2.length : Nat) : Int) 0 o4.2 (.x0 lh3_x05) o5_h _ ?_) (by first | rfl | simp)
                    show XQ _ _ _ _ _ _ _ _
                    refine XQ.seq E0_ok (by kernel_rfl) ?_
                    refine XQ.seq E0_ok (by kernel_rfl) ?_
                    refine XQ.region (by kernel_rfl) ?_
                    refine XR.runS E0_ok 1 5 [(35, .bool (decide (((lh3_x05.length : Nat) : Int) < ((lh2_3.length : Nat) : Int))))] rfl (by kernel_rfl) ?_
                    refine XR.done (by kernel_rfl) ?_
                    show XQ _ _ _ _ _ _ _ _
                    cases b12 : (decide (((lh3_x05.length : Nat) : Int) < ((lh2_3.length : Nat) : Int)) : Bool) with
                    | true =>
                      have h := cT b12 h
                      refine XQ.cond (s := (.tmp 35)) (b := true) (by kernel_rfl) (by kernel_rfl) (fun _ => ?_) (fun q => by cases q)
                      refine XQ.seq E0_ok (by kernel_rfl) ?_
                      refine XQ.region (by kernel_rfl) ?_
                      refine XR.runS E0_ok 1 1 [(4, ii (-1))] rfl (by kernel_rfl) ?_
                      refine XR.done (by kernel_rfl) ?_
                      show XQ _ _ _ _ _ _ _ _
                      refine XQ.ret (by kernel_rfl) ?_
                      refine ⟨fun i q => (by cases q), ii (-1), (by kernel_rfl), ?_⟩
                      refine XR.conv (σ' := [(7, s0 0 lh0_3.length), (8, ii x8_3), (9, s0 1 lh1_3.length), (10, ii x10_3), (17, s0 2 lh2_3.length), (18, .bool b18_3), (21, s0 3 o4.2.length), (75, s0 1 lh1_3.length), (76, ii x76_3), (77, ii x77_3), (117, .bool true), (120, .bool false), (123, ii (-1))]) (h' := [(3, rc (encI .i64) lh3_x05 0 3 1), (2, rc (encI .i64) lh2_3 0 3 1), (1, rc encB lh1_3 0 4 1), (0, rc encP lh0_3 0 61 2)]) (c' := 4) ?_ (by kernel_rfl)
                      cases b13 : (decide (o4.2.length = lh3_x05.length) : Bool) with
                      | false => cases (cF b13 h)
                      | true =>
                        have h := cT b13 h
                        refine XR.conv (σ' := [(7, s0 0 lh0_3.length), (8, ii x8_3), (9, s0 1 lh1_3.length), (10, ii x10_3), (17, s0 2 lh2_3.length), (18, .bool b18_3), (21, s0 3 lh3_x05.length), (75, s0 1 lh1_3.length), (76, ii x76_3), (77, ii x77_3), (117, .bool true), (120, .bool false), (123, ii (-1))]) (h' := [(3, rc (encI .i64) lh3_x05 0 3 1), (2, rc (encI .i64) lh2_3 0 3 1), (1, rc encB lh1_3 0 4 1), (0, rc encP lh0_3 0 61 2)]) (c' := 4) ?_ (by rw [of_decide_eq_true b13])
                        refine XR.runS E0_ok 1 3 [(7, s0 0 lh0_3.length), (8, ii x8_3), (9, s0 1 lh1_3.length), (10, ii x10_3), (17, s0 2 lh2_3.length), (18, .bool b18_3), (21, s0 3 lh3_x05.length), (75, s0 1 lh1_3.length), (76, ii x76_3), (77, ii x77_3), (126, .bool true)] rfl (by kernel_rfl) ?_
                        refine XR.done (by kernel_rfl) ?_
                        show XQ _ _ _ _ _ _ _ _
                        refine XQ.cond (s := (.tmp 126)) (b := true) (by kernel_rfl) (by kernel_rfl) (fun _ => ?_) (fun q => by cases q)
                        refine XQ.region (by kernel_rfl) ?_
                        refine XR.runS E0_ok 1 3 [(7, s0 0 lh0_3.length), (8, ii x8_3), (9, s0 1 lh1_3.length), (10, ii x10_3), (17, s0 3 lh3_x05.length), (18, .bool true), (75, s0 1 lh1_3.length), (76, ii x76_3), (77, ii x77_3)] rfl (by kernel_rfl) ?_
                        refine XR.done (by kernel_rfl) ?_
                        show XQ _ _ _ _ _ _ _ _
                        refine XQ.region (by kernel_rfl) ?_
                        refine XR.runS E0_ok 1 2 [(7, s0 0 lh0_3.length), (8, ii x8_3), (9, s0 1 lh1_3.length), (10, ii x10_3), (17, s0 3 lh3_x05.length), (18, .bool true), (75, s0 1 lh1_3.length), (76, ii x76_3), (77, ii (w64 (x77_3 + 1)))] rfl (by kernel_rfl) ?_
                        refine XR.done (by kernel_rfl) ?_
                        show XL _ _ _ _ _ _ _ _ _
                        refine XL.ren (σ' := [(7, s0 0 lh0_3.length), (8, ii x8_3), (9, s0 1 lh1_3.length), (10, ii x10_3), (17, s0 2 lh3_x05.length), (18, .bool true), (75, s0 1 lh1_3.length), (76, ii x76_3), (77, ii (w64 (x77_3 + 1)))]) (h' := [(2, rc (encI .i64) lh3_x05 0 3 1), (1, rc encB lh1_3 0 4 1), (0, rc encP lh0_3 0 61 2)]) (c' := 3) [0, 1, 3] (by decide) rfl ⟨by kernel_rfl, by kernel_rfl, by kernel_rfl, by kernel_rfl, by kernel_rfl, by kernel_rfl, by kernel_rfl, by kernel_rfl, by kernel_rfl, trivial⟩ ⟨⟨_, _, rfl, rfl, .inl ⟨rfl, rowC_scal (encI_ok .i64) _⟩⟩, ⟨_, _, rfl, rfl, .inl ⟨rfl, rowC_scal encB_ok _⟩⟩, ⟨_, _, rfl, rfl, .inl ⟨rfl, rowC_scal encP_ok _⟩⟩, trivial⟩ rfl ?_
                        refine XL.conv (f13_3_ok m fuel x8_3 x10_3 true x76_3 (w64 (x77_3 + 1)) lh0_3 lh1_3 lh3_x05 o h Q hQ) (by first | rfl | simp)
                    | false =>
                      have h := cF b12 h
                      refine XQ.cond (s := (.tmp 35)) (b := false) (by kernel_rfl) (by kernel_rfl) (fun q => by cases q) (fun _ => ?_)
                      refine XQ.skip (by kernel_rfl) ?_
                      show XQ _ _ _ _ _ _ _ _
                      refine XQ.seq E0_ok (by kernel_rfl) ?_
                      refine XQ.region (by kernel_rfl) ?_
                      refine XR.runS E0_ok 1 1 [(4, ii 0)] rfl (by kernel_rfl) ?_
                      refine XR.done (by kernel_rfl) ?_
                      show XQ _ _ _ _ _ _ _ _
                      refine XQ.ret (by kernel_rfl) ?_
                      refine ⟨fun i q => (by cases q), ii 0, (by kernel_rfl), ?_⟩
                      refine XR.conv (σ' := [(7, s0 0 lh0_3.length), (8, ii x8_3), (9, s0 1 lh1_3.length), (10, ii x10_3), (17, s0 2 lh2_3.length), (18, .bool b18_3), (21, s0 3 o4.2.length), (75, s0 1 lh1_3.length), (76, ii x76_3), (77, ii x77_3), (117, .bool true), (120, .bool false), (123, ii 0)]) (h' := [(3, rc (encI .i64) lh3_x05 0 3 1), (2, rc (encI .i64) lh2_3 0 3 1), (1, rc encB lh1_3 0 4 1), (0, rc encP lh0_3 0 61 2)]) (c' := 4) ?_ (by kernel_rfl)
                      cases b14 : (decide (o4.2.length = lh3_x05.length) : Bool) with
                      | false => cases (cF b14 h)
                      | true =>
                        have h := cT b14 h
                        refine XR.conv (σ' := [(7, s0 0 lh0_3.length), (8, ii x8_3), (9, s0 1 lh1_3.length), (10, ii x10_3), (17, s0 2 lh2_3.length), (18, .bool b18_3), (21, s0 3 lh3_x05.length), (75, s0 1 lh1_3.length), (76, ii x76_3), (77, ii x77_3), (117, .bool true), (120, .bool false), (123, ii 0)]) (h' := [(3, rc (encI .i64) lh3_x05 0 3 1), (2, rc (encI .i64) lh2_3 0 3 1), (1, rc encB lh1_3 0 4 1), (0, rc encP lh0_3 0 61 2)]) (c' := 4) ?_ (by rw [of_decide_eq_true b14])
                        refine XR.runS E0_ok 1 3 [(7, s0 0 lh0_3.length), (8, ii x8_3), (9, s0 1 lh1_3.length), (10, ii x10_3), (17, s0 2 lh2_3.length), (18, .bool b18_3), (21, s0 3 lh3_x05.length), (75, s0 1 lh1_3.length), (76, ii x76_3), (77, ii x77_3), (126, .bool false)] rfl (by kernel_rfl) ?_
                        refine XR.done (by kernel_rfl) ?_
                        show XQ _ _ _ _ _ _ _ _
                        refine XQ.cond (s := (.tmp 126)) (b := false) (by kernel_rfl) (by kernel_rfl) (fun q => by cases q) (fun _ => ?_)
                        refine XQ.skip (by kernel_rfl) ?_
                        show XQ _ _ _ _ _ _ _ _
                        refine XQ.region (by kernel_rfl) ?_
                        refine XR.runS E0_ok 1 2 [(7, s0 0 lh0_3.length), (8, ii x8_3), (9, s0 1 lh1_3.length), (10, ii x10_3), (17, s0 2 lh2_3.length), (18, .bool b18_3), (75, s0 1 lh1_3.length), (76, ii x76_3), (77, ii (w64 (x77_3 + 1)))] rfl (by kernel_rfl) ?_
                        refine XR.done (by kernel_rfl) ?_
                        show XL _ _ _ _ _ _ _ _ _
                        refine XL.ren (σ' := [(7, s0 0 lh0_3.length), (8, ii x8_3), (9, s0 1 lh1_3.length), (10, ii x10_3), (17, s0 2 lh2_3.length), (18, .bool b18_3), (75, s0 1 lh1_3.length), (76, ii x76_3), (77, ii (w64 (x77_3 + 1)))]) (h' := [(2, rc (encI .i64) lh2_3 0 3 1), (1, rc encB lh1_3 0 4 1), (0, rc encP lh0_3 0 61 2)]) (c' := 3) [0, 1, 2] (by decide) rfl ⟨by kernel_rfl, by kernel_rfl, by kernel_rfl, by kernel_rfl, by kernel_rfl, by kernel_rfl, by kernel_rfl, by kernel_rfl, by kernel_rfl, trivial⟩ ⟨⟨_, _, rfl, rfl, .inl ⟨rfl, rowC_scal (encI_ok .i64) _⟩⟩, ⟨_, _, rfl, rfl, .inl ⟨rfl, rowC_scal encB_ok _⟩⟩, ⟨_, _, rfl, rfl, .inl ⟨rfl, rowC_scal encP_ok _⟩⟩, trivial⟩ rfl ?_
                        refine XL.conv (f13_3_ok m fuel x8_3 x10_3 b18_3 x76_3 (w64 (x77_3 + 1)) lh0_3 lh1_3 lh2_3 o h Q hQ) (by first | rfl | simp)
              | false =>
                have h := cF b7 h
                refine XR.runS E0_ok 1 9 [(7, s0 0 lh0_3.length), (8, ii x8_3), (9, s0 1 lh1_3.length), (10, ii x10_3), (17, s0 2 lh2_3.length), (18, .bool b18_3), (21, s0 3 o4.2.length), (75, s0 1 lh1_3.length), (76, ii x76_3), (77, ii x77_3), (126, .bool false)] rfl (by kernel_rfl) ?_
                refine XR.done (by kernel_rfl) ?_
                show XQ _ _ _ _ _ _ _ _
                refine XQ.cond (s := (.tmp 126)) (b := false) (by kernel_rfl) (by kernel_rfl) (fun q => by cases q) (fun _ => ?_)
                refine XQ.skip (by kernel_rfl) ?_
                show XQ _ _ _ _ _ _ _ _
                refine XQ.region (by kernel_rfl) ?_
                refine XR.runS E0_ok 1 2 [(7, s0 0 lh0_3.length), (8, ii x8_3), (9, s0 1 lh1_3.length), (10, ii x10_3), (17, s0 2 lh2_3.length), (18, .bool b18_3), (75, s0 1 lh1_3.length), (76, ii x76_3), (77, ii (w64 (x77_3 + 1)))] rfl (by kernel_rfl) ?_
                refine XR.done (by kernel_rfl) ?_
                show XL _ _ _ _ _ _ _ _ _
                refine XL.ren (σ' := [(7, s0 0 lh0_3.length), (8, ii x8_3), (9, s0 1 lh1_3.length), (10, ii x10_3), (17, s0 2 lh2_3.length), (18, .bool b18_3), (75, s0 1 lh1_3.length), (76, ii x76_3), (77, ii (w64 (x77_3 + 1)))]) (h' := [(2, rc (encI .i64) lh2_3 0 3 1), (1, rc encB lh1_3 0 4 1), (0, rc encP lh0_3 0 61 2)]) (c' := 3) [0, 1, 2] (by decide) rfl ⟨by kernel_rfl, by kernel_rfl, by kernel_rfl, by kernel_rfl, by kernel_rfl, by kernel_rfl, by kernel_rfl, by kernel_rfl, by kernel_rfl, trivial⟩ ⟨⟨_, _, rfl, rfl, .inl ⟨rfl, rowC_scal (encI_ok .i64) _⟩⟩, ⟨_, _, rfl, rfl, .inl ⟨rfl, rowC_scal encB_ok _⟩⟩, ⟨_, _, rfl, rfl, .inl ⟨rfl, rowC_scal encP_ok _⟩⟩, trivial⟩ rfl ?_
                refine XL.conv (f13_3_ok m fuel x8_3 x10_3 b18_3 x76_3 (w64 (x77_3 + 1)) lh0_3 lh1_3 lh2_3 o h Q hQ) (by first | rfl | simp)
          | false =>
            have h := cF b5 h
            refine XR.runS E0_ok 1 5 [(7, s0 0 lh0_3.length), (8, ii x8_3), (9, s0 1 lh1_3.length), (10, ii x10_3), (17, s0 2 lh2_3.length), (18, .bool b18_3), (21, s0 3 o4.2.length), (75, s0 1 lh1_3.length), (76, ii x76_3), (77, ii x77_3), (112, .bool false)] rfl (by kernel_rfl) ?_
            refine XR.done (by kernel_rfl) ?_
            show XQ _ _ _ _ _ _ _ _
            refine XQ.cond (s := (.tmp 112)) (b := false) (by kernel_rfl) (by kernel_rfl) (fun q => by cases q) (fun _ => ?_)
            refine XQ.skip (by kernel_rfl) ?_
            show XQ _ _ _ _ _ _ _ _
            refine XQ.seq E0_ok (by kernel_rfl) ?_
            refine XQ.region (by kernel_rfl) ?_
            refine XR.runS E0_ok 1 5 [(7, s0 0 lh0_3.length), (8, ii x8_3), (9, s0 1 lh1_3.length), (10, ii x10_3), (17, s0 2 lh2_3.length), (18, .bool b18_3), (21, s0 3 o4.2.length), (75, s0 1 lh1_3.length), (76, ii x76_3), (77, ii x77_3), (117, .bool (((o4.2.length : Nat) : Int) == x10_3))] rfl (by kernel_rfl) ?_
            cases b15 : (((o4.2.length : Nat) : Int) == x10_3 : Bool) with
            | true =>
              have h := cT b15 h
              refine XR.runS E0_ok 1 3 [(7, s0 0 lh0_3.length), (8, ii x8_3), (9, s0 1 lh1_3.length), (10, ii x10_3), (17, s0 2 lh2_3.length), (18, .bool b18_3), (21, s0 3 o4.2.length), (75, s0 1 lh1_3.length), (76, ii x76_3), (77, ii x77_3), (117, .bool true), (120, .bool (!b18_3))] rfl (by kernel_rfl) ?_
              cases b16 : (!b18_3 : Bool) with
              | true =>
                have h := cT b16 h
                refine XR.runS E0_ok 1 6 [(7, s0 0 lh0_3.length), (8, ii x8_3), (9, s0 1 lh1_3.length), (10, ii x10_3), (17, s0 2 lh2_3.length), (18, .bool b18_3), (21, s0 3 o4.2.length), (75, s0 1 lh1_3.length), (76, ii x76_3), (77, ii x77_3), (126, .bool true)] rfl (by kernel_rfl) ?_
                refine XR.done (by kernel_rfl) ?_
                show XQ _ _ _ _ _ _ _ _
                refine XQ.cond (s := (.tmp 126)) (b := true) (by kernel_rfl) (by kernel_rfl) (fun _ => ?_) (fun q => by cases q)
                refine XQ.region (by kernel_rfl) ?_
                refine XR.runS E0_ok 1 3 [(7, s0 0 lh0_3.length), (8, ii x8_3), (9, s0 1 lh1_3.length), (10, ii x10_3), (17, s0 3 o4.2.length), (18, .bool true), (75, s0 1 lh1_3.length), (76, ii x76_3), (77, ii x77_3)] rfl (by kernel_rfl) ?_
                refine XR.done (by kernel_rfl) ?_
                show XQ _ _ _ _ _ _ _ _
                refine XQ.region (by kernel_rfl) ?_
                refine XR.runS E0_ok 1 2 [(7, s0 0 lh0_3.length), (8, ii x8_3), (9, s0 1 lh1_3.length), (10, ii x10_3), (17, s0 3 o4.2.length), (18, .bool true), (75, s0 1 lh1_3.length), (76, ii x76_3), (77, ii (w64 (x77_3 + 1)))] rfl (by kernel_rfl) ?_
                refine XR.done (by kernel_rfl) ?_
                show XL _ _ _ _ _ _ _ _ _
                refine XL.ren (σ' := [(7, s0 0 lh0_3.length), (8, ii x8_3), (9, s0 1 lh1_3.length), (10, ii x10_3), (17, s0 2 o4.2.length), (18, .bool true), (75, s0 1 lh1_3.length), (76, ii x76_3), (77, ii (w64 (x77_3 + 1)))]) (h' := [(2, rc (encI .i64) o4.2 0 3 1), (1, rc encB lh1_3 0 4 1), (0, rc encP lh0_3 0 61 2)]) (c' := 3) [0, 1, 3] (by decide) rfl ⟨by kernel_rfl, by kernel_rfl, by kernel_rfl, by kernel_rfl, by kernel_rfl, by kernel_rfl, by kernel_rfl, by kernel_rfl, by kernel_rfl, trivial⟩ ⟨⟨_, _, rfl, rfl, .inl ⟨rfl, rowC_scal (encI_ok .i64) _⟩⟩, ⟨_, _, rfl, rfl, .inl ⟨rfl, rowC_scal encB_ok _⟩⟩, ⟨_, _, rfl, rfl, .inl ⟨rfl, rowC_scal encP_ok _⟩⟩, trivial⟩ rfl ?_
                refine XL.conv (f13_3_ok m fuel x8_3 x10_3 true x76_3 (w64 (x77_3 + 1)) lh0_3 lh1_3 o4.2 o h Q hQ) (by first | rfl | simp)
              | false =>
                have h := cF b16 h
                refine XR.runS E0_ok 1 2 [(7, s0 0 lh0_3.length), (8, ii x8_3), (9, s0 1 lh1_3.length), (10, ii x10_3), (17, s0 2 lh2_3.length), (18, .bool b18_3), (21, s0 3 o4.2.length), (75, s0 1 lh1_3.length), (76, ii x76_3), (77, ii x77_3), (117, .bool true), (120, .bool false), (121, s0 3 o4.2.length), (122, s0 2 lh2_3.length)] rfl (by kernel_rfl) ?_
                refine XR.callK E0_ok [7, 8, 9, 10, 17, 18, 21, 75, 76, 77, 117, 120, 123] rfl (K := 54) (args := [s0 3 o4.2.length, s0 2 lh2_3.length]) (d := (some (path 12 123))) (by kernel_rfl) ?_
                refine KC.bodyN E0_ok (F := Proofs.Try.f54) (by kernel_rfl) (code := f13_C54) (by kernel_rfl) (nt := 36) (by kernel_rfl) (rs := [.tmp 4]) (by kernel_rfl) (by kernel_rfl) (σ := [(0, s0 3 o4.2.length), (1, s0 2 lh2_3.length)]) (by kernel_rfl) ?_
                refine XQ.seq E0_ok (by kernel_rfl) ?_
                refine XQ.region (by kernel_rfl) ?_
                refine XR.runS E0_ok 1 1 [(0, s0 3 o4.2.length), (1, s0 2 lh2_3.length)] rfl (by kernel_rfl) ?_
                refine XR.done (by kernel_rfl) ?_
                show XQ _ _ _ _ _ _ _ _
                refine XQ.seq E0_ok (by kernel_rfl) ?_
                refine XQ.seq E0_ok (by kernel_rfl) ?_
                refine XQ.region (by kernel_rfl) ?_
                refine XR.runS E0_ok 1 3 [(0, s0 3 o4.2.length), (1, s0 2 lh2_3.length), (9, s0 3 o4.2.length), (10, ii ((o4.2.length : Nat) : Int)), (11, ii 0)] rfl (by kernel_rfl) ?_
                refine XR.done (by kernel_rfl) ?_
                show XQ _ _ _ _ _ _ _ _
                refine XQ.block (id := 0) (by kernel_rfl) ?_
                refine XQ.loop m (by kernel_rfl) ?_
                obtain ⟨o6, o6_h, h⟩ := bS h
                refine XL.ren (σ' := [(0, s0 3 o4.2.length), (1, s0 2 lh2_3.length), (9, s0 3 o4.2.length), (10, ii ((o4.2.length : Nat) : Int)), (11, ii 0)]) (h' := [(3, rc (encI .i64) o4.2 0 3 1), (2, rc (encI .i64) lh2_3 0 3 1), (1, rc encB lh1_3 0 4 1), (0, rc encP lh0_3 0 61 2)]) (c' := 4) [0, 1, 2, 3] (by decide) rfl ⟨by kernel_rfl, by kernel_rfl, by kernel_rfl, by kernel_rfl, by kernel_rfl, trivial⟩ ⟨⟨_, _, rfl, rfl, .inl ⟨rfl, rowC_scal (encI_ok .i64) _⟩⟩, ⟨_, _, rfl, rfl, .inl ⟨rfl, rowC_scal (encI_ok .i64) _⟩⟩, ⟨_, _, rfl, rfl, .inl ⟨rfl, rowC_scal encB_ok _⟩⟩, ⟨_, _, rfl, rfl, .inl ⟨rfl, rowC_scal encP_ok _⟩⟩, trivial⟩ rfl ?_
                cases o6 with
                | r x4_r6 lh3_r6 =>
                  dsimp only at h
                  refine XL.conv (f13_6_ok m m lh0_3 lh1_3 lh2_3 ((o4.2.length : Nat) : Int) 0 o4.2 (.r x4_r6 lh3_r6) o6_h _ ?_) (by first | rfl | simp)
                  refine ⟨fun i q => (by cases q), ii x4_r6, (by kernel_rfl), ?_⟩
                  refine XR.conv (σ' := [(7, s0 0 lh0_3.length), (8, ii x8_3), (9, s0 1 lh1_3.length), (10, ii x10_3), (17, s0 2 lh2_3.length), (18, .bool b18_3), (21, s0 3 o4.2.length), (75, s0 1 lh1_3.length), (76, ii x76_3), (77, ii x77_3), (117, .bool true), (120, .bool false), (123, ii x4_r6)]) (h' := [(3, rc (encI .i64) lh3_r6 0 3 1), (2, rc (encI .i64) lh2_3 0 3 1), (1, rc encB lh1_3 0 4 1), (0, rc encP lh0_3 0 61 2)]) (c' := 4) ?_ (by kernel_rfl)
                  cases b18 : (decide (o4.2.length = lh3_r6.length) : Bool) with
                  | false => cases (cF b18 h)
                  | true =>
                    have h := cT b18 h
                    refine XR.conv (σ' := [(7, s0 0 lh0_3.length), (8, ii x8_3), (9, s0 1 lh1_3.length), (10, ii x10_3), (17, s0 2 lh2_3.length), (18, .bool b18_3), (21, s0 3 lh3_r6.length), (75, s0 1 lh1_3.length), (76, ii x76_3), (77, ii x77_3), (117, .bool true), (120, .bool false), (123, ii x4_r6)]) (h' := [(3, rc (encI .i64) lh3_r6 0 3 1), (2, rc (encI .i64) lh2_3 0 3 1), (1, rc encB lh1_3 0 4 1), (0, rc encP lh0_3 0 61 2)]) (c' := 4) ?_ (by rw [of_decide_eq_true b18])
                    refine XR.runS E0_ok 1 3 [(7, s0 0 lh0_3.length), (8, ii x8_3), (9, s0 1 lh1_3.length), (10, ii x10_3), (17, s0 2 lh2_3.length), (18, .bool b18_3), (21, s0 3 lh3_r6.length), (75, s0 1 lh1_3.length), (76, ii x76_3), (77, ii x77_3), (126, .bool (decide (x4_r6 < 0)))] rfl (by kernel_rfl) ?_
                    refine XR.done (by kernel_rfl) ?_
                    show XQ _ _ _ _ _ _ _ _
                    cases b19 : (decide (x4_r6 < 0) : Bool) with
                    | true =>
                      have h := cT b19 h
                      refine XQ.cond (s := (.tmp 126)) (b := true) (by kernel_rfl) (by kernel_rfl) (fun _ => ?_) (fun q => by cases q)
                      refine XQ.region (by kernel_rfl) ?_
                      refine XR.runS E0_ok 1 3 [(7, s0 0 lh0_3.length), (8, ii x8_3), (9, s0 1 lh1_3.length), (10, ii x10_3), (17, s0 3 lh3_r6.length), (18, .bool true), (75, s0 1 lh1_3.length), (76, ii x76_3), (77, ii x77_3)] rfl (by kernel_rfl) ?_
                      refine XR.done (by kernel_rfl) ?_
                      show XQ _ _ _ _ _ _ _ _
                      refine XQ.region (by kernel_rfl) ?_
                      refine XR.runS E0_ok 1 2 [(7, s0 0 lh0_3.length), (8, ii x8_3), (9, s0 1 lh1_3.length), (10, ii x10_3), (17, s0 3 lh3_r6.length), (18, .bool true), (75, s0 1 lh1_3.length), (76, ii x76_3), (77, ii (w64 (x77_3 + 1)))] rfl (by kernel_rfl) ?_
                      refine XR.done (by kernel_rfl) ?_
                      show XL _ _ _ _ _ _ _ _ _
                      refine XL.ren (σ' := [(7, s0 0 lh0_3.length), (8, ii x8_3), (9, s0 1 lh1_3.length), (10, ii x10_3), (17, s0 2 lh3_r6.length), (18, .bool true), (75, s0 1 lh1_3.length), (76, ii x76_3), (77, ii (w64 (x77_3 + 1)))]) (h' := [(2, rc (encI .i64) lh3_r6 0 3 1), (1, rc encB lh1_3 0 4 1), (0, rc encP lh0_3 0 61 2)]) (c' := 3) [0, 1, 3] (by decide) rfl ⟨by kernel_rfl, by kernel_rfl, by kernel_rfl, by kernel_rfl, by kernel_rfl, by kernel_rfl, by kernel_rfl, by kernel_rfl, by kernel_rfl, trivial⟩ ⟨⟨_, _, rfl, rfl, .inl ⟨rfl, rowC_scal (encI_ok .i64) _⟩⟩, ⟨_, _, rfl, rfl, .inl ⟨rfl, rowC_scal encB_ok _⟩⟩, ⟨_, _, rfl, rfl, .inl ⟨rfl, rowC_scal encP_ok _⟩⟩, trivial⟩ rfl ?_
                      refine XL.conv (f13_3_ok m fuel x8_3 x10_3 true x76_3 (w64 (x77_3 + 1)) lh0_3 lh1_3 lh3_r6 o h Q hQ) (by first | rfl | simp)
                    | false =>
                      have h := cF b19 h
                      refine XQ.cond (s := (.tmp 126)) (b := false) (by kernel_rfl) (by kernel_rfl) (fun q => by cases q) (fun _ => ?_)
                      refine XQ.skip (by kernel_rfl) ?_
                      show XQ _ _ _ _ _ _ _ _
                      refine XQ.region (by kernel_rfl) ?_
                      refine XR.runS E0_ok 1 2 [(7, s0 0 lh0_3.length), (8, ii x8_3), (9, s0 1 lh1_3.length), (10, ii x10_3), (17, s0 2 lh2_3.length), (18, .bool b18_3), (75, s0 1 lh1_3.length), (76, ii x76_3), (77, ii (w64 (x77_3 + 1)))] rfl (by kernel_rfl) ?_
                      refine XR.done (by kernel_rfl) ?_
                      show XL _ _ _ _ _ _ _ _ _
                      refine XL.ren (σ' := [(7, s0 0 lh0_3.length), (8, ii x8_3), (9, s0 1 lh1_3.length), (10, ii x10_3), (17, s0 2 lh2_3.length), (18, .bool b18_3), (75, s0 1 lh1_3.length), (76, ii x76_3), (77, ii (w64 (x77_3 + 1)))]) (h' := [(2, rc (encI .i64) lh2_3 0 3 1), (1, rc encB lh1_3 0 4 1), (0, rc encP lh0_3 0 61 2)]) (c' := 3) [0, 1, 2] (by decide) rfl ⟨by kernel_rfl, by kernel_rfl, by kernel_rfl, by kernel_rfl, by kernel_rfl, by kernel_rfl, by kernel_rfl, by kernel_rfl, by kernel_rfl, trivial⟩ ⟨⟨_, _, rfl, rfl, .inl ⟨rfl, rowC_scal (encI_ok .i64) _⟩⟩, ⟨_, _, rfl, rfl, .inl ⟨rfl, rowC_scal encB_ok _⟩⟩, ⟨_, _, rfl, rfl, .inl ⟨rfl, rowC_scal encP_ok _⟩⟩, trivial⟩ rfl ?_
                      refine XL.conv (f13_3_ok m fuel x8_3 x10_3 b18_3 x76_3 (w64 (x77_3 + 1)) lh0_3 lh1_3 lh2_3 o h Q hQ) (by first | rfl | simp)
                | x0 lh3_x06 =>
                  dsimp only at h
                  refine XL.conv (f13_6_ok m m lh0_3 lh1_3 lh2_3 ((o4.2.length : Nat) : Int) 0 o4.2 (.x0 lh3_x06) o6_h _ ?_) (by first | rfl | simp)
                  show XQ _ _ _ _ _ _ _ _
                  refine XQ.seq E0_ok (by kernel_rfl) ?_
                  refine XQ.seq E0_ok (by kernel_rfl) ?_
                  refine XQ.region (by kernel_rfl) ?_
                  refine XR.runS E0_ok 1 5 [(35, .bool (decide (((lh3_x06.length : Nat) : Int) < ((lh2_3.length : Nat) : Int))))] rfl (by kernel_rfl) ?_
                  refine XR.done (by kernel_rfl) ?_
                  show XQ _ _ _ _ _ _ _ _
                  cases b20 : (decide (((lh3_x06.length : Nat) : Int) < ((lh2_3.length : Nat) : Int)) : Bool) with
                  | true =>
                    have h := cT b20 h
                    refine XQ.cond (s := (.tmp 35)) (b := true) (by kernel_rfl) (by kernel_rfl) (fun _ => ?_) (fun q => by cases q)
                    refine XQ.seq E0_ok (by kernel_rfl) ?_
                    refine XQ.region (by kernel_rfl) ?_
                    refine XR.runS E0_ok 1 1 [(4, ii (-1))] rfl (by kernel_rfl) ?_
                    refine XR.done (by kernel_rfl) ?_
                    show XQ _ _ _ _ _ _ _ _
                    refine XQ.ret (by kernel_rfl) ?_
                    refine ⟨fun i q => (by cases q), ii (-1), (by kernel_rfl), ?_⟩
                    refine XR.conv (σ' := [(7, s0 0 lh0_3.length), (8, ii x8_3), (9, s0 1 lh1_3.length), (10, ii x10_3), (17, s0 2 lh2_3.length), (18, .bool b18_3), (21, s0 3 o4.2.length), (75, s0 1 lh1_3.length), (76, ii x76_3), (77, ii x77_3), (117, .bool true), (120, .bool false), (123, ii (-1))]) (h' := [(3, rc (encI .i64) lh3_x06 0 3 1), (2, rc (encI .i64) lh2_3 0 3 1), (1, rc encB lh1_3 0 4 1), (0, rc encP lh0_3 0 61 2)]) (c' := 4) ?_ (by kernel_rfl)
                    cases b21 : (decide (o4.2.length = lh3_x06.length) : Bool) with
                    | false => cases (cF b21 h)
                    | true =>
                      have h := cT b21 h
                      refine XR.conv (σ' := [(7, s0 0 lh0_3.length), (8, ii x8_3), (9, s0 1 lh1_3.length), (10, ii x10_3), (17, s0 2 lh2_3.length), (18, .bool b18_3), (21, s0 3 lh3_x06.length), (75, s0 1 lh1_3.length), (76, ii x76_3), (77, ii x77_3), (117, .bool true), (120, .bool false), (123, ii (-1))]) (h' := [(3, rc (encI .i64) lh3_x06 0 3 1), (2, rc (encI .i64) lh2_3 0 3 1), (1, rc encB lh1_3 0 4 1), (0, rc encP lh0_3 0 61 2)]) (c' := 4) ?_ (by rw [of_decide_eq_true b21])
                      refine XR.runS E0_ok 1 3 [(7, s0 0 lh0_3.length), (8, ii x8_3), (9, s0 1 lh1_3.length), (10, ii x10_3), (17, s0 2 lh2_3.length), (18, .bool b18_3), (21, s0 3 lh3_x06.length), (75, s0 1 lh1_3.length), (76, ii x76_3), (77, ii x77_3), (126, .bool true)] rfl (by kernel_rfl) ?_
                      refine XR.done (by kernel_rfl) ?_
                      show XQ _ _ _ _ _ _ _ _
                      refine XQ.cond (s := (.tmp 126)) (b := true) (by kernel_rfl) (by kernel_rfl) (fun _ => ?_) (fun q => by cases q)
                      refine XQ.region (by kernel_rfl) ?_
                      refine XR.runS E0_ok 1 3 [(7, s0 0 lh0_3.length), (8, ii x8_3), (9, s0 1 lh1_3.length), (10, ii x10_3), (17, s0 3 lh3_x06.length), (18, .bool true), (75, s0 1 lh1_3.length), (76, ii x76_3), (77, ii x77_3)] rfl (by kernel_rfl) ?_
                      refine XR.done (by kernel_rfl) ?_
                      show XQ _ _ _ _ _ _ _ _
                      refine XQ.region (by kernel_rfl) ?_
                      refine XR.runS E0_ok 1 2 [(7, s0 0 lh0_3.length), (8, ii x8_3), (9, s0 1 lh1_3.length), (10, ii x10_3), (17, s0 3 lh3_x06.length), (18, .bool true), (75, s0 1 lh1_3.length), (76, ii x76_3), (77, ii (w64 (x77_3 + 1)))] rfl (by kernel_rfl) ?_
                      refine XR.done (by kernel_rfl) ?_
                      show XL _ _ _ _ _ _ _ _ _
                      refine XL.ren (σ' := [(7, s0 0 lh0_3.length), (8, ii x8_3), (9, s0 1 lh1_3.length), (10, ii x10_3), (17, s0 2 lh3_x06.length), (18, .bool true), (75, s0 1 lh1_3.length), (76, ii x76_3), (77, ii (w64 (x77_3 + 1)))]) (h' := [(2, rc (encI .i64) lh3_x06 0 3 1), (1, rc encB lh1_3 0 4 1), (0, rc encP lh0_3 0 61 2)]) (c' := 3) [0, 1, 3] (by decide) rfl ⟨by kernel_rfl, by kernel_rfl, by kernel_rfl, by kernel_rfl, by kernel_rfl, by kernel_rfl, by kernel_rfl, by kernel_rfl, by kernel_rfl, trivial⟩ ⟨⟨_, _, rfl, rfl, .inl ⟨rfl, rowC_scal (encI_ok .i64) _⟩⟩, ⟨_, _, rfl, rfl, .inl ⟨rfl, rowC_scal encB_ok _⟩⟩, ⟨_, _, rfl, rfl, .inl ⟨rfl, rowC_scal encP_ok _⟩⟩, trivial⟩ rfl ?_
                      refine XL.conv (f13_3_ok m fuel x8_3 x10_3 true x76_3 (w64 (x77_3 + 1)) lh0_3 lh1_3 lh3_x06 o h Q hQ) (by first | rfl | simp)
                  | false =>
                    have h := cF b20 h
                    refine XQ.cond (s := (.tmp 35)) (b := false) (by kernel_rfl) (by kernel_rfl) (fun q => by cases q) (fun _ => ?_)
                    refine XQ.skip (by kernel_rfl) ?_
                    show XQ _ _ _ _ _ _ _ _
                    refine XQ.seq E0_ok (by kernel_rfl) ?_
                    refine XQ.region (by kernel_rfl) ?_
                    refine XR.runS E0_ok 1 1 [(4, ii 0)] rfl (by kernel_rfl) ?_
                    refine XR.done (by kernel_rfl) ?_
                    show XQ _ _ _ _ _ _ _ _
                    refine XQ.ret (by kernel_rfl) ?_
                    refine ⟨fun i q => (by cases q), ii 0, (by kernel_rfl), ?_⟩
                    refine XR.conv (σ' := [(7, s0 0 lh0_3.length), (8, ii x8_3), (9, s0 1 lh1_3.length), (10, ii x10_3), (17, s0 2 lh2_3.length), (18, .bool b18_3), (21, s0 3 o4.2.length), (75, s0 1 lh1_3.length), (76, ii x76_3), (77, ii x77_3), (117, .bool true), (120, .bool false), (123, ii 0)]) (h' := [(3, rc (encI .i64) lh3_x06 0 3 1), (2, rc (encI .i64) lh2_3 0 3 1), (1, rc encB lh1_3 0 4 1), (0, rc encP lh0_3 0 61 2)]) (c' := 4) ?_ (by kernel_rfl)
                    cases b22 : (decide (o4.2.length = lh3_x06.length) : Bool) with
                    | false => cases (cF b22 h)
                    | true =>
                      have h := cT b22 h
                      refine XR.conv (σ' := [(7, s0 0 lh0_3.length), (8, ii x8_3), (9, s0 1 lh1_3.length), (10, ii x10_3), (17, s0 2 lh2_3.length), (18, .bool b18_3), (21, s0 3 lh3_x06.length), (75, s0 1 lh1_3.length), (76, ii x76_3), (77, ii x77_3), (117, .bool true), (120, .bool false), (123, ii 0)]) (h' := [(3, rc (encI .i64) lh3_x06 0 3 1), (2, rc (encI .i64) lh2_3 0 3 1), (1, rc encB lh1_3 0 4 1), (0, rc encP lh0_3 0 61 2)]) (c' := 4) ?_ (by rw [of_decide_eq_true b22])
                      refine XR.runS E0_ok 1 3 [(7, s0 0 lh0_3.length), (8, ii x8_3), (9, s0 1 lh1_3.length), (10, ii x10_3), (17, s0 2 lh2_3.length), (18, .bool b18_3), (21, s0 3 lh3_x06.length), (75, s0 1 lh1_3.length), (76, ii x76_3), (77, ii x77_3), (126, .bool false)] rfl (by kernel_rfl) ?_
                      refine XR.done (by kernel_rfl) ?_
                      show XQ _ _ _ _ _ _ _ _
                      refine XQ.cond (s := (.tmp 126)) (b := false) (by kernel_rfl) (by kernel_rfl) (fun q => by cases q) (fun _ => ?_)
                      refine XQ.skip (by kernel_rfl) ?_
                      show XQ _ _ _ _ _ _ _ _
                      refine XQ.region (by kernel_rfl) ?_
                      refine XR.runS E0_ok 1 2 [(7, s0 0 lh0_3.length), (8, ii x8_3), (9, s0 1 lh1_3.length), (10, ii x10_3), (17, s0 2 lh2_3.length), (18, .bool b18_3), (75, s0 1 lh1_3.length), (76, ii x76_3), (77, ii (w64 (x77_3 + 1)))] rfl (by kernel_rfl) ?_
                      refine XR.done (by kernel_rfl) ?_
                      show XL _ _ _ _ _ _ _ _ _
                      refine XL.ren (σ' := [(7, s0 0 lh0_3.length), (8, ii x8_3), (9, s0 1 lh1_3.length), (10, ii x10_3), (17, s0 2 lh2_3.length), (18, .bool b18_3), (75, s0 1 lh1_3.length), (76, ii x76_3), (77, ii (w64 (x77_3 + 1)))]) (h' := [(2, rc (encI .i64) lh2_3 0 3 1), (1, rc encB lh1_3 0 4 1), (0, rc encP lh0_3 0 61 2)]) (c' := 3) [0, 1, 2] (by decide) rfl ⟨by kernel_rfl, by kernel_rfl, by kernel_rfl, by kernel_rfl, by kernel_rfl, by kernel_rfl, by kernel_rfl, by kernel_rfl, by kernel_rfl, trivial⟩ ⟨⟨_, _, rfl, rfl, .inl ⟨rfl, rowC_scal (encI_ok .i64) _⟩⟩, ⟨_, _, rfl, rfl, .inl ⟨rfl, rowC_scal encB_ok _⟩⟩, ⟨_, _, rfl, rfl, .inl ⟨rfl, rowC_scal encP_ok _⟩⟩, trivial⟩ rfl ?_
                      refine XL.conv (f13_3_ok m fuel x8_3 x10_3 b18_3 x76_3 (w64 (x77_3 + 1)) lh0_3 lh1_3 lh2_3 o h Q hQ) (by first | rfl | simp)
            | false =>
              have h := cF b15 h
              refine XR.runS E0_ok 1 9 [(7, s0 0 lh0_3.length), (8, ii x8_3), (9, s0 1 lh1_3.length), (10, ii x10_3), (17, s0 2 lh2_3.length), (18, .bool b18_3), (21, s0 3 o4.2.length), (75, s0 1 lh1_3.length), (76, ii x76_3), (77, ii x77_3), (126, .bool false)] rfl (by kernel_rfl) ?_
              refine XR.done (by kernel_rfl) ?_
              show XQ _ _ _ _ _ _ _ _
              refine XQ.cond (s := (.tmp 126)) (b := false) (by kernel_rfl) (by kernel_rfl) (fun q => by cases q) (fun _ => ?_)
              refine XQ.skip (by kernel_rfl) ?_
              show XQ _ _ _ _ _ _ _ _
              refine XQ.region (by kernel_rfl) ?_
              refine XR.runS E0_ok 1 2 [(7, s0 0 lh0_3.length), (8, ii x8_3), (9, s0 1 lh1_3.length), (10, ii x10_3), (17, s0 2 lh2_3.length), (18, .bool b18_3), (75, s0 1 lh1_3.length), (76, ii x76_3), (77, ii (w64 (x77_3 + 1)))] rfl (by kernel_rfl) ?_
              refine XR.done (by kernel_rfl) ?_
              show XL _ _ _ _ _ _ _ _ _
              refine XL.ren (σ' := [(7, s0 0 lh0_3.length), (8, ii x8_3), (9, s0 1 lh1_3.length), (10, ii x10_3), (17, s0 2 lh2_3.length), (18, .bool b18_3), (75, s0 1 lh1_3.length), (76, ii x76_3), (77, ii (w64 (x77_3 + 1)))]) (h' := [(2, rc (encI .i64) lh2_3 0 3 1), (1, rc encB lh1_3 0 4 1), (0, rc encP lh0_3 0 61 2)]) (c' := 3) [0, 1, 2] (by decide) rfl ⟨by kernel_rfl, by kernel_rfl, by kernel_rfl, by kernel_rfl, by kernel_rfl, by kernel_rfl, by kernel_rfl, by kernel_rfl, by kernel_rfl, trivial⟩ ⟨⟨_, _, rfl, rfl, .inl ⟨rfl, rowC_scal (encI_ok .i64) _⟩⟩, ⟨_, _, rfl, rfl, .inl ⟨rfl, rowC_scal encB_ok _⟩⟩, ⟨_, _, rfl, rfl, .inl ⟨rfl, rowC_scal encP_ok _⟩⟩, trivial⟩ rfl ?_
              refine XL.conv (f13_3_ok m fuel x8_3 x10_3 b18_3 x76_3 (w64 (x77_3 + 1)) lh0_3 lh1_3 lh2_3 o h Q hQ) (by first | rfl | simp)
    | false =>
      have h := cF b1 h
      refine XQ.cond (s := (.tmp 78)) (b := false) (by kernel_rfl) (by kernel_rfl) (fun q => by cases q) (fun _ => ?_)
      refine XQ.ren (σ' := [(7, s0 0 lh0_3.length), (8, ii x8_3), (17, s0 1 lh2_3.length)]) (h' := [(1, rc (encI .i64) lh2_3 0 3 1), (0, rc encP lh0_3 0 61 2)]) (c' := 2) [0, 2] (by decide) rfl ⟨by kernel_rfl, by kernel_rfl, by kernel_rfl, trivial⟩ ⟨⟨_, _, rfl, rfl, .inl ⟨rfl, rowC_scal (encI_ok .i64) _⟩⟩, ⟨_, _, rfl, rfl, .inl ⟨rfl, rowC_scal encP_ok _⟩⟩, trivial⟩ rfl ?_
      refine XQ.exit (i := 4) (by kernel_rfl) ?_
      cases h
      exact hQ

def f13 (m : Nat) (a_0_0 : Int) (a_0_1 : Int) (a_1_0 : Int) (a_1_1 : Int) (a_2_0 : Int) (a_2_1 : Int) (a_3_0 : Int) (a_3_1 : Int) (a_4_0 : Int) (a_4_1 : Int) (a_5_0 : Int) (a_5_1 : Int) (a_6_0 : Int) (a_6_1 : Int) (a_7_0 : Int) (a_7_1 : Int) (b : Int) (c : Int) : Option (Bool) :=
  (f41 m a_0_0 a_0_1 a_1_0 a_1_1 a_2_0 a_2_1 a_3_0 a_3_1 a_4_0 a_4_1 a_5_0 a_5_1 a_6_0 a_6_1 a_7_0 a_7_1 (w64 b) 7 6 0).bind fun r1 =>
    cond (decide (0 ≤ ((r1.length : Nat) : Int))) (
      cond (mkOK (shV true .i64 1 ((r1.length : Nat) : Int)) (shV true .i64 1 ((r1.length : Nat) : Int)) 1) (
        (f13_1 m m (w64 (1 + (Int.tmod (w64 c) 2))) 0 (((Int.toNat (shV true .i64 1 ((r1.length : Nat) : Int))) : Nat) : Int) 0 r1 (List.replicate (Int.toNat (shV true .i64 1 ((r1.length : Nat) : Int))) false)).bind fun o1 =>
          (f13_3 m m o1.1 o1.2.1 false ((o1.2.2.2.length : Nat) : Int) 0 o1.2.2.1 o1.2.2.2 []).bind fun o3 =>
            match o3 with
            | .r =>
              some (false)
            | .x4 x8_x43 lh0_x43 lh1_x43 =>
              (f33 m lh0_x43 x8_x43).bind fun r5 =>
                cond (r5.2 == 0) (
                  (f20 m r5.1 lh1_x43).bind fun r6 =>
                    cond (r6) (
                      some (true)
                    ) (
                      some (false)
                    )
                ) (
                  some (false)
                )
      ) none
    ) none

theorem f13_ok (m : Nat) (a_0_0 : Int) (a_0_1 : Int) (a_1_0 : Int) (a_1_1 : Int) (a_2_0 : Int) (a_2_1 : Int) (a_3_0 : Int) (a_3_1 : Int) (a_4_0 : Int) (a_4_1 : Int) (a_5_0 : Int) (a_5_1 : Int) (a_6_0 : Int) (a_6_1 : Int) (a_7_0 : Int) (a_7_1 : Int) (b : Int) (c : Int) (o : Bool) (h : f13 m a_0_0 a_0_1 a_1_0 a_1_1 a_2_0 a_2_1 a_3_0 a_3_1 a_4_0 a_4_1 a_5_0 a_5_1 a_6_0 a_6_1 a_7_0 a_7_1 b c = some o) (w : World) (hI : anyInv w) : Calls Proofs.Try.prog 13 #[.agg #[.int .u8 a_0_0, .int .u8 a_0_1, .int .u8 a_1_0, .int .u8 a_1_1, .int .u8 a_2_0, .int .u8 a_2_1, .int .u8 a_3_0, .int .u8 a_3_1, .int .u8 a_4_0, .int .u8 a_4_1, .int .u8 a_5_0, .int .u8 a_5_1, .int .u8 a_6_0, .int .u8 a_6_1, .int .u8 a_7_0, .int .u8 a_7_1], .int .u8 b, .int .u8 c] w fun e w' => e = .returned (.bool o) ∧ Below w.heap.size w w' := by
  refine KC.calls (E := E0) (args := [.agg #[.int .u8 a_0_0, .int .u8 a_0_1, .int .u8 a_1_0, .int .u8 a_1_1, .int .u8 a_2_0, .int .u8 a_2_1, .int .u8 a_3_0, .int .u8 a_3_1, .int .u8 a_4_0, .int .u8 a_4_1, .int .u8 a_5_0, .int .u8 a_5_1, .int .u8 a_6_0, .int .u8 a_6_1, .int .u8 a_7_0, .int .u8 a_7_1], .int .u8 b, .int .u8 c]) (v := .bool o) rfl rfl (KC.bodyN E0_ok (F := Proofs.Try.f13) (by kernel_rfl) (code := f13_C13) (by kernel_rfl) (nt := 145) (by kernel_rfl) (rs := [.tmp 6]) (by kernel_rfl) (by kernel_rfl) (σ := [(0, .agg #[.int .u8 a_0_0, .int .u8 a_0_1, .int .u8 a_1_0, .int .u8 a_1_1, .int .u8 a_2_0, .int .u8 a_2_1, .int .u8 a_3_0, .int .u8 a_3_1, .int .u8 a_4_0, .int .u8 a_4_1, .int .u8 a_5_0, .int .u8 a_5_1, .int .u8 a_6_0, .int .u8 a_6_1, .int .u8 a_7_0, .int .u8 a_7_1]), (1, .int .u8 b), (2, .int .u8 c)]) (by kernel_rfl) ?_) w (anyInv_size hI) hI
  unfold f13 at h
  refine XQ.seq E0_ok (by kernel_rfl) ?_
  refine XQ.region (by kernel_rfl) ?_
  refine XR.runT E0_ok 1 2 [(1, .int .u8 b), (2, .int .u8 c), (3, pp 0 0)] [(0, .cells [.int .u8 a_0_0, .int .u8 a_0_1, .int .u8 a_1_0, .int .u8 a_1_1, .int .u8 a_2_0, .int .u8 a_2_1, .int .u8 a_3_0, .int .u8 a_3_1, .int .u8 a_4_0, .int .u8 a_4_1, .int .u8 a_5_0, .int .u8 a_5_1, .int .u8 a_6_0, .int .u8 a_6_1, .int .u8 a_7_0, .int .u8 a_7_1] 0 56 0)] 1 rfl (by kernel_rfl) ?_
  refine XR.done (by kernel_rfl) ?_
  show XQ _ _ _ _ _ _ _ _
  refine XQ.seq E0_ok (by kernel_rfl) ?_
  refine XQ.region (by kernel_rfl) ?_
  refine XR.runS E0_ok 1 3 [(2, .int .u8 c), (26, .agg #[.int .u8 a_0_0, .int .u8 a_0_1, .int .u8 a_1_0, .int .u8 a_1_1, .int .u8 a_2_0, .int .u8 a_2_1, .int .u8 a_3_0, .int .u8 a_3_1, .int .u8 a_4_0, .int .u8 a_4_1, .int .u8 a_5_0, .int .u8 a_5_1, .int .u8 a_6_0, .int .u8 a_6_1, .int .u8 a_7_0, .int .u8 a_7_1]), (28, ii (w64 b))] rfl (by kernel_rfl) ?_
  obtain ⟨r1, r1_h, h⟩ := bS h
  refine XR.call E0_ok [2, 29] rfl (K := 41) (args := [.agg #[.int .u8 a_0_0, .int .u8 a_0_1, .int .u8 a_1_0, .int .u8 a_1_1, .int .u8 a_2_0, .int .u8 a_2_1, .int .u8 a_3_0, .int .u8 a_3_1, .int .u8 a_4_0, .int .u8 a_4_1, .int .u8 a_5_0, .int .u8 a_5_1, .int .u8 a_6_0, .int .u8 a_6_1, .int .u8 a_7_0, .int .u8 a_7_1], ii (w64 b), ii 7, ii 6, ii 0]) (d := (some (path 12 29))) (by kernel_rfl) (KC.lift (V2 := s0 1 r1.length) (H2 := [(1, rc encP r1 0 61 2)]) [1, 0] (f41_ok m a_0_0 a_0_1 a_1_0 a_1_1 a_2_0 a_2_1 a_3_0 a_3_1 a_4_0 a_4_1 a_5_0 a_5_1 a_6_0 a_6_1 a_7_0 a_7_1 (w64 b) 7 6 0 r1 r1_h) rfl (by decide) (by decide) (by kernel_rfl) ⟨⟨_, _, rfl, rfl, .inl ⟨rfl, rowC_scal encP_ok _⟩⟩, trivial⟩ (by rfl)) ?_
  rintro _ _ _ ⟨rfl, rfl, rfl⟩
  refine XR.conv (σ' := [(2, .int .u8 c), (29, s0 1 r1.length)]) (h' := [(1, rc encP r1 0 61 2), (0, .cells [.int .u8 a_0_0, .int .u8 a_0_1, .int .u8 a_1_0, .int .u8 a_1_1, .int .u8 a_2_0, .int .u8 a_2_1, .int .u8 a_3_0, .int .u8 a_3_1, .int .u8 a_4_0, .int .u8 a_4_1, .int .u8 a_5_0, .int .u8 a_5_1, .int .u8 a_6_0, .int .u8 a_6_1, .int .u8 a_7_0, .int .u8 a_7_1] 0 56 0)]) (c' := 2) ?_ (by kernel_rfl)
  refine XR.runS E0_ok 1 1 [(2, .int .u8 c), (7, s0 1 r1.length)] rfl (by kernel_rfl) ?_
  refine XR.done (by kernel_rfl) ?_
  show XQ _ _ _ _ _ _ _ _
  refine XQ.seq E0_ok (by kernel_rfl) ?_
  refine XQ.region (by kernel_rfl) ?_
  refine XR.runS E0_ok 1 5 [(7, s0 1 r1.length), (8, ii (w64 (1 + (Int.tmod (w64 c) 2))))] rfl (by kernel_rfl) ?_
  refine XR.done (by kernel_rfl) ?_
  show XQ _ _ _ _ _ _ _ _
  refine XQ.seq E0_ok (by kernel_rfl) ?_
  refine XQ.region (by kernel_rfl) ?_
  refine XR.runS E0_ok 1 2 [(7, s0 1 r1.length), (8, ii (w64 (1 + (Int.tmod (w64 c) 2)))), (35, ii ((r1.length : Nat) : Int))] rfl (by kernel_rfl) ?_
  cases b1 : (decide (0 ≤ ((r1.length : Nat) : Int)) : Bool) with
  | false => cases (cF b1 h)
  | true =>
    have h := cT b1 h
    have e2 : insV (headI ((gsOf E0 145 (opsOf (lft (rgt (rgt (rgt f13_C13)))))).drop 2) (trS 145 [(7, s0 1 r1.length), (8, ii (w64 (1 + (Int.tmod (w64 c) 2)))), (35, ii ((r1.length : Nat) : Int))])) (trS 145 [(7, s0 1 r1.length), (8, ii (w64 (1 + (Int.tmod (w64 c) 2)))), (35, ii ((r1.length : Nat) : Int))]) [(1, rc encP r1 0 61 2), (0, .cells [.int .u8 a_0_0, .int .u8 a_0_1, .int .u8 a_1_0, .int .u8 a_1_1, .int .u8 a_2_0, .int .u8 a_2_1, .int .u8 a_3_0, .int .u8 a_3_1, .int .u8 a_4_0, .int .u8 a_4_1, .int .u8 a_5_0, .int .u8 a_5_1, .int .u8 a_6_0, .int .u8 a_6_1, .int .u8 a_7_0, .int .u8 a_7_1] 0 56 0)] = (match (decide (0 ≤ ((r1.length : Nat) : Int)) : Bool) with | true => some (ii (shV true .i64 1 ((r1.length : Nat) : Int))) | false => none) := by kernel_rfl
    refine XR.rd E0_ok [7, 8, 36] rfl (e2.trans (by rw [b1])) (σ' := [(7, s0 1 r1.length), (8, ii (w64 (1 + (Int.tmod (w64 c) 2)))), (36, ii (shV true .i64 1 ((r1.length : Nat) : Int)))]) (by kernel_rfl) ?_
    cases b3 : (mkOK (shV true .i64 1 ((r1.length : Nat) : Int)) (shV true .i64 1 ((r1.length : Nat) : Int)) 1 : Bool) with
    | false => cases (cF b3 h)
    | true =>
      have h := cT b3 h
      refine XR.ef E0_ok [7, 8, 37] rfl (e_make encB_ok (x := (src 145 (.tmp 36))) (y := (src 145 (.tmp 36))) (l := shV true .i64 1 ((r1.length : Nat) : Int)) (n := shV true .i64 1 ((r1.length : Nat) : Int)) (bytes := 1) (e := 4) (z := #[.bool false]) (d := (some (path 12 37))) (by kernel_rfl) (by kernel_rfl) (by kernel_rfl) false rfl (by kernel_rfl) b3) (σ' := [(7, s0 1 r1.length), (8, ii (w64 (1 + (Int.tmod (w64 c) 2)))), (37, s0 2 (Int.toNat (shV true .i64 1 ((r1.length : Nat) : Int))))]) (by kernel_rfl) ?_
      refine XR.runS E0_ok 1 1 [(7, s0 1 r1.length), (8, ii (w64 (1 + (Int.tmod (w64 c) 2)))), (9, s0 2 (Int.toNat (shV true .i64 1 ((r1.length : Nat) : Int))))] rfl (by kernel_rfl) ?_
      refine XR.done (by kernel_rfl) ?_
      show XQ _ _ _ _ _ _ _ _
      refine XQ.seq E0_ok (by kernel_rfl) ?_
      refine XQ.region (by kernel_rfl) ?_
      refine XR.runS E0_ok 1 1 [(7, s0 1 r1.length), (8, ii (w64 (1 + (Int.tmod (w64 c) 2)))), (9, s0 2 (Int.toNat (shV true .i64 1 ((r1.length : Nat) : Int)))), (10, ii 0)] rfl (by kernel_rfl) ?_
      refine XR.done (by kernel_rfl) ?_
      show XQ _ _ _ _ _ _ _ _
      refine XQ.seq E0_ok (by kernel_rfl) ?_
      refine XQ.seq E0_ok (by kernel_rfl) ?_
      refine XQ.region (by kernel_rfl) ?_
      refine XR.runS E0_ok 1 3 [(7, s0 1 r1.length), (8, ii (w64 (1 + (Int.tmod (w64 c) 2)))), (9, s0 2 (Int.toNat (shV true .i64 1 ((r1.length : Nat) : Int)))), (10, ii 0), (39, ii (((Int.toNat (shV true .i64 1 ((r1.length : Nat) : Int))) : Nat) : Int)), (40, ii 0)] rfl (by kernel_rfl) ?_
      refine XR.done (by kernel_rfl) ?_
      show XQ _ _ _ _ _ _ _ _
      refine XQ.block (id := 0) (by kernel_rfl) ?_
      refine XQ.loop m (by kernel_rfl) ?_
      obtain ⟨o1, o1_h, h⟩ := bS h
      refine XL.ren (σ' := [(7, s0 0 r1.length), (8, ii (w64 (1 + (Int.tmod (w64 c) 2)))), (9, s0 1 (Int.toNat (shV true .i64 1 ((r1.length : Nat) : Int)))), (10, ii 0), (39, ii (((Int.toNat (shV true .i64 1 ((r1.length : Nat) : Int))) : Nat) : Int)), (40, ii 0)]) (h' := [(1, rc encB (List.replicate (Int.toNat (shV true .i64 1 ((r1.length : Nat) : Int))) false) 0 4 1), (0, rc encP r1 0 61 2)]) (c' := 2) [1, 2] (by decide) rfl ⟨by kernel_rfl, by kernel_rfl, by kernel_rfl, by kernel_rfl, by kernel_rfl, by kernel_rfl, trivial⟩ ⟨⟨_, _, rfl, rfl, .inl ⟨rfl, rowC_scal encB_ok _⟩⟩, ⟨_, _, rfl, rfl, .inl ⟨rfl, rowC_scal encP_ok _⟩⟩, trivial⟩ rfl ?_
      refine XL.conv (f13_1_ok m m (w64 (1 + (Int.tmod (w64 c) 2))) 0 (((Int.toNat (shV true .i64 1 ((r1.length : Nat) : Int))) : Nat) : Int) 0 r1 (List.replicate (Int.toNat (shV true .i64 1 ((r1.length : Nat) : Int))) false) o1 o1_h _ ?_) (by first | rfl | simp)
      show XQ _ _ _ _ _ _ _ _
      refine XQ.seq E0_ok (by kernel_rfl) ?_
      refine XQ.region (by kernel_rfl) ?_
      refine XR.runS E0_ok 1 1 [(7, s0 0 o1.2.2.1.length), (8, ii o1.1), (9, s0 1 o1.2.2.2.length), (10, ii o1.2.1), (17, .slice none 0 0)] rfl (by kernel_rfl) ?_
      refine XR.done (by kernel_rfl) ?_
      show XQ _ _ _ _ _ _ _ _
      refine XQ.ghost 3 1 rfl (σ' := [(7, s0 0 o1.2.2.1.length), (8, ii o1.1), (9, s0 1 o1.2.2.2.length), (10, ii o1.2.1), (17, s0 2 0)]) (h' := [(1, rc encB o1.2.2.2 0 4 1), (0, rc encP o1.2.2.1 0 61 2)]) ⟨by kernel_rfl, by kernel_rfl, by kernel_rfl, by kernel_rfl, by kernel_rfl, trivial⟩ ⟨⟨_, rfl, .inl rfl⟩, ⟨_, rfl, .inl rfl⟩, trivial⟩ ?_
      refine XQ.conv (σ' := [(7, s0 0 o1.2.2.1.length), (8, ii o1.1), (9, s0 1 o1.2.2.2.length), (10, ii o1.2.1), (17, s0 2 0)]) (h' := [(2, rc (encI .i64) [] 0 3 1), (1, rc encB o1.2.2.2 0 4 1), (0, rc encP o1.2.2.1 0 61 2)]) (c' := 3) ?_ (by kernel_rfl)
      refine XQ.seq E0_ok (by kernel_rfl) ?_
      refine XQ.region (by kernel_rfl) ?_
      refine XR.runS E0_ok 1 1 [(7, s0 0 o1.2.2.1.length), (8, ii o1.1), (9, s0 1 o1.2.2.2.length), (10, ii o1.2.1), (17, s0 2 0), (18, .bool false)] rfl (by kernel_rfl) ?_
      refine XR.done (by kernel_rfl) ?_
      show XQ _ _ _ _ _ _ _ _
      refine XQ.seq E0_ok (by kernel_rfl) ?_
      refine XQ.seq E0_ok (by kernel_rfl) ?_
      refine XQ.region (by kernel_rfl) ?_
      refine XR.runS E0_ok 1 3 [(7, s0 0 o1.2.2.1.length), (8, ii o1.1), (9, s0 1 o1.2.2.2.length), (10, ii o1.2.1), (17, s0 2 0), (18, .bool false), (75, s0 1 o1.2.2.2.length), (76, ii ((o1.2.2.2.length : Nat) : Int)), (77, ii 0)] rfl (by kernel_rfl) ?_
      refine XR.done (by kernel_rfl) ?_
      show XQ _ _ _ _ _ _ _ _
      refine XQ.block (id := 4) (by kernel_rfl) ?_
      refine XQ.loop m (by kernel_rfl) ?_
      obtain ⟨o3, o3_h, h⟩ := bS h
      refine XL.ren (σ' := [(7, s0 0 o1.2.2.1.length), (8, ii o1.1), (9, s0 1 o1.2.2.2.length), (10, ii o1.2.1), (17, s0 2 0), (18, .bool false), (75, s0 1 o1.2.2.2.length), (76, ii ((o1.2.2.2.length : Nat) : Int)), (77, ii 0)]) (h' := [(2, rc (encI .i64) [] 0 3 1), (1, rc encB o1.2.2.2 0 4 1), (0, rc encP o1.2.2.1 0 61 2)]) (c' := 3) [0, 1, 2] (by decide) rfl ⟨by kernel_rfl, by kernel_rfl, by kernel_rfl, by kernel_rfl, by kernel_rfl, by kernel_rfl, by kernel_rfl, by kernel_rfl, by kernel_rfl, trivial⟩ ⟨⟨_, _, rfl, rfl, .inl ⟨rfl, rowC_scal (encI_ok .i64) _⟩⟩, ⟨_, _, rfl, rfl, .inl ⟨rfl, rowC_scal encB_ok _⟩⟩, ⟨_, _, rfl, rfl, .inl ⟨rfl, rowC_scal encP_ok _⟩⟩, trivial⟩ rfl ?_
      cases o3 with
      | r =>
        dsimp only at h
        refine XL.conv (f13_3_ok m m o1.1 o1.2.1 false ((o1.2.2.2.length : Nat) : Int) 0 o1.2.2.1 o1.2.2.2 [] (.r) o3_h _ ?_) (by first | rfl | simp)
        have h := Option.some.inj h
        subst h
        exact ⟨fun i q => (by cases q), .bool false, (by kernel_rfl), rfl⟩
      | x4 x8_x43 lh0_x43 lh1_x43 =>
        dsimp only at h
        refine XL.conv (f13_3_ok m m o1.1 o1.2.1 false ((o1.2.2.2.length : Nat) : Int) 0 o1.2.2.1 o1.2.2.2 [] (.x4 x8_x43 lh0_x43 lh1_x43) o3_h _ ?_) (by first | rfl | simp)
        show XQ _ _ _ _ _ _ _ _
        refine XQ.seq E0_ok (by kernel_rfl) ?_
        refine XQ.region (by kernel_rfl) ?_
        refine XR.runS E0_ok 1 2 [(17, s0 1 lh1_x43.length), (130, s0 0 lh0_x43.length), (131, ii x8_x43)] rfl (by kernel_rfl) ?_
        obtain ⟨r5, r5_h, h⟩ := bS h
        refine XR.call E0_ok [17, 132] rfl (K := 33) (args := [s0 0 lh0_x43.length, ii x8_x43]) (d := (some (path 12 132))) (by kernel_rfl) (KC.liftH (n0 := 1) (m := 1) (args0 := [s0 0 lh0_x43.length, ii x8_x43]) (h0 := [(0, rc encP lh0_x43 (0 + ((rowC encP lh0_x43).length + 1)) 61 2)]) (V := .tuple #[s0 1 r5.1.length, ii r5.2]) (V2 := .tuple #[s0 2 r5.1.length, ii r5.2]) (H := [(1, rc (encI .i64) r5.1 0 3 1)]) (H2 := [(2, rc (encI .i64) r5.1 0 3 1)]) [0] [2, 3, 1] (f33_ok m (0 + ((rowC encP lh0_x43).length + 1)) 61 lh0_x43 x8_x43 r5 r5_h) (by rfl) (by decide) rfl (by kernel_rfl) ⟨⟨_, _, rfl, rfl, .inl ⟨rfl, rowC_scal encP_ok _⟩⟩, trivial⟩ (by decide) (by decide) (by kernel_rfl) ⟨⟨_, _, rfl, rfl, .inl ⟨rfl, rowC_scal (encI_ok .i64) _⟩⟩, trivial⟩ (by rfl)) ?_
        rintro _ _ _ ⟨rfl, rfl, rfl⟩
        refine XR.conv (σ' := [(17, s0 1 lh1_x43.length), (132, .tuple #[s0 2 r5.1.length, ii r5.2])]) (h' := [(2, rc (encI .i64) r5.1 0 3 1), (1, rc (encI .i64) lh1_x43 0 3 1), (0, rc encP lh0_x43 0 61 2)]) (c' := 3) ?_ (by kernel_rfl)
        refine XR.runS E0_ok 1 5 [(17, s0 1 lh1_x43.length), (24, s0 2 r5.1.length), (25, ii r5.2)] rfl (by kernel_rfl) ?_
        refine XR.done (by kernel_rfl) ?_
        show XQ _ _ _ _ _ _ _ _
        refine XQ.seq E0_ok (by kernel_rfl) ?_
        refine XQ.region (by kernel_rfl) ?_
        refine XR.runS E0_ok 1 3 [(17, s0 1 lh1_x43.length), (24, s0 2 r5.1.length), (137, .bool (r5.2 == 0))] rfl (by kernel_rfl) ?_
        cases b6 : (r5.2 == 0 : Bool) with
        | true =>
          have h := cT b6 h
          refine XR.runS E0_ok 1 2 [(137, .bool true), (138, s0 2 r5.1.length), (139, s0 1 lh1_x43.length)] rfl (by kernel_rfl) ?_
          obtain ⟨r6, r6_h, h⟩ := bS h
          refine XR.call E0_ok [137, 140] rfl (K := 20) (args := [s0 2 r5.1.length, s0 1 lh1_x43.length]) (d := (some (path 12 140))) (by kernel_rfl) (KQ.call (KC.quiet E0_ok (args0 := [s0 0 r5.1.length, s0 1 lh1_x43.length]) (h0 := [(1, rc (encI .i64) lh1_x43 (0 + ((rowC (encI .i64) lh1_x43).length + 1)) 3 1), (0, rc (encI .i64) r5.1 (0 + ((rowC (encI .i64) r5.1).length + 1)) 3 1)]) (n := 2) (V := .bool r6) [2, 1] (f20_ok m (0 + ((rowC (encI .i64) r5.1).length + 1)) 3 (0 + ((rowC (encI .i64) lh1_x43).length + 1)) 3 r5.1 lh1_x43 r6 r6_h) rfl (by rfl) (by decide) rfl (by kernel_rfl) ⟨⟨_, _, rfl, rfl, .inl ⟨rfl, rowC_scal (encI_ok .i64) _⟩⟩, ⟨_, _, rfl, rfl, .inl ⟨rfl, rowC_scal (encI_ok .i64) _⟩⟩, trivial⟩) rfl) ?_
          rintro _ _ _ ⟨rfl, rfl, rfl⟩
          refine XR.conv (σ' := [(137, .bool true), (140, .bool r6)]) (h' := [(2, rc (encI .i64) r5.1 0 3 1), (1, rc (encI .i64) lh1_x43 0 3 1), (0, rc encP lh0_x43 0 61 2)]) (c' := 3) ?_ (by kernel_rfl)
          refine XR.runS E0_ok 1 2 [(142, .bool r6)] rfl (by kernel_rfl) ?_
          cases b7 : (r6 : Bool) with
          | true =>
            have h := cT b7 h
            refine XR.call E0_ok [142, 143] rfl (K := 16) (args := []) (d := (some (path 12 143))) (by kernel_rfl) (KC.of_calls E0_ok (F := Proofs.Try.f16) (v := .bool true) (by kernel_rfl) rfl rfl (works_ok)) ?_
            rintro _ _ _ ⟨rfl, rfl, rfl⟩
            refine XR.conv (σ' := [(142, .bool true), (143, .bool true)]) (h' := [(2, rc (encI .i64) r5.1 0 3 1), (1, rc (encI .i64) lh1_x43 0 3 1), (0, rc encP lh0_x43 0 61 2)]) (c' := 3) ?_ (by kernel_rfl)
            refine XR.runS E0_ok 1 2 [(6, .bool true)] rfl (by kernel_rfl) ?_
            refine XR.done (by kernel_rfl) ?_
            show XQ _ _ _ _ _ _ _ _
            refine XQ.ret (by kernel_rfl) ?_
            have h := Option.some.inj h
            subst h
            exact ⟨fun i q => (by cases q), .bool true, (by kernel_rfl), rfl⟩
          | false =>
            have h := cF b7 h
            refine XR.runS E0_ok 1 3 [(6, .bool false)] rfl (by kernel_rfl) ?_
            refine XR.done (by kernel_rfl) ?_
            show XQ _ _ _ _ _ _ _ _
            refine XQ.ret (by kernel_rfl) ?_
            have h := Option.some.inj h
            subst h
            exact ⟨fun i q => (by cases q), .bool false, (by kernel_rfl), rfl⟩
        | false =>
          have h := cF b6 h
          refine XR.runS E0_ok 1 8 [(6, .bool false)] rfl (by kernel_rfl) ?_
          refine XR.done (by kernel_rfl) ?_
          show XQ _ _ _ _ _ _ _ _
          refine XQ.ret (by kernel_rfl) ?_
          have h := Option.some.inj h
          subst h
          exact ⟨fun i q => (by cases q), .bool false, (by kernel_rfl), rfl⟩

end Go.Xm
