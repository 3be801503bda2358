/- What these functions of the program compute, as functions in Lean, and the proofs that they do: vitolalaw02.HeapHall. Conditions: none. -/
import Derived.Test.YtfdeihnkoaihfaaBf
import Derived.Test.YtfdeihnkoaihfaaCf
import Derived.Test.YtfdeihnkoaihfaaBb
import Derived.Test.YtfdeihnkoaihfaaCd
namespace Go.Xm
open Go.RowKit
set_option linter.unusedVariables false
set_option linter.unusedSimpArgs false
set_option maxRecDepth 20000

/-! vitola/vitolalaw02.HeapHall -/
noncomputable def f7_C7 : Code := Proofs.Try.f7.body.getD .skip
noncomputable def f7_L1 : Code := lft (lft (rgt (lft (rgt (rgt (rgt (rgt (rgt (rgt f7_C7)))))))))
noncomputable def f7_L2 : Code := lft (lft (rgt (lft (lft (rgt f7_L1)))))
noncomputable def f7_L3 : Code := lft (lft (rgt (lft (rgt (lft (lft (rgt f7_L2)))))))

def f7_3 (m : Nat) : Nat → Int → Bool → Int → List (Int × Int) → List Int → Bool → Int → Int → Int → Int → Int → Int → Option Int
  | 0, _, _, _, _, _, _, _, _, _, _, _, _ => none
  | fuel + 1, x10_1, b12_1, x16_1, lh0_1, lh1_1, b13_2, x14_2, x15_2, x17_2, x18_3, x55_3, x56_3 =>
    cond (decide (x56_3 < x55_3)) (
      cond (inRow x56_3 lh0_1.length) (
        cond (decide (((List.getD lh0_1 (Int.toNat x56_3) (0, 0)).1) ≥ x16_1)) (
          f7_3 m fuel x10_1 b12_1 x16_1 lh0_1 lh1_1 b13_2 x14_2 x15_2 x17_2 (cond (decide (((List.getD lh0_1 (Int.toNat x56_3) (0, 0)).2) ≤ x17_2)) (w64 (x18_3 + 1)) x18_3) x55_3 (w64 (x56_3 + 1))
        ) (
          f7_3 m fuel x10_1 b12_1 x16_1 lh0_1 lh1_1 b13_2 x14_2 x15_2 x17_2 x18_3 x55_3 (w64 (x56_3 + 1))
        )
      ) none
    ) (
      some (x18_3)
    )

theorem f7_3_ok (m : Nat) : ∀ (fuel : Nat) (x10_1 : Int) (b12_1 : Bool) (x16_1 : Int) (lh0_1 : List (Int × Int)) (lh1_1 : List Int) (b13_2 : Bool) (x14_2 : Int) (x15_2 : Int) (x17_2 : Int) (x18_3 : Int) (x55_3 : Int) (x56_3 : Int) (o : Int), f7_3 m fuel x10_1 b12_1 x16_1 lh0_1 lh1_1 b13_2 x14_2 x15_2 x17_2 x18_3 x55_3 x56_3 = some o → ∀ Q : QP, Q (.exit 4) [(9, s0 0 lh0_1.length), (10, ii x10_1), (11, s0 1 lh1_1.length), (12, .bool b12_1), (13, .bool b13_2), (14, ii x14_2), (15, ii x15_2), (16, ii x16_1), (17, ii x17_2), (18, ii o)] [(1, rc (encI .i64) lh1_1 0 3 1), (0, rc encP lh0_1 0 61 2)] 2 → XL E0 172 0 fuel f7_L3 [(9, s0 0 lh0_1.length), (10, ii x10_1), (11, s0 1 lh1_1.length), (12, .bool b12_1), (13, .bool b13_2), (14, ii x14_2), (15, ii x15_2), (16, ii x16_1), (17, ii x17_2), (18, ii x18_3), (54, s0 0 lh0_1.length), (55, ii x55_3), (56, ii x56_3)] [(1, rc (encI .i64) lh1_1 0 3 1), (0, rc encP lh0_1 0 61 2)] 2 Q
  | 0, x10_1, b12_1, x16_1, lh0_1, lh1_1, b13_2, x14_2, x15_2, x17_2, x18_3, x55_3, x56_3, o, h, Q, hQ => by cases h
  | fuel + 1, x10_1, b12_1, x16_1, lh0_1, lh1_1, b13_2, x14_2, x15_2, x17_2, x18_3, x55_3, x56_3, o, h, Q, hQ => by
    unfold f7_3 at h
    refine XL.succ E0_ok ?_
    refine XQ.seq E0_ok (by kernel_rfl) ?_
    refine XQ.region (by kernel_rfl) ?_
    refine XR.runS E0_ok 1 1 [(9, s0 0 lh0_1.length), (10, ii x10_1), (11, s0 1 lh1_1.length), (12, .bool b12_1), (13, .bool b13_2), (14, ii x14_2), (15, ii x15_2), (16, ii x16_1), (17, ii x17_2), (18, ii x18_3), (54, s0 0 lh0_1.length), (55, ii x55_3), (56, ii x56_3), (57, .bool (decide (x56_3 < x55_3)))] rfl (by kernel_rfl) ?_
    refine XR.done (by kernel_rfl) ?_
    show XQ _ _ _ _ _ _ _ _
    refine XQ.seq E0_ok (by kernel_rfl) ?_
    cases b1 : (decide (x56_3 < x55_3) : Bool) with
    | true =>
      have h := cT b1 h
      refine XQ.cond (s := (.tmp 57)) (b := true) (by kernel_rfl) (by kernel_rfl) (fun _ => ?_) (fun q => by cases q)
      refine XQ.skip (by kernel_rfl) ?_
      show XQ _ _ _ _ _ _ _ _
      refine XQ.seq E0_ok (by kernel_rfl) ?_
      refine XQ.block (id := 5) (by kernel_rfl) ?_
      refine XQ.seq E0_ok (by kernel_rfl) ?_
      refine XQ.region (by kernel_rfl) ?_
      cases b2 : (inRow x56_3 lh0_1.length : Bool) with
      | false => cases (cF b2 h)
      | true =>
        have h := cT b2 h
        refine XR.rd E0_ok [9, 10, 11, 12, 13, 14, 15, 16, 17, 18, 54, 55, 56, 58] rfl (v := pp 0 ((Int.toNat x56_3) * 2)) (v_idx (s := 2) (x := (src 172 (.tmp 54))) (y := (src 172 (.tmp 56))) (b := 0) (o := 0) (len := lh0_1.length) (cap := lh0_1.length) (ik := .i64) (i := x56_3) (off := (Int.toNat x56_3) * 2) (d := (some (path 12 58))) (by kernel_rfl) (by kernel_rfl) (by kernel_rfl) b2 (by omega)) (σ' := [(9, s0 0 lh0_1.length), (10, ii x10_1), (11, s0 1 lh1_1.length), (12, .bool b12_1), (13, .bool b13_2), (14, ii x14_2), (15, ii x15_2), (16, ii x16_1), (17, ii x17_2), (18, ii x18_3), (54, s0 0 lh0_1.length), (55, ii x55_3), (56, ii x56_3), (58, pp 0 ((Int.toNat x56_3) * 2))]) (by kernel_rfl) ?_
        refine XR.rd E0_ok [9, 10, 11, 12, 13, 14, 15, 16, 17, 18, 54, 55, 56, 59] rfl (v := .agg #[ii ((List.getD lh0_1 (Int.toNat x56_3) (0, 0)).1), ii ((List.getD lh0_1 (Int.toNat x56_3) (0, 0)).2)]) (v_loadN encP_ok (x := (src 172 (.tmp 58))) (b := 0) (off := (Int.toNat x56_3) * 2) (xs := lh0_1) (fz := 0) (e := 61) (es := 2) (d := (some (path 12 59))) (by kernel_rfl) (by kernel_rfl) (by kernel_rfl) (Int.toNat x56_3) (0, 0) (by first | rfl | omega) (row_len (inRow_toNat b2) (by simp)) rfl) (σ' := [(9, s0 0 lh0_1.length), (10, ii x10_1), (11, s0 1 lh1_1.length), (12, .bool b12_1), (13, .bool b13_2), (14, ii x14_2), (15, ii x15_2), (16, ii x16_1), (17, ii x17_2), (18, ii x18_3), (54, s0 0 lh0_1.length), (55, ii x55_3), (56, ii x56_3), (59, .agg #[ii ((List.getD lh0_1 (Int.toNat x56_3) (0, 0)).1), ii ((List.getD lh0_1 (Int.toNat x56_3) (0, 0)).2)])]) (by kernel_rfl) ?_
        refine XR.runT E0_ok 1 2 [(9, s0 0 lh0_1.length), (10, ii x10_1), (11, s0 1 lh1_1.length), (12, .bool b12_1), (13, .bool b13_2), (14, ii x14_2), (15, ii x15_2), (16, ii x16_1), (17, ii x17_2), (18, ii x18_3), (20, pp 2 0), (54, s0 0 lh0_1.length), (55, ii x55_3), (56, ii x56_3)] [(2, .cells [ii ((List.getD lh0_1 (Int.toNat x56_3) (0, 0)).1), ii ((List.getD lh0_1 (Int.toNat x56_3) (0, 0)).2)] 0 61 0), (1, rc (encI .i64) lh1_1 0 3 1), (0, rc encP lh0_1 0 61 2)] 3 rfl (by kernel_rfl) ?_
        refine XR.done (by kernel_rfl) ?_
        show XQ _ _ _ _ _ _ _ _
        refine XQ.seq E0_ok (by kernel_rfl) ?_
        refine XQ.region (by kernel_rfl) ?_
        refine XR.runS E0_ok 1 5 [(9, s0 0 lh0_1.length), (10, ii x10_1), (11, s0 1 lh1_1.length), (12, .bool b12_1), (13, .bool b13_2), (14, ii x14_2), (15, ii x15_2), (16, ii x16_1), (17, ii x17_2), (18, ii x18_3), (20, pp 2 0), (54, s0 0 lh0_1.length), (55, ii x55_3), (56, ii x56_3), (64, .bool (decide (((List.getD lh0_1 (Int.toNat x56_3) (0, 0)).1) ≥ x16_1)))] rfl (by kernel_rfl) ?_
        cases b3 : (decide (((List.getD lh0_1 (Int.toNat x56_3) (0, 0)).1) ≥ x16_1) : Bool) with
        | true =>
          have h := cT b3 h
          refine XR.runS E0_ok 1 5 [(9, s0 0 lh0_1.length), (10, ii x10_1), (11, s0 1 lh1_1.length), (12, .bool b12_1), (13, .bool b13_2), (14, ii x14_2), (15, ii x15_2), (16, ii x16_1), (17, ii x17_2), (18, ii x18_3), (54, s0 0 lh0_1.length), (55, ii x55_3), (56, ii x56_3), (69, .bool (decide (((List.getD lh0_1 (Int.toNat x56_3) (0, 0)).2) ≤ x17_2)))] rfl (by kernel_rfl) ?_
          refine XR.done (by kernel_rfl) ?_
          show XQ _ _ _ _ _ _ _ _
          refine XQ.meetC (σ' := [(9, s0 0 lh0_1.length), (10, ii x10_1), (11, s0 1 lh1_1.length), (12, .bool b12_1), (13, .bool b13_2), (14, ii x14_2), (15, ii x15_2), (16, ii x16_1), (17, ii x17_2), (18, ii (cond (decide (((List.getD lh0_1 (Int.toNat x56_3) (0, 0)).2) ≤ x17_2)) (w64 (x18_3 + 1)) x18_3)), (54, s0 0 lh0_1.length), (55, ii x55_3), (56, ii x56_3)]) (h' := [(2, .cells [ii ((List.getD lh0_1 (Int.toNat x56_3) (0, 0)).1), ii ((List.getD lh0_1 (Int.toNat x56_3) (0, 0)).2)] 0 61 0), (1, rc (encI .i64) lh1_1 0 3 1), (0, rc encP lh0_1 0 61 2)]) (c' := 3) ?_ ?_
          rotate_left
          · refine XQ.cond (s := (.tmp 69)) (b := decide (((List.getD lh0_1 (Int.toNat x56_3) (0, 0)).2) ≤ x17_2)) (by kernel_rfl) (by kernel_rfl) (fun b4 => ?_) (fun b4 => ?_)
            · refine XQ.region (by kernel_rfl) ?_
              refine XR.runS E0_ok 1 3 [(9, s0 0 lh0_1.length), (10, ii x10_1), (11, s0 1 lh1_1.length), (12, .bool b12_1), (13, .bool b13_2), (14, ii x14_2), (15, ii x15_2), (16, ii x16_1), (17, ii x17_2), (18, ii (w64 (x18_3 + 1))), (54, s0 0 lh0_1.length), (55, ii x55_3), (56, ii x56_3)] rfl (by kernel_rfl) ?_
              refine XR.done (by kernel_rfl) ?_
              refine ⟨rfl, ?_, ?_⟩
              · try rw [b4]
                exact ⟨by kernel_rfl, by kernel_rfl, by kernel_rfl, by kernel_rfl, by kernel_rfl, by kernel_rfl, by kernel_rfl, by kernel_rfl, by kernel_rfl, by kernel_rfl, by kernel_rfl, by kernel_rfl, by kernel_rfl, trivial⟩
              · try rw [b4]
                kernel_rfl
            · refine XQ.skip (by kernel_rfl) ?_
              refine ⟨rfl, ?_, ?_⟩
              · try rw [b4]
                exact ⟨by kernel_rfl, by kernel_rfl, by kernel_rfl, by kernel_rfl, by kernel_rfl, by kernel_rfl, by kernel_rfl, by kernel_rfl, by kernel_rfl, by kernel_rfl, by kernel_rfl, by kernel_rfl, by kernel_rfl, trivial⟩
              · try rw [b4]
                kernel_rfl
          show XQ _ _ _ _ _ _ _ _
          refine XQ.region (by kernel_rfl) ?_
          refine XR.runS E0_ok 1 2 [(9, s0 0 lh0_1.length), (10, ii x10_1), (11, s0 1 lh1_1.length), (12, .bool b12_1), (13, .bool b13_2), (14, ii x14_2), (15, ii x15_2), (16, ii x16_1), (17, ii x17_2), (18, ii (cond (decide (((List.getD lh0_1 (Int.toNat x56_3) (0, 0)).2) ≤ x17_2)) (w64 (x18_3 + 1)) x18_3)), (54, s0 0 lh0_1.length), (55, ii x55_3), (56, ii (w64 (x56_3 + 1)))] rfl (by kernel_rfl) ?_
          refine XR.done (by kernel_rfl) ?_
          show XL _ _ _ _ _ _ _ _ _
          refine XL.ren (σ' := [(9, s0 0 lh0_1.length), (10, ii x10_1), (11, s0 1 lh1_1.length), (12, .bool b12_1), (13, .bool b13_2), (14, ii x14_2), (15, ii x15_2), (16, ii x16_1), (17, ii x17_2), (18, ii (cond (decide (((List.getD lh0_1 (Int.toNat x56_3) (0, 0)).2) ≤ x17_2)) (w64 (x18_3 + 1)) x18_3)), (54, s0 0 lh0_1.length), (55, ii x55_3), (56, ii (w64 (x56_3 + 1)))]) (h' := [(1, rc (encI .i64) lh1_1 0 3 1), (0, rc encP lh0_1 0 61 2)]) (c' := 2) [0, 1] (by decide) rfl ⟨by kernel_rfl, by kernel_rfl, by kernel_rfl, by kernel_rfl, by kernel_rfl, by kernel_rfl, by kernel_rfl, by kernel_rfl, by kernel_rfl, by kernel_rfl, by kernel_rfl, by kernel_rfl, by kernel_rfl, trivial⟩ ⟨⟨_, _, rfl, rfl, .inl ⟨rfl, rowC_scal (encI_ok .i64) _⟩⟩, ⟨_, _, rfl, rfl, .inl ⟨rfl, rowC_scal encP_ok _⟩⟩, trivial⟩ rfl ?_
          refine XL.conv (f7_3_ok m fuel x10_1 b12_1 x16_1 lh0_1 lh1_1 b13_2 x14_2 x15_2 x17_2 (cond (decide (((List.getD lh0_1 (Int.toNat x56_3) (0, 0)).2) ≤ x17_2)) (w64 (x18_3 + 1)) x18_3) x55_3 (w64 (x56_3 + 1)) o h Q hQ) (by first | rfl | simp)
        | false =>
          have h := cF b3 h
          refine XR.runS E0_ok 1 5 [(9, s0 0 lh0_1.length), (10, ii x10_1), (11, s0 1 lh1_1.length), (12, .bool b12_1), (13, .bool b13_2), (14, ii x14_2), (15, ii x15_2), (16, ii x16_1), (17, ii x17_2), (18, ii x18_3), (54, s0 0 lh0_1.length), (55, ii x55_3), (56, ii x56_3), (69, .bool false)] rfl (by kernel_rfl) ?_
          refine XR.done (by kernel_rfl) ?_
          show XQ _ _ _ _ _ _ _ _
          refine XQ.cond (s := (.tmp 69)) (b := false) (by kernel_rfl) (by kernel_rfl) (fun q => by cases q) (fun _ => ?_)
          refine XQ.skip (by kernel_rfl) ?_
          show XQ _ _ _ _ _ _ _ _
          refine XQ.region (by kernel_rfl) ?_
          refine XR.runS E0_ok 1 2 [(9, s0 0 lh0_1.length), (10, ii x10_1), (11, s0 1 lh1_1.length), (12, .bool b12_1), (13, .bool b13_2), (14, ii x14_2), (15, ii x15_2), (16, ii x16_1), (17, ii x17_2), (18, ii x18_3), (54, s0 0 lh0_1.length), (55, ii x55_3), (56, ii (w64 (x56_3 + 1)))] rfl (by kernel_rfl) ?_
          refine XR.done (by kernel_rfl) ?_
          show XL _ _ _ _ _ _ _ _ _
          refine XL.ren (σ' := [(9, s0 0 lh0_1.length), (10, ii x10_1), (11, s0 1 lh1_1.length), (12, .bool b12_1), (13, .bool b13_2), (14, ii x14_2), (15, ii x15_2), (16, ii x16_1), (17, ii x17_2), (18, ii x18_3), (54, s0 0 lh0_1.length), (55, ii x55_3), (56, ii (w64 (x56_3 + 1)))]) (h' := [(1, rc (encI .i64) lh1_1 0 3 1), (0, rc encP lh0_1 0 61 2)]) (c' := 2) [0, 1] (by decide) rfl ⟨by kernel_rfl, by kernel_rfl, by kernel_rfl, by kernel_rfl, by kernel_rfl, by kernel_rfl, by kernel_rfl, by kernel_rfl, by kernel_rfl, by kernel_rfl, by kernel_rfl, by kernel_rfl, by kernel_rfl, trivial⟩ ⟨⟨_, _, rfl, rfl, .inl ⟨rfl, rowC_scal (encI_ok .i64) _⟩⟩, ⟨_, _, rfl, rfl, .inl ⟨rfl, rowC_scal encP_ok _⟩⟩, trivial⟩ rfl ?_
          refine XL.conv (f7_3_ok m fuel x10_1 b12_1 x16_1 lh0_1 lh1_1 b13_2 x14_2 x15_2 x17_2 x18_3 x55_3 (w64 (x56_3 + 1)) o h Q hQ) (by first | rfl | simp)
    | false =>
      have h := cF b1 h
      refine XQ.cond (s := (.tmp 57)) (b := false) (by kernel_rfl) (by kernel_rfl) (fun q => by cases q) (fun _ => ?_)
      refine XQ.ren (σ' := [(9, s0 0 lh0_1.length), (10, ii x10_1), (11, s0 1 lh1_1.length), (12, .bool b12_1), (13, .bool b13_2), (14, ii x14_2), (15, ii x15_2), (16, ii x16_1), (17, ii x17_2), (18, ii x18_3)]) (h' := [(1, rc (encI .i64) lh1_1 0 3 1), (0, rc encP lh0_1 0 61 2)]) (c' := 2) [0, 1] (by decide) rfl ⟨by kernel_rfl, by kernel_rfl, by kernel_rfl, by kernel_rfl, by kernel_rfl, by kernel_rfl, by kernel_rfl, by kernel_rfl, by kernel_rfl, by kernel_rfl, trivial⟩ ⟨⟨_, _, rfl, rfl, .inl ⟨rfl, rowC_scal (encI_ok .i64) _⟩⟩, ⟨_, _, rfl, rfl, .inl ⟨rfl, rowC_scal encP_ok _⟩⟩, trivial⟩ rfl ?_
      refine XQ.exit (i := 4) (by kernel_rfl) ?_
      cases h
      exact hQ

inductive Of7_2 where
  | r
  | x2 (b13_x22 : Bool) (x14_x22 : Int) (x15_x22 : Int)

def f7_2 (m : Nat) : Nat → Int → Bool → Int → List (Int × Int) → List Int → Bool → Int → Int → Int → Option Of7_2
  | 0, _, _, _, _, _, _, _, _, _ => none
  | fuel + 1, x10_1, b12_1, x16_1, lh0_1, lh1_1, b13_2, x14_2, x15_2, x17_2 =>
    cond (decide (x17_2 ≤ 23)) (
      (f7_3 m m x10_1 b12_1 x16_1 lh0_1 lh1_1 b13_2 x14_2 x15_2 x17_2 0 ((lh0_1.length : Nat) : Int) 0).bind fun o3 =>
        (f25 m lh0_1 x16_1 x17_2).bind fun r15 =>
          cond (r15.2 != 0) (
            some (.r)
          ) (
            cond (r15.1 != o3) (
              some (.r)
            ) (
              cond (decide (o3 > (w64 (x10_1 * (w64 ((w64 (x17_2 - x16_1)) + 1)))))) (
                f7_2 m fuel x10_1 b12_1 x16_1 lh0_1 lh1_1 (cond (!b13_2) true b13_2) (cond (!b13_2) x16_1 x14_2) (cond (!b13_2) x17_2 x15_2) (w64 (x17_2 + 1))
              ) (
                f7_2 m fuel x10_1 b12_1 x16_1 lh0_1 lh1_1 b13_2 x14_2 x15_2 (w64 (x17_2 + 1))
              )
            )
          )
    ) (
      some (.x2 b13_2 x14_2 x15_2)
    )

theorem f7_2_ok (m : Nat) : ∀ (fuel : Nat) (x10_1 : Int) (b12_1 : Bool) (x16_1 : Int) (lh0_1 : List (Int × Int)) (lh1_1 : List Int) (b13_2 : Bool) (x14_2 : Int) (x15_2 : Int) (x17_2 : Int) (o : Of7_2), f7_2 m fuel x10_1 b12_1 x16_1 lh0_1 lh1_1 b13_2 x14_2 x15_2 x17_2 = some o → ∀ Q : QP, (match o with | .r => Q .ret [(8, .bool false)] [] 0 | .x2 b13_x22 x14_x22 x15_x22 => Q (.exit 2) [(9, s0 0 lh0_1.length), (10, ii x10_1), (11, s0 1 lh1_1.length), (12, .bool b12_1), (13, .bool b13_x22), (14, ii x14_x22), (15, ii x15_x22), (16, ii x16_1)] [(1, rc (encI .i64) lh1_1 0 3 1), (0, rc encP lh0_1 0 61 2)] 2) → XL E0 172 0 fuel f7_L2 [(9, s0 0 lh0_1.length), (10, ii x10_1), (11, s0 1 lh1_1.length), (12, .bool b12_1), (13, .bool b13_2), (14, ii x14_2), (15, ii x15_2), (16, ii x16_1), (17, ii x17_2)] [(1, rc (encI .i64) lh1_1 0 3 1), (0, rc encP lh0_1 0 61 2)] 2 Q
  | 0, x10_1, b12_1, x16_1, lh0_1, lh1_1, b13_2, x14_2, x15_2, x17_2, o, h, Q, hQ => by cases h
  | fuel + 1, x10_1, b12_1, x16_1, lh0_1, lh1_1, b13_2, x14_2, x15_2, x17_2, o, h, Q, hQ => by
    unfold f7_2 at h
    refine XL.succ E0_ok ?_
    refine XQ.seq E0_ok (by kernel_rfl) ?_
    refine XQ.seq E0_ok (by kernel_rfl) ?_
    refine XQ.region (by kernel_rfl) ?_
    refine XR.runS E0_ok 1 2 [(9, s0 0 lh0_1.length), (10, ii x10_1), (11, s0 1 lh1_1.length), (12, .bool b12_1), (13, .bool b13_2), (14, ii x14_2), (15, ii x15_2), (16, ii x16_1), (17, ii x17_2), (51, .bool (decide (x17_2 ≤ 23)))] rfl (by kernel_rfl) ?_
    refine XR.done (by kernel_rfl) ?_
    show XQ _ _ _ _ _ _ _ _
    cases b1 : (decide (x17_2 ≤ 23) : Bool) with
    | true =>
      have h := cT b1 h
      refine XQ.cond (s := (.tmp 51)) (b := true) (by kernel_rfl) (by kernel_rfl) (fun _ => ?_) (fun q => by cases q)
      refine XQ.skip (by kernel_rfl) ?_
      show XQ _ _ _ _ _ _ _ _
      refine XQ.seq E0_ok (by kernel_rfl) ?_
      refine XQ.block (id := 3) (by kernel_rfl) ?_
      refine XQ.seq E0_ok (by kernel_rfl) ?_
      refine XQ.region (by kernel_rfl) ?_
      refine XR.runS E0_ok 1 1 [(9, s0 0 lh0_1.length), (10, ii x10_1), (11, s0 1 lh1_1.length), (12, .bool b12_1), (13, .bool b13_2), (14, ii x14_2), (15, ii x15_2), (16, ii x16_1), (17, ii x17_2), (18, ii 0)] rfl (by kernel_rfl) ?_
      refine XR.done (by kernel_rfl) ?_
      show XQ _ _ _ _ _ _ _ _
      refine XQ.seq E0_ok (by kernel_rfl) ?_
      refine XQ.seq E0_ok (by kernel_rfl) ?_
      refine XQ.region (by kernel_rfl) ?_
      refine XR.runS E0_ok 1 3 [(9, s0 0 lh0_1.length), (10, ii x10_1), (11, s0 1 lh1_1.length), (12, .bool b12_1), (13, .bool b13_2), (14, ii x14_2), (15, ii x15_2), (16, ii x16_1), (17, ii x17_2), (18, ii 0), (54, s0 0 lh0_1.length), (55, ii ((lh0_1.length : Nat) : Int)), (56, ii 0)] rfl (by kernel_rfl) ?_
      refine XR.done (by kernel_rfl) ?_
      show XQ _ _ _ _ _ _ _ _
      refine XQ.block (id := 4) (by kernel_rfl) ?_
      refine XQ.loop m (by kernel_rfl) ?_
      obtain ⟨o3, o3_h, h⟩ := bS h
      refine XL.ren (σ' := [(9, s0 0 lh0_1.length), (10, ii x10_1), (11, s0 1 lh1_1.length), (12, .bool b12_1), (13, .bool b13_2), (14, ii x14_2), (15, ii x15_2), (16, ii x16_1), (17, ii x17_2), (18, ii 0), (54, s0 0 lh0_1.length), (55, ii ((lh0_1.length : Nat) : Int)), (56, ii 0)]) (h' := [(1, rc (encI .i64) lh1_1 0 3 1), (0, rc encP lh0_1 0 61 2)]) (c' := 2) [0, 1] (by decide) rfl ⟨by kernel_rfl, by kernel_rfl, by kernel_rfl, by kernel_rfl, by kernel_rfl, by kernel_rfl, by kernel_rfl, by kernel_rfl, by kernel_rfl, by kernel_rfl, by kernel_rfl, by kernel_rfl, by kernel_rfl, trivial⟩ ⟨⟨_, _, rfl, rfl, .inl ⟨rfl, rowC_scal (encI_ok .i64) _⟩⟩, ⟨_, _, rfl, rfl, .inl ⟨rfl, rowC_scal encP_ok _⟩⟩, trivial⟩ rfl ?_
      refine XL.conv (f7_3_ok m m x10_1 b12_1 x16_1 lh0_1 lh1_1 b13_2 x14_2 x15_2 x17_2 0 ((lh0_1.length : Nat) : Int) 0 o3 o3_h _ ?_) (by first | rfl | simp)
      show XQ _ _ _ _ _ _ _ _
      refine XQ.seq E0_ok (by kernel_rfl) ?_
      refine XQ.region (by kernel_rfl) ?_
      refine XR.runS E0_ok 1 3 [(9, s0 0 lh0_1.length), (10, ii x10_1), (11, s0 1 lh1_1.length), (12, .bool b12_1), (13, .bool b13_2), (14, ii x14_2), (15, ii x15_2), (16, ii x16_1), (17, ii x17_2), (18, ii o3), (74, s0 0 lh0_1.length), (75, ii x16_1), (76, ii x17_2)] rfl (by kernel_rfl) ?_
      obtain ⟨r15, r15_h, h⟩ := bS h
      refine XR.call E0_ok [9, 10, 11, 12, 13, 14, 15, 16, 17, 18, 77] rfl (K := 25) (args := [s0 0 lh0_1.length, ii x16_1, ii x17_2]) (d := (some (path 12 77))) (by kernel_rfl) (KQ.call (KC.quiet E0_ok (args0 := [s0 0 lh0_1.length, ii x16_1, ii x17_2]) (h0 := [(0, rc encP lh0_1 (0 + ((rowC encP lh0_1).length + 1)) 61 2)]) (n := 1) (V := .tuple #[ii r15.1, ii r15.2]) [0] (f25_ok m (0 + ((rowC encP lh0_1).length + 1)) 61 lh0_1 x16_1 x17_2 r15 r15_h) rfl (by rfl) (by decide) rfl (by kernel_rfl) ⟨⟨_, _, rfl, rfl, .inl ⟨rfl, rowC_scal encP_ok _⟩⟩, trivial⟩) rfl) ?_
      rintro _ _ _ ⟨rfl, rfl, rfl⟩
      refine XR.conv (σ' := [(9, s0 0 lh0_1.length), (10, ii x10_1), (11, s0 1 lh1_1.length), (12, .bool b12_1), (13, .bool b13_2), (14, ii x14_2), (15, ii x15_2), (16, ii x16_1), (17, ii x17_2), (18, ii o3), (77, .tuple #[ii r15.1, ii r15.2])]) (h' := [(1, rc (encI .i64) lh1_1 0 3 1), (0, rc encP lh0_1 0 61 2)]) (c' := 2) ?_ (by kernel_rfl)
      refine XR.runS E0_ok 1 5 [(9, s0 0 lh0_1.length), (10, ii x10_1), (11, s0 1 lh1_1.length), (12, .bool b12_1), (13, .bool b13_2), (14, ii x14_2), (15, ii x15_2), (16, ii x16_1), (17, ii x17_2), (18, ii o3), (21, ii r15.1), (22, ii r15.2)] rfl (by kernel_rfl) ?_
      refine XR.done (by kernel_rfl) ?_
      show XQ _ _ _ _ _ _ _ _
      refine XQ.seq E0_ok (by kernel_rfl) ?_
      refine XQ.seq E0_ok (by kernel_rfl) ?_
      refine XQ.region (by kernel_rfl) ?_
      refine XR.runS E0_ok 1 3 [(9, s0 0 lh0_1.length), (10, ii x10_1), (11, s0 1 lh1_1.length), (12, .bool b12_1), (13, .bool b13_2), (14, ii x14_2), (15, ii x15_2), (16, ii x16_1), (17, ii x17_2), (18, ii o3), (21, ii r15.1), (82, .bool (r15.2 != 0))] rfl (by kernel_rfl) ?_
      cases b3 : (r15.2 != 0 : Bool) with
      | true =>
        have h := cT b3 h
        refine XR.runS E0_ok 1 4 [(9, s0 0 lh0_1.length), (10, ii x10_1), (11, s0 1 lh1_1.length), (12, .bool b12_1), (13, .bool b13_2), (14, ii x14_2), (15, ii x15_2), (16, ii x16_1), (17, ii x17_2), (18, ii o3), (86, .bool true)] rfl (by kernel_rfl) ?_
        refine XR.done (by kernel_rfl) ?_
        show XQ _ _ _ _ _ _ _ _
        refine XQ.cond (s := (.tmp 86)) (b := true) (by kernel_rfl) (by kernel_rfl) (fun _ => ?_) (fun q => by cases q)
        refine XQ.seq E0_ok (by kernel_rfl) ?_
        refine XQ.region (by kernel_rfl) ?_
        refine XR.runS E0_ok 1 1 [(8, .bool false)] rfl (by kernel_rfl) ?_
        refine XR.done (by kernel_rfl) ?_
        show XQ _ _ _ _ _ _ _ _
        refine XQ.ren (σ' := [(8, .bool false)]) (h' := []) (c' := 0) [] (by decide) rfl ⟨by kernel_rfl, trivial⟩ trivial rfl ?_
        refine XQ.ret (by kernel_rfl) ?_
        cases h
        exact hQ
      | false =>
        have h := cF b3 h
        refine XR.runS E0_ok 1 4 [(9, s0 0 lh0_1.length), (10, ii x10_1), (11, s0 1 lh1_1.length), (12, .bool b12_1), (13, .bool b13_2), (14, ii x14_2), (15, ii x15_2), (16, ii x16_1), (17, ii x17_2), (18, ii o3), (86, .bool (r15.1 != o3))] rfl (by kernel_rfl) ?_
        refine XR.done (by kernel_rfl) ?_
        show XQ _ _ _ _ _ _ _ _
        cases b4 : (r15.1 != o3 : Bool) with
        | true =>
          have h := cT b4 h
          refine XQ.cond (s := (.tmp 86)) (b := true) (by kernel_rfl) (by kernel_rfl) (fun _ => ?_) (fun q => by cases q)
          refine XQ.seq E0_ok (by kernel_rfl) ?_
          refine XQ.region (by kernel_rfl) ?_
          refine XR.runS E0_ok 1 1 [(8, .bool false)] rfl (by kernel_rfl) ?_
          refine XR.done (by kernel_rfl) ?_
          show XQ _ _ _ _ _ _ _ _
          refine XQ.ren (σ' := [(8, .bool false)]) (h' := []) (c' := 0) [] (by decide) rfl ⟨by kernel_rfl, trivial⟩ trivial rfl ?_
          refine XQ.ret (by kernel_rfl) ?_
          cases h
          exact hQ
        | false =>
          have h := cF b4 h
          refine XQ.cond (s := (.tmp 86)) (b := false) (by kernel_rfl) (by kernel_rfl) (fun q => by cases q) (fun _ => ?_)
          refine XQ.skip (by kernel_rfl) ?_
          show XQ _ _ _ _ _ _ _ _
          refine XQ.seq E0_ok (by kernel_rfl) ?_
          refine XQ.region (by kernel_rfl) ?_
          refine XR.runS E0_ok 1 9 [(9, s0 0 lh0_1.length), (10, ii x10_1), (11, s0 1 lh1_1.length), (12, .bool b12_1), (13, .bool b13_2), (14, ii x14_2), (15, ii x15_2), (16, ii x16_1), (17, ii x17_2), (95, .bool (decide (o3 > (w64 (x10_1 * (w64 ((w64 (x17_2 - x16_1)) + 1)))))))] rfl (by kernel_rfl) ?_
          cases b5 : (decide (o3 > (w64 (x10_1 * (w64 ((w64 (x17_2 - x16_1)) + 1))))) : Bool) with
          | true =>
            have h := cT b5 h
            refine XR.runS E0_ok 1 3 [(9, s0 0 lh0_1.length), (10, ii x10_1), (11, s0 1 lh1_1.length), (12, .bool b12_1), (13, .bool b13_2), (14, ii x14_2), (15, ii x15_2), (16, ii x16_1), (17, ii x17_2), (98, .bool (!b13_2))] rfl (by kernel_rfl) ?_
            refine XR.done (by kernel_rfl) ?_
            show XQ _ _ _ _ _ _ _ _
            refine XQ.meetC (σ' := [(9, s0 0 lh0_1.length), (10, ii x10_1), (11, s0 1 lh1_1.length), (12, .bool b12_1), (13, .bool (cond (!b13_2) true b13_2)), (14, ii (cond (!b13_2) x16_1 x14_2)), (15, ii (cond (!b13_2) x17_2 x15_2)), (16, ii x16_1), (17, ii x17_2)]) (h' := [(1, rc (encI .i64) lh1_1 0 3 1), (0, rc encP lh0_1 0 61 2)]) (c' := 2) ?_ ?_
            rotate_left
            · refine XQ.cond (s := (.tmp 98)) (b := !b13_2) (by kernel_rfl) (by kernel_rfl) (fun b6 => ?_) (fun b6 => ?_)
              · refine XQ.seq E0_ok (by kernel_rfl) ?_
                refine XQ.region (by kernel_rfl) ?_
                refine XR.runS E0_ok 1 1 [(9, s0 0 lh0_1.length), (10, ii x10_1), (11, s0 1 lh1_1.length), (12, .bool b12_1), (13, .bool true), (16, ii x16_1), (17, ii x17_2)] rfl (by kernel_rfl) ?_
                refine XR.done (by kernel_rfl) ?_
                show XQ _ _ _ _ _ _ _ _
                refine XQ.region (by kernel_rfl) ?_
                refine XR.runS E0_ok 1 4 [(9, s0 0 lh0_1.length), (10, ii x10_1), (11, s0 1 lh1_1.length), (12, .bool b12_1), (13, .bool true), (14, ii x16_1), (15, ii x17_2), (16, ii x16_1), (17, ii x17_2)] rfl (by kernel_rfl) ?_
                refine XR.done (by kernel_rfl) ?_
                refine ⟨rfl, ?_, ?_⟩
                · try rw [b6]
                  exact ⟨by kernel_rfl, by kernel_rfl, by kernel_rfl, by kernel_rfl, by kernel_rfl, by kernel_rfl, by kernel_rfl, by kernel_rfl, by kernel_rfl, trivial⟩
                · try rw [b6]
                  kernel_rfl
              · refine XQ.skip (by kernel_rfl) ?_
                refine ⟨rfl, ?_, ?_⟩
                · try rw [b6]
                  exact ⟨by kernel_rfl, by kernel_rfl, by kernel_rfl, by kernel_rfl, by kernel_rfl, by kernel_rfl, by kernel_rfl, by kernel_rfl, by kernel_rfl, trivial⟩
                · try rw [b6]
                  kernel_rfl
            show XQ _ _ _ _ _ _ _ _
            refine XQ.region (by kernel_rfl) ?_
            refine XR.runS E0_ok 1 3 [(9, s0 0 lh0_1.length), (10, ii x10_1), (11, s0 1 lh1_1.length), (12, .bool b12_1), (13, .bool (cond (!b13_2) true b13_2)), (14, ii (cond (!b13_2) x16_1 x14_2)), (15, ii (cond (!b13_2) x17_2 x15_2)), (16, ii x16_1), (17, ii (w64 (x17_2 + 1)))] rfl (by kernel_rfl) ?_
            refine XR.done (by kernel_rfl) ?_
            show XL _ _ _ _ _ _ _ _ _
            refine XL.ren (σ' := [(9, s0 0 lh0_1.length), (10, ii x10_1), (11, s0 1 lh1_1.length), (12, .bool b12_1), (13, .bool (cond (!b13_2) true b13_2)), (14, ii (cond (!b13_2) x16_1 x14_2)), (15, ii (cond (!b13_2) x17_2 x15_2)), (16, ii x16_1), (17, ii (w64 (x17_2 + 1)))]) (h' := [(1, rc (encI .i64) lh1_1 0 3 1), (0, rc encP lh0_1 0 61 2)]) (c' := 2) [0, 1] (by decide) rfl ⟨by kernel_rfl, by kernel_rfl, by kernel_rfl, by kernel_rfl, by kernel_rfl, by kernel_rfl, by kernel_rfl, by kernel_rfl, by kernel_rfl, trivial⟩ ⟨⟨_, _, rfl, rfl, .inl ⟨rfl, rowC_scal (encI_ok .i64) _⟩⟩, ⟨_, _, rfl, rfl, .inl ⟨rfl, rowC_scal encP_ok _⟩⟩, trivial⟩ rfl ?_
            refine XL.conv (f7_2_ok m fuel x10_1 b12_1 x16_1 lh0_1 lh1_1 (cond (!b13_2) true b13_2) (cond (!b13_2) x16_1 x14_2) (cond (!b13_2) x17_2 x15_2) (w64 (x17_2 + 1)) o h Q hQ) (by first | rfl | simp)
          | false =>
            have h := cF b5 h
            refine XR.runS E0_ok 1 3 [(9, s0 0 lh0_1.length), (10, ii x10_1), (11, s0 1 lh1_1.length), (12, .bool b12_1), (13, .bool b13_2), (14, ii x14_2), (15, ii x15_2), (16, ii x16_1), (17, ii x17_2), (98, .bool false)] rfl (by kernel_rfl) ?_
            refine XR.done (by kernel_rfl) ?_
            show XQ _ _ _ _ _ _ _ _
            refine XQ.cond (s := (.tmp 98)) (b := false) (by kernel_rfl) (by kernel_rfl) (fun q => by cases q) (fun _ => ?_)
            refine XQ.skip (by kernel_rfl) ?_
            show XQ _ _ _ _ _ _ _ _
            refine XQ.region (by kernel_rfl) ?_
            refine XR.runS E0_ok 1 3 [(9, s0 0 lh0_1.length), (10, ii x10_1), (11, s0 1 lh1_1.length), (12, .bool b12_1), (13, .bool b13_2), (14, ii x14_2), (15, ii x15_2), (16, ii x16_1), (17, ii (w64 (x17_2 + 1)))] rfl (by kernel_rfl) ?_
            refine XR.done (by kernel_rfl) ?_
            show XL _ _ _ _ _ _ _ _ _
            refine XL.ren (σ' := [(9, s0 0 lh0_1.length), (10, ii x10_1), (11, s0 1 lh1_1.length), (12, .bool b12_1), (13, .bool b13_2), (14, ii x14_2), (15, ii x15_2), (16, ii x16_1), (17, ii (w64 (x17_2 + 1)))]) (h' := [(1, rc (encI .i64) lh1_1 0 3 1), (0, rc encP lh0_1 0 61 2)]) (c' := 2) [0, 1] (by decide) rfl ⟨by kernel_rfl, by kernel_rfl, by kernel_rfl, by kernel_rfl, by kernel_rfl, by kernel_rfl, by kernel_rfl, by kernel_rfl, by kernel_rfl, trivial⟩ ⟨⟨_, _, rfl, rfl, .inl ⟨rfl, rowC_scal (encI_ok .i64) _⟩⟩, ⟨_, _, rfl, rfl, .inl ⟨rfl, rowC_scal encP_ok _⟩⟩, trivial⟩ rfl ?_
            refine XL.conv (f7_2_ok m fuel x10_1 b12_1 x16_1 lh0_1 lh1_1 b13_2 x14_2 x15_2 (w64 (x17_2 + 1)) o h Q hQ) (by first | rfl | simp)
    | false =>
      have h := cF b1 h
      refine XQ.cond (s := (.tmp 51)) (b := false) (by kernel_rfl) (by kernel_rfl) (fun q => by cases q) (fun _ => ?_)
      refine XQ.ren (σ' := [(9, s0 0 lh0_1.length), (10, ii x10_1), (11, s0 1 lh1_1.length), (12, .bool b12_1), (13, .bool b13_2), (14, ii x14_2), (15, ii x15_2), (16, ii x16_1)]) (h' := [(1, rc (encI .i64) lh1_1 0 3 1), (0, rc encP lh0_1 0 61 2)]) (c' := 2) [0, 1] (by decide) rfl ⟨by kernel_rfl, by kernel_rfl, by kernel_rfl, by kernel_rfl, by kernel_rfl, by kernel_rfl, by kernel_rfl, by kernel_rfl, trivial⟩ ⟨⟨_, _, rfl, rfl, .inl ⟨rfl, rowC_scal (encI_ok .i64) _⟩⟩, ⟨_, _, rfl, rfl, .inl ⟨rfl, rowC_scal encP_ok _⟩⟩, trivial⟩ rfl ?_
      refine XQ.exit (i := 2) (by kernel_rfl) ?_
      cases h
      exact hQ

inductive Of7_1 where
  | r
  | x0 (x10_x01 : Int) (b12_x01 : Bool) (b13_x01 : Bool) (x14_x01 : Int) (x15_x01 : Int) (lh0_x01 : List (Int × Int)) (lh1_x01 : List Int)

def f7_1 (m : Nat) : Nat → Int → Bool → Bool → Int → Int → Int → List (Int × Int) → List Int → Option Of7_1
  | 0, _, _, _, _, _, _, _, _ => none
  | fuel + 1, x10_1, b12_1, b13_1, x14_1, x15_1, x16_1, lh0_1, lh1_1 =>
    cond (decide (x16_1 ≤ 23)) (
      (f7_2 m m x10_1 b12_1 x16_1 lh0_1 lh1_1 b13_1 x14_1 x15_1 x16_1).bind fun o2 =>
        match o2 with
        | .r =>
          some (.r)
        | .x2 b13_x22 x14_x22 x15_x22 =>
          f7_1 m fuel x10_1 b12_1 b13_x22 x14_x22 x15_x22 (w64 (x16_1 + 1)) lh0_1 lh1_1
    ) (
      some (.x0 x10_1 b12_1 b13_1 x14_1 x15_1 lh0_1 lh1_1)
    )

theorem f7_1_ok (m : Nat) : ∀ (fuel : Nat) (x10_1 : Int) (b12_1 : Bool) (b13_1 : Bool) (x14_1 : Int) (x15_1 : Int) (x16_1 : Int) (lh0_1 : List (Int × Int)) (lh1_1 : List Int) (o : Of7_1), f7_1 m fuel x10_1 b12_1 b13_1 x14_1 x15_1 x16_1 lh0_1 lh1_1 = some o → ∀ Q : QP, (match o with | .r => Q .ret [(8, .bool false)] [] 0 | .x0 x10_x01 b12_x01 b13_x01 x14_x01 x15_x01 lh0_x01 lh1_x01 => Q (.exit 0) [(9, s0 0 lh0_x01.length), (10, ii x10_x01), (11, s0 1 lh1_x01.length), (12, .bool b12_x01), (13, .bool b13_x01), (14, ii x14_x01), (15, ii x15_x01)] [(1, rc (encI .i64) lh1_x01 0 3 1), (0, rc encP lh0_x01 0 61 2)] 2) → XL E0 172 0 fuel f7_L1 [(9, s0 0 lh0_1.length), (10, ii x10_1), (11, s0 1 lh1_1.length), (12, .bool b12_1), (13, .bool b13_1), (14, ii x14_1), (15, ii x15_1), (16, ii x16_1)] [(1, rc (encI .i64) lh1_1 0 3 1), (0, rc encP lh0_1 0 61 2)] 2 Q
  | 0, x10_1, b12_1, b13_1, x14_1, x15_1, x16_1, lh0_1, lh1_1, o, h, Q, hQ => by cases h
  | fuel + 1, x10_1, b12_1, b13_1, x14_1, x15_1, x16_1, lh0_1, lh1_1, o, h, Q, hQ => by
    unfold f7_1 at h
    refine XL.succ E0_ok ?_
    refine XQ.seq E0_ok (by kernel_rfl) ?_
    refine XQ.seq E0_ok (by kernel_rfl) ?_
    refine XQ.region (by kernel_rfl) ?_
    refine XR.runS E0_ok 1 2 [(9, s0 0 lh0_1.length), (10, ii x10_1), (11, s0 1 lh1_1.length), (12, .bool b12_1), (13, .bool b13_1), (14, ii x14_1), (15, ii x15_1), (16, ii x16_1), (46, .bool (decide (x16_1 ≤ 23)))] rfl (by kernel_rfl) ?_
    refine XR.done (by kernel_rfl) ?_
    show XQ _ _ _ _ _ _ _ _
    cases b1 : (decide (x16_1 ≤ 23) : Bool) with
    | true =>
      have h := cT b1 h
      refine XQ.cond (s := (.tmp 46)) (b := true) (by kernel_rfl) (by kernel_rfl) (fun _ => ?_) (fun q => by cases q)
      refine XQ.skip (by kernel_rfl) ?_
      show XQ _ _ _ _ _ _ _ _
      refine XQ.seq E0_ok (by kernel_rfl) ?_
      refine XQ.block (id := 1) (by kernel_rfl) ?_
      refine XQ.seq E0_ok (by kernel_rfl) ?_
      refine XQ.region (by kernel_rfl) ?_
      refine XR.runS E0_ok 1 2 [(9, s0 0 lh0_1.length), (10, ii x10_1), (11, s0 1 lh1_1.length), (12, .bool b12_1), (13, .bool b13_1), (14, ii x14_1), (15, ii x15_1), (16, ii x16_1), (17, ii x16_1)] rfl (by kernel_rfl) ?_
      refine XR.done (by kernel_rfl) ?_
      show XQ _ _ _ _ _ _ _ _
      refine XQ.block (id := 2) (by kernel_rfl) ?_
      refine XQ.loop m (by kernel_rfl) ?_
      obtain ⟨o2, o2_h, h⟩ := bS h
      refine XL.ren (σ' := [(9, s0 0 lh0_1.length), (10, ii x10_1), (11, s0 1 lh1_1.length), (12, .bool b12_1), (13, .bool b13_1), (14, ii x14_1), (15, ii x15_1), (16, ii x16_1), (17, ii x16_1)]) (h' := [(1, rc (encI .i64) lh1_1 0 3 1), (0, rc encP lh0_1 0 61 2)]) (c' := 2) [0, 1] (by decide) rfl ⟨by kernel_rfl, by kernel_rfl, by kernel_rfl, by kernel_rfl, by kernel_rfl, by kernel_rfl, by kernel_rfl, by kernel_rfl, by kernel_rfl, trivial⟩ ⟨⟨_, _, rfl, rfl, .inl ⟨rfl, rowC_scal (encI_ok .i64) _⟩⟩, ⟨_, _, rfl, rfl, .inl ⟨rfl, rowC_scal encP_ok _⟩⟩, trivial⟩ rfl ?_
      cases o2 with
      | r =>
        dsimp only at h
        refine XL.conv (f7_2_ok m m x10_1 b12_1 x16_1 lh0_1 lh1_1 b13_1 x14_1 x15_1 x16_1 (.r) o2_h _ ?_) (by first | rfl | simp)
        cases h
        exact hQ
      | x2 b13_x22 x14_x22 x15_x22 =>
        dsimp only at h
        refine XL.conv (f7_2_ok m m x10_1 b12_1 x16_1 lh0_1 lh1_1 b13_1 x14_1 x15_1 x16_1 (.x2 b13_x22 x14_x22 x15_x22) o2_h _ ?_) (by first | rfl | simp)
        show XQ _ _ _ _ _ _ _ _
        refine XQ.region (by kernel_rfl) ?_
        refine XR.runS E0_ok 1 3 [(9, s0 0 lh0_1.length), (10, ii x10_1), (11, s0 1 lh1_1.length), (12, .bool b12_1), (13, .bool b13_x22), (14, ii x14_x22), (15, ii x15_x22), (16, ii (w64 (x16_1 + 1)))] rfl (by kernel_rfl) ?_
        refine XR.done (by kernel_rfl) ?_
        show XL _ _ _ _ _ _ _ _ _
        refine XL.ren (σ' := [(9, s0 0 lh0_1.length), (10, ii x10_1), (11, s0 1 lh1_1.length), (12, .bool b12_1), (13, .bool b13_x22), (14, ii x14_x22), (15, ii x15_x22), (16, ii (w64 (x16_1 + 1)))]) (h' := [(1, rc (encI .i64) lh1_1 0 3 1), (0, rc encP lh0_1 0 61 2)]) (c' := 2) [0, 1] (by decide) rfl ⟨by kernel_rfl, by kernel_rfl, by kernel_rfl, by kernel_rfl, by kernel_rfl, by kernel_rfl, by kernel_rfl, by kernel_rfl, trivial⟩ ⟨⟨_, _, rfl, rfl, .inl ⟨rfl, rowC_scal (encI_ok .i64) _⟩⟩, ⟨_, _, rfl, rfl, .inl ⟨rfl, rowC_scal encP_ok _⟩⟩, trivial⟩ rfl ?_
        refine XL.conv (f7_1_ok m fuel x10_1 b12_1 b13_x22 x14_x22 x15_x22 (w64 (x16_1 + 1)) lh0_1 lh1_1 o h Q hQ) (by first | rfl | simp)
    | false =>
      have h := cF b1 h
      refine XQ.cond (s := (.tmp 46)) (b := false) (by kernel_rfl) (by kernel_rfl) (fun q => by cases q) (fun _ => ?_)
      refine XQ.ren (σ' := [(9, s0 0 lh0_1.length), (10, ii x10_1), (11, s0 1 lh1_1.length), (12, .bool b12_1), (13, .bool b13_1), (14, ii x14_1), (15, ii x15_1)]) (h' := [(1, rc (encI .i64) lh1_1 0 3 1), (0, rc encP lh0_1 0 61 2)]) (c' := 2) [0, 1] (by decide) rfl ⟨by kernel_rfl, by kernel_rfl, by kernel_rfl, by kernel_rfl, by kernel_rfl, by kernel_rfl, by kernel_rfl, trivial⟩ ⟨⟨_, _, rfl, rfl, .inl ⟨rfl, rowC_scal (encI_ok .i64) _⟩⟩, ⟨_, _, rfl, rfl, .inl ⟨rfl, rowC_scal encP_ok _⟩⟩, trivial⟩ rfl ?_
      refine XQ.exit (i := 0) (by kernel_rfl) ?_
      cases h
      exact hQ

def f7 (m : Nat) (a_0_0 : Int) (a_0_1 : Int) (a_1_0 : Int) (a_1_1 : Int) (a_2_0 : Int) (a_2_1 : Int) (a_3_0 : Int) (a_3_1 : Int) (a_4_0 : Int) (a_4_1 : Int) (a_5_0 : Int) (a_5_1 : Int) (a_6_0 : Int) (a_6_1 : Int) (a_7_0 : Int) (a_7_1 : Int) (b : Int) (c : Int) (d : Int) : Option (Bool) :=
  (f41 m a_0_0 a_0_1 a_1_0 a_1_1 a_2_0 a_2_1 a_3_0 a_3_1 a_4_0 a_4_1 a_5_0 a_5_1 a_6_0 a_6_1 a_7_0 a_7_1 (w64 b) 8 8 (Int.tmod (w64 d) 17)).bind fun r1 =>
    (f42 m r1 (w64 (1 + (Int.tmod (w64 c) 4)))).bind fun r2 =>
      (f7_1 m m (w64 (1 + (Int.tmod (w64 c) 4))) r2.2 false 0 0 0 r1 r2.1).bind fun o1 =>
        match o1 with
        | .r =>
          some (false)
        | .x0 x10_x01 b12_x01 b13_x01 x14_x01 x15_x01 lh0_x01 lh1_x01 =>
          (f18 m lh0_x01 x10_x01).bind fun r16 =>
            (f27 m lh0_x01 x10_x01).bind fun r17 =>
              cond (b13_x01 == b12_x01) (
                some (false)
              ) (
                cond (!b12_x01) (
                  cond (r16.2 == 12) (
                    cond (((r16.1.length : Nat) : Int) == 0) (
                      cond (r17.2.2 == 0) (
                        cond (r17.1 == x14_x01) (
                          cond (r17.2.1 == x15_x01) (
                            some (true)
                          ) (
                            some (false)
                          )
                        ) (
                          some (false)
                        )
                      ) (
                        some (false)
                      )
                    ) (
                      some (false)
                    )
                  ) (
                    some (false)
                  )
                ) (
                  cond (r16.2 == 0) (
                    (f20 m r16.1 lh1_x01).bind fun r18 =>
                      cond (r18) (
                        (f21 m lh0_x01 x10_x01 r16.1).bind fun r19 =>
                          cond (r19 == 0) (
                            cond (r17.2.2 == 13) (
                              cond (r17.1 == 0) (
                                cond (r17.2.1 == 0) (
                                  some (true)
                                ) (
                                  some (false)
                                )
                              ) (
                                some (false)
                              )
                            ) (
                              some (false)
                            )
                          ) (
                            some (false)
                          )
                      ) (
                        some (false)
                      )
                  ) (
                    some (false)
                  )
                )
              )

theorem f7_ok (m : Nat) (a_0_0 : Int) (a_0_1 : Int) (a_1_0 : Int) (a_1_1 : Int) (a_2_0 : Int) (a_2_1 : Int) (a_3_0 : Int) (a_3_1 : Int) (a_4_0 : Int) (a_4_1 : Int) (a_5_0 : Int) (a_5_1 : Int) (a_6_0 : Int) (a_6_1 : Int) (a_7_0 : Int) (a_7_1 : Int) (b : Int) (c : Int) (d : Int) (o : Bool) (h : f7 m a_0_0 a_0_1 a_1_0 a_1_1 a_2_0 a_2_1 a_3_0 a_3_1 a_4_0 a_4_1 a_5_0 a_5_1 a_6_0 a_6_1 a_7_0 a_7_1 b c d = some o) (w : World) (hI : anyInv w) : Calls Proofs.Try.prog 7 #[.agg #[.int .u8 a_0_0, .int .u8 a_0_1, .int .u8 a_1_0, .int .u8 a_1_1, .int .u8 a_2_0, .int .u8 a_2_1, .int .u8 a_3_0, .int .u8 a_3_1, .int .u8 a_4_0, .int .u8 a_4_1, .int .u8 a_5_0, .int .u8 a_5_1, .int .u8 a_6_0, .int .u8 a_6_1, .int .u8 a_7_0, .int .u8 a_7_1], .int .u8 b, .int .u8 c, .int .u8 d] w fun e w' => e = .returned (.bool o) ∧ Below w.heap.size w w' := by
  refine KC.calls (E := E0) (args := [.agg #[.int .u8 a_0_0, .int .u8 a_0_1, .int .u8 a_1_0, .int .u8 a_1_1, .int .u8 a_2_0, .int .u8 a_2_1, .int .u8 a_3_0, .int .u8 a_3_1, .int .u8 a_4_0, .int .u8 a_4_1, .int .u8 a_5_0, .int .u8 a_5_1, .int .u8 a_6_0, .int .u8 a_6_1, .int .u8 a_7_0, .int .u8 a_7_1], .int .u8 b, .int .u8 c, .int .u8 d]) (v := .bool o) rfl rfl (KC.bodyN E0_ok (F := Proofs.Try.f7) (by kernel_rfl) (code := f7_C7) (by kernel_rfl) (nt := 172) (by kernel_rfl) (rs := [.tmp 8]) (by kernel_rfl) (by kernel_rfl) (σ := [(0, .agg #[.int .u8 a_0_0, .int .u8 a_0_1, .int .u8 a_1_0, .int .u8 a_1_1, .int .u8 a_2_0, .int .u8 a_2_1, .int .u8 a_3_0, .int .u8 a_3_1, .int .u8 a_4_0, .int .u8 a_4_1, .int .u8 a_5_0, .int .u8 a_5_1, .int .u8 a_6_0, .int .u8 a_6_1, .int .u8 a_7_0, .int .u8 a_7_1]), (1, .int .u8 b), (2, .int .u8 c), (3, .int .u8 d)]) (by kernel_rfl) ?_) w (anyInv_size hI) hI
  unfold f7 at h
  refine XQ.seq E0_ok (by kernel_rfl) ?_
  refine XQ.region (by kernel_rfl) ?_
  refine XR.runT E0_ok 1 2 [(1, .int .u8 b), (2, .int .u8 c), (3, .int .u8 d), (4, pp 0 0)] [(0, .cells [.int .u8 a_0_0, .int .u8 a_0_1, .int .u8 a_1_0, .int .u8 a_1_1, .int .u8 a_2_0, .int .u8 a_2_1, .int .u8 a_3_0, .int .u8 a_3_1, .int .u8 a_4_0, .int .u8 a_4_1, .int .u8 a_5_0, .int .u8 a_5_1, .int .u8 a_6_0, .int .u8 a_6_1, .int .u8 a_7_0, .int .u8 a_7_1] 0 56 0)] 1 rfl (by kernel_rfl) ?_
  refine XR.done (by kernel_rfl) ?_
  show XQ _ _ _ _ _ _ _ _
  refine XQ.seq E0_ok (by kernel_rfl) ?_
  refine XQ.region (by kernel_rfl) ?_
  refine XR.runS E0_ok 1 6 [(2, .int .u8 c), (28, .agg #[.int .u8 a_0_0, .int .u8 a_0_1, .int .u8 a_1_0, .int .u8 a_1_1, .int .u8 a_2_0, .int .u8 a_2_1, .int .u8 a_3_0, .int .u8 a_3_1, .int .u8 a_4_0, .int .u8 a_4_1, .int .u8 a_5_0, .int .u8 a_5_1, .int .u8 a_6_0, .int .u8 a_6_1, .int .u8 a_7_0, .int .u8 a_7_1]), (30, ii (w64 b)), (33, ii (Int.tmod (w64 d) 17))] rfl (by kernel_rfl) ?_
  obtain ⟨r1, r1_h, h⟩ := bS h
  refine XR.call E0_ok [2, 34] rfl (K := 41) (args := [.agg #[.int .u8 a_0_0, .int .u8 a_0_1, .int .u8 a_1_0, .int .u8 a_1_1, .int .u8 a_2_0, .int .u8 a_2_1, .int .u8 a_3_0, .int .u8 a_3_1, .int .u8 a_4_0, .int .u8 a_4_1, .int .u8 a_5_0, .int .u8 a_5_1, .int .u8 a_6_0, .int .u8 a_6_1, .int .u8 a_7_0, .int .u8 a_7_1], ii (w64 b), ii 8, ii 8, ii (Int.tmod (w64 d) 17)]) (d := (some (path 12 34))) (by kernel_rfl) (KC.lift (V2 := s0 1 r1.length) (H2 := [(1, rc encP r1 0 61 2)]) [1, 0] (f41_ok m a_0_0 a_0_1 a_1_0 a_1_1 a_2_0 a_2_1 a_3_0 a_3_1 a_4_0 a_4_1 a_5_0 a_5_1 a_6_0 a_6_1 a_7_0 a_7_1 (w64 b) 8 8 (Int.tmod (w64 d) 17) r1 r1_h) rfl (by decide) (by decide) (by kernel_rfl) ⟨⟨_, _, rfl, rfl, .inl ⟨rfl, rowC_scal encP_ok _⟩⟩, trivial⟩ (by rfl)) ?_
  rintro _ _ _ ⟨rfl, rfl, rfl⟩
  refine XR.conv (σ' := [(2, .int .u8 c), (34, s0 1 r1.length)]) (h' := [(1, rc encP r1 0 61 2), (0, .cells [.int .u8 a_0_0, .int .u8 a_0_1, .int .u8 a_1_0, .int .u8 a_1_1, .int .u8 a_2_0, .int .u8 a_2_1, .int .u8 a_3_0, .int .u8 a_3_1, .int .u8 a_4_0, .int .u8 a_4_1, .int .u8 a_5_0, .int .u8 a_5_1, .int .u8 a_6_0, .int .u8 a_6_1, .int .u8 a_7_0, .int .u8 a_7_1] 0 56 0)]) (c' := 2) ?_ (by kernel_rfl)
  refine XR.runS E0_ok 1 1 [(2, .int .u8 c), (9, s0 1 r1.length)] rfl (by kernel_rfl) ?_
  refine XR.done (by kernel_rfl) ?_
  show XQ _ _ _ _ _ _ _ _
  refine XQ.seq E0_ok (by kernel_rfl) ?_
  refine XQ.region (by kernel_rfl) ?_
  refine XR.runS E0_ok 1 5 [(9, s0 1 r1.length), (10, ii (w64 (1 + (Int.tmod (w64 c) 4))))] rfl (by kernel_rfl) ?_
  refine XR.done (by kernel_rfl) ?_
  show XQ _ _ _ _ _ _ _ _
  refine XQ.seq E0_ok (by kernel_rfl) ?_
  refine XQ.region (by kernel_rfl) ?_
  refine XR.runS E0_ok 1 2 [(9, s0 1 r1.length), (10, ii (w64 (1 + (Int.tmod (w64 c) 4)))), (40, s0 1 r1.length), (41, ii (w64 (1 + (Int.tmod (w64 c) 4))))] rfl (by kernel_rfl) ?_
  obtain ⟨r2, r2_h, h⟩ := bS h
  refine XR.call E0_ok [9, 10, 42] rfl (K := 42) (args := [s0 1 r1.length, ii (w64 (1 + (Int.tmod (w64 c) 4)))]) (d := (some (path 12 42))) (by kernel_rfl) (KC.liftH (n0 := 1) (m := 1) (args0 := [s0 0 r1.length, ii (w64 (1 + (Int.tmod (w64 c) 4)))]) (h0 := [(0, rc encP r1 (0 + ((rowC encP r1).length + 1)) 61 2)]) (V := .tuple #[s0 1 r2.1.length, .bool r2.2]) (V2 := .tuple #[s0 2 r2.1.length, .bool r2.2]) (H := [(1, rc (encI .i64) r2.1 0 3 1)]) (H2 := [(2, rc (encI .i64) r2.1 0 3 1)]) [1] [2, 3, 1] (f42_ok m (0 + ((rowC encP r1).length + 1)) 61 r1 (w64 (1 + (Int.tmod (w64 c) 4))) r2 r2_h) (by rfl) (by decide) rfl (by kernel_rfl) ⟨⟨_, _, rfl, rfl, .inl ⟨rfl, rowC_scal encP_ok _⟩⟩, trivial⟩ (by decide) (by decide) (by kernel_rfl) ⟨⟨_, _, rfl, rfl, .inl ⟨rfl, rowC_scal (encI_ok .i64) _⟩⟩, trivial⟩ (by rfl)) ?_
  rintro _ _ _ ⟨rfl, rfl, rfl⟩
  refine XR.conv (σ' := [(9, s0 1 r1.length), (10, ii (w64 (1 + (Int.tmod (w64 c) 4)))), (42, .tuple #[s0 2 r2.1.length, .bool r2.2])]) (h' := [(2, rc (encI .i64) r2.1 0 3 1), (1, rc encP r1 0 61 2), (0, .cells [.int .u8 a_0_0, .int .u8 a_0_1, .int .u8 a_1_0, .int .u8 a_1_1, .int .u8 a_2_0, .int .u8 a_2_1, .int .u8 a_3_0, .int .u8 a_3_1, .int .u8 a_4_0, .int .u8 a_4_1, .int .u8 a_5_0, .int .u8 a_5_1, .int .u8 a_6_0, .int .u8 a_6_1, .int .u8 a_7_0, .int .u8 a_7_1] 0 56 0)]) (c' := 3) ?_ (by kernel_rfl)
  refine XR.runS E0_ok 1 5 [(9, s0 1 r1.length), (10, ii (w64 (1 + (Int.tmod (w64 c) 4)))), (11, s0 2 r2.1.length), (12, .bool r2.2)] rfl (by kernel_rfl) ?_
  refine XR.done (by kernel_rfl) ?_
  show XQ _ _ _ _ _ _ _ _
  refine XQ.seq E0_ok (by kernel_rfl) ?_
  refine XQ.region (by kernel_rfl) ?_
  refine XR.runS E0_ok 1 1 [(9, s0 1 r1.length), (10, ii (w64 (1 + (Int.tmod (w64 c) 4)))), (11, s0 2 r2.1.length), (12, .bool r2.2), (13, .bool false)] rfl (by kernel_rfl) ?_
  refine XR.done (by kernel_rfl) ?_
  show XQ _ _ _ _ _ _ _ _
  refine XQ.seq E0_ok (by kernel_rfl) ?_
  refine XQ.region (by kernel_rfl) ?_
  refine XR.runS E0_ok 1 2 [(9, s0 1 r1.length), (10, ii (w64 (1 + (Int.tmod (w64 c) 4)))), (11, s0 2 r2.1.length), (12, .bool r2.2), (13, .bool false), (14, ii 0), (15, ii 0)] rfl (by kernel_rfl) ?_
  refine XR.done (by kernel_rfl) ?_
  show XQ _ _ _ _ _ _ _ _
  refine XQ.seq E0_ok (by kernel_rfl) ?_
  refine XQ.seq E0_ok (by kernel_rfl) ?_
  refine XQ.region (by kernel_rfl) ?_
  refine XR.runS E0_ok 1 1 [(9, s0 1 r1.length), (10, ii (w64 (1 + (Int.tmod (w64 c) 4)))), (11, s0 2 r2.1.length), (12, .bool r2.2), (13, .bool false), (14, ii 0), (15, ii 0), (16, ii 0)] rfl (by kernel_rfl) ?_
  refine XR.done (by kernel_rfl) ?_
  show XQ _ _ _ _ _ _ _ _
  refine XQ.block (id := 0) (by kernel_rfl) ?_
  refine XQ.loop m (by kernel_rfl) ?_
  obtain ⟨o1, o1_h, h⟩ := bS h
  refine XL.ren (σ' := [(9, s0 0 r1.length), (10, ii (w64 (1 + (Int.tmod (w64 c) 4)))), (11, s0 1 r2.1.length), (12, .bool r2.2), (13, .bool false), (14, ii 0), (15, ii 0), (16, ii 0)]) (h' := [(1, rc (encI .i64) r2.1 0 3 1), (0, rc encP r1 0 61 2)]) (c' := 2) [1, 2] (by decide) rfl ⟨by kernel_rfl, by kernel_rfl, by kernel_rfl, by kernel_rfl, by kernel_rfl, by kernel_rfl, by kernel_rfl, by kernel_rfl, trivial⟩ ⟨⟨_, _, rfl, rfl, .inl ⟨rfl, rowC_scal (encI_ok .i64) _⟩⟩, ⟨_, _, rfl, rfl, .inl ⟨rfl, rowC_scal encP_ok _⟩⟩, trivial⟩ rfl ?_
  cases o1 with
  | r =>
    dsimp only at h
    refine XL.conv (f7_1_ok m m (w64 (1 + (Int.tmod (w64 c) 4))) r2.2 false 0 0 0 r1 r2.1 (.r) o1_h _ ?_) (by first | rfl | simp)
    have h := Option.some.inj h
    subst h
    exact ⟨fun i q => (by cases q), .bool false, (by kernel_rfl), rfl⟩
  | x0 x10_x01 b12_x01 b13_x01 x14_x01 x15_x01 lh0_x01 lh1_x01 =>
    dsimp only at h
    refine XL.conv (f7_1_ok m m (w64 (1 + (Int.tmod (w64 c) 4))) r2.2 false 0 0 0 r1 r2.1 (.x0 x10_x01 b12_x01 b13_x01 x14_x01 x15_x01 lh0_x01 lh1_x01) o1_h _ ?_) (by first | rfl | simp)
    show XQ _ _ _ _ _ _ _ _
    refine XQ.seq E0_ok (by kernel_rfl) ?_
    refine XQ.region (by kernel_rfl) ?_
    refine XR.runS E0_ok 1 2 [(9, s0 0 lh0_x01.length), (10, ii x10_x01), (11, s0 1 lh1_x01.length), (12, .bool b12_x01), (13, .bool b13_x01), (14, ii x14_x01), (15, ii x15_x01), (102, s0 0 lh0_x01.length), (103, ii x10_x01)] rfl (by kernel_rfl) ?_
    obtain ⟨r16, r16_h, h⟩ := bS h
    refine XR.call E0_ok [9, 10, 11, 12, 13, 14, 15, 104] rfl (K := 18) (args := [s0 0 lh0_x01.length, ii x10_x01]) (d := (some (path 12 104))) (by kernel_rfl) (KC.liftH (n0 := 1) (m := 1) (args0 := [s0 0 lh0_x01.length, ii x10_x01]) (h0 := [(0, rc encP lh0_x01 (0 + ((rowC encP lh0_x01).length + 1)) 61 2)]) (V := .tuple #[s0 1 r16.1.length, ii r16.2]) (V2 := .tuple #[s0 2 r16.1.length, ii r16.2]) (H := [(1, rc (encI .i64) r16.1 0 3 1)]) (H2 := [(2, rc (encI .i64) r16.1 0 3 1)]) [0] [2, 3, 1] (f18_ok m (0 + ((rowC encP lh0_x01).length + 1)) 61 lh0_x01 x10_x01 r16 r16_h) (by rfl) (by decide) rfl (by kernel_rfl) ⟨⟨_, _, rfl, rfl, .inl ⟨rfl, rowC_scal encP_ok _⟩⟩, trivial⟩ (by decide) (by decide) (by kernel_rfl) ⟨⟨_, _, rfl, rfl, .inl ⟨rfl, rowC_scal (encI_ok .i64) _⟩⟩, trivial⟩ (by rfl)) ?_
    rintro _ _ _ ⟨rfl, rfl, rfl⟩
    refine XR.conv (σ' := [(9, s0 0 lh0_x01.length), (10, ii x10_x01), (11, s0 1 lh1_x01.length), (12, .bool b12_x01), (13, .bool b13_x01), (14, ii x14_x01), (15, ii x15_x01), (104, .tuple #[s0 2 r16.1.length, ii r16.2])]) (h' := [(2, rc (encI .i64) r16.1 0 3 1), (1, rc (encI .i64) lh1_x01 0 3 1), (0, rc encP lh0_x01 0 61 2)]) (c' := 3) ?_ (by kernel_rfl)
    refine XR.runS E0_ok 1 5 [(9, s0 0 lh0_x01.length), (10, ii x10_x01), (11, s0 1 lh1_x01.length), (12, .bool b12_x01), (13, .bool b13_x01), (14, ii x14_x01), (15, ii x15_x01), (23, s0 2 r16.1.length), (24, ii r16.2)] rfl (by kernel_rfl) ?_
    refine XR.done (by kernel_rfl) ?_
    show XQ _ _ _ _ _ _ _ _
    refine XQ.seq E0_ok (by kernel_rfl) ?_
    refine XQ.region (by kernel_rfl) ?_
    refine XR.runS E0_ok 1 2 [(9, s0 0 lh0_x01.length), (10, ii x10_x01), (11, s0 1 lh1_x01.length), (12, .bool b12_x01), (13, .bool b13_x01), (14, ii x14_x01), (15, ii x15_x01), (23, s0 2 r16.1.length), (24, ii r16.2), (108, s0 0 lh0_x01.length), (109, ii x10_x01)] rfl (by kernel_rfl) ?_
    obtain ⟨r17, r17_h, h⟩ := bS h
    refine XR.call E0_ok [9, 10, 11, 12, 13, 14, 15, 23, 24, 110] rfl (K := 27) (args := [s0 0 lh0_x01.length, ii x10_x01]) (d := (some (path 12 110))) (by kernel_rfl) (KQ.call (KC.quiet E0_ok (args0 := [s0 0 lh0_x01.length, ii x10_x01]) (h0 := [(0, rc encP lh0_x01 (0 + ((rowC encP lh0_x01).length + 1)) 61 2)]) (n := 1) (V := .tuple #[ii r17.1, ii r17.2.1, ii r17.2.2]) [0] (f27_ok m (0 + ((rowC encP lh0_x01).length + 1)) 61 lh0_x01 x10_x01 r17 r17_h) rfl (by rfl) (by decide) rfl (by kernel_rfl) ⟨⟨_, _, rfl, rfl, .inl ⟨rfl, rowC_scal encP_ok _⟩⟩, trivial⟩) rfl) ?_
    rintro _ _ _ ⟨rfl, rfl, rfl⟩
    refine XR.conv (σ' := [(9, s0 0 lh0_x01.length), (10, ii x10_x01), (11, s0 1 lh1_x01.length), (12, .bool b12_x01), (13, .bool b13_x01), (14, ii x14_x01), (15, ii x15_x01), (23, s0 2 r16.1.length), (24, ii r16.2), (110, .tuple #[ii r17.1, ii r17.2.1, ii r17.2.2])]) (h' := [(2, rc (encI .i64) r16.1 0 3 1), (1, rc (encI .i64) lh1_x01 0 3 1), (0, rc encP lh0_x01 0 61 2)]) (c' := 3) ?_ (by kernel_rfl)
    refine XR.runS E0_ok 1 7 [(9, s0 0 lh0_x01.length), (10, ii x10_x01), (11, s0 1 lh1_x01.length), (12, .bool b12_x01), (13, .bool b13_x01), (14, ii x14_x01), (15, ii x15_x01), (23, s0 2 r16.1.length), (24, ii r16.2), (25, ii r17.1), (26, ii r17.2.1), (27, ii r17.2.2)] rfl (by kernel_rfl) ?_
    refine XR.done (by kernel_rfl) ?_
    show XQ _ _ _ _ _ _ _ _
    refine XQ.seq E0_ok (by kernel_rfl) ?_
    refine XQ.seq E0_ok (by kernel_rfl) ?_
    refine XQ.region (by kernel_rfl) ?_
    refine XR.runS E0_ok 1 3 [(9, s0 0 lh0_x01.length), (10, ii x10_x01), (11, s0 1 lh1_x01.length), (12, .bool b12_x01), (14, ii x14_x01), (15, ii x15_x01), (23, s0 2 r16.1.length), (24, ii r16.2), (25, ii r17.1), (26, ii r17.2.1), (27, ii r17.2.2), (116, .bool (b13_x01 == b12_x01))] rfl (by kernel_rfl) ?_
    refine XR.done (by kernel_rfl) ?_
    show XQ _ _ _ _ _ _ _ _
    cases b2 : (b13_x01 == b12_x01 : Bool) with
    | true =>
      have h := cT b2 h
      refine XQ.cond (s := (.tmp 116)) (b := true) (by kernel_rfl) (by kernel_rfl) (fun _ => ?_) (fun q => by cases q)
      refine XQ.seq E0_ok (by kernel_rfl) ?_
      refine XQ.region (by kernel_rfl) ?_
      refine XR.runS E0_ok 1 1 [(8, .bool false)] rfl (by kernel_rfl) ?_
      refine XR.done (by kernel_rfl) ?_
      show XQ _ _ _ _ _ _ _ _
      refine XQ.ret (by kernel_rfl) ?_
      have h := Option.some.inj h
      subst h
      exact ⟨fun i q => (by cases q), .bool false, (by kernel_rfl), rfl⟩
    | false =>
      have h := cF b2 h
      refine XQ.cond (s := (.tmp 116)) (b := false) (by kernel_rfl) (by kernel_rfl) (fun q => by cases q) (fun _ => ?_)
      refine XQ.skip (by kernel_rfl) ?_
      show XQ _ _ _ _ _ _ _ _
      refine XQ.seq E0_ok (by kernel_rfl) ?_
      refine XQ.seq E0_ok (by kernel_rfl) ?_
      refine XQ.region (by kernel_rfl) ?_
      refine XR.runS E0_ok 1 2 [(9, s0 0 lh0_x01.length), (10, ii x10_x01), (11, s0 1 lh1_x01.length), (14, ii x14_x01), (15, ii x15_x01), (23, s0 2 r16.1.length), (24, ii r16.2), (25, ii r17.1), (26, ii r17.2.1), (27, ii r17.2.2), (118, .bool (!b12_x01))] rfl (by kernel_rfl) ?_
      refine XR.done (by kernel_rfl) ?_
      show XQ _ _ _ _ _ _ _ _
      cases b3 : (!b12_x01 : Bool) with
      | true =>
        have h := cT b3 h
        refine XQ.cond (s := (.tmp 118)) (b := true) (by kernel_rfl) (by kernel_rfl) (fun _ => ?_) (fun q => by cases q)
        refine XQ.seq E0_ok (by kernel_rfl) ?_
        refine XQ.region (by kernel_rfl) ?_
        refine XR.runS E0_ok 1 3 [(14, ii x14_x01), (15, ii x15_x01), (23, s0 2 r16.1.length), (25, ii r17.1), (26, ii r17.2.1), (27, ii r17.2.2), (121, .bool (r16.2 == 12))] rfl (by kernel_rfl) ?_
        cases b4 : (r16.2 == 12 : Bool) with
        | true =>
          have h := cT b4 h
          refine XR.runS E0_ok 1 5 [(14, ii x14_x01), (15, ii x15_x01), (25, ii r17.1), (26, ii r17.2.1), (27, ii r17.2.2), (126, .bool (((r16.1.length : Nat) : Int) == 0))] rfl (by kernel_rfl) ?_
          cases b5 : (((r16.1.length : Nat) : Int) == 0 : Bool) with
          | true =>
            have h := cT b5 h
            refine XR.runS E0_ok 1 4 [(14, ii x14_x01), (15, ii x15_x01), (25, ii r17.1), (26, ii r17.2.1), (130, .bool (r17.2.2 == 0))] rfl (by kernel_rfl) ?_
            cases b6 : (r17.2.2 == 0 : Bool) with
            | true =>
              have h := cT b6 h
              refine XR.runS E0_ok 1 5 [(15, ii x15_x01), (26, ii r17.2.1), (135, .bool (r17.1 == x14_x01))] rfl (by kernel_rfl) ?_
              cases b7 : (r17.1 == x14_x01 : Bool) with
              | true =>
                have h := cT b7 h
                refine XR.runS E0_ok 1 5 [(140, .bool (r17.2.1 == x15_x01))] rfl (by kernel_rfl) ?_
                cases b8 : (r17.2.1 == x15_x01 : Bool) with
                | true =>
                  have h := cT b8 h
                  refine XR.call E0_ok [140, 141] rfl (K := 16) (args := []) (d := (some (path 12 141))) (by kernel_rfl) (KC.of_calls E0_ok (F := Proofs.Try.f16) (v := .bool true) (by kernel_rfl) rfl rfl (works_ok)) ?_
                  rintro _ _ _ ⟨rfl, rfl, rfl⟩
                  refine XR.conv (σ' := [(140, .bool true), (141, .bool true)]) (h' := [(2, rc (encI .i64) r16.1 0 3 1), (1, rc (encI .i64) lh1_x01 0 3 1), (0, rc encP lh0_x01 0 61 2)]) (c' := 3) ?_ (by kernel_rfl)
                  refine XR.runS E0_ok 1 2 [(8, .bool true)] rfl (by kernel_rfl) ?_
                  refine XR.done (by kernel_rfl) ?_
                  show XQ _ _ _ _ _ _ _ _
                  refine XQ.ret (by kernel_rfl) ?_
                  have h := Option.some.inj h
                  subst h
                  exact ⟨fun i q => (by cases q), .bool true, (by kernel_rfl), rfl⟩
                | false =>
                  have h := cF b8 h
                  refine XR.runS E0_ok 1 3 [(8, .bool false)] rfl (by kernel_rfl) ?_
                  refine XR.done (by kernel_rfl) ?_
                  show XQ _ _ _ _ _ _ _ _
                  refine XQ.ret (by kernel_rfl) ?_
                  have h := Option.some.inj h
                  subst h
                  exact ⟨fun i q => (by cases q), .bool false, (by kernel_rfl), rfl⟩
              | false =>
                have h := cF b7 h
                refine XR.runS E0_ok 1 8 [(8, .bool false)] rfl (by kernel_rfl) ?_
                refine XR.done (by kernel_rfl) ?_
                show XQ _ _ _ _ _ _ _ _
                refine XQ.ret (by kernel_rfl) ?_
                have h := Option.some.inj h
                subst h
                exact ⟨fun i q => (by cases q), .bool false, (by kernel_rfl), rfl⟩
            | false =>
              have h := cF b6 h
              refine XR.runS E0_ok 1 13 [(8, .bool false)] rfl (by kernel_rfl) ?_
              refine XR.done (by kernel_rfl) ?_
              show XQ _ _ _ _ _ _ _ _
              refine XQ.ret (by kernel_rfl) ?_
              have h := Option.some.inj h
              subst h
              exact ⟨fun i q => (by cases q), .bool false, (by kernel_rfl), rfl⟩
          | false =>
            have h := cF b5 h
            refine XR.runS E0_ok 1 17 [(8, .bool false)] rfl (by kernel_rfl) ?_
            refine XR.done (by kernel_rfl) ?_
            show XQ _ _ _ _ _ _ _ _
            refine XQ.ret (by kernel_rfl) ?_
            have h := Option.some.inj h
            subst h
            exact ⟨fun i q => (by cases q), .bool false, (by kernel_rfl), rfl⟩
        | false =>
          have h := cF b4 h
          refine XR.runS E0_ok 1 22 [(8, .bool false)] rfl (by kernel_rfl) ?_
          refine XR.done (by kernel_rfl) ?_
          show XQ _ _ _ _ _ _ _ _
          refine XQ.ret (by kernel_rfl) ?_
          have h := Option.some.inj h
          subst h
          exact ⟨fun i q => (by cases q), .bool false, (by kernel_rfl), rfl⟩
      | false =>
        have h := cF b3 h
        refine XQ.cond (s := (.tmp 118)) (b := false) (by kernel_rfl) (by kernel_rfl) (fun q => by cases q) (fun _ => ?_)
        refine XQ.skip (by kernel_rfl) ?_
        show XQ _ _ _ _ _ _ _ _
        refine XQ.seq E0_ok (by kernel_rfl) ?_
        refine XQ.region (by kernel_rfl) ?_
        refine XR.runS E0_ok 1 3 [(9, s0 0 lh0_x01.length), (10, ii x10_x01), (11, s0 1 lh1_x01.length), (23, s0 2 r16.1.length), (25, ii r17.1), (26, ii r17.2.1), (27, ii r17.2.2), (145, .bool (r16.2 == 0))] rfl (by kernel_rfl) ?_
        cases b9 : (r16.2 == 0 : Bool) with
        | true =>
          have h := cT b9 h
          refine XR.runS E0_ok 1 2 [(9, s0 0 lh0_x01.length), (10, ii x10_x01), (23, s0 2 r16.1.length), (25, ii r17.1), (26, ii r17.2.1), (27, ii r17.2.2), (145, .bool true), (146, s0 2 r16.1.length), (147, s0 1 lh1_x01.length)] rfl (by kernel_rfl) ?_
          obtain ⟨r18, r18_h, h⟩ := bS h
          refine XR.call E0_ok [9, 10, 23, 25, 26, 27, 145, 148] rfl (K := 20) (args := [s0 2 r16.1.length, s0 1 lh1_x01.length]) (d := (some (path 12 148))) (by kernel_rfl) (KQ.call (KC.quiet E0_ok (args0 := [s0 0 r16.1.length, s0 1 lh1_x01.length]) (h0 := [(1, rc (encI .i64) lh1_x01 (0 + ((rowC (encI .i64) lh1_x01).length + 1)) 3 1), (0, rc (encI .i64) r16.1 (0 + ((rowC (encI .i64) r16.1).length + 1)) 3 1)]) (n := 2) (V := .bool r18) [2, 1] (f20_ok m (0 + ((rowC (encI .i64) r16.1).length + 1)) 3 (0 + ((rowC (encI .i64) lh1_x01).length + 1)) 3 r16.1 lh1_x01 r18 r18_h) rfl (by rfl) (by decide) rfl (by kernel_rfl) ⟨⟨_, _, rfl, rfl, .inl ⟨rfl, rowC_scal (encI_ok .i64) _⟩⟩, ⟨_, _, rfl, rfl, .inl ⟨rfl, rowC_scal (encI_ok .i64) _⟩⟩, trivial⟩) rfl) ?_
          rintro _ _ _ ⟨rfl, rfl, rfl⟩
          refine XR.conv (σ' := [(9, s0 0 lh0_x01.length), (10, ii x10_x01), (23, s0 2 r16.1.length), (25, ii r17.1), (26, ii r17.2.1), (27, ii r17.2.2), (145, .bool true), (148, .bool r18)]) (h' := [(2, rc (encI .i64) r16.1 0 3 1), (1, rc (encI .i64) lh1_x01 0 3 1), (0, rc encP lh0_x01 0 61 2)]) (c' := 3) ?_ (by kernel_rfl)
          refine XR.runS E0_ok 1 2 [(9, s0 0 lh0_x01.length), (10, ii x10_x01), (23, s0 2 r16.1.length), (25, ii r17.1), (26, ii r17.2.1), (27, ii r17.2.2), (150, .bool r18)] rfl (by kernel_rfl) ?_
          cases b10 : (r18 : Bool) with
          | true =>
            have h := cT b10 h
            refine XR.runS E0_ok 1 3 [(25, ii r17.1), (26, ii r17.2.1), (27, ii r17.2.2), (150, .bool true), (151, s0 0 lh0_x01.length), (152, ii x10_x01), (153, s0 2 r16.1.length)] rfl (by kernel_rfl) ?_
            obtain ⟨r19, r19_h, h⟩ := bS h
            refine XR.call E0_ok [25, 26, 27, 150, 154] rfl (K := 21) (args := [s0 0 lh0_x01.length, ii x10_x01, s0 2 r16.1.length]) (d := (some (path 12 154))) (by kernel_rfl) (KQ.call (KC.quiet E0_ok (args0 := [s0 0 lh0_x01.length, ii x10_x01, s0 1 r16.1.length]) (h0 := [(1, rc (encI .i64) r16.1 (0 + ((rowC (encI .i64) r16.1).length + 1)) 3 1), (0, rc encP lh0_x01 (0 + ((rowC encP lh0_x01).length + 1)) 61 2)]) (n := 2) (V := ii r19) [0, 2] (f21_ok m (0 + ((rowC encP lh0_x01).length + 1)) 61 (0 + ((rowC (encI .i64) r16.1).length + 1)) 3 lh0_x01 x10_x01 r16.1 r19 r19_h) rfl (by rfl) (by decide) rfl (by kernel_rfl) ⟨⟨_, _, rfl, rfl, .inl ⟨rfl, rowC_scal (encI_ok .i64) _⟩⟩, ⟨_, _, rfl, rfl, .inl ⟨rfl, rowC_scal encP_ok _⟩⟩, trivial⟩) rfl) ?_
            rintro _ _ _ ⟨rfl, rfl, rfl⟩
            refine XR.conv (σ' := [(25, ii r17.1), (26, ii r17.2.1), (27, ii r17.2.2), (150, .bool true), (154, ii r19)]) (h' := [(2, rc (encI .i64) r16.1 0 3 1), (1, rc (encI .i64) lh1_x01 0 3 1), (0, rc encP lh0_x01 0 61 2)]) (c' := 3) ?_ (by kernel_rfl)
            refine XR.runS E0_ok 1 3 [(25, ii r17.1), (26, ii r17.2.1), (27, ii r17.2.2), (157, .bool (r19 == 0))] rfl (by kernel_rfl) ?_
            cases b11 : (r19 == 0 : Bool) with
            | true =>
              have h := cT b11 h
              refine XR.runS E0_ok 1 4 [(25, ii r17.1), (26, ii r17.2.1), (161, .bool (r17.2.2 == 13))] rfl (by kernel_rfl) ?_
              cases b12 : (r17.2.2 == 13 : Bool) with
              | true =>
                have h := cT b12 h
                refine XR.runS E0_ok 1 4 [(26, ii r17.2.1), (165, .bool (r17.1 == 0))] rfl (by kernel_rfl) ?_
                cases b13 : (r17.1 == 0 : Bool) with
                | true =>
                  have h := cT b13 h
                  refine XR.runS E0_ok 1 4 [(169, .bool (r17.2.1 == 0))] rfl (by kernel_rfl) ?_
                  cases b14 : (r17.2.1 == 0 : Bool) with
                  | true =>
                    have h := cT b14 h
                    refine XR.call E0_ok [169, 170] rfl (K := 16) (args := []) (d := (some (path 12 170))) (by kernel_rfl) (KC.of_calls E0_ok (F := Proofs.Try.f16) (v := .bool true) (by kernel_rfl) rfl rfl (works_ok)) ?_
                    rintro _ _ _ ⟨rfl, rfl, rfl⟩
                    refine XR.conv (σ' := [(169, .bool true), (170, .bool true)]) (h' := [(2, rc (encI .i64) r16.1 0 3 1), (1, rc (encI .i64) lh1_x01 0 3 1), (0, rc encP lh0_x01 0 61 2)]) (c' := 3) ?_ (by kernel_rfl)
                    refine XR.runS E0_ok 1 2 [(8, .bool true)] rfl (by kernel_rfl) ?_
                    refine XR.done (by kernel_rfl) ?_
                    show XQ _ _ _ _ _ _ _ _
                    refine XQ.ret (by kernel_rfl) ?_
                    have h := Option.some.inj h
                    subst h
                    exact ⟨fun i q => (by cases q), .bool true, (by kernel_rfl), rfl⟩
                  | false =>
                    have h := cF b14 h
                    refine XR.runS E0_ok 1 3 [(8, .bool false)] rfl (by kernel_rfl) ?_
                    refine XR.done (by kernel_rfl) ?_
                    show XQ _ _ _ _ _ _ _ _
                    refine XQ.ret (by kernel_rfl) ?_
                    have h := Option.some.inj h
                    subst h
                    exact ⟨fun i q => (by cases q), .bool false, (by kernel_rfl), rfl⟩
                | false =>
                  have h := cF b13 h
                  refine XR.runS E0_ok 1 7 [(8, .bool false)] rfl (by kernel_rfl) ?_
                  refine XR.done (by kernel_rfl) ?_
                  show XQ _ _ _ _ _ _ _ _
                  refine XQ.ret (by kernel_rfl) ?_
                  have h := Option.some.inj h
                  subst h
                  exact ⟨fun i q => (by cases q), .bool false, (by kernel_rfl), rfl⟩
              | false =>
                have h := cF b12 h
                refine XR.runS E0_ok 1 11 [(8, .bool false)] rfl (by kernel_rfl) ?_
                refine XR.done (by kernel_rfl) ?_
                show XQ _ _ _ _ _ _ _ _
                refine XQ.ret (by kernel_rfl) ?_
                have h := Option.some.inj h
                subst h
                exact ⟨fun i q => (by cases q), .bool false, (by kernel_rfl), rfl⟩
            | false =>
              have h := cF b11 h
              refine XR.runS E0_ok 1 15 [(8, .bool false)] rfl (by kernel_rfl) ?_
              refine XR.done (by kernel_rfl) ?_
              show XQ _ _ _ _ _ _ _ _
              refine XQ.ret (by kernel_rfl) ?_
              have h := Option.some.inj h
              subst h
              exact ⟨fun i q => (by cases q), .bool false, (by kernel_rfl), rfl⟩
          | false =>
            have h := cF b10 h
            refine XR.runS E0_ok 1 22 [(8, .bool false)] rfl (by kernel_rfl) ?_
            refine XR.done (by kernel_rfl) ?_
            show XQ _ _ _ _ _ _ _ _
            refine XQ.ret (by kernel_rfl) ?_
            have h := Option.some.inj h
            subst h
            exact ⟨fun i q => (by cases q), .bool false, (by kernel_rfl), rfl⟩
        | false =>
          have h := cF b9 h
          refine XR.runS E0_ok 1 27 [(8, .bool false)] rfl (by kernel_rfl) ?_
          refine XR.done (by kernel_rfl) ?_
          show XQ _ _ _ _ _ _ _ _
          refine XQ.ret (by kernel_rfl) ?_
          have h := Option.some.inj h
          subst h
          exact ⟨fun i q => (by cases q), .bool false, (by kernel_rfl), rfl⟩

end Go.Xm
