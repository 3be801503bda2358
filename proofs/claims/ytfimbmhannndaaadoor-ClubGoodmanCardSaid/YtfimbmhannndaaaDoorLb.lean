/- What these functions of the program compute, as functions in Lean, and the proofs that they do: vitolalaw12.ClubGoodman. Conditions: the library's variables hold what their texts lay. -/
import Derived.Test.YtfimbmhannndaaaDoorLa
namespace Go.Xm
open Go.RowKit
set_option linter.unusedVariables false
set_option linter.unusedSimpArgs false
set_option maxRecDepth 20000

/-! vitola/vitolalaw12.ClubGoodman -/
noncomputable def f8_C8 : Code := Proofs.Tryd.f8.body.getD .skip
noncomputable def f8_L1 : Code := lft (lft (rgt (lft (rgt (rgt (rgt (rgt (rgt (rgt f8_C8)))))))))
noncomputable def f8_L2 : Code := lft (lft (rgt (lft (rgt (rgt (rgt (rgt (rgt (rgt (rgt (rgt f8_C8)))))))))))
noncomputable def f8_L3 : Code := lft (lft (rgt (rgt (lft (lft (rgt (rgt f8_L2)))))))
noncomputable def f8_L4 : Code := lft (lft (rgt (lft (lft (rgt f8_L3)))))
noncomputable def f8_L5 : Code := lft (lft (rgt (lft (rgt (lft (lft (rgt f8_L4)))))))
noncomputable def f8_L6 : Code := lft (lft (rgt (lft (rgt (rgt (rgt (rgt (rgt (rgt (rgt (rgt (rgt (rgt (rgt (rgt f8_C8)))))))))))))))
noncomputable def f8_L7 : Code := lft (lft (rgt (lft (rgt (rgt (rgt (rgt (rgt (rgt (rgt (rgt (rgt (rgt (rgt (rgt (rgt (rgt (rgt (rgt (rgt f8_C8))))))))))))))))))))

def f8_1 (m : Nat) : Nat → Int → Int → Int → Int → Int → Int → List Int → List (Int × Int) → Option (Int × Int × Int × Int × (List Int) × (List (Int × Int)))
 | 0, _, _, _, _, _, _, _, _ => none
 | fuel + 1, x4_1, x5_1, x6_1, x44_1, x45_1, xh0_0_1, lh1_1, lh2_1 =>
  cond (decide (x45_1 < x44_1)) (
   cond (inRow x45_1 lh1_1.length) (
    f8_1 m fuel x4_1 x5_1 (w64 (x6_1 + (w64 ((List.getD lh1_1 (Int.toNat x45_1) 0) * (w64 ((w64 (x4_1 - 1)) - (List.getD lh1_1 (Int.toNat x45_1) 0))))))) x44_1 (w64 (x45_1 + 1)) xh0_0_1 lh1_1 lh2_1
   ) none
  ) (
   some (x4_1, x5_1, x6_1, xh0_0_1, lh1_1, lh2_1)
  )

theorem f8_1_ok (m : Nat) : ∀ (fuel : Nat) (x4_1 : Int) (x5_1 : Int) (x6_1 : Int) (x44_1 : Int) (x45_1 : Int) (xh0_0_1 : Int) (lh1_1 : List Int) (lh2_1 : List (Int × Int)) (o : (Int × Int × Int × Int × (List Int) × (List (Int × Int)))), f8_1 m fuel x4_1 x5_1 x6_1 x44_1 x45_1 xh0_0_1 lh1_1 lh2_1 = some o → ∀ Q : QP, Q (.exit 0) [(3, pp 0 0), (4, ii o.1), (5, ii o.2.1), (6, ii o.2.2.1), (7, s0 1 o.2.2.2.2.1.length)] [(2, rc encP o.2.2.2.2.2 0 55 2), (1, rc (encI .i64) o.2.2.2.2.1 0 3 1), (0, .cells [ii o.2.2.2.1, s0 2 o.2.2.2.2.2.length] 0 34 0)] 3 → XL E0 234 0 fuel f8_L1 [(3, pp 0 0), (4, ii x4_1), (5, ii x5_1), (6, ii x6_1), (7, s0 1 lh1_1.length), (43, s0 1 lh1_1.length), (44, ii x44_1), (45, ii x45_1)] [(2, rc encP lh2_1 0 55 2), (1, rc (encI .i64) lh1_1 0 3 1), (0, .cells [ii xh0_0_1, s0 2 lh2_1.length] 0 34 0)] 3 Q
 | 0, x4_1, x5_1, x6_1, x44_1, x45_1, xh0_0_1, lh1_1, lh2_1, o, h, Q, hQ => by cases h
 | fuel + 1, x4_1, x5_1, x6_1, x44_1, x45_1, xh0_0_1, lh1_1, lh2_1, o, h, Q, hQ => by
  unfold f8_1 at h
  refine XL.succ E0_ok ?_
  refine XQ.seq E0_ok (by kernel_rfl) ?_
  refine XQ.region (by kernel_rfl) ?_
  refine XR.runS E0_ok 1 1 [(3, pp 0 0), (4, ii x4_1), (5, ii x5_1), (6, ii x6_1), (7, s0 1 lh1_1.length), (43, s0 1 lh1_1.length), (44, ii x44_1), (45, ii x45_1), (46, .bool (decide (x45_1 < x44_1)))] rfl (by kernel_rfl) ?_
  refine XR.done (by kernel_rfl) ?_
  show XQ _ _ _ _ _ _ _ _
  refine XQ.seq E0_ok (by kernel_rfl) ?_
  cases b1 : (decide (x45_1 < x44_1) : Bool) with
  | true =>
   have h := cT b1 h
   refine XQ.cond (s := (.tmp 46)) (b := true) (by kernel_rfl) (by kernel_rfl) (fun _ => ?_) (fun q => by cases q)
   refine XQ.skip (by kernel_rfl) ?_
   show XQ _ _ _ _ _ _ _ _
   refine XQ.seq E0_ok (by kernel_rfl) ?_
   refine XQ.block (id := 1) (by kernel_rfl) ?_
   refine XQ.seq E0_ok (by kernel_rfl) ?_
   refine XQ.region (by kernel_rfl) ?_
   cases b2 : (inRow x45_1 lh1_1.length : Bool) with
   | false => cases (cF b2 h)
   | true =>
    have h := cT b2 h
    refine XR.rd E0_ok [3, 4, 5, 6, 7, 43, 44, 45, 47] rfl (v := pp 1 ((Int.toNat x45_1) * 1)) (v_idx (s := 1) (x := (src 234 (.tmp 43))) (y := (src 234 (.tmp 45))) (b := 1) (o := 0) (len := lh1_1.length) (cap := lh1_1.length) (ik := .i64) (i := x45_1) (off := (Int.toNat x45_1) * 1) (d := (some (path 12 47))) (by kernel_rfl) (by kernel_rfl) (by kernel_rfl) b2 (by omega)) (σ' := [(3, pp 0 0), (4, ii x4_1), (5, ii x5_1), (6, ii x6_1), (7, s0 1 lh1_1.length), (43, s0 1 lh1_1.length), (44, ii x44_1), (45, ii x45_1), (47, pp 1 ((Int.toNat x45_1) * 1))]) (by kernel_rfl) ?_
    refine XR.rd E0_ok [3, 4, 5, 6, 7, 43, 44, 45, 48] rfl (v := ii (List.getD lh1_1 (Int.toNat x45_1) 0)) (v_load1 (encI_ok .i64) (x := (src 234 (.tmp 47))) (b := 1) (off := (Int.toNat x45_1) * 1) (xs := lh1_1) (fz := 0) (e := 3) (es := 1) (d := (some (path 12 48))) (by kernel_rfl) (by kernel_rfl) (by kernel_rfl) (Int.toNat x45_1) 0 0 (by first | rfl | omega) (row_len (inRow_toNat b2) (by simp)) rfl rfl) (σ' := [(3, pp 0 0), (4, ii x4_1), (5, ii x5_1), (6, ii x6_1), (7, s0 1 lh1_1.length), (43, s0 1 lh1_1.length), (44, ii x44_1), (45, ii x45_1), (48, ii (List.getD lh1_1 (Int.toNat x45_1) 0))]) (by kernel_rfl) ?_
    refine XR.runS E0_ok 1 1 [(3, pp 0 0), (4, ii x4_1), (5, ii x5_1), (6, ii x6_1), (7, s0 1 lh1_1.length), (9, ii (List.getD lh1_1 (Int.toNat x45_1) 0)), (43, s0 1 lh1_1.length), (44, ii x44_1), (45, ii x45_1)] rfl (by kernel_rfl) ?_
    refine XR.done (by kernel_rfl) ?_
    show XQ _ _ _ _ _ _ _ _
    refine XQ.region (by kernel_rfl) ?_
    refine XR.runS E0_ok 1 9 [(3, pp 0 0), (4, ii x4_1), (5, ii x5_1), (6, ii (w64 (x6_1 + (w64 ((List.getD lh1_1 (Int.toNat x45_1) 0) * (w64 ((w64 (x4_1 - 1)) - (List.getD lh1_1 (Int.toNat x45_1) 0)))))))), (7, s0 1 lh1_1.length), (43, s0 1 lh1_1.length), (44, ii x44_1), (45, ii x45_1)] rfl (by kernel_rfl) ?_
    refine XR.done (by kernel_rfl) ?_
    show XQ _ _ _ _ _ _ _ _
    refine XQ.region (by kernel_rfl) ?_
    refine XR.runS E0_ok 1 2 [(3, pp 0 0), (4, ii x4_1), (5, ii x5_1), (6, ii (w64 (x6_1 + (w64 ((List.getD lh1_1 (Int.toNat x45_1) 0) * (w64 ((w64 (x4_1 - 1)) - (List.getD lh1_1 (Int.toNat x45_1) 0)))))))), (7, s0 1 lh1_1.length), (43, s0 1 lh1_1.length), (44, ii x44_1), (45, ii (w64 (x45_1 + 1)))] rfl (by kernel_rfl) ?_
    refine XR.done (by kernel_rfl) ?_
    show XL _ _ _ _ _ _ _ _ _
    refine XL.ren (σ' := [(3, pp 0 0), (4, ii x4_1), (5, ii x5_1), (6, ii (w64 (x6_1 + (w64 ((List.getD lh1_1 (Int.toNat x45_1) 0) * (w64 ((w64 (x4_1 - 1)) - (List.getD lh1_1 (Int.toNat x45_1) 0)))))))), (7, s0 1 lh1_1.length), (43, s0 1 lh1_1.length), (44, ii x44_1), (45, ii (w64 (x45_1 + 1)))]) (h' := [(2, rc encP lh2_1 0 55 2), (1, rc (encI .i64) lh1_1 0 3 1), (0, .cells [ii xh0_0_1, s0 2 lh2_1.length] 0 34 0)]) (c' := 3) [0, 1, 2] (by decide) rfl ⟨by kernel_rfl, by kernel_rfl, by kernel_rfl, by kernel_rfl, by kernel_rfl, by kernel_rfl, by kernel_rfl, by kernel_rfl, trivial⟩ ⟨⟨_, _, rfl, rfl, .inl ⟨rfl, rowC_scal encP_ok _⟩⟩, ⟨_, _, rfl, rfl, .inl ⟨rfl, rowC_scal (encI_ok .i64) _⟩⟩, ⟨_, _, rfl, rfl, .inr ⟨_, _, _, _, rfl, rfl⟩⟩, trivial⟩ rfl ?_
    refine XL.conv (f8_1_ok m fuel x4_1 x5_1 (w64 (x6_1 + (w64 ((List.getD lh1_1 (Int.toNat x45_1) 0) * (w64 ((w64 (x4_1 - 1)) - (List.getD lh1_1 (Int.toNat x45_1) 0))))))) x44_1 (w64 (x45_1 + 1)) xh0_0_1 lh1_1 lh2_1 o h Q hQ) (by first | rfl | simp)
  | false =>
   have h := cF b1 h
   refine XQ.cond (s := (.tmp 46)) (b := false) (by kernel_rfl) (by kernel_rfl) (fun q => by cases q) (fun _ => ?_)
   refine XQ.ren (σ' := [(3, pp 0 0), (4, ii x4_1), (5, ii x5_1), (6, ii x6_1), (7, s0 1 lh1_1.length)]) (h' := [(2, rc encP lh2_1 0 55 2), (1, rc (encI .i64) lh1_1 0 3 1), (0, .cells [ii xh0_0_1, s0 2 lh2_1.length] 0 34 0)]) (c' := 3) [0, 1, 2] (by decide) rfl ⟨by kernel_rfl, by kernel_rfl, by kernel_rfl, by kernel_rfl, by kernel_rfl, trivial⟩ ⟨⟨_, _, rfl, rfl, .inl ⟨rfl, rowC_scal encP_ok _⟩⟩, ⟨_, _, rfl, rfl, .inl ⟨rfl, rowC_scal (encI_ok .i64) _⟩⟩, ⟨_, _, rfl, rfl, .inr ⟨_, _, _, _, rfl, rfl⟩⟩, trivial⟩ rfl ?_
   refine XQ.exit (i := 0) (by kernel_rfl) ?_
   cases h
   exact hQ

def f8_5 (m : Nat) : Nat → Int → Int → Int → Int → Int → Int → List Int → List (Int × Int) → Int → Int → Int → Int → Int → List (Int × Int) → Option Int
 | 0, _, _, _, _, _, _, _, _, _, _, _, _, _, _ => none
 | fuel + 1, x4_2, x5_2, x6_2, x58_2, x59_2, xh0_0_2, lh1_2, lh2_2, x12_3, x10_4, x13_4, x14_5, x87_5, lh2_5 =>
  cond (decide (x87_5 < 3)) (
   cond (inRow x87_5 lh2_5.length) (
    (f38 m lh2_2 ((List.getD lh2_5 (Int.toNat x87_5) (0, 0)).1) ((List.getD lh2_5 (Int.toNat x87_5) (0, 0)).2)).bind fun r110 =>
     f8_5 m fuel x4_2 x5_2 x6_2 x58_2 x59_2 xh0_0_2 lh1_2 lh2_2 x12_3 x10_4 x13_4 (cond (r110) (w64 (x14_5 + 1)) x14_5) (w64 (x87_5 + 1)) lh2_5
   ) none
  ) (
   some (x14_5)
  )

theorem f8_5_ok (m : Nat) : ∀ (fuel : Nat) (x4_2 : Int) (x5_2 : Int) (x6_2 : Int) (x58_2 : Int) (x59_2 : Int) (xh0_0_2 : Int) (lh1_2 : List Int) (lh2_2 : List (Int × Int)) (x12_3 : Int) (x10_4 : Int) (x13_4 : Int) (x14_5 : Int) (x87_5 : Int) (lh2_5 : List (Int × Int)) (o : Int), f8_5 m fuel x4_2 x5_2 x6_2 x58_2 x59_2 xh0_0_2 lh1_2 lh2_2 x12_3 x10_4 x13_4 x14_5 x87_5 lh2_5 = some o → ∀ Q : QP, Q (.exit 8) [(3, pp 0 0), (4, ii x4_2), (5, ii x5_2), (6, ii x6_2), (7, s0 1 lh1_2.length), (10, ii x10_4), (11, ii x59_2), (12, ii x12_3), (13, ii x13_4), (14, ii o), (58, ii x58_2), (59, ii x59_2)] [(2, rc encP lh2_2 0 55 2), (1, rc (encI .i64) lh1_2 0 3 1), (0, .cells [ii xh0_0_2, s0 2 lh2_2.length] 0 34 0)] 3 → XL E0 234 0 fuel f8_L5 [(3, pp 0 0), (4, ii x4_2), (5, ii x5_2), (6, ii x6_2), (7, s0 1 lh1_2.length), (10, ii x10_4), (11, ii x59_2), (12, ii x12_3), (13, ii x13_4), (14, ii x14_5), (58, ii x58_2), (59, ii x59_2), (85, s0 2 lh2_5.length), (86, ii 3), (87, ii x87_5)] [(3, rc encP lh2_2 0 55 2), (2, rc encP lh2_5 0 55 2), (1, rc (encI .i64) lh1_2 0 3 1), (0, .cells [ii xh0_0_2, s0 3 lh2_2.length] 0 34 0)] 4 Q
 | 0, x4_2, x5_2, x6_2, x58_2, x59_2, xh0_0_2, lh1_2, lh2_2, x12_3, x10_4, x13_4, x14_5, x87_5, lh2_5, o, h, Q, hQ => by cases h
 | fuel + 1, x4_2, x5_2, x6_2, x58_2, x59_2, xh0_0_2, lh1_2, lh2_2, x12_3, x10_4, x13_4, x14_5, x87_5, lh2_5, o, h, Q, hQ => by
  unfold f8_5 at h
  refine XL.succ E0_ok ?_
  refine XQ.seq E0_ok (by kernel_rfl) ?_
  refine XQ.region (by kernel_rfl) ?_
  refine XR.runS E0_ok 1 1 [(3, pp 0 0), (4, ii x4_2), (5, ii x5_2), (6, ii x6_2), (7, s0 1 lh1_2.length), (10, ii x10_4), (11, ii x59_2), (12, ii x12_3), (13, ii x13_4), (14, ii x14_5), (58, ii x58_2), (59, ii x59_2), (85, s0 2 lh2_5.length), (86, ii 3), (87, ii x87_5), (88, .bool (decide (x87_5 < 3)))] rfl (by kernel_rfl) ?_
  refine XR.done (by kernel_rfl) ?_
  show XQ _ _ _ _ _ _ _ _
  refine XQ.seq E0_ok (by kernel_rfl) ?_
  cases b1 : (decide (x87_5 < 3) : Bool) with
  | true =>
   have h := cT b1 h
   refine XQ.cond (s := (.tmp 88)) (b := true) (by kernel_rfl) (by kernel_rfl) (fun _ => ?_) (fun q => by cases q)
   refine XQ.skip (by kernel_rfl) ?_
   show XQ _ _ _ _ _ _ _ _
   refine XQ.seq E0_ok (by kernel_rfl) ?_
   refine XQ.block (id := 9) (by kernel_rfl) ?_
   refine XQ.seq E0_ok (by kernel_rfl) ?_
   refine XQ.region (by kernel_rfl) ?_
   cases b2 : (inRow x87_5 lh2_5.length : Bool) with
   | false => cases (cF b2 h)
   | true =>
    have h := cT b2 h
    refine XR.rd E0_ok [3, 4, 5, 6, 7, 10, 11, 12, 13, 14, 58, 59, 85, 86, 87, 89] rfl (v := pp 2 ((Int.toNat x87_5) * 2)) (v_idx (s := 2) (x := (src 234 (.tmp 85))) (y := (src 234 (.tmp 87))) (b := 2) (o := 0) (len := lh2_5.length) (cap := lh2_5.length) (ik := .i64) (i := x87_5) (off := (Int.toNat x87_5) * 2) (d := (some (path 12 89))) (by kernel_rfl) (by kernel_rfl) (by kernel_rfl) b2 (by omega)) (σ' := [(3, pp 0 0), (4, ii x4_2), (5, ii x5_2), (6, ii x6_2), (7, s0 1 lh1_2.length), (10, ii x10_4), (11, ii x59_2), (12, ii x12_3), (13, ii x13_4), (14, ii x14_5), (58, ii x58_2), (59, ii x59_2), (85, s0 2 lh2_5.length), (86, ii 3), (87, ii x87_5), (89, pp 2 ((Int.toNat x87_5) * 2))]) (by kernel_rfl) ?_
    refine XR.rd E0_ok [3, 4, 5, 6, 7, 10, 11, 12, 13, 14, 58, 59, 85, 86, 87, 90] rfl (v := .agg #[ii ((List.getD lh2_5 (Int.toNat x87_5) (0, 0)).1), ii ((List.getD lh2_5 (Int.toNat x87_5) (0, 0)).2)]) (v_loadN encP_ok (x := (src 234 (.tmp 89))) (b := 2) (off := (Int.toNat x87_5) * 2) (xs := lh2_5) (fz := 0) (e := 55) (es := 2) (d := (some (path 12 90))) (by kernel_rfl) (by kernel_rfl) (by kernel_rfl) (Int.toNat x87_5) (0, 0) (by first | rfl | omega) (row_len (inRow_toNat b2) (by simp)) rfl) (σ' := [(3, pp 0 0), (4, ii x4_2), (5, ii x5_2), (6, ii x6_2), (7, s0 1 lh1_2.length), (10, ii x10_4), (11, ii x59_2), (12, ii x12_3), (13, ii x13_4), (14, ii x14_5), (58, ii x58_2), (59, ii x59_2), (85, s0 2 lh2_5.length), (86, ii 3), (87, ii x87_5), (90, .agg #[ii ((List.getD lh2_5 (Int.toNat x87_5) (0, 0)).1), ii ((List.getD lh2_5 (Int.toNat x87_5) (0, 0)).2)])]) (by kernel_rfl) ?_
    refine XR.runT E0_ok 1 2 [(3, pp 0 0), (4, ii x4_2), (5, ii x5_2), (6, ii x6_2), (7, s0 1 lh1_2.length), (10, ii x10_4), (11, ii x59_2), (12, ii x12_3), (13, ii x13_4), (14, ii x14_5), (16, pp 4 0), (58, ii x58_2), (59, ii x59_2), (85, s0 2 lh2_5.length), (86, ii 3), (87, ii x87_5)] [(4, .cells [ii ((List.getD lh2_5 (Int.toNat x87_5) (0, 0)).1), ii ((List.getD lh2_5 (Int.toNat x87_5) (0, 0)).2)] 0 55 0), (3, rc encP lh2_2 0 55 2), (2, rc encP lh2_5 0 55 2), (1, rc (encI .i64) lh1_2 0 3 1), (0, .cells [ii xh0_0_2, s0 3 lh2_2.length] 0 34 0)] 5 rfl (by kernel_rfl) ?_
    refine XR.done (by kernel_rfl) ?_
    show XQ _ _ _ _ _ _ _ _
    refine XQ.seq E0_ok (by kernel_rfl) ?_
    refine XQ.region (by kernel_rfl) ?_
    refine XR.runS E0_ok 1 3 [(3, pp 0 0), (4, ii x4_2), (5, ii x5_2), (6, ii x6_2), (7, s0 1 lh1_2.length), (10, ii x10_4), (11, ii x59_2), (12, ii x12_3), (13, ii x13_4), (14, ii x14_5), (58, ii x58_2), (59, ii x59_2), (85, s0 2 lh2_5.length), (86, ii 3), (87, ii x87_5), (92, s0 3 lh2_2.length), (93, .agg #[ii ((List.getD lh2_5 (Int.toNat x87_5) (0, 0)).1), ii ((List.getD lh2_5 (Int.toNat x87_5) (0, 0)).2)])] rfl (by kernel_rfl) ?_
    obtain ⟨r110, r110_h, h⟩ := bS h
    refine XR.call E0_ok [3, 4, 5, 6, 7, 10, 11, 12, 13, 14, 58, 59, 85, 86, 87, 94] rfl (K := 38) (args := [s0 3 lh2_2.length, .agg #[ii ((List.getD lh2_5 (Int.toNat x87_5) (0, 0)).1), ii ((List.getD lh2_5 (Int.toNat x87_5) (0, 0)).2)]]) (d := (some (path 12 94))) (by kernel_rfl) (KQ.call (KC.quiet E0_ok (args0 := [s0 0 lh2_2.length, .agg #[ii ((List.getD lh2_5 (Int.toNat x87_5) (0, 0)).1), ii ((List.getD lh2_5 (Int.toNat x87_5) (0, 0)).2)]]) (h0 := [(0, rc encP lh2_2 (0 + ((rowC encP lh2_2).length + 1)) 55 2)]) (n := 1) (V := .bool r110) [3] (f38_ok m (0 + ((rowC encP lh2_2).length + 1)) 55 lh2_2 ((List.getD lh2_5 (Int.toNat x87_5) (0, 0)).1) ((List.getD lh2_5 (Int.toNat x87_5) (0, 0)).2) r110 r110_h) rfl (by rfl) (by decide) rfl (by kernel_rfl) ⟨⟨_, _, rfl, rfl, .inl ⟨rfl, rowC_scal encP_ok _⟩⟩, trivial⟩) rfl) ?_
    rintro _ _ _ ⟨rfl, rfl, rfl⟩
    refine XR.conv (σ' := [(3, pp 0 0), (4, ii x4_2), (5, ii x5_2), (6, ii x6_2), (7, s0 1 lh1_2.length), (10, ii x10_4), (11, ii x59_2), (12, ii x12_3), (13, ii x13_4), (14, ii x14_5), (58, ii x58_2), (59, ii x59_2), (85, s0 2 lh2_5.length), (86, ii 3), (87, ii x87_5), (94, .bool r110)]) (h' := [(4, .cells [ii ((List.getD lh2_5 (Int.toNat x87_5) (0, 0)).1), ii ((List.getD lh2_5 (Int.toNat x87_5) (0, 0)).2)] 0 55 0), (3, rc encP lh2_2 0 55 2), (2, rc encP lh2_5 0 55 2), (1, rc (encI .i64) lh1_2 0 3 1), (0, .cells [ii xh0_0_2, s0 3 lh2_2.length] 0 34 0)]) (c' := 5) ?_ (by kernel_rfl)
    refine XR.done (by kernel_rfl) ?_
    show XQ _ _ _ _ _ _ _ _
    refine XQ.meetC (σ' := [(3, pp 0 0), (4, ii x4_2), (5, ii x5_2), (6, ii x6_2), (7, s0 1 lh1_2.length), (10, ii x10_4), (11, ii x59_2), (12, ii x12_3), (13, ii x13_4), (14, ii (cond (r110) (w64 (x14_5 + 1)) x14_5)), (58, ii x58_2), (59, ii x59_2), (85, s0 2 lh2_5.length), (86, ii 3), (87, ii x87_5)]) (h' := [(4, .cells [ii ((List.getD lh2_5 (Int.toNat x87_5) (0, 0)).1), ii ((List.getD lh2_5 (Int.toNat x87_5) (0, 0)).2)] 0 55 0), (3, rc encP lh2_2 0 55 2), (2, rc encP lh2_5 0 55 2), (1, rc (encI .i64) lh1_2 0 3 1), (0, .cells [ii xh0_0_2, s0 3 lh2_2.length] 0 34 0)]) (c' := 5) ?_ ?_
    rotate_left
    ·refine XQ.cond (s := (.tmp 94)) (b := r110) (by kernel_rfl) (by kernel_rfl) (fun b3 => ?_) (fun b3 => ?_)
     ·refine XQ.region (by kernel_rfl) ?_
      refine XR.runS E0_ok 1 3 [(3, pp 0 0), (4, ii x4_2), (5, ii x5_2), (6, ii x6_2), (7, s0 1 lh1_2.length), (10, ii x10_4), (11, ii x59_2), (12, ii x12_3), (13, ii x13_4), (14, ii (w64 (x14_5 + 1))), (58, ii x58_2), (59, ii x59_2), (85, s0 2 lh2_5.length), (86, ii 3), (87, ii x87_5)] rfl (by kernel_rfl) ?_
      refine XR.done (by kernel_rfl) ?_
      refine ⟨rfl, ?_, ?_⟩
      ·try rw [b3]
       exact ⟨by kernel_rfl, by kernel_rfl, by kernel_rfl, by kernel_rfl, by kernel_rfl, by kernel_rfl, by kernel_rfl, by kernel_rfl, by kernel_rfl, by kernel_rfl, by kernel_rfl, by kernel_rfl, by kernel_rfl, by kernel_rfl, by kernel_rfl, trivial⟩
      ·try rw [b3]
       kernel_rfl
     ·refine XQ.skip (by kernel_rfl) ?_
      refine ⟨rfl, ?_, ?_⟩
      ·try rw [b3]
       exact ⟨by kernel_rfl, by kernel_rfl, by kernel_rfl, by kernel_rfl, by kernel_rfl, by kernel_rfl, by kernel_rfl, by kernel_rfl, by kernel_rfl, by kernel_rfl, by kernel_rfl, by kernel_rfl, by kernel_rfl, by kernel_rfl, by kernel_rfl, trivial⟩
      ·try rw [b3]
       kernel_rfl
    show XQ _ _ _ _ _ _ _ _
    refine XQ.region (by kernel_rfl) ?_
    refine XR.runS E0_ok 1 2 [(3, pp 0 0), (4, ii x4_2), (5, ii x5_2), (6, ii x6_2), (7, s0 1 lh1_2.length), (10, ii x10_4), (11, ii x59_2), (12, ii x12_3), (13, ii x13_4), (14, ii (cond (r110) (w64 (x14_5 + 1)) x14_5)), (58, ii x58_2), (59, ii x59_2), (85, s0 2 lh2_5.length), (86, ii 3), (87, ii (w64 (x87_5 + 1)))] rfl (by kernel_rfl) ?_
    refine XR.done (by kernel_rfl) ?_
    show XL _ _ _ _ _ _ _ _ _
    refine XL.ren (σ' := [(3, pp 0 0), (4, ii x4_2), (5, ii x5_2), (6, ii x6_2), (7, s0 1 lh1_2.length), (10, ii x10_4), (11, ii x59_2), (12, ii x12_3), (13, ii x13_4), (14, ii (cond (r110) (w64 (x14_5 + 1)) x14_5)), (58, ii x58_2), (59, ii x59_2), (85, s0 2 lh2_5.length), (86, ii 3), (87, ii (w64 (x87_5 + 1)))]) (h' := [(3, rc encP lh2_2 0 55 2), (2, rc encP lh2_5 0 55 2), (1, rc (encI .i64) lh1_2 0 3 1), (0, .cells [ii xh0_0_2, s0 3 lh2_2.length] 0 34 0)]) (c' := 4) [0, 1, 2, 3] (by decide) rfl ⟨by kernel_rfl, by kernel_rfl, by kernel_rfl, by kernel_rfl, by kernel_rfl, by kernel_rfl, by kernel_rfl, by kernel_rfl, by kernel_rfl, by kernel_rfl, by kernel_rfl, by kernel_rfl, by kernel_rfl, by kernel_rfl, by kernel_rfl, trivial⟩ ⟨⟨_, _, rfl, rfl, .inl ⟨rfl, rowC_scal encP_ok _⟩⟩, ⟨_, _, rfl, rfl, .inl ⟨rfl, rowC_scal encP_ok _⟩⟩, ⟨_, _, rfl, rfl, .inl ⟨rfl, rowC_scal (encI_ok .i64) _⟩⟩, ⟨_, _, rfl, rfl, .inr ⟨_, _, _, _, rfl, rfl⟩⟩, trivial⟩ rfl ?_
    refine XL.conv (f8_5_ok m fuel x4_2 x5_2 x6_2 x58_2 x59_2 xh0_0_2 lh1_2 lh2_2 x12_3 x10_4 x13_4 (cond (r110) (w64 (x14_5 + 1)) x14_5) (w64 (x87_5 + 1)) lh2_5 o h Q hQ) (by first | rfl | simp)
  | false =>
   have h := cF b1 h
   refine XQ.cond (s := (.tmp 88)) (b := false) (by kernel_rfl) (by kernel_rfl) (fun q => by cases q) (fun _ => ?_)
   refine XQ.ren (σ' := [(3, pp 0 0), (4, ii x4_2), (5, ii x5_2), (6, ii x6_2), (7, s0 1 lh1_2.length), (10, ii x10_4), (11, ii x59_2), (12, ii x12_3), (13, ii x13_4), (14, ii x14_5), (58, ii x58_2), (59, ii x59_2)]) (h' := [(2, rc encP lh2_2 0 55 2), (1, rc (encI .i64) lh1_2 0 3 1), (0, .cells [ii xh0_0_2, s0 2 lh2_2.length] 0 34 0)]) (c' := 3) [0, 1, 3] (by decide) rfl ⟨by kernel_rfl, by kernel_rfl, by kernel_rfl, by kernel_rfl, by kernel_rfl, by kernel_rfl, by kernel_rfl, by kernel_rfl, by kernel_rfl, by kernel_rfl, by kernel_rfl, by kernel_rfl, trivial⟩ ⟨⟨_, _, rfl, rfl, .inl ⟨rfl, rowC_scal encP_ok _⟩⟩, ⟨_, _, rfl, rfl, .inl ⟨rfl, rowC_scal (encI_ok .i64) _⟩⟩, ⟨_, _, rfl, rfl, .inr ⟨_, _, _, _, rfl, rfl⟩⟩, trivial⟩ rfl ?_
   refine XQ.exit (i := 8) (by kernel_rfl) ?_
   cases h
   exact hQ

def f8_4 (m : Nat) : Nat → Int → Int → Int → Int → Int → Int → List Int → List (Int × Int) → Int → Int → Int → Option Int
 | 0, _, _, _, _, _, _, _, _, _, _, _ => none
 | fuel + 1, x4_2, x5_2, x6_2, x58_2, x59_2, xh0_0_2, lh1_2, lh2_2, x12_3, x10_4, x13_4 =>
  cond (decide (x13_4 < x4_2)) (
   (f8_5 m m x4_2 x5_2 x6_2 x58_2 x59_2 xh0_0_2 lh1_2 lh2_2 x12_3 x10_4 x13_4 0 0 [(x59_2, x12_3), (x59_2, x13_4), (x12_3, x13_4)]).bind fun o5 =>
    f8_4 m fuel x4_2 x5_2 x6_2 x58_2 x59_2 xh0_0_2 lh1_2 lh2_2 x12_3 (cond ((Int.tmod o5 3) == 0) (w64 (x10_4 + 1)) x10_4) (w64 (x13_4 + 1))
  ) (
   some (x10_4)
  )

theorem f8_4_ok (m : Nat) : ∀ (fuel : Nat) (x4_2 : Int) (x5_2 : Int) (x6_2 : Int) (x58_2 : Int) (x59_2 : Int) (xh0_0_2 : Int) (lh1_2 : List Int) (lh2_2 : List (Int × Int)) (x12_3 : Int) (x10_4 : Int) (x13_4 : Int) (o : Int), f8_4 m fuel x4_2 x5_2 x6_2 x58_2 x59_2 xh0_0_2 lh1_2 lh2_2 x12_3 x10_4 x13_4 = some o → ∀ Q : QP, Q (.exit 6) [(3, pp 0 0), (4, ii x4_2), (5, ii x5_2), (6, ii x6_2), (7, s0 1 lh1_2.length), (10, ii o), (11, ii x59_2), (12, ii x12_3), (58, ii x58_2), (59, ii x59_2)] [(2, rc encP lh2_2 0 55 2), (1, rc (encI .i64) lh1_2 0 3 1), (0, .cells [ii xh0_0_2, s0 2 lh2_2.length] 0 34 0)] 3 → XL E0 234 0 fuel f8_L4 [(3, pp 0 0), (4, ii x4_2), (5, ii x5_2), (6, ii x6_2), (7, s0 1 lh1_2.length), (10, ii x10_4), (11, ii x59_2), (12, ii x12_3), (13, ii x13_4), (58, ii x58_2), (59, ii x59_2)] [(2, rc encP lh2_2 0 55 2), (1, rc (encI .i64) lh1_2 0 3 1), (0, .cells [ii xh0_0_2, s0 2 lh2_2.length] 0 34 0)] 3 Q
 | 0, x4_2, x5_2, x6_2, x58_2, x59_2, xh0_0_2, lh1_2, lh2_2, x12_3, x10_4, x13_4, o, h, Q, hQ => by cases h
 | fuel + 1, x4_2, x5_2, x6_2, x58_2, x59_2, xh0_0_2, lh1_2, lh2_2, x12_3, x10_4, x13_4, o, h, Q, hQ => by
  unfold f8_4 at h
  refine XL.succ E0_ok ?_
  refine XQ.seq E0_ok (by kernel_rfl) ?_
  refine XQ.seq E0_ok (by kernel_rfl) ?_
  refine XQ.region (by kernel_rfl) ?_
  refine XR.runS E0_ok 1 3 [(3, pp 0 0), (4, ii x4_2), (5, ii x5_2), (6, ii x6_2), (7, s0 1 lh1_2.length), (10, ii x10_4), (11, ii x59_2), (12, ii x12_3), (13, ii x13_4), (58, ii x58_2), (59, ii x59_2), (73, .bool (decide (x13_4 < x4_2)))] rfl (by kernel_rfl) ?_
  refine XR.done (by kernel_rfl) ?_
  show XQ _ _ _ _ _ _ _ _
  cases b1 : (decide (x13_4 < x4_2) : Bool) with
  | true =>
   have h := cT b1 h
   refine XQ.cond (s := (.tmp 73)) (b := true) (by kernel_rfl) (by kernel_rfl) (fun _ => ?_) (fun q => by cases q)
   refine XQ.skip (by kernel_rfl) ?_
   show XQ _ _ _ _ _ _ _ _
   refine XQ.seq E0_ok (by kernel_rfl) ?_
   refine XQ.block (id := 7) (by kernel_rfl) ?_
   refine XQ.seq E0_ok (by kernel_rfl) ?_
   refine XQ.region (by kernel_rfl) ?_
   refine XR.runS E0_ok 1 1 [(3, pp 0 0), (4, ii x4_2), (5, ii x5_2), (6, ii x6_2), (7, s0 1 lh1_2.length), (10, ii x10_4), (11, ii x59_2), (12, ii x12_3), (13, ii x13_4), (14, ii 0), (58, ii x58_2), (59, ii x59_2)] rfl (by kernel_rfl) ?_
   refine XR.done (by kernel_rfl) ?_
   show XQ _ _ _ _ _ _ _ _
   refine XQ.seq E0_ok (by kernel_rfl) ?_
   refine XQ.seq E0_ok (by kernel_rfl) ?_
   refine XQ.region (by kernel_rfl) ?_
   refine XR.runT E0_ok 1 12 [(3, pp 0 0), (4, ii x4_2), (5, ii x5_2), (6, ii x6_2), (7, s0 1 lh1_2.length), (10, ii x10_4), (11, ii x59_2), (12, ii x12_3), (13, ii x13_4), (14, ii 0), (58, ii x58_2), (59, ii x59_2), (85, s0 3 3), (86, ii 3), (87, ii 0)] [(3, .cells [ii x59_2, ii x12_3, ii x59_2, ii x13_4, ii x12_3, ii x13_4] 0 55 2), (2, rc encP lh2_2 0 55 2), (1, rc (encI .i64) lh1_2 0 3 1), (0, .cells [ii xh0_0_2, s0 2 lh2_2.length] 0 34 0)] 4 rfl (by kernel_rfl) ?_
   refine XR.done (by kernel_rfl) ?_
   show XQ _ _ _ _ _ _ _ _
   refine XQ.block (id := 8) (by kernel_rfl) ?_
   refine XQ.loop m (by kernel_rfl) ?_
   obtain ⟨o5, o5_h, h⟩ := bS h
   refine XL.ren (σ' := [(3, pp 0 0), (4, ii x4_2), (5, ii x5_2), (6, ii x6_2), (7, s0 1 lh1_2.length), (10, ii x10_4), (11, ii x59_2), (12, ii x12_3), (13, ii x13_4), (14, ii 0), (58, ii x58_2), (59, ii x59_2), (85, s0 2 3), (86, ii 3), (87, ii 0)]) (h' := [(3, rc encP lh2_2 0 55 2), (2, .cells [ii x59_2, ii x12_3, ii x59_2, ii x13_4, ii x12_3, ii x13_4] 0 55 2), (1, rc (encI .i64) lh1_2 0 3 1), (0, .cells [ii xh0_0_2, s0 3 lh2_2.length] 0 34 0)]) (c' := 4) [0, 1, 3, 2] (by decide) rfl ⟨by kernel_rfl, by kernel_rfl, by kernel_rfl, by kernel_rfl, by kernel_rfl, by kernel_rfl, by kernel_rfl, by kernel_rfl, by kernel_rfl, by kernel_rfl, by kernel_rfl, by kernel_rfl, by kernel_rfl, by kernel_rfl, by kernel_rfl, trivial⟩ ⟨⟨_, _, rfl, rfl, .inl ⟨rfl, rowC_scal encP_ok _⟩⟩, ⟨_, _, rfl, rfl, .inr ⟨_, _, _, _, rfl, rfl⟩⟩, ⟨_, _, rfl, rfl, .inl ⟨rfl, rowC_scal (encI_ok .i64) _⟩⟩, ⟨_, _, rfl, rfl, .inr ⟨_, _, _, _, rfl, rfl⟩⟩, trivial⟩ rfl ?_
   refine XL.conv (σ' := [(3, pp 0 0), (4, ii x4_2), (5, ii x5_2), (6, ii x6_2), (7, s0 1 lh1_2.length), (10, ii x10_4), (11, ii x59_2), (12, ii x12_3), (13, ii x13_4), (14, ii 0), (58, ii x58_2), (59, ii x59_2), (85, s0 2 3), (86, ii 3), (87, ii 0)]) (h' := [(3, rc encP lh2_2 0 55 2), (2, rc encP [(x59_2, x12_3), (x59_2, x13_4), (x12_3, x13_4)] 0 55 2), (1, rc (encI .i64) lh1_2 0 3 1), (0, .cells [ii xh0_0_2, s0 3 lh2_2.length] 0 34 0)]) (c' := 4) ?_ (by kernel_rfl)
   refine XL.conv (f8_5_ok m m x4_2 x5_2 x6_2 x58_2 x59_2 xh0_0_2 lh1_2 lh2_2 x12_3 x10_4 x13_4 0 0 [(x59_2, x12_3), (x59_2, x13_4), (x12_3, x13_4)] o5 o5_h _ ?_) (by first | rfl | simp)
   show XQ _ _ _ _ _ _ _ _
   refine XQ.seq E0_ok (by kernel_rfl) ?_
   refine XQ.region (by kernel_rfl) ?_
   refine XR.runS E0_ok 1 3 [(3, pp 0 0), (4, ii x4_2), (5, ii x5_2), (6, ii x6_2), (7, s0 1 lh1_2.length), (10, ii x10_4), (11, ii x59_2), (12, ii x12_3), (13, ii x13_4), (58, ii x58_2), (59, ii x59_2), (100, .bool ((Int.tmod o5 3) == 0))] rfl (by kernel_rfl) ?_
   refine XR.done (by kernel_rfl) ?_
   show XQ _ _ _ _ _ _ _ _
   refine XQ.meetC (σ' := [(3, pp 0 0), (4, ii x4_2), (5, ii x5_2), (6, ii x6_2), (7, s0 1 lh1_2.length), (10, ii (cond ((Int.tmod o5 3) == 0) (w64 (x10_4 + 1)) x10_4)), (11, ii x59_2), (12, ii x12_3), (13, ii x13_4), (58, ii x58_2), (59, ii x59_2)]) (h' := [(2, rc encP lh2_2 0 55 2), (1, rc (encI .i64) lh1_2 0 3 1), (0, .cells [ii xh0_0_2, s0 2 lh2_2.length] 0 34 0)]) (c' := 3) ?_ ?_
   rotate_left
   ·refine XQ.cond (s := (.tmp 100)) (b := (Int.tmod o5 3) == 0) (by kernel_rfl) (by kernel_rfl) (fun b3 => ?_) (fun b3 => ?_)
    ·refine XQ.region (by kernel_rfl) ?_
     refine XR.runS E0_ok 1 3 [(3, pp 0 0), (4, ii x4_2), (5, ii x5_2), (6, ii x6_2), (7, s0 1 lh1_2.length), (10, ii (w64 (x10_4 + 1))), (11, ii x59_2), (12, ii x12_3), (13, ii x13_4), (58, ii x58_2), (59, ii x59_2)] rfl (by kernel_rfl) ?_
     refine XR.done (by kernel_rfl) ?_
     refine ⟨rfl, ?_, ?_⟩
     ·try rw [b3]
      exact ⟨by kernel_rfl, by kernel_rfl, by kernel_rfl, by kernel_rfl, by kernel_rfl, by kernel_rfl, by kernel_rfl, by kernel_rfl, by kernel_rfl, by kernel_rfl, by kernel_rfl, trivial⟩
     ·try rw [b3]
      kernel_rfl
    ·refine XQ.skip (by kernel_rfl) ?_
     refine ⟨rfl, ?_, ?_⟩
     ·try rw [b3]
      exact ⟨by kernel_rfl, by kernel_rfl, by kernel_rfl, by kernel_rfl, by kernel_rfl, by kernel_rfl, by kernel_rfl, by kernel_rfl, by kernel_rfl, by kernel_rfl, by kernel_rfl, trivial⟩
     ·try rw [b3]
      kernel_rfl
   show XQ _ _ _ _ _ _ _ _
   refine XQ.region (by kernel_rfl) ?_
   refine XR.runS E0_ok 1 3 [(3, pp 0 0), (4, ii x4_2), (5, ii x5_2), (6, ii x6_2), (7, s0 1 lh1_2.length), (10, ii (cond ((Int.tmod o5 3) == 0) (w64 (x10_4 + 1)) x10_4)), (11, ii x59_2), (12, ii x12_3), (13, ii (w64 (x13_4 + 1))), (58, ii x58_2), (59, ii x59_2)] rfl (by kernel_rfl) ?_
   refine XR.done (by kernel_rfl) ?_
   show XL _ _ _ _ _ _ _ _ _
   refine XL.ren (σ' := [(3, pp 0 0), (4, ii x4_2), (5, ii x5_2), (6, ii x6_2), (7, s0 1 lh1_2.length), (10, ii (cond ((Int.tmod o5 3) == 0) (w64 (x10_4 + 1)) x10_4)), (11, ii x59_2), (12, ii x12_3), (13, ii (w64 (x13_4 + 1))), (58, ii x58_2), (59, ii x59_2)]) (h' := [(2, rc encP lh2_2 0 55 2), (1, rc (encI .i64) lh1_2 0 3 1), (0, .cells [ii xh0_0_2, s0 2 lh2_2.length] 0 34 0)]) (c' := 3) [0, 1, 2] (by decide) rfl ⟨by kernel_rfl, by kernel_rfl, by kernel_rfl, by kernel_rfl, by kernel_rfl, by kernel_rfl, by kernel_rfl, by kernel_rfl, by kernel_rfl, by kernel_rfl, by kernel_rfl, trivial⟩ ⟨⟨_, _, rfl, rfl, .inl ⟨rfl, rowC_scal encP_ok _⟩⟩, ⟨_, _, rfl, rfl, .inl ⟨rfl, rowC_scal (encI_ok .i64) _⟩⟩, ⟨_, _, rfl, rfl, .inr ⟨_, _, _, _, rfl, rfl⟩⟩, trivial⟩ rfl ?_
   refine XL.conv (f8_4_ok m fuel x4_2 x5_2 x6_2 x58_2 x59_2 xh0_0_2 lh1_2 lh2_2 x12_3 (cond ((Int.tmod o5 3) == 0) (w64 (x10_4 + 1)) x10_4) (w64 (x13_4 + 1)) o h Q hQ) (by first | rfl | simp)
  | false =>
   have h := cF b1 h
   refine XQ.cond (s := (.tmp 73)) (b := false) (by kernel_rfl) (by kernel_rfl) (fun q => by cases q) (fun _ => ?_)
   refine XQ.ren (σ' := [(3, pp 0 0), (4, ii x4_2), (5, ii x5_2), (6, ii x6_2), (7, s0 1 lh1_2.length), (10, ii x10_4), (11, ii x59_2), (12, ii x12_3), (58, ii x58_2), (59, ii x59_2)]) (h' := [(2, rc encP lh2_2 0 55 2), (1, rc (encI .i64) lh1_2 0 3 1), (0, .cells [ii xh0_0_2, s0 2 lh2_2.length] 0 34 0)]) (c' := 3) [0, 1, 2] (by decide) rfl ⟨by kernel_rfl, by kernel_rfl, by kernel_rfl, by kernel_rfl, by kernel_rfl, by kernel_rfl, by kernel_rfl, by kernel_rfl, by kernel_rfl, by kernel_rfl, trivial⟩ ⟨⟨_, _, rfl, rfl, .inl ⟨rfl, rowC_scal encP_ok _⟩⟩, ⟨_, _, rfl, rfl, .inl ⟨rfl, rowC_scal (encI_ok .i64) _⟩⟩, ⟨_, _, rfl, rfl, .inr ⟨_, _, _, _, rfl, rfl⟩⟩, trivial⟩ rfl ?_
   refine XQ.exit (i := 6) (by kernel_rfl) ?_
   cases h
   exact hQ

def f8_3 (m : Nat) : Nat → Int → Int → Int → Int → Int → Int → List Int → List (Int × Int) → Int → Int → Option Int
 | 0, _, _, _, _, _, _, _, _, _, _ => none
 | fuel + 1, x4_2, x5_2, x6_2, x58_2, x59_2, xh0_0_2, lh1_2, lh2_2, x10_3, x12_3 =>
  cond (decide (x12_3 < x4_2)) (
   (f8_4 m m x4_2 x5_2 x6_2 x58_2 x59_2 xh0_0_2 lh1_2 lh2_2 x12_3 x10_3 (w64 (x12_3 + 1))).bind fun o4 =>
    f8_3 m fuel x4_2 x5_2 x6_2 x58_2 x59_2 xh0_0_2 lh1_2 lh2_2 o4 (w64 (x12_3 + 1))
  ) (
   some (x10_3)
  )

theorem f8_3_ok (m : Nat) : ∀ (fuel : Nat) (x4_2 : Int) (x5_2 : Int) (x6_2 : Int) (x58_2 : Int) (x59_2 : Int) (xh0_0_2 : Int) (lh1_2 : List Int) (lh2_2 : List (Int × Int)) (x10_3 : Int) (x12_3 : Int) (o : Int), f8_3 m fuel x4_2 x5_2 x6_2 x58_2 x59_2 xh0_0_2 lh1_2 lh2_2 x10_3 x12_3 = some o → ∀ Q : QP, Q (.exit 4) [(3, pp 0 0), (4, ii x4_2), (5, ii x5_2), (6, ii x6_2), (7, s0 1 lh1_2.length), (10, ii o), (58, ii x58_2), (59, ii x59_2)] [(2, rc encP lh2_2 0 55 2), (1, rc (encI .i64) lh1_2 0 3 1), (0, .cells [ii xh0_0_2, s0 2 lh2_2.length] 0 34 0)] 3 → XL E0 234 0 fuel f8_L3 [(3, pp 0 0), (4, ii x4_2), (5, ii x5_2), (6, ii x6_2), (7, s0 1 lh1_2.length), (10, ii x10_3), (11, ii x59_2), (12, ii x12_3), (58, ii x58_2), (59, ii x59_2)] [(2, rc encP lh2_2 0 55 2), (1, rc (encI .i64) lh1_2 0 3 1), (0, .cells [ii xh0_0_2, s0 2 lh2_2.length] 0 34 0)] 3 Q
 | 0, x4_2, x5_2, x6_2, x58_2, x59_2, xh0_0_2, lh1_2, lh2_2, x10_3, x12_3, o, h, Q, hQ => by cases h
 | fuel + 1, x4_2, x5_2, x6_2, x58_2, x59_2, xh0_0_2, lh1_2, lh2_2, x10_3, x12_3, o, h, Q, hQ => by
  unfold f8_3 at h
  refine XL.succ E0_ok ?_
  refine XQ.seq E0_ok (by kernel_rfl) ?_
  refine XQ.seq E0_ok (by kernel_rfl) ?_
  refine XQ.region (by kernel_rfl) ?_
  refine XR.runS E0_ok 1 3 [(3, pp 0 0), (4, ii x4_2), (5, ii x5_2), (6, ii x6_2), (7, s0 1 lh1_2.length), (10, ii x10_3), (11, ii x59_2), (12, ii x12_3), (58, ii x58_2), (59, ii x59_2), (66, .bool (decide (x12_3 < x4_2)))] rfl (by kernel_rfl) ?_
  refine XR.done (by kernel_rfl) ?_
  show XQ _ _ _ _ _ _ _ _
  cases b1 : (decide (x12_3 < x4_2) : Bool) with
  | true =>
   have h := cT b1 h
   refine XQ.cond (s := (.tmp 66)) (b := true) (by kernel_rfl) (by kernel_rfl) (fun _ => ?_) (fun q => by cases q)
   refine XQ.skip (by kernel_rfl) ?_
   show XQ _ _ _ _ _ _ _ _
   refine XQ.seq E0_ok (by kernel_rfl) ?_
   refine XQ.block (id := 5) (by kernel_rfl) ?_
   refine XQ.seq E0_ok (by kernel_rfl) ?_
   refine XQ.region (by kernel_rfl) ?_
   refine XR.runS E0_ok 1 3 [(3, pp 0 0), (4, ii x4_2), (5, ii x5_2), (6, ii x6_2), (7, s0 1 lh1_2.length), (10, ii x10_3), (11, ii x59_2), (12, ii x12_3), (13, ii (w64 (x12_3 + 1))), (58, ii x58_2), (59, ii x59_2)] rfl (by kernel_rfl) ?_
   refine XR.done (by kernel_rfl) ?_
   show XQ _ _ _ _ _ _ _ _
   refine XQ.block (id := 6) (by kernel_rfl) ?_
   refine XQ.loop m (by kernel_rfl) ?_
   obtain ⟨o4, o4_h, h⟩ := bS h
   refine XL.ren (σ' := [(3, pp 0 0), (4, ii x4_2), (5, ii x5_2), (6, ii x6_2), (7, s0 1 lh1_2.length), (10, ii x10_3), (11, ii x59_2), (12, ii x12_3), (13, ii (w64 (x12_3 + 1))), (58, ii x58_2), (59, ii x59_2)]) (h' := [(2, rc encP lh2_2 0 55 2), (1, rc (encI .i64) lh1_2 0 3 1), (0, .cells [ii xh0_0_2, s0 2 lh2_2.length] 0 34 0)]) (c' := 3) [0, 1, 2] (by decide) rfl ⟨by kernel_rfl, by kernel_rfl, by kernel_rfl, by kernel_rfl, by kernel_rfl, by kernel_rfl, by kernel_rfl, by kernel_rfl, by kernel_rfl, by kernel_rfl, by kernel_rfl, trivial⟩ ⟨⟨_, _, rfl, rfl, .inl ⟨rfl, rowC_scal encP_ok _⟩⟩, ⟨_, _, rfl, rfl, .inl ⟨rfl, rowC_scal (encI_ok .i64) _⟩⟩, ⟨_, _, rfl, rfl, .inr ⟨_, _, _, _, rfl, rfl⟩⟩, trivial⟩ rfl ?_
   refine XL.conv (f8_4_ok m m x4_2 x5_2 x6_2 x58_2 x59_2 xh0_0_2 lh1_2 lh2_2 x12_3 x10_3 (w64 (x12_3 + 1)) o4 o4_h _ ?_) (by first | rfl | simp)
   show XQ _ _ _ _ _ _ _ _
   refine XQ.region (by kernel_rfl) ?_
   refine XR.runS E0_ok 1 3 [(3, pp 0 0), (4, ii x4_2), (5, ii x5_2), (6, ii x6_2), (7, s0 1 lh1_2.length), (10, ii o4), (11, ii x59_2), (12, ii (w64 (x12_3 + 1))), (58, ii x58_2), (59, ii x59_2)] rfl (by kernel_rfl) ?_
   refine XR.done (by kernel_rfl) ?_
   show XL _ _ _ _ _ _ _ _ _
   refine XL.ren (σ' := [(3, pp 0 0), (4, ii x4_2), (5, ii x5_2), (6, ii x6_2), (7, s0 1 lh1_2.length), (10, ii o4), (11, ii x59_2), (12, ii (w64 (x12_3 + 1))), (58, ii x58_2), (59, ii x59_2)]) (h' := [(2, rc encP lh2_2 0 55 2), (1, rc (encI .i64) lh1_2 0 3 1), (0, .cells [ii xh0_0_2, s0 2 lh2_2.length] 0 34 0)]) (c' := 3) [0, 1, 2] (by decide) rfl ⟨by kernel_rfl, by kernel_rfl, by kernel_rfl, by kernel_rfl, by kernel_rfl, by kernel_rfl, by kernel_rfl, by kernel_rfl, by kernel_rfl, by kernel_rfl, trivial⟩ ⟨⟨_, _, rfl, rfl, .inl ⟨rfl, rowC_scal encP_ok _⟩⟩, ⟨_, _, rfl, rfl, .inl ⟨rfl, rowC_scal (encI_ok .i64) _⟩⟩, ⟨_, _, rfl, rfl, .inr ⟨_, _, _, _, rfl, rfl⟩⟩, trivial⟩ rfl ?_
   refine XL.conv (f8_3_ok m fuel x4_2 x5_2 x6_2 x58_2 x59_2 xh0_0_2 lh1_2 lh2_2 o4 (w64 (x12_3 + 1)) o h Q hQ) (by first | rfl | simp)
  | false =>
   have h := cF b1 h
   refine XQ.cond (s := (.tmp 66)) (b := false) (by kernel_rfl) (by kernel_rfl) (fun q => by cases q) (fun _ => ?_)
   refine XQ.ren (σ' := [(3, pp 0 0), (4, ii x4_2), (5, ii x5_2), (6, ii x6_2), (7, s0 1 lh1_2.length), (10, ii x10_3), (58, ii x58_2), (59, ii x59_2)]) (h' := [(2, rc encP lh2_2 0 55 2), (1, rc (encI .i64) lh1_2 0 3 1), (0, .cells [ii xh0_0_2, s0 2 lh2_2.length] 0 34 0)]) (c' := 3) [0, 1, 2] (by decide) rfl ⟨by kernel_rfl, by kernel_rfl, by kernel_rfl, by kernel_rfl, by kernel_rfl, by kernel_rfl, by kernel_rfl, by kernel_rfl, trivial⟩ ⟨⟨_, _, rfl, rfl, .inl ⟨rfl, rowC_scal encP_ok _⟩⟩, ⟨_, _, rfl, rfl, .inl ⟨rfl, rowC_scal (encI_ok .i64) _⟩⟩, ⟨_, _, rfl, rfl, .inr ⟨_, _, _, _, rfl, rfl⟩⟩, trivial⟩ rfl ?_
   refine XQ.exit (i := 4) (by kernel_rfl) ?_
   cases h
   exact hQ

def f8_2 (m : Nat) : Nat → Int → Int → Int → Int → Int → Int → Int → List Int → List (Int × Int) → Option (Int × Int × Int × Int × Int × (List Int) × (List (Int × Int)))
 | 0, _, _, _, _, _, _, _, _, _ => none
 | fuel + 1, x4_2, x5_2, x6_2, x10_2, x58_2, x59_2, xh0_0_2, lh1_2, lh2_2 =>
  cond (decide (x59_2 < x58_2)) (
   (f8_3 m m x4_2 x5_2 x6_2 x58_2 x59_2 xh0_0_2 lh1_2 lh2_2 x10_2 (w64 (x59_2 + 1))).bind fun o3 =>
    f8_2 m fuel x4_2 x5_2 x6_2 o3 x58_2 (w64 (x59_2 + 1)) xh0_0_2 lh1_2 lh2_2
  ) (
   some (x4_2, x5_2, x6_2, x10_2, xh0_0_2, lh1_2, lh2_2)
  )

theorem f8_2_ok (m : Nat) : ∀ (fuel : Nat) (x4_2 : Int) (x5_2 : Int) (x6_2 : Int) (x10_2 : Int) (x58_2 : Int) (x59_2 : Int) (xh0_0_2 : Int) (lh1_2 : List Int) (lh2_2 : List (Int × Int)) (o : (Int × Int × Int × Int × Int × (List Int) × (List (Int × Int)))), f8_2 m fuel x4_2 x5_2 x6_2 x10_2 x58_2 x59_2 xh0_0_2 lh1_2 lh2_2 = some o → ∀ Q : QP, Q (.exit 2) [(3, pp 0 0), (4, ii o.1), (5, ii o.2.1), (6, ii o.2.2.1), (7, s0 1 o.2.2.2.2.2.1.length), (10, ii o.2.2.2.1)] [(2, rc encP o.2.2.2.2.2.2 0 55 2), (1, rc (encI .i64) o.2.2.2.2.2.1 0 3 1), (0, .cells [ii o.2.2.2.2.1, s0 2 o.2.2.2.2.2.2.length] 0 34 0)] 3 → XL E0 234 0 fuel f8_L2 [(3, pp 0 0), (4, ii x4_2), (5, ii x5_2), (6, ii x6_2), (7, s0 1 lh1_2.length), (10, ii x10_2), (58, ii x58_2), (59, ii x59_2)] [(2, rc encP lh2_2 0 55 2), (1, rc (encI .i64) lh1_2 0 3 1), (0, .cells [ii xh0_0_2, s0 2 lh2_2.length] 0 34 0)] 3 Q
 | 0, x4_2, x5_2, x6_2, x10_2, x58_2, x59_2, xh0_0_2, lh1_2, lh2_2, o, h, Q, hQ => by cases h
 | fuel + 1, x4_2, x5_2, x6_2, x10_2, x58_2, x59_2, xh0_0_2, lh1_2, lh2_2, o, h, Q, hQ => by
  unfold f8_2 at h
  refine XL.succ E0_ok ?_
  refine XQ.seq E0_ok (by kernel_rfl) ?_
  refine XQ.region (by kernel_rfl) ?_
  refine XR.runS E0_ok 1 1 [(3, pp 0 0), (4, ii x4_2), (5, ii x5_2), (6, ii x6_2), (7, s0 1 lh1_2.length), (10, ii x10_2), (58, ii x58_2), (59, ii x59_2), (60, .bool (decide (x59_2 < x58_2)))] rfl (by kernel_rfl) ?_
  refine XR.done (by kernel_rfl) ?_
  show XQ _ _ _ _ _ _ _ _
  refine XQ.seq E0_ok (by kernel_rfl) ?_
  cases b1 : (decide (x59_2 < x58_2) : Bool) with
  | true =>
   have h := cT b1 h
   refine XQ.cond (s := (.tmp 60)) (b := true) (by kernel_rfl) (by kernel_rfl) (fun _ => ?_) (fun q => by cases q)
   refine XQ.skip (by kernel_rfl) ?_
   show XQ _ _ _ _ _ _ _ _
   refine XQ.seq E0_ok (by kernel_rfl) ?_
   refine XQ.block (id := 3) (by kernel_rfl) ?_
   refine XQ.seq E0_ok (by kernel_rfl) ?_
   refine XQ.region (by kernel_rfl) ?_
   refine XR.runS E0_ok 1 2 [(3, pp 0 0), (4, ii x4_2), (5, ii x5_2), (6, ii x6_2), (7, s0 1 lh1_2.length), (10, ii x10_2), (11, ii x59_2), (58, ii x58_2), (59, ii x59_2)] rfl (by kernel_rfl) ?_
   refine XR.done (by kernel_rfl) ?_
   show XQ _ _ _ _ _ _ _ _
   refine XQ.seq E0_ok (by kernel_rfl) ?_
   refine XQ.region (by kernel_rfl) ?_
   refine XR.runS E0_ok 1 3 [(3, pp 0 0), (4, ii x4_2), (5, ii x5_2), (6, ii x6_2), (7, s0 1 lh1_2.length), (10, ii x10_2), (11, ii x59_2), (12, ii (w64 (x59_2 + 1))), (58, ii x58_2), (59, ii x59_2)] rfl (by kernel_rfl) ?_
   refine XR.done (by kernel_rfl) ?_
   show XQ _ _ _ _ _ _ _ _
   refine XQ.block (id := 4) (by kernel_rfl) ?_
   refine XQ.loop m (by kernel_rfl) ?_
   obtain ⟨o3, o3_h, h⟩ := bS h
   refine XL.ren (σ' := [(3, pp 0 0), (4, ii x4_2), (5, ii x5_2), (6, ii x6_2), (7, s0 1 lh1_2.length), (10, ii x10_2), (11, ii x59_2), (12, ii (w64 (x59_2 + 1))), (58, ii x58_2), (59, ii x59_2)]) (h' := [(2, rc encP lh2_2 0 55 2), (1, rc (encI .i64) lh1_2 0 3 1), (0, .cells [ii xh0_0_2, s0 2 lh2_2.length] 0 34 0)]) (c' := 3) [0, 1, 2] (by decide) rfl ⟨by kernel_rfl, by kernel_rfl, by kernel_rfl, by kernel_rfl, by kernel_rfl, by kernel_rfl, by kernel_rfl, by kernel_rfl, by kernel_rfl, by kernel_rfl, trivial⟩ ⟨⟨_, _, rfl, rfl, .inl ⟨rfl, rowC_scal encP_ok _⟩⟩, ⟨_, _, rfl, rfl, .inl ⟨rfl, rowC_scal (encI_ok .i64) _⟩⟩, ⟨_, _, rfl, rfl, .inr ⟨_, _, _, _, rfl, rfl⟩⟩, trivial⟩ rfl ?_
   refine XL.conv (f8_3_ok m m x4_2 x5_2 x6_2 x58_2 x59_2 xh0_0_2 lh1_2 lh2_2 x10_2 (w64 (x59_2 + 1)) o3 o3_h _ ?_) (by first | rfl | simp)
   show XQ _ _ _ _ _ _ _ _
   refine XQ.region (by kernel_rfl) ?_
   refine XR.runS E0_ok 1 2 [(3, pp 0 0), (4, ii x4_2), (5, ii x5_2), (6, ii x6_2), (7, s0 1 lh1_2.length), (10, ii o3), (58, ii x58_2), (59, ii (w64 (x59_2 + 1)))] rfl (by kernel_rfl) ?_
   refine XR.done (by kernel_rfl) ?_
   show XL _ _ _ _ _ _ _ _ _
   refine XL.ren (σ' := [(3, pp 0 0), (4, ii x4_2), (5, ii x5_2), (6, ii x6_2), (7, s0 1 lh1_2.length), (10, ii o3), (58, ii x58_2), (59, ii (w64 (x59_2 + 1)))]) (h' := [(2, rc encP lh2_2 0 55 2), (1, rc (encI .i64) lh1_2 0 3 1), (0, .cells [ii xh0_0_2, s0 2 lh2_2.length] 0 34 0)]) (c' := 3) [0, 1, 2] (by decide) rfl ⟨by kernel_rfl, by kernel_rfl, by kernel_rfl, by kernel_rfl, by kernel_rfl, by kernel_rfl, by kernel_rfl, by kernel_rfl, trivial⟩ ⟨⟨_, _, rfl, rfl, .inl ⟨rfl, rowC_scal encP_ok _⟩⟩, ⟨_, _, rfl, rfl, .inl ⟨rfl, rowC_scal (encI_ok .i64) _⟩⟩, ⟨_, _, rfl, rfl, .inr ⟨_, _, _, _, rfl, rfl⟩⟩, trivial⟩ rfl ?_
   refine XL.conv (f8_2_ok m fuel x4_2 x5_2 x6_2 o3 x58_2 (w64 (x59_2 + 1)) xh0_0_2 lh1_2 lh2_2 o h Q hQ) (by first | rfl | simp)
  | false =>
   have h := cF b1 h
   refine XQ.cond (s := (.tmp 60)) (b := false) (by kernel_rfl) (by kernel_rfl) (fun q => by cases q) (fun _ => ?_)
   refine XQ.ren (σ' := [(3, pp 0 0), (4, ii x4_2), (5, ii x5_2), (6, ii x6_2), (7, s0 1 lh1_2.length), (10, ii x10_2)]) (h' := [(2, rc encP lh2_2 0 55 2), (1, rc (encI .i64) lh1_2 0 3 1), (0, .cells [ii xh0_0_2, s0 2 lh2_2.length] 0 34 0)]) (c' := 3) [0, 1, 2] (by decide) rfl ⟨by kernel_rfl, by kernel_rfl, by kernel_rfl, by kernel_rfl, by kernel_rfl, by kernel_rfl, trivial⟩ ⟨⟨_, _, rfl, rfl, .inl ⟨rfl, rowC_scal encP_ok _⟩⟩, ⟨_, _, rfl, rfl, .inl ⟨rfl, rowC_scal (encI_ok .i64) _⟩⟩, ⟨_, _, rfl, rfl, .inr ⟨_, _, _, _, rfl, rfl⟩⟩, trivial⟩ rfl ?_
   refine XQ.exit (i := 2) (by kernel_rfl) ?_
   cases h
   exact hQ

inductive Of8_6 where
 | r
 | x10 (x4_x106 : Int) (x17_x106 : Int) (xh0_0_x106 : Int) (lh1_x106 : List Int) (xh2_0_x106 : Int) (lh3_x106 : List (Int × Int)) (lh4_x106 : List (Int × Int))

def f8_6 (m : Nat) : Nat → Int → Int → Int → Int → Int → List Int → Int → List (Int × Int) → List (Int × Int) → Option Of8_6
 | 0, _, _, _, _, _, _, _, _, _ => none
 | fuel + 1, x4_6, x17_6, x156_6, x157_6, xh0_0_6, lh1_6, xh2_0_6, lh3_6, lh4_6 =>
  cond (decide (x157_6 < x156_6)) (
   cond (inRow x157_6 lh3_6.length) (
    (f38 m lh4_6 ((List.getD lh3_6 (Int.toNat x157_6) (0, 0)).1) ((List.getD lh3_6 (Int.toNat x157_6) (0, 0)).2)).bind fun r115 =>
     cond (r115) (
      some (.r)
     ) (
      f8_6 m fuel x4_6 x17_6 x156_6 (w64 (x157_6 + 1)) xh0_0_6 lh1_6 xh2_0_6 lh3_6 lh4_6
     )
   ) none
  ) (
   some (.x10 x4_6 x17_6 xh0_0_6 lh1_6 xh2_0_6 lh4_6 lh3_6)
  )

theorem f8_6_ok (m : Nat) : ∀ (fuel : Nat) (x4_6 : Int) (x17_6 : Int) (x156_6 : Int) (x157_6 : Int) (xh0_0_6 : Int) (lh1_6 : List Int) (xh2_0_6 : Int) (lh3_6 : List (Int × Int)) (lh4_6 : List (Int × Int)) (o : Of8_6), f8_6 m fuel x4_6 x17_6 x156_6 x157_6 xh0_0_6 lh1_6 xh2_0_6 lh3_6 lh4_6 = some o → ∀ Q : QP, (match o with | .r => Q .ret [(2, .bool false)] [] 0 | .x10 x4_x106 x17_x106 xh0_0_x106 lh1_x106 xh2_0_x106 lh3_x106 lh4_x106 => Q (.exit 10) [(3, pp 0 0), (4, ii x4_x106), (7, s0 1 lh1_x106.length), (17, ii x17_x106), (19, pp 2 0)] [(4, rc encP lh4_x106 0 55 2), (3, rc encP lh3_x106 0 55 2), (2, .cells [ii xh2_0_x106, s0 4 lh4_x106.length] 0 34 0), (1, rc (encI .i64) lh1_x106 0 3 1), (0, .cells [ii xh0_0_x106, s0 3 lh3_x106.length] 0 34 0)] 5) → XL E0 234 0 fuel f8_L6 [(3, pp 0 0), (4, ii x4_6), (7, s0 1 lh1_6.length), (17, ii x17_6), (19, pp 2 0), (155, s0 3 lh3_6.length), (156, ii x156_6), (157, ii x157_6)] [(4, rc encP lh4_6 0 55 2), (3, rc encP lh3_6 0 55 2), (2, .cells [ii xh2_0_6, s0 3 lh3_6.length] 0 34 0), (1, rc (encI .i64) lh1_6 0 3 1), (0, .cells [ii xh0_0_6, s0 4 lh4_6.length] 0 34 0)] 5 Q
 | 0, x4_6, x17_6, x156_6, x157_6, xh0_0_6, lh1_6, xh2_0_6, lh3_6, lh4_6, o, h, Q, hQ => by cases h
 | fuel + 1, x4_6, x17_6, x156_6, x157_6, xh0_0_6, lh1_6, xh2_0_6, lh3_6, lh4_6, o, h, Q, hQ => by
  unfold f8_6 at h
  refine XL.succ E0_ok ?_
  refine XQ.seq E0_ok (by kernel_rfl) ?_
  refine XQ.region (by kernel_rfl) ?_
  refine XR.runS E0_ok 1 1 [(3, pp 0 0), (4, ii x4_6), (7, s0 1 lh1_6.length), (17, ii x17_6), (19, pp 2 0), (155, s0 3 lh3_6.length), (156, ii x156_6), (157, ii x157_6), (158, .bool (decide (x157_6 < x156_6)))] rfl (by kernel_rfl) ?_
  refine XR.done (by kernel_rfl) ?_
  show XQ _ _ _ _ _ _ _ _
  refine XQ.seq E0_ok (by kernel_rfl) ?_
  cases b1 : (decide (x157_6 < x156_6) : Bool) with
  | true =>
   have h := cT b1 h
   refine XQ.cond (s := (.tmp 158)) (b := true) (by kernel_rfl) (by kernel_rfl) (fun _ => ?_) (fun q => by cases q)
   refine XQ.skip (by kernel_rfl) ?_
   show XQ _ _ _ _ _ _ _ _
   refine XQ.seq E0_ok (by kernel_rfl) ?_
   refine XQ.block (id := 11) (by kernel_rfl) ?_
   refine XQ.seq E0_ok (by kernel_rfl) ?_
   refine XQ.region (by kernel_rfl) ?_
   cases b2 : (inRow x157_6 lh3_6.length : Bool) with
   | false => cases (cF b2 h)
   | true =>
    have h := cT b2 h
    refine XR.rd E0_ok [3, 4, 7, 17, 19, 155, 156, 157, 159] rfl (v := pp 3 ((Int.toNat x157_6) * 2)) (v_idx (s := 2) (x := (src 234 (.tmp 155))) (y := (src 234 (.tmp 157))) (b := 3) (o := 0) (len := lh3_6.length) (cap := lh3_6.length) (ik := .i64) (i := x157_6) (off := (Int.toNat x157_6) * 2) (d := (some (path 12 159))) (by kernel_rfl) (by kernel_rfl) (by kernel_rfl) b2 (by omega)) (σ' := [(3, pp 0 0), (4, ii x4_6), (7, s0 1 lh1_6.length), (17, ii x17_6), (19, pp 2 0), (155, s0 3 lh3_6.length), (156, ii x156_6), (157, ii x157_6), (159, pp 3 ((Int.toNat x157_6) * 2))]) (by kernel_rfl) ?_
    refine XR.rd E0_ok [3, 4, 7, 17, 19, 155, 156, 157, 160] rfl (v := .agg #[ii ((List.getD lh3_6 (Int.toNat x157_6) (0, 0)).1), ii ((List.getD lh3_6 (Int.toNat x157_6) (0, 0)).2)]) (v_loadN encP_ok (x := (src 234 (.tmp 159))) (b := 3) (off := (Int.toNat x157_6) * 2) (xs := lh3_6) (fz := 0) (e := 55) (es := 2) (d := (some (path 12 160))) (by kernel_rfl) (by kernel_rfl) (by kernel_rfl) (Int.toNat x157_6) (0, 0) (by first | rfl | omega) (row_len (inRow_toNat b2) (by simp)) rfl) (σ' := [(3, pp 0 0), (4, ii x4_6), (7, s0 1 lh1_6.length), (17, ii x17_6), (19, pp 2 0), (155, s0 3 lh3_6.length), (156, ii x156_6), (157, ii x157_6), (160, .agg #[ii ((List.getD lh3_6 (Int.toNat x157_6) (0, 0)).1), ii ((List.getD lh3_6 (Int.toNat x157_6) (0, 0)).2)])]) (by kernel_rfl) ?_
    refine XR.runT E0_ok 1 2 [(3, pp 0 0), (4, ii x4_6), (7, s0 1 lh1_6.length), (17, ii x17_6), (19, pp 2 0), (22, pp 5 0), (155, s0 3 lh3_6.length), (156, ii x156_6), (157, ii x157_6)] [(5, .cells [ii ((List.getD lh3_6 (Int.toNat x157_6) (0, 0)).1), ii ((List.getD lh3_6 (Int.toNat x157_6) (0, 0)).2)] 0 55 0), (4, rc encP lh4_6 0 55 2), (3, rc encP lh3_6 0 55 2), (2, .cells [ii xh2_0_6, s0 3 lh3_6.length] 0 34 0), (1, rc (encI .i64) lh1_6 0 3 1), (0, .cells [ii xh0_0_6, s0 4 lh4_6.length] 0 34 0)] 6 rfl (by kernel_rfl) ?_
    refine XR.done (by kernel_rfl) ?_
    show XQ _ _ _ _ _ _ _ _
    refine XQ.seq E0_ok (by kernel_rfl) ?_
    refine XQ.region (by kernel_rfl) ?_
    refine XR.runS E0_ok 1 3 [(3, pp 0 0), (4, ii x4_6), (7, s0 1 lh1_6.length), (17, ii x17_6), (19, pp 2 0), (155, s0 3 lh3_6.length), (156, ii x156_6), (157, ii x157_6), (162, s0 4 lh4_6.length), (163, .agg #[ii ((List.getD lh3_6 (Int.toNat x157_6) (0, 0)).1), ii ((List.getD lh3_6 (Int.toNat x157_6) (0, 0)).2)])] rfl (by kernel_rfl) ?_
    obtain ⟨r115, r115_h, h⟩ := bS h
    refine XR.call E0_ok [3, 4, 7, 17, 19, 155, 156, 157, 164] rfl (K := 38) (args := [s0 4 lh4_6.length, .agg #[ii ((List.getD lh3_6 (Int.toNat x157_6) (0, 0)).1), ii ((List.getD lh3_6 (Int.toNat x157_6) (0, 0)).2)]]) (d := (some (path 12 164))) (by kernel_rfl) (KQ.call (KC.quiet E0_ok (args0 := [s0 0 lh4_6.length, .agg #[ii ((List.getD lh3_6 (Int.toNat x157_6) (0, 0)).1), ii ((List.getD lh3_6 (Int.toNat x157_6) (0, 0)).2)]]) (h0 := [(0, rc encP lh4_6 (0 + ((rowC encP lh4_6).length + 1)) 55 2)]) (n := 1) (V := .bool r115) [4] (f38_ok m (0 + ((rowC encP lh4_6).length + 1)) 55 lh4_6 ((List.getD lh3_6 (Int.toNat x157_6) (0, 0)).1) ((List.getD lh3_6 (Int.toNat x157_6) (0, 0)).2) r115 r115_h) rfl (by rfl) (by decide) rfl (by kernel_rfl) ⟨⟨_, _, rfl, rfl, .inl ⟨rfl, rowC_scal encP_ok _⟩⟩, trivial⟩) rfl) ?_
    rintro _ _ _ ⟨rfl, rfl, rfl⟩
    refine XR.conv (σ' := [(3, pp 0 0), (4, ii x4_6), (7, s0 1 lh1_6.length), (17, ii x17_6), (19, pp 2 0), (155, s0 3 lh3_6.length), (156, ii x156_6), (157, ii x157_6), (164, .bool r115)]) (h' := [(5, .cells [ii ((List.getD lh3_6 (Int.toNat x157_6) (0, 0)).1), ii ((List.getD lh3_6 (Int.toNat x157_6) (0, 0)).2)] 0 55 0), (4, rc encP lh4_6 0 55 2), (3, rc encP lh3_6 0 55 2), (2, .cells [ii xh2_0_6, s0 3 lh3_6.length] 0 34 0), (1, rc (encI .i64) lh1_6 0 3 1), (0, .cells [ii xh0_0_6, s0 4 lh4_6.length] 0 34 0)]) (c' := 6) ?_ (by kernel_rfl)
    refine XR.done (by kernel_rfl) ?_
    show XQ _ _ _ _ _ _ _ _
    cases b3 : (r115 : Bool) with
    | true =>
     have h := cT b3 h
     refine XQ.cond (s := (.tmp 164)) (b := true) (by kernel_rfl) (by kernel_rfl) (fun _ => ?_) (fun q => by cases q)
     refine XQ.seq E0_ok (by kernel_rfl) ?_
     refine XQ.region (by kernel_rfl) ?_
     refine XR.runS E0_ok 1 1 [(2, .bool false)] rfl (by kernel_rfl) ?_
     refine XR.done (by kernel_rfl) ?_
     show XQ _ _ _ _ _ _ _ _
     refine XQ.ren (σ' := [(2, .bool false)]) (h' := []) (c' := 0) [] (by decide) rfl ⟨by kernel_rfl, trivial⟩ trivial rfl ?_
     refine XQ.ret (by kernel_rfl) ?_
     cases h
     exact hQ
    | false =>
     have h := cF b3 h
     refine XQ.cond (s := (.tmp 164)) (b := false) (by kernel_rfl) (by kernel_rfl) (fun q => by cases q) (fun _ => ?_)
     refine XQ.skip (by kernel_rfl) ?_
     show XQ _ _ _ _ _ _ _ _
     refine XQ.region (by kernel_rfl) ?_
     refine XR.runS E0_ok 1 2 [(3, pp 0 0), (4, ii x4_6), (7, s0 1 lh1_6.length), (17, ii x17_6), (19, pp 2 0), (155, s0 3 lh3_6.length), (156, ii x156_6), (157, ii (w64 (x157_6 + 1)))] rfl (by kernel_rfl) ?_
     refine XR.done (by kernel_rfl) ?_
     show XL _ _ _ _ _ _ _ _ _
     refine XL.ren (σ' := [(3, pp 0 0), (4, ii x4_6), (7, s0 1 lh1_6.length), (17, ii x17_6), (19, pp 2 0), (155, s0 3 lh3_6.length), (156, ii x156_6), (157, ii (w64 (x157_6 + 1)))]) (h' := [(4, rc encP lh4_6 0 55 2), (3, rc encP lh3_6 0 55 2), (2, .cells [ii xh2_0_6, s0 3 lh3_6.length] 0 34 0), (1, rc (encI .i64) lh1_6 0 3 1), (0, .cells [ii xh0_0_6, s0 4 lh4_6.length] 0 34 0)]) (c' := 5) [0, 1, 2, 3, 4] (by decide) rfl ⟨by kernel_rfl, by kernel_rfl, by kernel_rfl, by kernel_rfl, by kernel_rfl, by kernel_rfl, by kernel_rfl, by kernel_rfl, trivial⟩ ⟨⟨_, _, rfl, rfl, .inl ⟨rfl, rowC_scal encP_ok _⟩⟩, ⟨_, _, rfl, rfl, .inl ⟨rfl, rowC_scal encP_ok _⟩⟩, ⟨_, _, rfl, rfl, .inr ⟨_, _, _, _, rfl, rfl⟩⟩, ⟨_, _, rfl, rfl, .inl ⟨rfl, rowC_scal (encI_ok .i64) _⟩⟩, ⟨_, _, rfl, rfl, .inr ⟨_, _, _, _, rfl, rfl⟩⟩, trivial⟩ rfl ?_
     refine XL.conv (f8_6_ok m fuel x4_6 x17_6 x156_6 (w64 (x157_6 + 1)) xh0_0_6 lh1_6 xh2_0_6 lh3_6 lh4_6 o h Q hQ) (by first | rfl | simp)
  | false =>
   have h := cF b1 h
   refine XQ.cond (s := (.tmp 158)) (b := false) (by kernel_rfl) (by kernel_rfl) (fun q => by cases q) (fun _ => ?_)
   refine XQ.ren (σ' := [(3, pp 0 0), (4, ii x4_6), (7, s0 1 lh1_6.length), (17, ii x17_6), (19, pp 2 0)]) (h' := [(4, rc encP lh3_6 0 55 2), (3, rc encP lh4_6 0 55 2), (2, .cells [ii xh2_0_6, s0 4 lh3_6.length] 0 34 0), (1, rc (encI .i64) lh1_6 0 3 1), (0, .cells [ii xh0_0_6, s0 3 lh4_6.length] 0 34 0)]) (c' := 5) [0, 1, 2, 4, 3] (by decide) rfl ⟨by kernel_rfl, by kernel_rfl, by kernel_rfl, by kernel_rfl, by kernel_rfl, trivial⟩ ⟨⟨_, _, rfl, rfl, .inl ⟨rfl, rowC_scal encP_ok _⟩⟩, ⟨_, _, rfl, rfl, .inl ⟨rfl, rowC_scal encP_ok _⟩⟩, ⟨_, _, rfl, rfl, .inr ⟨_, _, _, _, rfl, rfl⟩⟩, ⟨_, _, rfl, rfl, .inl ⟨rfl, rowC_scal (encI_ok .i64) _⟩⟩, ⟨_, _, rfl, rfl, .inr ⟨_, _, _, _, rfl, rfl⟩⟩, trivial⟩ rfl ?_
   refine XQ.exit (i := 10) (by kernel_rfl) ?_
   cases h
   exact hQ

inductive Of8_7 where
 | r
 | x12

def f8_7 (m : Nat) : Nat → Int → List Int → Int → Int → List Int → Option Of8_7
 | 0, _, _, _, _, _ => none
 | fuel + 1, x4_x106, lh1_x106, x217_7, x218_7, lh1_7 =>
  cond (decide (x218_7 < x217_7)) (
   cond (inRow x218_7 lh1_7.length) (
    cond (inRow x218_7 lh1_x106.length) (
     cond ((List.getD lh1_7 (Int.toNat x218_7) 0) != (w64 ((w64 (x4_x106 - 1)) - (List.getD lh1_x106 (Int.toNat x218_7) 0)))) (
      some (.r)
     ) (
      f8_7 m fuel x4_x106 lh1_x106 x217_7 (w64 (x218_7 + 1)) lh1_7
     )
    ) none
   ) none
  ) (
   some (.x12)
  )

theorem f8_7_ok (m : Nat) : ∀ (fuel : Nat) (x4_x106 : Int) (lh1_x106 : List Int) (x217_7 : Int) (x218_7 : Int) (lh1_7 : List Int) (o : Of8_7), f8_7 m fuel x4_x106 lh1_x106 x217_7 x218_7 lh1_7 = some o → ∀ Q : QP, (match o with | .r => Q .ret [(2, .bool false)] [] 0 | .x12 => Q (.exit 12) [] [] 0) → XL E0 234 0 fuel f8_L7 [(4, ii x4_x106), (7, s0 0 lh1_x106.length), (216, s0 1 lh1_7.length), (217, ii x217_7), (218, ii x218_7)] [(1, rc (encI .i64) lh1_7 0 3 1), (0, rc (encI .i64) lh1_x106 0 3 1)] 2 Q
 | 0, x4_x106, lh1_x106, x217_7, x218_7, lh1_7, o, h, Q, hQ => by cases h
 | fuel + 1, x4_x106, lh1_x106, x217_7, x218_7, lh1_7, o, h, Q, hQ => by
  unfold f8_7 at h
  refine XL.succ E0_ok ?_
  refine XQ.seq E0_ok (by kernel_rfl) ?_
  refine XQ.region (by kernel_rfl) ?_
  refine XR.runS E0_ok 1 1 [(4, ii x4_x106), (7, s0 0 lh1_x106.length), (216, s0 1 lh1_7.length), (217, ii x217_7), (218, ii x218_7), (219, .bool (decide (x218_7 < x217_7)))] rfl (by kernel_rfl) ?_
  refine XR.done (by kernel_rfl) ?_
  show XQ _ _ _ _ _ _ _ _
  refine XQ.seq E0_ok (by kernel_rfl) ?_
  cases b1 : (decide (x218_7 < x217_7) : Bool) with
  | true =>
   have h := cT b1 h
   refine XQ.cond (s := (.tmp 219)) (b := true) (by kernel_rfl) (by kernel_rfl) (fun _ => ?_) (fun q => by cases q)
   refine XQ.skip (by kernel_rfl) ?_
   show XQ _ _ _ _ _ _ _ _
   refine XQ.seq E0_ok (by kernel_rfl) ?_
   refine XQ.block (id := 13) (by kernel_rfl) ?_
   refine XQ.seq E0_ok (by kernel_rfl) ?_
   refine XQ.region (by kernel_rfl) ?_
   refine XR.runS E0_ok 1 1 [(4, ii x4_x106), (7, s0 0 lh1_x106.length), (216, s0 1 lh1_7.length), (217, ii x217_7), (218, ii x218_7), (220, ii x218_7)] rfl (by kernel_rfl) ?_
   cases b2 : (inRow x218_7 lh1_7.length : Bool) with
   | false => cases (cF b2 h)
   | true =>
    have h := cT b2 h
    refine XR.rd E0_ok [4, 7, 216, 217, 218, 220, 221] rfl (v := pp 1 ((Int.toNat x218_7) * 1)) (v_idx (s := 1) (x := (src 234 (.tmp 216))) (y := (src 234 (.tmp 218))) (b := 1) (o := 0) (len := lh1_7.length) (cap := lh1_7.length) (ik := .i64) (i := x218_7) (off := (Int.toNat x218_7) * 1) (d := (some (path 12 221))) (by kernel_rfl) (by kernel_rfl) (by kernel_rfl) b2 (by omega)) (σ' := [(4, ii x4_x106), (7, s0 0 lh1_x106.length), (216, s0 1 lh1_7.length), (217, ii x217_7), (218, ii x218_7), (220, ii x218_7), (221, pp 1 ((Int.toNat x218_7) * 1))]) (by kernel_rfl) ?_
    refine XR.rd E0_ok [4, 7, 216, 217, 218, 220, 222] rfl (v := ii (List.getD lh1_7 (Int.toNat x218_7) 0)) (v_load1 (encI_ok .i64) (x := (src 234 (.tmp 221))) (b := 1) (off := (Int.toNat x218_7) * 1) (xs := lh1_7) (fz := 0) (e := 3) (es := 1) (d := (some (path 12 222))) (by kernel_rfl) (by kernel_rfl) (by kernel_rfl) (Int.toNat x218_7) 0 0 (by first | rfl | omega) (row_len (inRow_toNat b2) (by simp)) rfl rfl) (σ' := [(4, ii x4_x106), (7, s0 0 lh1_x106.length), (216, s0 1 lh1_7.length), (217, ii x217_7), (218, ii x218_7), (220, ii x218_7), (222, ii (List.getD lh1_7 (Int.toNat x218_7) 0))]) (by kernel_rfl) ?_
    refine XR.runS E0_ok 1 2 [(4, ii x4_x106), (7, s0 0 lh1_x106.length), (27, ii x218_7), (28, ii (List.getD lh1_7 (Int.toNat x218_7) 0)), (216, s0 1 lh1_7.length), (217, ii x217_7), (218, ii x218_7)] rfl (by kernel_rfl) ?_
    refine XR.done (by kernel_rfl) ?_
    show XQ _ _ _ _ _ _ _ _
    refine XQ.seq E0_ok (by kernel_rfl) ?_
    refine XQ.region (by kernel_rfl) ?_
    refine XR.runS E0_ok 1 5 [(4, ii x4_x106), (7, s0 0 lh1_x106.length), (216, s0 1 lh1_7.length), (217, ii x217_7), (218, ii x218_7), (223, ii (List.getD lh1_7 (Int.toNat x218_7) 0)), (225, ii (w64 (x4_x106 - 1))), (226, s0 0 lh1_x106.length), (227, ii x218_7)] rfl (by kernel_rfl) ?_
    cases b3 : (inRow x218_7 lh1_x106.length : Bool) with
    | false => cases (cF b3 h)
    | true =>
     have h := cT b3 h
     refine XR.rd E0_ok [4, 7, 216, 217, 218, 223, 225, 228] rfl (v := pp 0 ((Int.toNat x218_7) * 1)) (v_idx (s := 1) (x := (src 234 (.tmp 226))) (y := (src 234 (.tmp 227))) (b := 0) (o := 0) (len := lh1_x106.length) (cap := lh1_x106.length) (ik := .i64) (i := x218_7) (off := (Int.toNat x218_7) * 1) (d := (some (path 12 228))) (by kernel_rfl) (by kernel_rfl) (by kernel_rfl) b3 (by omega)) (σ' := [(4, ii x4_x106), (7, s0 0 lh1_x106.length), (216, s0 1 lh1_7.length), (217, ii x217_7), (218, ii x218_7), (223, ii (List.getD lh1_7 (Int.toNat x218_7) 0)), (225, ii (w64 (x4_x106 - 1))), (228, pp 0 ((Int.toNat x218_7) * 1))]) (by kernel_rfl) ?_
     refine XR.rd E0_ok [4, 7, 216, 217, 218, 223, 225, 229] rfl (v := ii (List.getD lh1_x106 (Int.toNat x218_7) 0)) (v_load1 (encI_ok .i64) (x := (src 234 (.tmp 228))) (b := 0) (off := (Int.toNat x218_7) * 1) (xs := lh1_x106) (fz := 0) (e := 3) (es := 1) (d := (some (path 12 229))) (by kernel_rfl) (by kernel_rfl) (by kernel_rfl) (Int.toNat x218_7) 0 0 (by first | rfl | omega) (row_len (inRow_toNat b3) (by simp)) rfl rfl) (σ' := [(4, ii x4_x106), (7, s0 0 lh1_x106.length), (216, s0 1 lh1_7.length), (217, ii x217_7), (218, ii x218_7), (223, ii (List.getD lh1_7 (Int.toNat x218_7) 0)), (225, ii (w64 (x4_x106 - 1))), (229, ii (List.getD lh1_x106 (Int.toNat x218_7) 0))]) (by kernel_rfl) ?_
     refine XR.runS E0_ok 1 2 [(4, ii x4_x106), (7, s0 0 lh1_x106.length), (216, s0 1 lh1_7.length), (217, ii x217_7), (218, ii x218_7), (231, .bool ((List.getD lh1_7 (Int.toNat x218_7) 0) != (w64 ((w64 (x4_x106 - 1)) - (List.getD lh1_x106 (Int.toNat x218_7) 0)))))] rfl (by kernel_rfl) ?_
     refine XR.done (by kernel_rfl) ?_
     show XQ _ _ _ _ _ _ _ _
     cases b4 : ((List.getD lh1_7 (Int.toNat x218_7) 0) != (w64 ((w64 (x4_x106 - 1)) - (List.getD lh1_x106 (Int.toNat x218_7) 0))) : Bool) with
     | true =>
      have h := cT b4 h
      refine XQ.cond (s := (.tmp 231)) (b := true) (by kernel_rfl) (by kernel_rfl) (fun _ => ?_) (fun q => by cases q)
      refine XQ.seq E0_ok (by kernel_rfl) ?_
      refine XQ.region (by kernel_rfl) ?_
      refine XR.runS E0_ok 1 1 [(2, .bool false)] rfl (by kernel_rfl) ?_
      refine XR.done (by kernel_rfl) ?_
      show XQ _ _ _ _ _ _ _ _
      refine XQ.ren (σ' := [(2, .bool false)]) (h' := []) (c' := 0) [] (by decide) rfl ⟨by kernel_rfl, trivial⟩ trivial rfl ?_
      refine XQ.ret (by kernel_rfl) ?_
      cases h
      exact hQ
     | false =>
      have h := cF b4 h
      refine XQ.cond (s := (.tmp 231)) (b := false) (by kernel_rfl) (by kernel_rfl) (fun q => by cases q) (fun _ => ?_)
      refine XQ.skip (by kernel_rfl) ?_
      show XQ _ _ _ _ _ _ _ _
      refine XQ.region (by kernel_rfl) ?_
      refine XR.runS E0_ok 1 2 [(4, ii x4_x106), (7, s0 0 lh1_x106.length), (216, s0 1 lh1_7.length), (217, ii x217_7), (218, ii (w64 (x218_7 + 1)))] rfl (by kernel_rfl) ?_
      refine XR.done (by kernel_rfl) ?_
      show XL _ _ _ _ _ _ _ _ _
      refine XL.ren (σ' := [(4, ii x4_x106), (7, s0 0 lh1_x106.length), (216, s0 1 lh1_7.length), (217, ii x217_7), (218, ii (w64 (x218_7 + 1)))]) (h' := [(1, rc (encI .i64) lh1_7 0 3 1), (0, rc (encI .i64) lh1_x106 0 3 1)]) (c' := 2) [0, 1] (by decide) rfl ⟨by kernel_rfl, by kernel_rfl, by kernel_rfl, by kernel_rfl, by kernel_rfl, trivial⟩ ⟨⟨_, _, rfl, rfl, .inl ⟨rfl, rowC_scal (encI_ok .i64) _⟩⟩, ⟨_, _, rfl, rfl, .inl ⟨rfl, rowC_scal (encI_ok .i64) _⟩⟩, trivial⟩ rfl ?_
      refine XL.conv (f8_7_ok m fuel x4_x106 lh1_x106 x217_7 (w64 (x218_7 + 1)) lh1_7 o h Q hQ) (by first | rfl | simp)
  | false =>
   have h := cF b1 h
   refine XQ.cond (s := (.tmp 219)) (b := false) (by kernel_rfl) (by kernel_rfl) (fun q => by cases q) (fun _ => ?_)
   refine XQ.ren (σ' := []) (h' := []) (c' := 0) [] (by decide) rfl trivial trivial rfl ?_
   refine XQ.exit (i := 12) (by kernel_rfl) ?_
   cases h
   exact hQ

def f8 (m : Nat) (a_Sorters : Int) (a_Tables : Int) : Option (Bool) :=
 (f36 m a_Sorters a_Tables 8).bind fun r1 =>
  (f32 m r1.1 r1.2).bind fun r2 =>
   (f8_1 m m r1.1 (w64 (Int.tdiv (w64 ((w64 (r1.1 * (w64 (r1.1 - 1)))) * (w64 (r1.1 - 2)))) 6)) 0 ((r2.length : Nat) : Int) 0 r1.1 r2 r1.2).bind fun o1 =>
    (f8_2 m m o1.1 o1.2.1 o1.2.2.1 0 o1.1 0 o1.2.2.2.1 o1.2.2.2.2.1 o1.2.2.2.2.2).bind fun o2 =>
     (f41 m o2.2.2.2.2.1 o2.2.2.2.2.2.2).bind fun r111 =>
      (f42 m o2.2.2.2.2.1 o2.2.2.2.2.2.2).bind fun r112 =>
       cond (r111.2 != 0) (
        some (false)
       ) (
        cond (r112.2.2 != 0) (
         some (false)
        ) (
         cond (r111.1 != o2.2.2.2.1) (
          some (false)
         ) (
          cond ((w64 (2 * (w64 (o2.2.1 - r111.1)))) != o2.2.2.1) (
           some (false)
          ) (
           cond (r112.1 != o2.1) (
            some (false)
           ) (
            cond ((w64 (((r112.2.1.length : Nat) : Int) + ((o2.2.2.2.2.2.2.length : Nat) : Int))) != (w64 (Int.tdiv (w64 (o2.1 * (w64 (o2.1 - 1)))) 2))) (
             some (false)
            ) (
             (f8_6 m m o2.1 r111.1 ((r112.2.1.length : Nat) : Int) 0 o2.2.2.2.2.1 o2.2.2.2.2.2.1 r112.1 r112.2.1 o2.2.2.2.2.2.2).bind fun o6 =>
              match o6 with
              | .r =>
               some (false)
              | .x10 x4_x106 x17_x106 xh0_0_x106 lh1_x106 xh2_0_x106 lh3_x106 lh4_x106 =>
               (f42 m xh2_0_x106 lh4_x106).bind fun r116 =>
                (f41 m xh2_0_x106 lh4_x106).bind fun r117 =>
                 (f43 m xh2_0_x106 lh4_x106).bind fun r118 =>
                  cond (r116.2.2 != 0) (
                   some (false)
                  ) (
                   cond (r117.2 != 0) (
                    some (false)
                   ) (
                    cond (r118.2 != 0) (
                     some (false)
                    ) (
                     cond (r117.1 != x17_x106) (
                      some (false)
                     ) (
                      cond (r116.1 != x4_x106) (
                       some (false)
                      ) (
                       (f39 m r116.2.1 lh3_x106).bind fun r119 =>
                        cond (!r119) (
                         some (false)
                        ) (
                         cond (((r118.1.length : Nat) : Int) != x4_x106) (
                          some (false)
                         ) (
                          (f8_7 m m x4_x106 lh1_x106 ((r118.1.length : Nat) : Int) 0 r118.1).bind fun o7 =>
                           match o7 with
                           | .r =>
                            some (false)
                           | .x12 =>
                            some (true)
                         )
                        )
                      )
                     )
                    )
                   )
                  )
            )
           )
          )
         )
        )
       )

theorem f8_ok (m : Nat) (a_Sorters : Int) (a_Tables : Int) (o : Bool) (h : f8 m a_Sorters a_Tables = some o) (w : World) (hI : seatInv w) : Calls Proofs.Tryd.prog 8 #[.agg #[.int .u8 a_Sorters, .int .u32 a_Tables]] w fun e w' => e = .returned (.bool o) ∧ Below w.heap.size w w' := by
 refine KC.calls (E := E0) (args := [.agg #[.int .u8 a_Sorters, .int .u32 a_Tables]]) (v := .bool o) rfl rfl (KC.bodyN E0_ok (F := Proofs.Tryd.f8) (by kernel_rfl) (code := f8_C8) (by kernel_rfl) (nt := 234) (by kernel_rfl) (rs := [.tmp 2]) (by kernel_rfl) (by kernel_rfl) (σ := [(0, .agg #[.int .u8 a_Sorters, .int .u32 a_Tables])]) (by kernel_rfl) ?_) w (seatInv_size hI) hI
 unfold f8 at h
 refine XQ.seq E0_ok (by kernel_rfl) ?_
 refine XQ.region (by kernel_rfl) ?_
 refine XR.runT E0_ok 1 2 [(1, pp 0 0)] [(0, .cells [.int .u8 a_Sorters, .int .u32 a_Tables] 0 53 0)] 1 rfl (by kernel_rfl) ?_
 refine XR.done (by kernel_rfl) ?_
 show XQ _ _ _ _ _ _ _ _
 refine XQ.seq E0_ok (by kernel_rfl) ?_
 refine XQ.region (by kernel_rfl) ?_
 refine XR.runS E0_ok 1 1 [(29, .agg #[.int .u8 a_Sorters, .int .u32 a_Tables])] rfl (by kernel_rfl) ?_
 obtain ⟨r1, r1_h, h⟩ := bS h
 refine XR.call E0_ok [30] rfl (K := 36) (args := [.agg #[.int .u8 a_Sorters, .int .u32 a_Tables], ii 8]) (d := (some (path 12 30))) (by kernel_rfl) (KC.lift (V2 := .agg #[ii r1.1, s0 1 r1.2.length]) (H2 := [(1, rc encP r1.2 0 55 2)]) [1, 0] (f36_ok m a_Sorters a_Tables 8 r1 r1_h) rfl (by decide) (by decide) (by kernel_rfl) ⟨⟨_, _, rfl, rfl, .inl ⟨rfl, rowC_scal encP_ok _⟩⟩, trivial⟩ (by rfl)) ?_
 rintro _ _ _ ⟨rfl, rfl, rfl⟩
 refine XR.conv (σ' := [(30, .agg #[ii r1.1, s0 1 r1.2.length])]) (h' := [(1, rc encP r1.2 0 55 2), (0, .cells [.int .u8 a_Sorters, .int .u32 a_Tables] 0 53 0)]) (c' := 2) ?_ (by kernel_rfl)
 refine XR.runT E0_ok 1 2 [(3, pp 2 0)] [(2, .cells [ii r1.1, s0 1 r1.2.length] 0 34 0), (1, rc encP r1.2 0 55 2), (0, .cells [.int .u8 a_Sorters, .int .u32 a_Tables] 0 53 0)] 3 rfl (by kernel_rfl) ?_
 refine XR.done (by kernel_rfl) ?_
 show XQ _ _ _ _ _ _ _ _
 refine XQ.seq E0_ok (by kernel_rfl) ?_
 refine XQ.region (by kernel_rfl) ?_
 refine XR.runS E0_ok 1 3 [(3, pp 2 0), (4, ii r1.1)] rfl (by kernel_rfl) ?_
 refine XR.done (by kernel_rfl) ?_
 show XQ _ _ _ _ _ _ _ _
 refine XQ.seq E0_ok (by kernel_rfl) ?_
 refine XQ.region (by kernel_rfl) ?_
 refine XR.runS E0_ok 1 9 [(3, pp 2 0), (4, ii r1.1), (5, ii (w64 (Int.tdiv (w64 ((w64 (r1.1 * (w64 (r1.1 - 1)))) * (w64 (r1.1 - 2)))) 6)))] rfl (by kernel_rfl) ?_
 refine XR.done (by kernel_rfl) ?_
 show XQ _ _ _ _ _ _ _ _
 refine XQ.seq E0_ok (by kernel_rfl) ?_
 refine XQ.region (by kernel_rfl) ?_
 refine XR.runS E0_ok 1 1 [(3, pp 2 0), (4, ii r1.1), (5, ii (w64 (Int.tdiv (w64 ((w64 (r1.1 * (w64 (r1.1 - 1)))) * (w64 (r1.1 - 2)))) 6))), (6, ii 0)] rfl (by kernel_rfl) ?_
 refine XR.done (by kernel_rfl) ?_
 show XQ _ _ _ _ _ _ _ _
 refine XQ.seq E0_ok (by kernel_rfl) ?_
 refine XQ.region (by kernel_rfl) ?_
 refine XR.runS E0_ok 1 1 [(3, pp 2 0), (4, ii r1.1), (5, ii (w64 (Int.tdiv (w64 ((w64 (r1.1 * (w64 (r1.1 - 1)))) * (w64 (r1.1 - 2)))) 6))), (6, ii 0), (41, .agg #[ii r1.1, s0 1 r1.2.length])] rfl (by kernel_rfl) ?_
 obtain ⟨r2, r2_h, h⟩ := bS h
 refine XR.call E0_ok [3, 4, 5, 6, 42] rfl (K := 32) (args := [.agg #[ii r1.1, s0 1 r1.2.length]]) (d := (some (path 12 42))) (by kernel_rfl) (KC.liftH (n0 := 1) (m := 1) (args0 := [.agg #[ii r1.1, s0 0 r1.2.length]]) (h0 := [(0, rc encP r1.2 (0 + ((rowC encP r1.2).length + 1)) 55 2)]) (V := s0 1 r2.length) (V2 := s0 3 r2.length) (H := [(1, rc (encI .i64) r2 0 3 1)]) (H2 := [(3, rc (encI .i64) r2 0 3 1)]) [1] [2, 3, 4, 1] (f32_ok m (0 + ((rowC encP r1.2).length + 1)) 55 r1.1 r1.2 r2 r2_h) (by rfl) (by decide) rfl (by kernel_rfl) ⟨⟨_, _, rfl, rfl, .inl ⟨rfl, rowC_scal encP_ok _⟩⟩, trivial⟩ (by decide) (by decide) (by kernel_rfl) ⟨⟨_, _, rfl, rfl, .inl ⟨rfl, rowC_scal (encI_ok .i64) _⟩⟩, trivial⟩ (by rfl)) ?_
 rintro _ _ _ ⟨rfl, rfl, rfl⟩
 refine XR.conv (σ' := [(3, pp 2 0), (4, ii r1.1), (5, ii (w64 (Int.tdiv (w64 ((w64 (r1.1 * (w64 (r1.1 - 1)))) * (w64 (r1.1 - 2)))) 6))), (6, ii 0), (42, s0 3 r2.length)]) (h' := [(3, rc (encI .i64) r2 0 3 1), (2, .cells [ii r1.1, s0 1 r1.2.length] 0 34 0), (1, rc encP r1.2 0 55 2), (0, .cells [.int .u8 a_Sorters, .int .u32 a_Tables] 0 53 0)]) (c' := 4) ?_ (by kernel_rfl)
 refine XR.runS E0_ok 1 1 [(3, pp 2 0), (4, ii r1.1), (5, ii (w64 (Int.tdiv (w64 ((w64 (r1.1 * (w64 (r1.1 - 1)))) * (w64 (r1.1 - 2)))) 6))), (6, ii 0), (7, s0 3 r2.length)] rfl (by kernel_rfl) ?_
 refine XR.done (by kernel_rfl) ?_
 show XQ _ _ _ _ _ _ _ _
 refine XQ.seq E0_ok (by kernel_rfl) ?_
 refine XQ.seq E0_ok (by kernel_rfl) ?_
 refine XQ.region (by kernel_rfl) ?_
 refine XR.runS E0_ok 1 3 [(3, pp 2 0), (4, ii r1.1), (5, ii (w64 (Int.tdiv (w64 ((w64 (r1.1 * (w64 (r1.1 - 1)))) * (w64 (r1.1 - 2)))) 6))), (6, ii 0), (7, s0 3 r2.length), (43, s0 3 r2.length), (44, ii ((r2.length : Nat) : Int)), (45, ii 0)] rfl (by kernel_rfl) ?_
 refine XR.done (by kernel_rfl) ?_
 show XQ _ _ _ _ _ _ _ _
 refine XQ.block (id := 0) (by kernel_rfl) ?_
 refine XQ.loop m (by kernel_rfl) ?_
 obtain ⟨o1, o1_h, h⟩ := bS h
 refine XL.ren (σ' := [(3, pp 0 0), (4, ii r1.1), (5, ii (w64 (Int.tdiv (w64 ((w64 (r1.1 * (w64 (r1.1 - 1)))) * (w64 (r1.1 - 2)))) 6))), (6, ii 0), (7, s0 1 r2.length), (43, s0 1 r2.length), (44, ii ((r2.length : Nat) : Int)), (45, ii 0)]) (h' := [(2, rc encP r1.2 0 55 2), (1, rc (encI .i64) r2 0 3 1), (0, .cells [ii r1.1, s0 2 r1.2.length] 0 34 0)]) (c' := 3) [2, 3, 1] (by decide) rfl ⟨by kernel_rfl, by kernel_rfl, by kernel_rfl, by kernel_rfl, by kernel_rfl, by kernel_rfl, by kernel_rfl, by kernel_rfl, trivial⟩ ⟨⟨_, _, rfl, rfl, .inl ⟨rfl, rowC_scal encP_ok _⟩⟩, ⟨_, _, rfl, rfl, .inl ⟨rfl, rowC_scal (encI_ok .i64) _⟩⟩, ⟨_, _, rfl, rfl, .inr ⟨_, _, _, _, rfl, rfl⟩⟩, trivial⟩ rfl ?_
 refine XL.conv (f8_1_ok m m r1.1 (w64 (Int.tdiv (w64 ((w64 (r1.1 * (w64 (r1.1 - 1)))) * (w64 (r1.1 - 2)))) 6)) 0 ((r2.length : Nat) : Int) 0 r1.1 r2 r1.2 o1 o1_h _ ?_) (by first | rfl | simp)
 show XQ _ _ _ _ _ _ _ _
 refine XQ.seq E0_ok (by kernel_rfl) ?_
 refine XQ.region (by kernel_rfl) ?_
 refine XR.runS E0_ok 1 1 [(3, pp 0 0), (4, ii o1.1), (5, ii o1.2.1), (6, ii o1.2.2.1), (7, s0 1 o1.2.2.2.2.1.length), (10, ii 0)] rfl (by kernel_rfl) ?_
 refine XR.done (by kernel_rfl) ?_
 show XQ _ _ _ _ _ _ _ _
 refine XQ.seq E0_ok (by kernel_rfl) ?_
 refine XQ.seq E0_ok (by kernel_rfl) ?_
 refine XQ.region (by kernel_rfl) ?_
 refine XR.runS E0_ok 1 2 [(3, pp 0 0), (4, ii o1.1), (5, ii o1.2.1), (6, ii o1.2.2.1), (7, s0 1 o1.2.2.2.2.1.length), (10, ii 0), (58, ii o1.1), (59, ii 0)] rfl (by kernel_rfl) ?_
 refine XR.done (by kernel_rfl) ?_
 show XQ _ _ _ _ _ _ _ _
 refine XQ.block (id := 2) (by kernel_rfl) ?_
 refine XQ.loop m (by kernel_rfl) ?_
 obtain ⟨o2, o2_h, h⟩ := bS h
 refine XL.ren (σ' := [(3, pp 0 0), (4, ii o1.1), (5, ii o1.2.1), (6, ii o1.2.2.1), (7, s0 1 o1.2.2.2.2.1.length), (10, ii 0), (58, ii o1.1), (59, ii 0)]) (h' := [(2, rc encP o1.2.2.2.2.2 0 55 2), (1, rc (encI .i64) o1.2.2.2.2.1 0 3 1), (0, .cells [ii o1.2.2.2.1, s0 2 o1.2.2.2.2.2.length] 0 34 0)]) (c' := 3) [0, 1, 2] (by decide) rfl ⟨by kernel_rfl, by kernel_rfl, by kernel_rfl, by kernel_rfl, by kernel_rfl, by kernel_rfl, by kernel_rfl, by kernel_rfl, trivial⟩ ⟨⟨_, _, rfl, rfl, .inl ⟨rfl, rowC_scal encP_ok _⟩⟩, ⟨_, _, rfl, rfl, .inl ⟨rfl, rowC_scal (encI_ok .i64) _⟩⟩, ⟨_, _, rfl, rfl, .inr ⟨_, _, _, _, rfl, rfl⟩⟩, trivial⟩ rfl ?_
 refine XL.conv (f8_2_ok m m o1.1 o1.2.1 o1.2.2.1 0 o1.1 0 o1.2.2.2.1 o1.2.2.2.2.1 o1.2.2.2.2.2 o2 o2_h _ ?_) (by first | rfl | simp)
 show XQ _ _ _ _ _ _ _ _
 refine XQ.seq E0_ok (by kernel_rfl) ?_
 refine XQ.region (by kernel_rfl) ?_
 refine XR.runS E0_ok 1 1 [(3, pp 0 0), (4, ii o2.1), (5, ii o2.2.1), (6, ii o2.2.2.1), (7, s0 1 o2.2.2.2.2.2.1.length), (10, ii o2.2.2.2.1), (105, .agg #[ii o2.2.2.2.2.1, s0 2 o2.2.2.2.2.2.2.length])] rfl (by kernel_rfl) ?_
 obtain ⟨r111, r111_h, h⟩ := bS h
 refine XR.call E0_ok [3, 4, 5, 6, 7, 10, 106] rfl (K := 41) (args := [.agg #[ii o2.2.2.2.2.1, s0 2 o2.2.2.2.2.2.2.length]]) (d := (some (path 12 106))) (by kernel_rfl) (KQ.call (KC.quiet E0_ok (args0 := [.agg #[ii o2.2.2.2.2.1, s0 0 o2.2.2.2.2.2.2.length]]) (h0 := [(0, rc encP o2.2.2.2.2.2.2 (0 + ((rowC encP o2.2.2.2.2.2.2).length + 1)) 55 2)]) (n := 1) (V := .tuple #[ii r111.1, ii r111.2]) [2] (f41_ok m (0 + ((rowC encP o2.2.2.2.2.2.2).length + 1)) 55 o2.2.2.2.2.1 o2.2.2.2.2.2.2 r111 r111_h) rfl (by rfl) (by decide) rfl (by kernel_rfl) ⟨⟨_, _, rfl, rfl, .inl ⟨rfl, rowC_scal encP_ok _⟩⟩, trivial⟩) rfl) ?_
 rintro _ _ _ ⟨rfl, rfl, rfl⟩
 refine XR.conv (σ' := [(3, pp 0 0), (4, ii o2.1), (5, ii o2.2.1), (6, ii o2.2.2.1), (7, s0 1 o2.2.2.2.2.2.1.length), (10, ii o2.2.2.2.1), (106, .tuple #[ii r111.1, ii r111.2])]) (h' := [(2, rc encP o2.2.2.2.2.2.2 0 55 2), (1, rc (encI .i64) o2.2.2.2.2.2.1 0 3 1), (0, .cells [ii o2.2.2.2.2.1, s0 2 o2.2.2.2.2.2.2.length] 0 34 0)]) (c' := 3) ?_ (by kernel_rfl)
 refine XR.runS E0_ok 1 5 [(3, pp 0 0), (4, ii o2.1), (5, ii o2.2.1), (6, ii o2.2.2.1), (7, s0 1 o2.2.2.2.2.2.1.length), (10, ii o2.2.2.2.1), (17, ii r111.1), (18, ii r111.2)] rfl (by kernel_rfl) ?_
 refine XR.done (by kernel_rfl) ?_
 show XQ _ _ _ _ _ _ _ _
 refine XQ.seq E0_ok (by kernel_rfl) ?_
 refine XQ.region (by kernel_rfl) ?_
 refine XR.runS E0_ok 1 1 [(3, pp 0 0), (4, ii o2.1), (5, ii o2.2.1), (6, ii o2.2.2.1), (7, s0 1 o2.2.2.2.2.2.1.length), (10, ii o2.2.2.2.1), (17, ii r111.1), (18, ii r111.2), (110, .agg #[ii o2.2.2.2.2.1, s0 2 o2.2.2.2.2.2.2.length])] rfl (by kernel_rfl) ?_
 obtain ⟨r112, r112_h, h⟩ := bS h
 refine XR.call E0_ok [3, 4, 5, 6, 7, 10, 17, 18, 111] rfl (K := 42) (args := [.agg #[ii o2.2.2.2.2.1, s0 2 o2.2.2.2.2.2.2.length]]) (d := (some (path 12 111))) (by kernel_rfl) (KC.liftH (n0 := 1) (m := 1) (args0 := [.agg #[ii o2.2.2.2.2.1, s0 0 o2.2.2.2.2.2.2.length]]) (h0 := [(0, rc encP o2.2.2.2.2.2.2 (0 + ((rowC encP o2.2.2.2.2.2.2).length + 1)) 55 2)]) (V := .tuple #[.agg #[ii r112.1, s0 1 r112.2.1.length], ii r112.2.2]) (V2 := .tuple #[.agg #[ii r112.1, s0 3 r112.2.1.length], ii r112.2.2]) (H := [(1, rc encP r112.2.1 0 55 2)]) (H2 := [(3, rc encP r112.2.1 0 55 2)]) [2] [2, 3, 4, 1] (f42_ok m (0 + ((rowC encP o2.2.2.2.2.2.2).length + 1)) 55 o2.2.2.2.2.1 o2.2.2.2.2.2.2 r112 r112_h) (by rfl) (by decide) rfl (by kernel_rfl) ⟨⟨_, _, rfl, rfl, .inl ⟨rfl, rowC_scal encP_ok _⟩⟩, trivial⟩ (by decide) (by decide) (by kernel_rfl) ⟨⟨_, _, rfl, rfl, .inl ⟨rfl, rowC_scal encP_ok _⟩⟩, trivial⟩ (by rfl)) ?_
 rintro _ _ _ ⟨rfl, rfl, rfl⟩
 refine XR.conv (σ' := [(3, pp 0 0), (4, ii o2.1), (5, ii o2.2.1), (6, ii o2.2.2.1), (7, s0 1 o2.2.2.2.2.2.1.length), (10, ii o2.2.2.2.1), (17, ii r111.1), (18, ii r111.2), (111, .tuple #[.agg #[ii r112.1, s0 3 r112.2.1.length], ii r112.2.2])]) (h' := [(3, rc encP r112.2.1 0 55 2), (2, rc encP o2.2.2.2.2.2.2 0 55 2), (1, rc (encI .i64) o2.2.2.2.2.2.1 0 3 1), (0, .cells [ii o2.2.2.2.2.1, s0 2 o2.2.2.2.2.2.2.length] 0 34 0)]) (c' := 4) ?_ (by kernel_rfl)
 refine XR.runT E0_ok 1 6 [(3, pp 0 0), (4, ii o2.1), (5, ii o2.2.1), (6, ii o2.2.2.1), (7, s0 1 o2.2.2.2.2.2.1.length), (10, ii o2.2.2.2.1), (17, ii r111.1), (18, ii r111.2), (19, pp 4 0), (20, ii r112.2.2)] [(4, .cells [ii r112.1, s0 3 r112.2.1.length] 0 34 0), (3, rc encP r112.2.1 0 55 2), (2, rc encP o2.2.2.2.2.2.2 0 55 2), (1, rc (encI .i64) o2.2.2.2.2.2.1 0 3 1), (0, .cells [ii o2.2.2.2.2.1, s0 2 o2.2.2.2.2.2.2.length] 0 34 0)] 5 rfl (by kernel_rfl) ?_
 refine XR.done (by kernel_rfl) ?_
 show XQ _ _ _ _ _ _ _ _
 refine XQ.seq E0_ok (by kernel_rfl) ?_
 refine XQ.seq E0_ok (by kernel_rfl) ?_
 refine XQ.region (by kernel_rfl) ?_
 refine XR.runS E0_ok 1 3 [(3, pp 0 0), (4, ii o2.1), (5, ii o2.2.1), (6, ii o2.2.2.1), (7, s0 1 o2.2.2.2.2.2.1.length), (10, ii o2.2.2.2.1), (17, ii r111.1), (19, pp 4 0), (20, ii r112.2.2), (116, .bool (r111.2 != 0))] rfl (by kernel_rfl) ?_
 cases b3 : (r111.2 != 0 : Bool) with
 | true =>
  have h := cT b3 h
  refine XR.runS E0_ok 1 37 [(3, pp 0 0), (4, ii o2.1), (7, s0 1 o2.2.2.2.2.2.1.length), (17, ii r111.1), (19, pp 4 0), (153, .bool true)] rfl (by kernel_rfl) ?_
  refine XR.done (by kernel_rfl) ?_
  show XQ _ _ _ _ _ _ _ _
  refine XQ.cond (s := (.tmp 153)) (b := true) (by kernel_rfl) (by kernel_rfl) (fun _ => ?_) (fun q => by cases q)
  refine XQ.seq E0_ok (by kernel_rfl) ?_
  refine XQ.region (by kernel_rfl) ?_
  refine XR.runS E0_ok 1 1 [(2, .bool false)] rfl (by kernel_rfl) ?_
  refine XR.done (by kernel_rfl) ?_
  show XQ _ _ _ _ _ _ _ _
  refine XQ.ret (by kernel_rfl) ?_
  have h := Option.some.inj h
  subst h
  exact ⟨fun i q => (by cases q), .bool false, (by kernel_rfl), rfl⟩
 | false =>
  have h := cF b3 h
  refine XR.runS E0_ok 1 4 [(3, pp 0 0), (4, ii o2.1), (5, ii o2.2.1), (6, ii o2.2.2.1), (7, s0 1 o2.2.2.2.2.2.1.length), (10, ii o2.2.2.2.1), (17, ii r111.1), (19, pp 4 0), (120, .bool (r112.2.2 != 0))] rfl (by kernel_rfl) ?_
  cases b4 : (r112.2.2 != 0 : Bool) with
  | true =>
   have h := cT b4 h
   refine XR.runS E0_ok 1 33 [(3, pp 0 0), (4, ii o2.1), (7, s0 1 o2.2.2.2.2.2.1.length), (17, ii r111.1), (19, pp 4 0), (153, .bool true)] rfl (by kernel_rfl) ?_
   refine XR.done (by kernel_rfl) ?_
   show XQ _ _ _ _ _ _ _ _
   refine XQ.cond (s := (.tmp 153)) (b := true) (by kernel_rfl) (by kernel_rfl) (fun _ => ?_) (fun q => by cases q)
   refine XQ.seq E0_ok (by kernel_rfl) ?_
   refine XQ.region (by kernel_rfl) ?_
   refine XR.runS E0_ok 1 1 [(2, .bool false)] rfl (by kernel_rfl) ?_
   refine XR.done (by kernel_rfl) ?_
   show XQ _ _ _ _ _ _ _ _
   refine XQ.ret (by kernel_rfl) ?_
   have h := Option.some.inj h
   subst h
   exact ⟨fun i q => (by cases q), .bool false, (by kernel_rfl), rfl⟩
  | false =>
   have h := cF b4 h
   refine XR.runS E0_ok 1 5 [(3, pp 0 0), (4, ii o2.1), (5, ii o2.2.1), (6, ii o2.2.2.1), (7, s0 1 o2.2.2.2.2.2.1.length), (17, ii r111.1), (19, pp 4 0), (125, .bool (r111.1 != o2.2.2.2.1))] rfl (by kernel_rfl) ?_
   cases b5 : (r111.1 != o2.2.2.2.1 : Bool) with
   | true =>
    have h := cT b5 h
    refine XR.runS E0_ok 1 28 [(3, pp 0 0), (4, ii o2.1), (7, s0 1 o2.2.2.2.2.2.1.length), (17, ii r111.1), (19, pp 4 0), (153, .bool true)] rfl (by kernel_rfl) ?_
    refine XR.done (by kernel_rfl) ?_
    show XQ _ _ _ _ _ _ _ _
    refine XQ.cond (s := (.tmp 153)) (b := true) (by kernel_rfl) (by kernel_rfl) (fun _ => ?_) (fun q => by cases q)
    refine XQ.seq E0_ok (by kernel_rfl) ?_
    refine XQ.region (by kernel_rfl) ?_
    refine XR.runS E0_ok 1 1 [(2, .bool false)] rfl (by kernel_rfl) ?_
    refine XR.done (by kernel_rfl) ?_
    show XQ _ _ _ _ _ _ _ _
    refine XQ.ret (by kernel_rfl) ?_
    have h := Option.some.inj h
    subst h
    exact ⟨fun i q => (by cases q), .bool false, (by kernel_rfl), rfl⟩
   | false =>
    have h := cF b5 h
    refine XR.runS E0_ok 1 8 [(3, pp 0 0), (4, ii o2.1), (7, s0 1 o2.2.2.2.2.2.1.length), (17, ii r111.1), (19, pp 4 0), (133, .bool ((w64 (2 * (w64 (o2.2.1 - r111.1)))) != o2.2.2.1))] rfl (by kernel_rfl) ?_
    cases b6 : ((w64 (2 * (w64 (o2.2.1 - r111.1)))) != o2.2.2.1 : Bool) with
    | true =>
     have h := cT b6 h
     refine XR.runS E0_ok 1 20 [(3, pp 0 0), (4, ii o2.1), (7, s0 1 o2.2.2.2.2.2.1.length), (17, ii r111.1), (19, pp 4 0), (153, .bool true)] rfl (by kernel_rfl) ?_
     refine XR.done (by kernel_rfl) ?_
     show XQ _ _ _ _ _ _ _ _
     refine XQ.cond (s := (.tmp 153)) (b := true) (by kernel_rfl) (by kernel_rfl) (fun _ => ?_) (fun q => by cases q)
     refine XQ.seq E0_ok (by kernel_rfl) ?_
     refine XQ.region (by kernel_rfl) ?_
     refine XR.runS E0_ok 1 1 [(2, .bool false)] rfl (by kernel_rfl) ?_
     refine XR.done (by kernel_rfl) ?_
     show XQ _ _ _ _ _ _ _ _
     refine XQ.ret (by kernel_rfl) ?_
     have h := Option.some.inj h
     subst h
     exact ⟨fun i q => (by cases q), .bool false, (by kernel_rfl), rfl⟩
    | false =>
     have h := cF b6 h
     refine XR.runS E0_ok 1 6 [(3, pp 0 0), (4, ii o2.1), (7, s0 1 o2.2.2.2.2.2.1.length), (17, ii r111.1), (19, pp 4 0), (139, .bool (r112.1 != o2.1))] rfl (by kernel_rfl) ?_
     cases b7 : (r112.1 != o2.1 : Bool) with
     | true =>
      have h := cT b7 h
      refine XR.runS E0_ok 1 14 [(3, pp 0 0), (4, ii o2.1), (7, s0 1 o2.2.2.2.2.2.1.length), (17, ii r111.1), (19, pp 4 0), (153, .bool true)] rfl (by kernel_rfl) ?_
      refine XR.done (by kernel_rfl) ?_
      show XQ _ _ _ _ _ _ _ _
      refine XQ.cond (s := (.tmp 153)) (b := true) (by kernel_rfl) (by kernel_rfl) (fun _ => ?_) (fun q => by cases q)
      refine XQ.seq E0_ok (by kernel_rfl) ?_
      refine XQ.region (by kernel_rfl) ?_
      refine XR.runS E0_ok 1 1 [(2, .bool false)] rfl (by kernel_rfl) ?_
      refine XR.done (by kernel_rfl) ?_
      show XQ _ _ _ _ _ _ _ _
      refine XQ.ret (by kernel_rfl) ?_
      have h := Option.some.inj h
      subst h
      exact ⟨fun i q => (by cases q), .bool false, (by kernel_rfl), rfl⟩
     | false =>
      have h := cF b7 h
      refine XR.runS E0_ok 1 14 [(3, pp 0 0), (4, ii o2.1), (7, s0 1 o2.2.2.2.2.2.1.length), (17, ii r111.1), (19, pp 4 0), (153, .bool ((w64 (((r112.2.1.length : Nat) : Int) + ((o2.2.2.2.2.2.2.length : Nat) : Int))) != (w64 (Int.tdiv (w64 (o2.1 * (w64 (o2.1 - 1)))) 2))))] rfl (by kernel_rfl) ?_
      refine XR.done (by kernel_rfl) ?_
      show XQ _ _ _ _ _ _ _ _
      cases b8 : ((w64 (((r112.2.1.length : Nat) : Int) + ((o2.2.2.2.2.2.2.length : Nat) : Int))) != (w64 (Int.tdiv (w64 (o2.1 * (w64 (o2.1 - 1)))) 2)) : Bool) with
      | true =>
       have h := cT b8 h
       refine XQ.cond (s := (.tmp 153)) (b := true) (by kernel_rfl) (by kernel_rfl) (fun _ => ?_) (fun q => by cases q)
       refine XQ.seq E0_ok (by kernel_rfl) ?_
       refine XQ.region (by kernel_rfl) ?_
       refine XR.runS E0_ok 1 1 [(2, .bool false)] rfl (by kernel_rfl) ?_
       refine XR.done (by kernel_rfl) ?_
       show XQ _ _ _ _ _ _ _ _
       refine XQ.ret (by kernel_rfl) ?_
       have h := Option.some.inj h
       subst h
       exact ⟨fun i q => (by cases q), .bool false, (by kernel_rfl), rfl⟩
      | false =>
       have h := cF b8 h
       refine XQ.cond (s := (.tmp 153)) (b := false) (by kernel_rfl) (by kernel_rfl) (fun q => by cases q) (fun _ => ?_)
       refine XQ.skip (by kernel_rfl) ?_
       show XQ _ _ _ _ _ _ _ _
       refine XQ.seq E0_ok (by kernel_rfl) ?_
       refine XQ.seq E0_ok (by kernel_rfl) ?_
       refine XQ.region (by kernel_rfl) ?_
       refine XR.runS E0_ok 1 4 [(3, pp 0 0), (4, ii o2.1), (7, s0 1 o2.2.2.2.2.2.1.length), (17, ii r111.1), (19, pp 4 0), (155, s0 3 r112.2.1.length), (156, ii ((r112.2.1.length : Nat) : Int)), (157, ii 0)] rfl (by kernel_rfl) ?_
       refine XR.done (by kernel_rfl) ?_
       show XQ _ _ _ _ _ _ _ _
       refine XQ.block (id := 10) (by kernel_rfl) ?_
       refine XQ.loop m (by kernel_rfl) ?_
       obtain ⟨o6, o6_h, h⟩ := bS h
       refine XL.ren (σ' := [(3, pp 0 0), (4, ii o2.1), (7, s0 1 o2.2.2.2.2.2.1.length), (17, ii r111.1), (19, pp 2 0), (155, s0 3 r112.2.1.length), (156, ii ((r112.2.1.length : Nat) : Int)), (157, ii 0)]) (h' := [(4, rc encP o2.2.2.2.2.2.2 0 55 2), (3, rc encP r112.2.1 0 55 2), (2, .cells [ii r112.1, s0 3 r112.2.1.length] 0 34 0), (1, rc (encI .i64) o2.2.2.2.2.2.1 0 3 1), (0, .cells [ii o2.2.2.2.2.1, s0 4 o2.2.2.2.2.2.2.length] 0 34 0)]) (c' := 5) [0, 1, 4, 3, 2] (by decide) rfl ⟨by kernel_rfl, by kernel_rfl, by kernel_rfl, by kernel_rfl, by kernel_rfl, by kernel_rfl, by kernel_rfl, by kernel_rfl, trivial⟩ ⟨⟨_, _, rfl, rfl, .inl ⟨rfl, rowC_scal encP_ok _⟩⟩, ⟨_, _, rfl, rfl, .inl ⟨rfl, rowC_scal encP_ok _⟩⟩, ⟨_, _, rfl, rfl, .inr ⟨_, _, _, _, rfl, rfl⟩⟩, ⟨_, _, rfl, rfl, .inl ⟨rfl, rowC_scal (encI_ok .i64) _⟩⟩, ⟨_, _, rfl, rfl, .inr ⟨_, _, _, _, rfl, rfl⟩⟩, trivial⟩ rfl ?_
       cases o6 with
       | r =>
        dsimp only at h
        refine XL.conv (f8_6_ok m m o2.1 r111.1 ((r112.2.1.length : Nat) : Int) 0 o2.2.2.2.2.1 o2.2.2.2.2.2.1 r112.1 r112.2.1 o2.2.2.2.2.2.2 (.r) o6_h _ ?_) (by first | rfl | simp)
        have h := Option.some.inj h
        subst h
        exact ⟨fun i q => (by cases q), .bool false, (by kernel_rfl), rfl⟩
       | x10 x4_x106 x17_x106 xh0_0_x106 lh1_x106 xh2_0_x106 lh3_x106 lh4_x106 =>
        dsimp only at h
        refine XL.conv (f8_6_ok m m o2.1 r111.1 ((r112.2.1.length : Nat) : Int) 0 o2.2.2.2.2.1 o2.2.2.2.2.2.1 r112.1 r112.2.1 o2.2.2.2.2.2.2 (.x10 x4_x106 x17_x106 xh0_0_x106 lh1_x106 xh2_0_x106 lh3_x106 lh4_x106) o6_h _ ?_) (by first | rfl | simp)
        show XQ _ _ _ _ _ _ _ _
        refine XQ.seq E0_ok (by kernel_rfl) ?_
        refine XQ.region (by kernel_rfl) ?_
        refine XR.runS E0_ok 1 1 [(3, pp 0 0), (4, ii x4_x106), (7, s0 1 lh1_x106.length), (17, ii x17_x106), (19, pp 2 0), (167, .agg #[ii xh2_0_x106, s0 4 lh4_x106.length])] rfl (by kernel_rfl) ?_
        obtain ⟨r116, r116_h, h⟩ := bS h
        refine XR.call E0_ok [3, 4, 7, 17, 19, 168] rfl (K := 42) (args := [.agg #[ii xh2_0_x106, s0 4 lh4_x106.length]]) (d := (some (path 12 168))) (by kernel_rfl) (KC.liftH (n0 := 1) (m := 1) (args0 := [.agg #[ii xh2_0_x106, s0 0 lh4_x106.length]]) (h0 := [(0, rc encP lh4_x106 (0 + ((rowC encP lh4_x106).length + 1)) 55 2)]) (V := .tuple #[.agg #[ii r116.1, s0 1 r116.2.1.length], ii r116.2.2]) (V2 := .tuple #[.agg #[ii r116.1, s0 5 r116.2.1.length], ii r116.2.2]) (H := [(1, rc encP r116.2.1 0 55 2)]) (H2 := [(5, rc encP r116.2.1 0 55 2)]) [4] [2, 3, 4, 5, 6, 1] (f42_ok m (0 + ((rowC encP lh4_x106).length + 1)) 55 xh2_0_x106 lh4_x106 r116 r116_h) (by rfl) (by decide) rfl (by kernel_rfl) ⟨⟨_, _, rfl, rfl, .inl ⟨rfl, rowC_scal encP_ok _⟩⟩, trivial⟩ (by decide) (by decide) (by kernel_rfl) ⟨⟨_, _, rfl, rfl, .inl ⟨rfl, rowC_scal encP_ok _⟩⟩, trivial⟩ (by rfl)) ?_
        rintro _ _ _ ⟨rfl, rfl, rfl⟩
        refine XR.conv (σ' := [(3, pp 0 0), (4, ii x4_x106), (7, s0 1 lh1_x106.length), (17, ii x17_x106), (19, pp 2 0), (168, .tuple #[.agg #[ii r116.1, s0 5 r116.2.1.length], ii r116.2.2])]) (h' := [(5, rc encP r116.2.1 0 55 2), (4, rc encP lh4_x106 0 55 2), (3, rc encP lh3_x106 0 55 2), (2, .cells [ii xh2_0_x106, s0 4 lh4_x106.length] 0 34 0), (1, rc (encI .i64) lh1_x106 0 3 1), (0, .cells [ii xh0_0_x106, s0 3 lh3_x106.length] 0 34 0)]) (c' := 6) ?_ (by kernel_rfl)
        refine XR.runT E0_ok 1 6 [(3, pp 0 0), (4, ii x4_x106), (7, s0 1 lh1_x106.length), (17, ii x17_x106), (18, ii r116.2.2), (19, pp 2 0), (23, pp 6 0)] [(6, .cells [ii r116.1, s0 5 r116.2.1.length] 0 34 0), (5, rc encP r116.2.1 0 55 2), (4, rc encP lh4_x106 0 55 2), (3, rc encP lh3_x106 0 55 2), (2, .cells [ii xh2_0_x106, s0 4 lh4_x106.length] 0 34 0), (1, rc (encI .i64) lh1_x106 0 3 1), (0, .cells [ii xh0_0_x106, s0 3 lh3_x106.length] 0 34 0)] 7 rfl (by kernel_rfl) ?_
        refine XR.done (by kernel_rfl) ?_
        show XQ _ _ _ _ _ _ _ _
        refine XQ.seq E0_ok (by kernel_rfl) ?_
        refine XQ.region (by kernel_rfl) ?_
        refine XR.runS E0_ok 1 1 [(3, pp 0 0), (4, ii x4_x106), (7, s0 1 lh1_x106.length), (17, ii x17_x106), (18, ii r116.2.2), (19, pp 2 0), (23, pp 6 0), (172, .agg #[ii xh2_0_x106, s0 4 lh4_x106.length])] rfl (by kernel_rfl) ?_
        obtain ⟨r117, r117_h, h⟩ := bS h
        refine XR.call E0_ok [3, 4, 7, 17, 18, 19, 23, 173] rfl (K := 41) (args := [.agg #[ii xh2_0_x106, s0 4 lh4_x106.length]]) (d := (some (path 12 173))) (by kernel_rfl) (KQ.call (KC.quiet E0_ok (args0 := [.agg #[ii xh2_0_x106, s0 0 lh4_x106.length]]) (h0 := [(0, rc encP lh4_x106 (0 + ((rowC encP lh4_x106).length + 1)) 55 2)]) (n := 1) (V := .tuple #[ii r117.1, ii r117.2]) [4] (f41_ok m (0 + ((rowC encP lh4_x106).length + 1)) 55 xh2_0_x106 lh4_x106 r117 r117_h) rfl (by rfl) (by decide) rfl (by kernel_rfl) ⟨⟨_, _, rfl, rfl, .inl ⟨rfl, rowC_scal encP_ok _⟩⟩, trivial⟩) rfl) ?_
        rintro _ _ _ ⟨rfl, rfl, rfl⟩
        refine XR.conv (σ' := [(3, pp 0 0), (4, ii x4_x106), (7, s0 1 lh1_x106.length), (17, ii x17_x106), (18, ii r116.2.2), (19, pp 2 0), (23, pp 6 0), (173, .tuple #[ii r117.1, ii r117.2])]) (h' := [(6, .cells [ii r116.1, s0 5 r116.2.1.length] 0 34 0), (5, rc encP r116.2.1 0 55 2), (4, rc encP lh4_x106 0 55 2), (3, rc encP lh3_x106 0 55 2), (2, .cells [ii xh2_0_x106, s0 4 lh4_x106.length] 0 34 0), (1, rc (encI .i64) lh1_x106 0 3 1), (0, .cells [ii xh0_0_x106, s0 3 lh3_x106.length] 0 34 0)]) (c' := 7) ?_ (by kernel_rfl)
        refine XR.runS E0_ok 1 5 [(3, pp 0 0), (4, ii x4_x106), (7, s0 1 lh1_x106.length), (17, ii x17_x106), (18, ii r116.2.2), (19, pp 2 0), (20, ii r117.2), (23, pp 6 0), (24, ii r117.1)] rfl (by kernel_rfl) ?_
        refine XR.done (by kernel_rfl) ?_
        show XQ _ _ _ _ _ _ _ _
        refine XQ.seq E0_ok (by kernel_rfl) ?_
        refine XQ.region (by kernel_rfl) ?_
        refine XR.runS E0_ok 1 1 [(3, pp 0 0), (4, ii x4_x106), (7, s0 1 lh1_x106.length), (17, ii x17_x106), (18, ii r116.2.2), (20, ii r117.2), (23, pp 6 0), (24, ii r117.1), (177, .agg #[ii xh2_0_x106, s0 4 lh4_x106.length])] rfl (by kernel_rfl) ?_
        obtain ⟨r118, r118_h, h⟩ := bS h
        refine XR.call E0_ok [3, 4, 7, 17, 18, 20, 23, 24, 178] rfl (K := 43) (args := [.agg #[ii xh2_0_x106, s0 4 lh4_x106.length]]) (d := (some (path 12 178))) (by kernel_rfl) (KC.liftH (n0 := 1) (m := 1) (args0 := [.agg #[ii xh2_0_x106, s0 0 lh4_x106.length]]) (h0 := [(0, rc encP lh4_x106 (0 + ((rowC encP lh4_x106).length + 1)) 55 2)]) (V := .tuple #[s0 1 r118.1.length, ii r118.2]) (V2 := .tuple #[s0 7 r118.1.length, ii r118.2]) (H := [(1, rc (encI .i64) r118.1 0 3 1)]) (H2 := [(7, rc (encI .i64) r118.1 0 3 1)]) [4] [2, 3, 4, 5, 6, 7, 8, 1] (f43_ok m (0 + ((rowC encP lh4_x106).length + 1)) 55 xh2_0_x106 lh4_x106 r118 r118_h) (by rfl) (by decide) rfl (by kernel_rfl) ⟨⟨_, _, rfl, rfl, .inl ⟨rfl, rowC_scal encP_ok _⟩⟩, trivial⟩ (by decide) (by decide) (by kernel_rfl) ⟨⟨_, _, rfl, rfl, .inl ⟨rfl, rowC_scal (encI_ok .i64) _⟩⟩, trivial⟩ (by rfl)) ?_
        rintro _ _ _ ⟨rfl, rfl, rfl⟩
        refine XR.conv (σ' := [(3, pp 0 0), (4, ii x4_x106), (7, s0 1 lh1_x106.length), (17, ii x17_x106), (18, ii r116.2.2), (20, ii r117.2), (23, pp 6 0), (24, ii r117.1), (178, .tuple #[s0 7 r118.1.length, ii r118.2])]) (h' := [(7, rc (encI .i64) r118.1 0 3 1), (6, .cells [ii r116.1, s0 5 r116.2.1.length] 0 34 0), (5, rc encP r116.2.1 0 55 2), (4, rc encP lh4_x106 0 55 2), (3, rc encP lh3_x106 0 55 2), (2, .cells [ii xh2_0_x106, s0 4 lh4_x106.length] 0 34 0), (1, rc (encI .i64) lh1_x106 0 3 1), (0, .cells [ii xh0_0_x106, s0 3 lh3_x106.length] 0 34 0)]) (c' := 8) ?_ (by kernel_rfl)
        refine XR.runS E0_ok 1 5 [(3, pp 0 0), (4, ii x4_x106), (7, s0 1 lh1_x106.length), (17, ii x17_x106), (18, ii r116.2.2), (20, ii r117.2), (23, pp 6 0), (24, ii r117.1), (25, s0 7 r118.1.length), (26, ii r118.2)] rfl (by kernel_rfl) ?_
        refine XR.done (by kernel_rfl) ?_
        show XQ _ _ _ _ _ _ _ _
        refine XQ.seq E0_ok (by kernel_rfl) ?_
        refine XQ.seq E0_ok (by kernel_rfl) ?_
        refine XQ.region (by kernel_rfl) ?_
        refine XR.runS E0_ok 1 3 [(3, pp 0 0), (4, ii x4_x106), (7, s0 1 lh1_x106.length), (17, ii x17_x106), (20, ii r117.2), (23, pp 6 0), (24, ii r117.1), (25, s0 7 r118.1.length), (26, ii r118.2), (183, .bool (r116.2.2 != 0))] rfl (by kernel_rfl) ?_
        cases b10 : (r116.2.2 != 0 : Bool) with
        | true =>
         have h := cT b10 h
         refine XR.runS E0_ok 1 32 [(4, ii x4_x106), (7, s0 1 lh1_x106.length), (25, s0 7 r118.1.length), (215, .bool true)] rfl (by kernel_rfl) ?_
         refine XR.done (by kernel_rfl) ?_
         show XQ _ _ _ _ _ _ _ _
         refine XQ.cond (s := (.tmp 215)) (b := true) (by kernel_rfl) (by kernel_rfl) (fun _ => ?_) (fun q => by cases q)
         refine XQ.seq E0_ok (by kernel_rfl) ?_
         refine XQ.region (by kernel_rfl) ?_
         refine XR.runS E0_ok 1 1 [(2, .bool false)] rfl (by kernel_rfl) ?_
         refine XR.done (by kernel_rfl) ?_
         show XQ _ _ _ _ _ _ _ _
         refine XQ.ret (by kernel_rfl) ?_
         have h := Option.some.inj h
         subst h
         exact ⟨fun i q => (by cases q), .bool false, (by kernel_rfl), rfl⟩
        | false =>
         have h := cF b10 h
         refine XR.runS E0_ok 1 4 [(3, pp 0 0), (4, ii x4_x106), (7, s0 1 lh1_x106.length), (17, ii x17_x106), (23, pp 6 0), (24, ii r117.1), (25, s0 7 r118.1.length), (26, ii r118.2), (187, .bool (r117.2 != 0))] rfl (by kernel_rfl) ?_
         cases b11 : (r117.2 != 0 : Bool) with
         | true =>
          have h := cT b11 h
          refine XR.runS E0_ok 1 28 [(4, ii x4_x106), (7, s0 1 lh1_x106.length), (25, s0 7 r118.1.length), (215, .bool true)] rfl (by kernel_rfl) ?_
          refine XR.done (by kernel_rfl) ?_
          show XQ _ _ _ _ _ _ _ _
          refine XQ.cond (s := (.tmp 215)) (b := true) (by kernel_rfl) (by kernel_rfl) (fun _ => ?_) (fun q => by cases q)
          refine XQ.seq E0_ok (by kernel_rfl) ?_
          refine XQ.region (by kernel_rfl) ?_
          refine XR.runS E0_ok 1 1 [(2, .bool false)] rfl (by kernel_rfl) ?_
          refine XR.done (by kernel_rfl) ?_
          show XQ _ _ _ _ _ _ _ _
          refine XQ.ret (by kernel_rfl) ?_
          have h := Option.some.inj h
          subst h
          exact ⟨fun i q => (by cases q), .bool false, (by kernel_rfl), rfl⟩
         | false =>
          have h := cF b11 h
          refine XR.runS E0_ok 1 4 [(3, pp 0 0), (4, ii x4_x106), (7, s0 1 lh1_x106.length), (17, ii x17_x106), (23, pp 6 0), (24, ii r117.1), (25, s0 7 r118.1.length), (191, .bool (r118.2 != 0))] rfl (by kernel_rfl) ?_
          cases b12 : (r118.2 != 0 : Bool) with
          | true =>
           have h := cT b12 h
           refine XR.runS E0_ok 1 24 [(4, ii x4_x106), (7, s0 1 lh1_x106.length), (25, s0 7 r118.1.length), (215, .bool true)] rfl (by kernel_rfl) ?_
           refine XR.done (by kernel_rfl) ?_
           show XQ _ _ _ _ _ _ _ _
           refine XQ.cond (s := (.tmp 215)) (b := true) (by kernel_rfl) (by kernel_rfl) (fun _ => ?_) (fun q => by cases q)
           refine XQ.seq E0_ok (by kernel_rfl) ?_
           refine XQ.region (by kernel_rfl) ?_
           refine XR.runS E0_ok 1 1 [(2, .bool false)] rfl (by kernel_rfl) ?_
           refine XR.done (by kernel_rfl) ?_
           show XQ _ _ _ _ _ _ _ _
           refine XQ.ret (by kernel_rfl) ?_
           have h := Option.some.inj h
           subst h
           exact ⟨fun i q => (by cases q), .bool false, (by kernel_rfl), rfl⟩
          | false =>
           have h := cF b12 h
           refine XR.runS E0_ok 1 5 [(3, pp 0 0), (4, ii x4_x106), (7, s0 1 lh1_x106.length), (23, pp 6 0), (25, s0 7 r118.1.length), (196, .bool (r117.1 != x17_x106))] rfl (by kernel_rfl) ?_
           cases b13 : (r117.1 != x17_x106 : Bool) with
           | true =>
            have h := cT b13 h
            refine XR.runS E0_ok 1 19 [(4, ii x4_x106), (7, s0 1 lh1_x106.length), (25, s0 7 r118.1.length), (215, .bool true)] rfl (by kernel_rfl) ?_
            refine XR.done (by kernel_rfl) ?_
            show XQ _ _ _ _ _ _ _ _
            refine XQ.cond (s := (.tmp 215)) (b := true) (by kernel_rfl) (by kernel_rfl) (fun _ => ?_) (fun q => by cases q)
            refine XQ.seq E0_ok (by kernel_rfl) ?_
            refine XQ.region (by kernel_rfl) ?_
            refine XR.runS E0_ok 1 1 [(2, .bool false)] rfl (by kernel_rfl) ?_
            refine XR.done (by kernel_rfl) ?_
            show XQ _ _ _ _ _ _ _ _
            refine XQ.ret (by kernel_rfl) ?_
            have h := Option.some.inj h
            subst h
            exact ⟨fun i q => (by cases q), .bool false, (by kernel_rfl), rfl⟩
           | false =>
            have h := cF b13 h
            refine XR.runS E0_ok 1 6 [(3, pp 0 0), (4, ii x4_x106), (7, s0 1 lh1_x106.length), (23, pp 6 0), (25, s0 7 r118.1.length), (202, .bool (r116.1 != x4_x106))] rfl (by kernel_rfl) ?_
            cases b14 : (r116.1 != x4_x106 : Bool) with
            | true =>
             have h := cT b14 h
             refine XR.runS E0_ok 1 13 [(4, ii x4_x106), (7, s0 1 lh1_x106.length), (25, s0 7 r118.1.length), (215, .bool true)] rfl (by kernel_rfl) ?_
             refine XR.done (by kernel_rfl) ?_
             show XQ _ _ _ _ _ _ _ _
             refine XQ.cond (s := (.tmp 215)) (b := true) (by kernel_rfl) (by kernel_rfl) (fun _ => ?_) (fun q => by cases q)
             refine XQ.seq E0_ok (by kernel_rfl) ?_
             refine XQ.region (by kernel_rfl) ?_
             refine XR.runS E0_ok 1 1 [(2, .bool false)] rfl (by kernel_rfl) ?_
             refine XR.done (by kernel_rfl) ?_
             show XQ _ _ _ _ _ _ _ _
             refine XQ.ret (by kernel_rfl) ?_
             have h := Option.some.inj h
             subst h
             exact ⟨fun i q => (by cases q), .bool false, (by kernel_rfl), rfl⟩
            | false =>
             have h := cF b14 h
             refine XR.runS E0_ok 1 4 [(4, ii x4_x106), (7, s0 1 lh1_x106.length), (25, s0 7 r118.1.length), (202, .bool false), (204, s0 5 r116.2.1.length), (206, s0 3 lh3_x106.length)] rfl (by kernel_rfl) ?_
             obtain ⟨r119, r119_h, h⟩ := bS h
             refine XR.call E0_ok [4, 7, 25, 202, 207] rfl (K := 39) (args := [s0 5 r116.2.1.length, s0 3 lh3_x106.length]) (d := (some (path 12 207))) (by kernel_rfl) (KQ.call (KC.quiet E0_ok (args0 := [s0 0 r116.2.1.length, s0 1 lh3_x106.length]) (h0 := [(1, rc encP lh3_x106 (0 + ((rowC encP lh3_x106).length + 1)) 55 2), (0, rc encP r116.2.1 (0 + ((rowC encP r116.2.1).length + 1)) 55 2)]) (n := 2) (V := .bool r119) [5, 3] (f39_ok m (0 + ((rowC encP r116.2.1).length + 1)) 55 (0 + ((rowC encP lh3_x106).length + 1)) 55 r116.2.1 lh3_x106 r119 r119_h) rfl (by rfl) (by decide) rfl (by kernel_rfl) ⟨⟨_, _, rfl, rfl, .inl ⟨rfl, rowC_scal encP_ok _⟩⟩, ⟨_, _, rfl, rfl, .inl ⟨rfl, rowC_scal encP_ok _⟩⟩, trivial⟩) rfl) ?_
             rintro _ _ _ ⟨rfl, rfl, rfl⟩
             refine XR.conv (σ' := [(4, ii x4_x106), (7, s0 1 lh1_x106.length), (25, s0 7 r118.1.length), (202, .bool false), (207, .bool r119)]) (h' := [(7, rc (encI .i64) r118.1 0 3 1), (6, .cells [ii r116.1, s0 5 r116.2.1.length] 0 34 0), (5, rc encP r116.2.1 0 55 2), (4, rc encP lh4_x106 0 55 2), (3, rc encP lh3_x106 0 55 2), (2, .cells [ii xh2_0_x106, s0 4 lh4_x106.length] 0 34 0), (1, rc (encI .i64) lh1_x106 0 3 1), (0, .cells [ii xh0_0_x106, s0 3 lh3_x106.length] 0 34 0)]) (c' := 8) ?_ (by kernel_rfl)
             refine XR.runS E0_ok 1 3 [(4, ii x4_x106), (7, s0 1 lh1_x106.length), (25, s0 7 r118.1.length), (210, .bool (!r119))] rfl (by kernel_rfl) ?_
             cases b15 : (!r119 : Bool) with
             | true =>
              have h := cT b15 h
              refine XR.runS E0_ok 1 5 [(4, ii x4_x106), (7, s0 1 lh1_x106.length), (25, s0 7 r118.1.length), (215, .bool true)] rfl (by kernel_rfl) ?_
              refine XR.done (by kernel_rfl) ?_
              show XQ _ _ _ _ _ _ _ _
              refine XQ.cond (s := (.tmp 215)) (b := true) (by kernel_rfl) (by kernel_rfl) (fun _ => ?_) (fun q => by cases q)
              refine XQ.seq E0_ok (by kernel_rfl) ?_
              refine XQ.region (by kernel_rfl) ?_
              refine XR.runS E0_ok 1 1 [(2, .bool false)] rfl (by kernel_rfl) ?_
              refine XR.done (by kernel_rfl) ?_
              show XQ _ _ _ _ _ _ _ _
              refine XQ.ret (by kernel_rfl) ?_
              have h := Option.some.inj h
              subst h
              exact ⟨fun i q => (by cases q), .bool false, (by kernel_rfl), rfl⟩
             | false =>
              have h := cF b15 h
              refine XR.runS E0_ok 1 5 [(4, ii x4_x106), (7, s0 1 lh1_x106.length), (25, s0 7 r118.1.length), (215, .bool (((r118.1.length : Nat) : Int) != x4_x106))] rfl (by kernel_rfl) ?_
              refine XR.done (by kernel_rfl) ?_
              show XQ _ _ _ _ _ _ _ _
              cases b16 : (((r118.1.length : Nat) : Int) != x4_x106 : Bool) with
              | true =>
               have h := cT b16 h
               refine XQ.cond (s := (.tmp 215)) (b := true) (by kernel_rfl) (by kernel_rfl) (fun _ => ?_) (fun q => by cases q)
               refine XQ.seq E0_ok (by kernel_rfl) ?_
               refine XQ.region (by kernel_rfl) ?_
               refine XR.runS E0_ok 1 1 [(2, .bool false)] rfl (by kernel_rfl) ?_
               refine XR.done (by kernel_rfl) ?_
               show XQ _ _ _ _ _ _ _ _
               refine XQ.ret (by kernel_rfl) ?_
               have h := Option.some.inj h
               subst h
               exact ⟨fun i q => (by cases q), .bool false, (by kernel_rfl), rfl⟩
              | false =>
               have h := cF b16 h
               refine XQ.cond (s := (.tmp 215)) (b := false) (by kernel_rfl) (by kernel_rfl) (fun q => by cases q) (fun _ => ?_)
               refine XQ.skip (by kernel_rfl) ?_
               show XQ _ _ _ _ _ _ _ _
               refine XQ.seq E0_ok (by kernel_rfl) ?_
               refine XQ.seq E0_ok (by kernel_rfl) ?_
               refine XQ.region (by kernel_rfl) ?_
               refine XR.runS E0_ok 1 3 [(4, ii x4_x106), (7, s0 1 lh1_x106.length), (216, s0 7 r118.1.length), (217, ii ((r118.1.length : Nat) : Int)), (218, ii 0)] rfl (by kernel_rfl) ?_
               refine XR.done (by kernel_rfl) ?_
               show XQ _ _ _ _ _ _ _ _
               refine XQ.block (id := 12) (by kernel_rfl) ?_
               refine XQ.loop m (by kernel_rfl) ?_
               obtain ⟨o7, o7_h, h⟩ := bS h
               refine XL.ren (σ' := [(4, ii x4_x106), (7, s0 0 lh1_x106.length), (216, s0 1 r118.1.length), (217, ii ((r118.1.length : Nat) : Int)), (218, ii 0)]) (h' := [(1, rc (encI .i64) r118.1 0 3 1), (0, rc (encI .i64) lh1_x106 0 3 1)]) (c' := 2) [1, 7] (by decide) rfl ⟨by kernel_rfl, by kernel_rfl, by kernel_rfl, by kernel_rfl, by kernel_rfl, trivial⟩ ⟨⟨_, _, rfl, rfl, .inl ⟨rfl, rowC_scal (encI_ok .i64) _⟩⟩, ⟨_, _, rfl, rfl, .inl ⟨rfl, rowC_scal (encI_ok .i64) _⟩⟩, trivial⟩ rfl ?_
               cases o7 with
               | r =>
                dsimp only at h
                refine XL.conv (f8_7_ok m m x4_x106 lh1_x106 ((r118.1.length : Nat) : Int) 0 r118.1 (.r) o7_h _ ?_) (by first | rfl | simp)
                have h := Option.some.inj h
                subst h
                exact ⟨fun i q => (by cases q), .bool false, (by kernel_rfl), rfl⟩
               | x12 =>
                dsimp only at h
                refine XL.conv (f8_7_ok m m x4_x106 lh1_x106 ((r118.1.length : Nat) : Int) 0 r118.1 (.x12) o7_h _ ?_) (by first | rfl | simp)
                show XQ _ _ _ _ _ _ _ _
                refine XQ.seq E0_ok (by kernel_rfl) ?_
                refine XQ.region (by kernel_rfl) ?_
                refine XR.call E0_ok [233] rfl (K := 14) (args := []) (d := (some (path 12 233))) (by kernel_rfl) (KC.of_calls E0_ok (F := Proofs.Tryd.f14) (v := .bool true) (by kernel_rfl) rfl rfl (works_ok)) ?_
                rintro _ _ _ ⟨rfl, rfl, rfl⟩
                refine XR.conv (σ' := [(233, .bool true)]) (h' := []) (c' := 0) ?_ (by kernel_rfl)
                refine XR.runS E0_ok 1 1 [(2, .bool true)] rfl (by kernel_rfl) ?_
                refine XR.done (by kernel_rfl) ?_
                show XQ _ _ _ _ _ _ _ _
                refine XQ.ret (by kernel_rfl) ?_
                have h := Option.some.inj h
                subst h
                exact ⟨fun i q => (by cases q), .bool true, (by kernel_rfl), rfl⟩

end Go.Xm
