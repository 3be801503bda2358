/- What these functions of the program compute, as functions in Lean, and the proofs that they do: vitolatop.TopRow. Conditions: the library's variables hold what their texts lay. -/
import Derived.Test.YtlfobnldaneccaaGreatDoorCb
namespace Go.Xm
open Go.RowKit
set_option linter.unusedVariables false
set_option linter.unusedSimpArgs false
set_option maxRecDepth 20000
set_option maxHeartbeats 4000000

/-! vitola/vitolatop.TopRow -/
noncomputable def f3_C3 : Code := Proofs.Tryz.f3.body.getD .skip
noncomputable def f3_C7 : Code := Proofs.Tryz.f7.body.getD .skip
noncomputable def f3_L1 : Code := lft (lft (rgt (lft (rgt (rgt (rgt f3_C3))))))
noncomputable def f3_L2 : Code := lft (lft (rgt (lft (rgt (rgt (rgt (rgt (rgt (rgt (rgt f3_C3))))))))))
noncomputable def f3_L3 : Code := lft (lft (rgt (lft (rgt (rgt (rgt (rgt (rgt (rgt (rgt (rgt (rgt (rgt f3_C3)))))))))))))

def f3_1 (m : Nat) : Nat → Int → Int → Int → List Int → List Int → Option (Int × (List Int))
  | 0, _, _, _, _, _ => none
  | fuel + 1, x7_1, x28_1, x29_1, lh0_1, lh1_1 =>
    cond (decide (x29_1 < x28_1)) (
      cond (inRow x29_1 5) (
        cond (decide (Int.toNat x29_1 < lh0_1.length)) (
          cond (x7_1 != 0) (
            cond (fitsB (lh1_1.length + 1) 8) (
              f3_1 m fuel x7_1 x28_1 (w64 (x29_1 + 1)) lh0_1 (lh1_1 ++ [Int.tmod (w64 (List.getD lh0_1 (Int.toNat x29_1) 0)) x7_1])
            ) none
          ) none
        ) none
      ) none
    ) (
      some (x7_1, lh1_1)
    )

theorem f3_1_ok (m : Nat) : ∀ (fuel : Nat) (x7_1 : Int) (x28_1 : Int) (x29_1 : Int) (lh0_1 : List Int) (lh1_1 : List Int) (o : (Int × (List Int))), f3_1 m fuel x7_1 x28_1 x29_1 lh0_1 lh1_1 = some o → ∀ Q : QP, Q (.exit 0) [(7, ii o.1), (8, s0 0 o.2.length)] [(0, rc (encI .i64) o.2 0 3 1)] 1 → XL E0 141 0 fuel f3_L1 [(5, pp 0 0), (7, ii x7_1), (8, s0 1 lh1_1.length), (28, ii x28_1), (29, ii x29_1)] [(1, rc (encI .i64) lh1_1 0 3 1), (0, rc (encI .u8) lh0_1 0 22 0)] 2 Q
  | 0, x7_1, x28_1, x29_1, lh0_1, lh1_1, o, h, Q, hQ => by cases h
  | fuel + 1, x7_1, x28_1, x29_1, lh0_1, lh1_1, o, h, Q, hQ => by
    unfold f3_1 at h
    refine XL.succ E0_ok ?_
    refine XQ.seq E0_ok (by kernel_rfl) ?_
    refine XQ.region (by kernel_rfl) ?_
    refine XR.runS E0_ok 1 1 [(5, pp 0 0), (7, ii x7_1), (8, s0 1 lh1_1.length), (28, ii x28_1), (29, ii x29_1), (30, .bool (decide (x29_1 < x28_1)))] rfl (by kernel_rfl) ?_
    refine XR.done (by kernel_rfl) ?_
    show XQ _ _ _ _ _ _ _ _
    refine XQ.seq E0_ok (by kernel_rfl) ?_
    cases b1 : (decide (x29_1 < x28_1) : Bool) with
    | true =>
      have h := cT b1 h
      refine XQ.cond (s := (.tmp 30)) (b := true) (by kernel_rfl) (by kernel_rfl) (fun _ => ?_) (fun q => by cases q)
      refine XQ.skip (by kernel_rfl) ?_
      show XQ _ _ _ _ _ _ _ _
      refine XQ.seq E0_ok (by kernel_rfl) ?_
      refine XQ.block (id := 1) (by kernel_rfl) ?_
      refine XQ.seq E0_ok (by kernel_rfl) ?_
      refine XQ.region (by kernel_rfl) ?_
      refine XR.runS E0_ok 1 2 [(5, pp 0 0), (7, ii x7_1), (8, s0 1 lh1_1.length), (9, ii x29_1), (28, ii x28_1), (29, ii x29_1)] rfl (by kernel_rfl) ?_
      refine XR.done (by kernel_rfl) ?_
      show XQ _ _ _ _ _ _ _ _
      refine XQ.region (by kernel_rfl) ?_
      refine XR.runS E0_ok 1 2 [(5, pp 0 0), (7, ii x7_1), (28, ii x28_1), (29, ii x29_1), (32, s0 1 lh1_1.length), (33, ii x29_1)] rfl (by kernel_rfl) ?_
      cases b2 : (inRow x29_1 5 : Bool) with
      | false => cases (cF b2 h)
      | true =>
        have h := cT b2 h
        refine XR.rd E0_ok [5, 7, 28, 29, 32, 34] rfl (v := pp 0 ((Int.toNat x29_1) * 1)) (v_idxA (s := 1) (len := 5) (x := (src 141 (.tmp 5))) (y := (src 141 (.tmp 33))) (b := 0) (o := 0) (ik := .i64) (i := x29_1) (off := (Int.toNat x29_1) * 1) (d := (some (path 12 34))) (by kernel_rfl) (by kernel_rfl) (by kernel_rfl) b2 (by omega)) (σ' := [(5, pp 0 0), (7, ii x7_1), (28, ii x28_1), (29, ii x29_1), (32, s0 1 lh1_1.length), (34, pp 0 ((Int.toNat x29_1) * 1))]) (by kernel_rfl) ?_
        cases b3 : (decide (Int.toNat x29_1 < lh0_1.length) : Bool) with
        | false => cases (cF b3 h)
        | true =>
          have h := cT b3 h
          refine XR.rd E0_ok [5, 7, 28, 29, 32, 35] rfl (v := .int .u8 (List.getD lh0_1 (Int.toNat x29_1) 0)) (v_load1 (encI_ok .u8) (x := (src 141 (.tmp 34))) (b := 0) (off := (Int.toNat x29_1) * 1) (xs := lh0_1) (fz := 0) (e := 22) (es := 0) (d := (some (path 12 35))) (by kernel_rfl) (by kernel_rfl) (by kernel_rfl) (Int.toNat x29_1) 0 0 (by first | with_reducible rfl | omega | rfl) (row_len b3 (by simp)) rfl rfl) (σ' := [(5, pp 0 0), (7, ii x7_1), (28, ii x28_1), (29, ii x29_1), (32, s0 1 lh1_1.length), (35, .int .u8 (List.getD lh0_1 (Int.toNat x29_1) 0))]) (by kernel_rfl) ?_
          refine XR.runS E0_ok 1 2 [(5, pp 0 0), (7, ii x7_1), (28, ii x28_1), (29, ii x29_1), (32, s0 1 lh1_1.length), (36, ii (w64 (List.getD lh0_1 (Int.toNat x29_1) 0))), (37, ii x7_1)] rfl (by kernel_rfl) ?_
          cases b4 : (x7_1 != 0 : Bool) with
          | false => cases (cF b4 h)
          | true =>
            have h := cT b4 h
            have e5 : insV (headI ((gsOf E0 141 (opsOf (rgt (lft (lft (rgt (rgt f3_L1))))))).drop 6) (trS 141 [(5, pp 0 0), (7, ii x7_1), (28, ii x28_1), (29, ii x29_1), (32, s0 1 lh1_1.length), (36, ii (w64 (List.getD lh0_1 (Int.toNat x29_1) 0))), (37, ii x7_1)])) (trS 141 [(5, pp 0 0), (7, ii x7_1), (28, ii x28_1), (29, ii x29_1), (32, s0 1 lh1_1.length), (36, ii (w64 (List.getD lh0_1 (Int.toNat x29_1) 0))), (37, ii x7_1)]) [(1, rc (encI .i64) lh1_1 0 3 1), (0, rc (encI .u8) lh0_1 0 22 0)] = (match (x7_1 != 0 : Bool) with | true => some (ii (Int.tmod (w64 (List.getD lh0_1 (Int.toNat x29_1) 0)) x7_1)) | false => none) := by kernel_rfl
            refine XR.rd E0_ok [5, 7, 28, 29, 32, 38] rfl (e5.trans (by rw [b4])) (σ' := [(5, pp 0 0), (7, ii x7_1), (28, ii x28_1), (29, ii x29_1), (32, s0 1 lh1_1.length), (38, ii (Int.tmod (w64 (List.getD lh0_1 (Int.toNat x29_1) 0)) x7_1))]) (by kernel_rfl) ?_
            refine XR.runT E0_ok 1 1 [(5, pp 0 0), (7, ii x7_1), (28, ii x28_1), (29, ii x29_1), (32, s0 1 lh1_1.length), (39, s0 2 1)] [(2, .cells [ii (Int.tmod (w64 (List.getD lh0_1 (Int.toNat x29_1) 0)) x7_1)] 0 3 1), (1, rc (encI .i64) lh1_1 0 3 1), (0, rc (encI .u8) lh0_1 0 22 0)] 3 rfl (by kernel_rfl) ?_
            cases b6 : (fitsB (lh1_1.length + 1) 8 : Bool) with
            | false => cases (cF b6 h)
            | true =>
              have h := cT b6 h
              refine XR.ef E0_ok [5, 7, 28, 29, 40] rfl (e_append (encI_ok .i64) (bytes := 8) (e := 3) (x := (src 141 (.tmp 32))) (y := (src 141 (.tmp 39))) (b := 1) (len := lh1_1.length) (cap := lh1_1.length) (xs := lh1_1) (m := 0) (ys := [Int.tmod (w64 (List.getD lh0_1 (Int.toNat x29_1) 0)) x7_1]) (d := (some (path 12 40))) (n' := (lh1_1 ++ [Int.tmod (w64 (List.getD lh0_1 (Int.toNat x29_1) 0)) x7_1]).length) (h' := [(3, rc (encI .i64) (lh1_1 ++ [Int.tmod (w64 (List.getD lh0_1 (Int.toNat x29_1) 0)) x7_1]) 0 3 1), (2, .cells [ii (Int.tmod (w64 (List.getD lh0_1 (Int.toNat x29_1) 0)) x7_1)] 0 3 1), (0, rc (encI .u8) lh0_1 0 22 0)]) (by kernel_rfl) (by kernel_rfl) (by kernel_rfl) (by kernel_rfl) rfl (by simp) (by simp) b6 (by simp) (by kernel_rfl)) (σ' := [(5, pp 0 0), (7, ii x7_1), (28, ii x28_1), (29, ii x29_1), (40, s0 3 ((lh1_1 ++ [Int.tmod (w64 (List.getD lh0_1 (Int.toNat x29_1) 0)) x7_1]).length))]) (by kernel_rfl) ?_
              refine XR.runS E0_ok 1 1 [(5, pp 0 0), (7, ii x7_1), (8, s0 3 ((lh1_1 ++ [Int.tmod (w64 (List.getD lh0_1 (Int.toNat x29_1) 0)) x7_1]).length)), (28, ii x28_1), (29, ii x29_1)] rfl (by kernel_rfl) ?_
              refine XR.done (by kernel_rfl) ?_
              show XQ _ _ _ _ _ _ _ _
              refine XQ.region (by kernel_rfl) ?_
              refine XR.runS E0_ok 1 2 [(5, pp 0 0), (7, ii x7_1), (8, s0 3 ((lh1_1 ++ [Int.tmod (w64 (List.getD lh0_1 (Int.toNat x29_1) 0)) x7_1]).length)), (28, ii x28_1), (29, ii (w64 (x29_1 + 1)))] rfl (by kernel_rfl) ?_
              refine XR.done (by kernel_rfl) ?_
              show XL _ _ _ _ _ _ _ _ _
              refine XL.ren (σ' := [(5, pp 0 0), (7, ii x7_1), (8, s0 1 ((lh1_1 ++ [Int.tmod (w64 (List.getD lh0_1 (Int.toNat x29_1) 0)) x7_1]).length)), (28, ii x28_1), (29, ii (w64 (x29_1 + 1)))]) (h' := [(1, rc (encI .i64) (lh1_1 ++ [Int.tmod (w64 (List.getD lh0_1 (Int.toNat x29_1) 0)) x7_1]) 0 3 1), (0, rc (encI .u8) lh0_1 0 22 0)]) (c' := 2) [0, 3] (by decide) rfl ⟨by kernel_rfl, by kernel_rfl, by kernel_rfl, by kernel_rfl, by kernel_rfl, trivial⟩ ⟨⟨_, _, rfl, rfl, .inl ⟨rfl, rowC_scal (encI_ok .i64) _⟩⟩, ⟨_, _, rfl, rfl, .inl ⟨rfl, rowC_scal (encI_ok .u8) _⟩⟩, trivial⟩ rfl ?_
              refine XL.conv (f3_1_ok m fuel x7_1 x28_1 (w64 (x29_1 + 1)) lh0_1 (lh1_1 ++ [Int.tmod (w64 (List.getD lh0_1 (Int.toNat x29_1) 0)) x7_1]) o h Q hQ) (by first | with_reducible rfl | simp | rfl)
    | false =>
      have h := cF b1 h
      refine XQ.cond (s := (.tmp 30)) (b := false) (by kernel_rfl) (by kernel_rfl) (fun q => by cases q) (fun _ => ?_)
      refine XQ.ren (σ' := [(7, ii x7_1), (8, s0 0 lh1_1.length)]) (h' := [(0, rc (encI .i64) lh1_1 0 3 1)]) (c' := 1) [1] (by decide) rfl ⟨by kernel_rfl, by kernel_rfl, trivial⟩ ⟨⟨_, _, rfl, rfl, .inl ⟨rfl, rowC_scal (encI_ok .i64) _⟩⟩, trivial⟩ rfl ?_
      refine XQ.exit (i := 0) (by kernel_rfl) ?_
      cases h
      exact hQ

def f3_2 (m : Nat) : Nat → Int → Int → Int → List Int → List Int → Option (Int × (List Int))
  | 0, _, _, _, _, _ => none
  | fuel + 1, x7_2, x58_2, x59_2, lh0_2, lh1_2 =>
    cond (decide (x59_2 < x58_2)) (
      cond (inRow x59_2 lh1_2.length) (
        cond (decide ((List.getD lh1_2 (Int.toNat x59_2) 0) ≥ 0)) (
          cond (fitsB (lh0_2.length + 1) 8) (
            f3_2 m fuel x7_2 x58_2 (w64 (x59_2 + 1)) (lh0_2 ++ [List.getD lh1_2 (Int.toNat x59_2) 0]) lh1_2
          ) none
        ) (
          f3_2 m fuel x7_2 x58_2 (w64 (x59_2 + 1)) lh0_2 lh1_2
        )
      ) none
    ) (
      some (x7_2, lh0_2)
    )

theorem f3_2_ok (m : Nat) : ∀ (fuel : Nat) (x7_2 : Int) (x58_2 : Int) (x59_2 : Int) (lh0_2 : List Int) (lh1_2 : List Int) (o : (Int × (List Int))), f3_2 m fuel x7_2 x58_2 x59_2 lh0_2 lh1_2 = some o → ∀ Q : QP, Q (.exit 2) [(7, ii o.1), (12, s0 0 o.2.length)] [(0, rc (encI .i64) o.2 0 3 1)] 1 → XL E0 141 0 fuel f3_L2 [(7, ii x7_2), (12, s0 0 lh0_2.length), (57, s0 1 lh1_2.length), (58, ii x58_2), (59, ii x59_2)] [(1, rc (encI .i64) lh1_2 0 3 1), (0, rc (encI .i64) lh0_2 0 3 1)] 2 Q
  | 0, x7_2, x58_2, x59_2, lh0_2, lh1_2, o, h, Q, hQ => by cases h
  | fuel + 1, x7_2, x58_2, x59_2, lh0_2, lh1_2, o, h, Q, hQ => by
    unfold f3_2 at h
    refine XL.succ E0_ok ?_
    refine XQ.seq E0_ok (by kernel_rfl) ?_
    refine XQ.region (by kernel_rfl) ?_
    refine XR.runS E0_ok 1 1 [(7, ii x7_2), (12, s0 0 lh0_2.length), (57, s0 1 lh1_2.length), (58, ii x58_2), (59, ii x59_2), (60, .bool (decide (x59_2 < x58_2)))] rfl (by kernel_rfl) ?_
    refine XR.done (by kernel_rfl) ?_
    show XQ _ _ _ _ _ _ _ _
    refine XQ.seq E0_ok (by kernel_rfl) ?_
    cases b1 : (decide (x59_2 < x58_2) : Bool) with
    | true =>
      have h := cT b1 h
      refine XQ.cond (s := (.tmp 60)) (b := true) (by kernel_rfl) (by kernel_rfl) (fun _ => ?_) (fun q => by cases q)
      refine XQ.skip (by kernel_rfl) ?_
      show XQ _ _ _ _ _ _ _ _
      refine XQ.seq E0_ok (by kernel_rfl) ?_
      refine XQ.block (id := 3) (by kernel_rfl) ?_
      refine XQ.seq E0_ok (by kernel_rfl) ?_
      refine XQ.region (by kernel_rfl) ?_
      cases b2 : (inRow x59_2 lh1_2.length : Bool) with
      | false => cases (cF b2 h)
      | true =>
        have h := cT b2 h
        refine XR.rd E0_ok [7, 12, 57, 58, 59, 61] rfl (v := pp 1 ((Int.toNat x59_2) * 1)) (v_idx (s := 1) (x := (src 141 (.tmp 57))) (y := (src 141 (.tmp 59))) (b := 1) (o := 0) (len := lh1_2.length) (cap := lh1_2.length) (ik := .i64) (i := x59_2) (off := (Int.toNat x59_2) * 1) (d := (some (path 12 61))) (by kernel_rfl) (by kernel_rfl) (by kernel_rfl) b2 (by omega)) (σ' := [(7, ii x7_2), (12, s0 0 lh0_2.length), (57, s0 1 lh1_2.length), (58, ii x58_2), (59, ii x59_2), (61, pp 1 ((Int.toNat x59_2) * 1))]) (by kernel_rfl) ?_
        refine XR.rd E0_ok [7, 12, 57, 58, 59, 62] rfl (v := ii (List.getD lh1_2 (Int.toNat x59_2) 0)) (v_load1 (encI_ok .i64) (x := (src 141 (.tmp 61))) (b := 1) (off := (Int.toNat x59_2) * 1) (xs := lh1_2) (fz := 0) (e := 3) (es := 1) (d := (some (path 12 62))) (by kernel_rfl) (by kernel_rfl) (by kernel_rfl) (Int.toNat x59_2) 0 0 (by first | with_reducible rfl | omega | rfl) (row_len (inRow_toNat b2) (by simp)) rfl rfl) (σ' := [(7, ii x7_2), (12, s0 0 lh0_2.length), (57, s0 1 lh1_2.length), (58, ii x58_2), (59, ii x59_2), (62, ii (List.getD lh1_2 (Int.toNat x59_2) 0))]) (by kernel_rfl) ?_
        refine XR.runS E0_ok 1 1 [(7, ii x7_2), (12, s0 0 lh0_2.length), (14, ii (List.getD lh1_2 (Int.toNat x59_2) 0)), (57, s0 1 lh1_2.length), (58, ii x58_2), (59, ii x59_2)] rfl (by kernel_rfl) ?_
        refine XR.done (by kernel_rfl) ?_
        show XQ _ _ _ _ _ _ _ _
        refine XQ.seq E0_ok (by kernel_rfl) ?_
        refine XQ.region (by kernel_rfl) ?_
        refine XR.runS E0_ok 1 2 [(7, ii x7_2), (12, s0 0 lh0_2.length), (14, ii (List.getD lh1_2 (Int.toNat x59_2) 0)), (57, s0 1 lh1_2.length), (58, ii x58_2), (59, ii x59_2), (64, .bool (decide ((List.getD lh1_2 (Int.toNat x59_2) 0) ≥ 0)))] rfl (by kernel_rfl) ?_
        refine XR.done (by kernel_rfl) ?_
        show XQ _ _ _ _ _ _ _ _
        cases b3 : (decide ((List.getD lh1_2 (Int.toNat x59_2) 0) ≥ 0) : Bool) with
        | true =>
          have h := cT b3 h
          refine XQ.cond (s := (.tmp 64)) (b := true) (by kernel_rfl) (by kernel_rfl) (fun _ => ?_) (fun q => by cases q)
          refine XQ.region (by kernel_rfl) ?_
          refine XR.runT E0_ok 1 3 [(7, ii x7_2), (57, s0 1 lh1_2.length), (58, ii x58_2), (59, ii x59_2), (65, s0 0 lh0_2.length), (67, s0 2 1)] [(2, .cells [ii (List.getD lh1_2 (Int.toNat x59_2) 0)] 0 3 1), (1, rc (encI .i64) lh1_2 0 3 1), (0, rc (encI .i64) lh0_2 0 3 1)] 3 rfl (by kernel_rfl) ?_
          cases b4 : (fitsB (lh0_2.length + 1) 8 : Bool) with
          | false => cases (cF b4 h)
          | true =>
            have h := cT b4 h
            refine XR.ef E0_ok [7, 57, 58, 59, 68] rfl (e_append (encI_ok .i64) (bytes := 8) (e := 3) (x := (src 141 (.tmp 65))) (y := (src 141 (.tmp 67))) (b := 0) (len := lh0_2.length) (cap := lh0_2.length) (xs := lh0_2) (m := 0) (ys := [List.getD lh1_2 (Int.toNat x59_2) 0]) (d := (some (path 12 68))) (n' := (lh0_2 ++ [List.getD lh1_2 (Int.toNat x59_2) 0]).length) (h' := [(3, rc (encI .i64) (lh0_2 ++ [List.getD lh1_2 (Int.toNat x59_2) 0]) 0 3 1), (2, .cells [ii (List.getD lh1_2 (Int.toNat x59_2) 0)] 0 3 1), (1, rc (encI .i64) lh1_2 0 3 1)]) (by kernel_rfl) (by kernel_rfl) (by kernel_rfl) (by kernel_rfl) rfl (by simp) (by simp) b4 (by simp) (by kernel_rfl)) (σ' := [(7, ii x7_2), (57, s0 1 lh1_2.length), (58, ii x58_2), (59, ii x59_2), (68, s0 3 ((lh0_2 ++ [List.getD lh1_2 (Int.toNat x59_2) 0]).length))]) (by kernel_rfl) ?_
            refine XR.runS E0_ok 1 1 [(7, ii x7_2), (12, s0 3 ((lh0_2 ++ [List.getD lh1_2 (Int.toNat x59_2) 0]).length)), (57, s0 1 lh1_2.length), (58, ii x58_2), (59, ii x59_2)] rfl (by kernel_rfl) ?_
            refine XR.done (by kernel_rfl) ?_
            show XQ _ _ _ _ _ _ _ _
            refine XQ.region (by kernel_rfl) ?_
            refine XR.runS E0_ok 1 2 [(7, ii x7_2), (12, s0 3 ((lh0_2 ++ [List.getD lh1_2 (Int.toNat x59_2) 0]).length)), (57, s0 1 lh1_2.length), (58, ii x58_2), (59, ii (w64 (x59_2 + 1)))] rfl (by kernel_rfl) ?_
            refine XR.done (by kernel_rfl) ?_
            show XL _ _ _ _ _ _ _ _ _
            refine XL.ren (σ' := [(7, ii x7_2), (12, s0 0 ((lh0_2 ++ [List.getD lh1_2 (Int.toNat x59_2) 0]).length)), (57, s0 1 lh1_2.length), (58, ii x58_2), (59, ii (w64 (x59_2 + 1)))]) (h' := [(1, rc (encI .i64) lh1_2 0 3 1), (0, rc (encI .i64) (lh0_2 ++ [List.getD lh1_2 (Int.toNat x59_2) 0]) 0 3 1)]) (c' := 2) [3, 1] (by decide) rfl ⟨by kernel_rfl, by kernel_rfl, by kernel_rfl, by kernel_rfl, by kernel_rfl, trivial⟩ ⟨⟨_, _, rfl, rfl, .inl ⟨rfl, rowC_scal (encI_ok .i64) _⟩⟩, ⟨_, _, rfl, rfl, .inl ⟨rfl, rowC_scal (encI_ok .i64) _⟩⟩, trivial⟩ rfl ?_
            refine XL.conv (f3_2_ok m fuel x7_2 x58_2 (w64 (x59_2 + 1)) (lh0_2 ++ [List.getD lh1_2 (Int.toNat x59_2) 0]) lh1_2 o h Q hQ) (by first | with_reducible rfl | simp | rfl)
        | false =>
          have h := cF b3 h
          refine XQ.cond (s := (.tmp 64)) (b := false) (by kernel_rfl) (by kernel_rfl) (fun q => by cases q) (fun _ => ?_)
          refine XQ.skip (by kernel_rfl) ?_
          show XQ _ _ _ _ _ _ _ _
          refine XQ.region (by kernel_rfl) ?_
          refine XR.runS E0_ok 1 2 [(7, ii x7_2), (12, s0 0 lh0_2.length), (57, s0 1 lh1_2.length), (58, ii x58_2), (59, ii (w64 (x59_2 + 1)))] rfl (by kernel_rfl) ?_
          refine XR.done (by kernel_rfl) ?_
          show XL _ _ _ _ _ _ _ _ _
          refine XL.ren (σ' := [(7, ii x7_2), (12, s0 0 lh0_2.length), (57, s0 1 lh1_2.length), (58, ii x58_2), (59, ii (w64 (x59_2 + 1)))]) (h' := [(1, rc (encI .i64) lh1_2 0 3 1), (0, rc (encI .i64) lh0_2 0 3 1)]) (c' := 2) [0, 1] (by decide) rfl ⟨by kernel_rfl, by kernel_rfl, by kernel_rfl, by kernel_rfl, by kernel_rfl, trivial⟩ ⟨⟨_, _, rfl, rfl, .inl ⟨rfl, rowC_scal (encI_ok .i64) _⟩⟩, ⟨_, _, rfl, rfl, .inl ⟨rfl, rowC_scal (encI_ok .i64) _⟩⟩, trivial⟩ rfl ?_
          refine XL.conv (f3_2_ok m fuel x7_2 x58_2 (w64 (x59_2 + 1)) lh0_2 lh1_2 o h Q hQ) (by first | with_reducible rfl | simp | rfl)
    | false =>
      have h := cF b1 h
      refine XQ.cond (s := (.tmp 60)) (b := false) (by kernel_rfl) (by kernel_rfl) (fun q => by cases q) (fun _ => ?_)
      refine XQ.ren (σ' := [(7, ii x7_2), (12, s0 0 lh0_2.length)]) (h' := [(0, rc (encI .i64) lh0_2 0 3 1)]) (c' := 1) [0] (by decide) rfl ⟨by kernel_rfl, by kernel_rfl, trivial⟩ ⟨⟨_, _, rfl, rfl, .inl ⟨rfl, rowC_scal (encI_ok .i64) _⟩⟩, trivial⟩ rfl ?_
      refine XQ.exit (i := 2) (by kernel_rfl) ?_
      cases h
      exact hQ

inductive Of3_3 where
  | r
  | x4

def f3_3 (m : Nat) : Nat → Int → Int → Int → List Int → List Int → Option Of3_3
  | 0, _, _, _, _, _ => none
  | fuel + 1, x7_3, x85_3, x86_3, lh0_3, lh1_3 =>
    cond (decide (x86_3 < x85_3)) (
      (f8 m lh0_3 x86_3).bind fun r21 =>
        cond (r21) (
          cond (inRow x86_3 lh1_3.length) (
            cond ((List.getD lh1_3 (Int.toNat x86_3) 0) != 0) (
              some (.r)
            ) (
              (f9 m x7_3 lh0_3 x86_3).bind fun r24 =>
                cond (r24.2 == 0) (
                  cond (decide (r24.1 ≤ x86_3)) (
                    some (.r)
                  ) (
                    f3_3 m fuel x7_3 x85_3 (w64 (x86_3 + 1)) lh0_3 lh1_3
                  )
                ) (
                  f3_3 m fuel x7_3 x85_3 (w64 (x86_3 + 1)) lh0_3 lh1_3
                )
            )
          ) none
        ) (
          (f8 m lh0_3 (w64 (x86_3 - 1))).bind fun r25 =>
            cond (r25) (
              (f8 m lh0_3 (w64 (x86_3 + 1))).bind fun r26 =>
                cond (inRow x86_3 lh1_3.length) (
                  cond ((List.getD lh1_3 (Int.toNat x86_3) 0) != (cond (r26) 1 (-1))) (
                    some (.r)
                  ) (
                    (f9 m x7_3 lh0_3 x86_3).bind fun r27 =>
                      cond ((cond (r26) 1 (-1) : Int) == 0) (
                        cond (r27.2 == 0) (
                          cond (decide (r27.1 ≤ x86_3)) (
                            some (.r)
                          ) (
                            cond ((cond (r26) 1 (-1) : Int) != 0) (
                              cond (r27.2 != 0) (
                                some (.r)
                              ) (
                                cond (r27.1 != x86_3) (
                                  some (.r)
                                ) (
                                  f3_3 m fuel x7_3 x85_3 (w64 (x86_3 + 1)) lh0_3 lh1_3
                                )
                              )
                            ) (
                              f3_3 m fuel x7_3 x85_3 (w64 (x86_3 + 1)) lh0_3 lh1_3
                            )
                          )
                        ) (
                          cond ((cond (r26) 1 (-1) : Int) != 0) (
                            cond (r27.2 != 0) (
                              some (.r)
                            ) (
                              cond (r27.1 != x86_3) (
                                some (.r)
                              ) (
                                f3_3 m fuel x7_3 x85_3 (w64 (x86_3 + 1)) lh0_3 lh1_3
                              )
                            )
                          ) (
                            f3_3 m fuel x7_3 x85_3 (w64 (x86_3 + 1)) lh0_3 lh1_3
                          )
                        )
                      ) (
                        cond ((cond (r26) 1 (-1) : Int) != 0) (
                          cond (r27.2 != 0) (
                            some (.r)
                          ) (
                            cond (r27.1 != x86_3) (
                              some (.r)
                            ) (
                              f3_3 m fuel x7_3 x85_3 (w64 (x86_3 + 1)) lh0_3 lh1_3
                            )
                          )
                        ) (
                          f3_3 m fuel x7_3 x85_3 (w64 (x86_3 + 1)) lh0_3 lh1_3
                        )
                      )
                  )
                ) none
            ) (
              cond (inRow x86_3 lh1_3.length) (
                cond ((List.getD lh1_3 (Int.toNat x86_3) 0) != (-1)) (
                  some (.r)
                ) (
                  (f9 m x7_3 lh0_3 x86_3).bind fun r28 =>
                    cond (r28.2 != 0) (
                      some (.r)
                    ) (
                      cond (r28.1 != x86_3) (
                        some (.r)
                      ) (
                        f3_3 m fuel x7_3 x85_3 (w64 (x86_3 + 1)) lh0_3 lh1_3
                      )
                    )
                )
              ) none
            )
        )
    ) (
      some (.x4)
    )

theorem f3_3_ok (m : Nat) : ∀ (fuel : Nat) (x7_3 : Int) (x85_3 : Int) (x86_3 : Int) (lh0_3 : List Int) (lh1_3 : List Int) (o : Of3_3), f3_3 m fuel x7_3 x85_3 x86_3 lh0_3 lh1_3 = some o → ∀ Q : QP, (match o with | .r => Q .ret [(6, .bool false)] [] 0 | .x4 => Q (.exit 4) [] [] 0) → XL E0 141 0 fuel f3_L3 [(7, ii x7_3), (12, s0 0 lh0_3.length), (15, s0 1 lh1_3.length), (85, ii x85_3), (86, ii x86_3)] [(1, rc (encI .i64) lh1_3 0 3 1), (0, rc (encI .i64) lh0_3 0 3 1)] 2 Q
  | 0, x7_3, x85_3, x86_3, lh0_3, lh1_3, o, h, Q, hQ => by cases h
  | fuel + 1, x7_3, x85_3, x86_3, lh0_3, lh1_3, o, h, Q, hQ => by
    unfold f3_3 at h
    refine XL.succ E0_ok ?_
    refine XQ.seq E0_ok (by kernel_rfl) ?_
    refine XQ.region (by kernel_rfl) ?_
    refine XR.runS E0_ok 1 1 [(7, ii x7_3), (12, s0 0 lh0_3.length), (15, s0 1 lh1_3.length), (85, ii x85_3), (86, ii x86_3), (87, .bool (decide (x86_3 < x85_3)))] rfl (by kernel_rfl) ?_
    refine XR.done (by kernel_rfl) ?_
    show XQ _ _ _ _ _ _ _ _
    refine XQ.seq E0_ok (by kernel_rfl) ?_
    cases b1 : (decide (x86_3 < x85_3) : Bool) with
    | true =>
      have h := cT b1 h
      refine XQ.cond (s := (.tmp 87)) (b := true) (by kernel_rfl) (by kernel_rfl) (fun _ => ?_) (fun q => by cases q)
      refine XQ.skip (by kernel_rfl) ?_
      show XQ _ _ _ _ _ _ _ _
      refine XQ.seq E0_ok (by kernel_rfl) ?_
      refine XQ.block (id := 5) (by kernel_rfl) ?_
      refine XQ.seq E0_ok (by kernel_rfl) ?_
      refine XQ.region (by kernel_rfl) ?_
      refine XR.runS E0_ok 1 2 [(7, ii x7_3), (12, s0 0 lh0_3.length), (15, s0 1 lh1_3.length), (16, ii x86_3), (85, ii x85_3), (86, ii x86_3)] rfl (by kernel_rfl) ?_
      refine XR.done (by kernel_rfl) ?_
      show XQ _ _ _ _ _ _ _ _
      refine XQ.seq E0_ok (by kernel_rfl) ?_
      refine XQ.region (by kernel_rfl) ?_
      refine XR.runS E0_ok 1 1 [(7, ii x7_3), (12, s0 0 lh0_3.length), (15, s0 1 lh1_3.length), (16, ii x86_3), (17, ii (-1)), (85, ii x85_3), (86, ii x86_3)] rfl (by kernel_rfl) ?_
      refine XR.done (by kernel_rfl) ?_
      show XQ _ _ _ _ _ _ _ _
      refine XQ.seq E0_ok (by kernel_rfl) ?_
      refine XQ.seq E0_ok (by kernel_rfl) ?_
      refine XQ.region (by kernel_rfl) ?_
      refine XR.runS E0_ok 1 2 [(7, ii x7_3), (12, s0 0 lh0_3.length), (15, s0 1 lh1_3.length), (16, ii x86_3), (17, ii (-1)), (85, ii x85_3), (86, ii x86_3), (89, s0 0 lh0_3.length), (90, ii x86_3)] rfl (by kernel_rfl) ?_
      obtain ⟨r21, r21_h, h⟩ := bS h
      refine XR.call E0_ok [7, 12, 15, 16, 17, 85, 86, 91] rfl (K := 8) (args := [s0 0 lh0_3.length, ii x86_3]) (d := (some (path 12 91))) (by kernel_rfl) (KQ.call (KC.quiet E0_ok (args0 := [s0 0 lh0_3.length, ii x86_3]) (h0 := [(0, rc (encI .i64) lh0_3 (0 + ((rowC (encI .i64) lh0_3).length + 1)) 3 1)]) (n := 1) (V := .bool r21) [0] (f8_ok m (0 + ((rowC (encI .i64) lh0_3).length + 1)) 3 lh0_3 x86_3 r21 r21_h) rfl (by rfl) (by decide) rfl (by kernel_rfl) ⟨⟨_, _, rfl, rfl, .inl ⟨rfl, rowC_scal (encI_ok .i64) _⟩⟩, trivial⟩) rfl) ?_
      rintro _ _ _ ⟨rfl, rfl, rfl⟩
      refine XR.conv (σ' := [(7, ii x7_3), (12, s0 0 lh0_3.length), (15, s0 1 lh1_3.length), (16, ii x86_3), (17, ii (-1)), (85, ii x85_3), (86, ii x86_3), (91, .bool r21)]) (h' := [(1, rc (encI .i64) lh1_3 0 3 1), (0, rc (encI .i64) lh0_3 0 3 1)]) (c' := 2) ?_ (by kernel_rfl)
      refine XR.done (by kernel_rfl) ?_
      show XQ _ _ _ _ _ _ _ _
      cases b2 : (r21 : Bool) with
      | true =>
        have h := cT b2 h
        refine XQ.cond (s := (.tmp 91)) (b := true) (by kernel_rfl) (by kernel_rfl) (fun _ => ?_) (fun q => by cases q)
        refine XQ.region (by kernel_rfl) ?_
        refine XR.runS E0_ok 1 1 [(7, ii x7_3), (12, s0 0 lh0_3.length), (15, s0 1 lh1_3.length), (16, ii x86_3), (17, ii 0), (85, ii x85_3), (86, ii x86_3)] rfl (by kernel_rfl) ?_
        refine XR.done (by kernel_rfl) ?_
        show XQ _ _ _ _ _ _ _ _
        refine XQ.seq E0_ok (by kernel_rfl) ?_
        refine XQ.seq E0_ok (by kernel_rfl) ?_
        refine XQ.region (by kernel_rfl) ?_
        refine XR.runS E0_ok 1 2 [(7, ii x7_3), (12, s0 0 lh0_3.length), (15, s0 1 lh1_3.length), (16, ii x86_3), (17, ii 0), (85, ii x85_3), (86, ii x86_3), (102, s0 1 lh1_3.length), (103, ii x86_3)] rfl (by kernel_rfl) ?_
        cases b3 : (inRow x86_3 lh1_3.length : Bool) with
        | false => cases (cF b3 h)
        | true =>
          have h := cT b3 h
          refine XR.rd E0_ok [7, 12, 15, 16, 17, 85, 86, 104] rfl (v := pp 1 ((Int.toNat x86_3) * 1)) (v_idx (s := 1) (x := (src 141 (.tmp 102))) (y := (src 141 (.tmp 103))) (b := 1) (o := 0) (len := lh1_3.length) (cap := lh1_3.length) (ik := .i64) (i := x86_3) (off := (Int.toNat x86_3) * 1) (d := (some (path 12 104))) (by kernel_rfl) (by kernel_rfl) (by kernel_rfl) b3 (by omega)) (σ' := [(7, ii x7_3), (12, s0 0 lh0_3.length), (15, s0 1 lh1_3.length), (16, ii x86_3), (17, ii 0), (85, ii x85_3), (86, ii x86_3), (104, pp 1 ((Int.toNat x86_3) * 1))]) (by kernel_rfl) ?_
          refine XR.rd E0_ok [7, 12, 15, 16, 17, 85, 86, 105] rfl (v := ii (List.getD lh1_3 (Int.toNat x86_3) 0)) (v_load1 (encI_ok .i64) (x := (src 141 (.tmp 104))) (b := 1) (off := (Int.toNat x86_3) * 1) (xs := lh1_3) (fz := 0) (e := 3) (es := 1) (d := (some (path 12 105))) (by kernel_rfl) (by kernel_rfl) (by kernel_rfl) (Int.toNat x86_3) 0 0 (by first | with_reducible rfl | omega | rfl) (row_len (inRow_toNat b3) (by simp)) rfl rfl) (σ' := [(7, ii x7_3), (12, s0 0 lh0_3.length), (15, s0 1 lh1_3.length), (16, ii x86_3), (17, ii 0), (85, ii x85_3), (86, ii x86_3), (105, ii (List.getD lh1_3 (Int.toNat x86_3) 0))]) (by kernel_rfl) ?_
          refine XR.runS E0_ok 1 2 [(7, ii x7_3), (12, s0 0 lh0_3.length), (15, s0 1 lh1_3.length), (16, ii x86_3), (17, ii 0), (85, ii x85_3), (86, ii x86_3), (107, .bool ((List.getD lh1_3 (Int.toNat x86_3) 0) != 0))] rfl (by kernel_rfl) ?_
          refine XR.done (by kernel_rfl) ?_
          show XQ _ _ _ _ _ _ _ _
          cases b4 : ((List.getD lh1_3 (Int.toNat x86_3) 0) != 0 : Bool) with
          | true =>
            have h := cT b4 h
            refine XQ.cond (s := (.tmp 107)) (b := true) (by kernel_rfl) (by kernel_rfl) (fun _ => ?_) (fun q => by cases q)
            refine XQ.seq E0_ok (by kernel_rfl) ?_
            refine XQ.region (by kernel_rfl) ?_
            refine XR.runS E0_ok 1 1 [(6, .bool false)] rfl (by kernel_rfl) ?_
            refine XR.done (by kernel_rfl) ?_
            show XQ _ _ _ _ _ _ _ _
            refine XQ.ren (σ' := [(6, .bool false)]) (h' := []) (c' := 0) [] (by decide) rfl ⟨by kernel_rfl, trivial⟩ trivial rfl ?_
            refine XQ.ret (by kernel_rfl) ?_
            cases h
            exact hQ
          | false =>
            have h := cF b4 h
            refine XQ.cond (s := (.tmp 107)) (b := false) (by kernel_rfl) (by kernel_rfl) (fun q => by cases q) (fun _ => ?_)
            refine XQ.skip (by kernel_rfl) ?_
            show XQ _ _ _ _ _ _ _ _
            refine XQ.seq E0_ok (by kernel_rfl) ?_
            refine XQ.region (by kernel_rfl) ?_
            refine XR.runS E0_ok 1 3 [(7, ii x7_3), (12, s0 0 lh0_3.length), (15, s0 1 lh1_3.length), (16, ii x86_3), (17, ii 0), (85, ii x85_3), (86, ii x86_3), (109, ii x7_3), (110, s0 0 lh0_3.length), (111, ii x86_3)] rfl (by kernel_rfl) ?_
            obtain ⟨r24, r24_h, h⟩ := bS h
            refine XR.call E0_ok [7, 12, 15, 16, 17, 85, 86, 112] rfl (K := 9) (args := [ii x7_3, s0 0 lh0_3.length, ii x86_3]) (d := (some (path 12 112))) (by kernel_rfl) (KQ.call (KC.quiet E0_ok (args0 := [ii x7_3, s0 0 lh0_3.length, ii x86_3]) (h0 := [(0, rc (encI .i64) lh0_3 (0 + ((rowC (encI .i64) lh0_3).length + 1)) 3 1)]) (n := 1) (V := .tuple #[ii r24.1, ii r24.2]) [0] (f9_ok m (0 + ((rowC (encI .i64) lh0_3).length + 1)) 3 x7_3 lh0_3 x86_3 r24 r24_h) rfl (by rfl) (by decide) rfl (by kernel_rfl) ⟨⟨_, _, rfl, rfl, .inl ⟨rfl, rowC_scal (encI_ok .i64) _⟩⟩, trivial⟩) rfl) ?_
            rintro _ _ _ ⟨rfl, rfl, rfl⟩
            refine XR.conv (σ' := [(7, ii x7_3), (12, s0 0 lh0_3.length), (15, s0 1 lh1_3.length), (16, ii x86_3), (17, ii 0), (85, ii x85_3), (86, ii x86_3), (112, .tuple #[ii r24.1, ii r24.2])]) (h' := [(1, rc (encI .i64) lh1_3 0 3 1), (0, rc (encI .i64) lh0_3 0 3 1)]) (c' := 2) ?_ (by kernel_rfl)
            refine XR.runS E0_ok 1 5 [(7, ii x7_3), (12, s0 0 lh0_3.length), (15, s0 1 lh1_3.length), (16, ii x86_3), (17, ii 0), (18, ii r24.1), (19, ii r24.2), (85, ii x85_3), (86, ii x86_3)] rfl (by kernel_rfl) ?_
            refine XR.done (by kernel_rfl) ?_
            show XQ _ _ _ _ _ _ _ _
            refine XQ.seq E0_ok (by kernel_rfl) ?_
            refine XQ.region (by kernel_rfl) ?_
            refine XR.runS E0_ok 1 7 [(7, ii x7_3), (12, s0 0 lh0_3.length), (15, s0 1 lh1_3.length), (16, ii x86_3), (17, ii 0), (18, ii r24.1), (19, ii r24.2), (85, ii x85_3), (86, ii x86_3), (121, .bool (r24.2 == 0))] rfl (by kernel_rfl) ?_
            cases b5 : (r24.2 == 0 : Bool) with
            | true =>
              have h := cT b5 h
              refine XR.runS E0_ok 1 5 [(7, ii x7_3), (12, s0 0 lh0_3.length), (15, s0 1 lh1_3.length), (16, ii x86_3), (17, ii 0), (18, ii r24.1), (19, ii r24.2), (85, ii x85_3), (86, ii x86_3), (126, .bool (decide (r24.1 ≤ x86_3)))] rfl (by kernel_rfl) ?_
              cases b6 : (decide (r24.1 ≤ x86_3) : Bool) with
              | true =>
                have h := cT b6 h
                refine XR.runS E0_ok 1 12 [(7, ii x7_3), (12, s0 0 lh0_3.length), (15, s0 1 lh1_3.length), (85, ii x85_3), (86, ii x86_3), (138, .bool true)] rfl (by kernel_rfl) ?_
                refine XR.done (by kernel_rfl) ?_
                show XQ _ _ _ _ _ _ _ _
                refine XQ.cond (s := (.tmp 138)) (b := true) (by kernel_rfl) (by kernel_rfl) (fun _ => ?_) (fun q => by cases q)
                refine XQ.seq E0_ok (by kernel_rfl) ?_
                refine XQ.region (by kernel_rfl) ?_
                refine XR.runS E0_ok 1 1 [(6, .bool false)] rfl (by kernel_rfl) ?_
                refine XR.done (by kernel_rfl) ?_
                show XQ _ _ _ _ _ _ _ _
                refine XQ.ren (σ' := [(6, .bool false)]) (h' := []) (c' := 0) [] (by decide) rfl ⟨by kernel_rfl, trivial⟩ trivial rfl ?_
                refine XQ.ret (by kernel_rfl) ?_
                cases h
                exact hQ
              | false =>
                have h := cF b6 h
                refine XR.runS E0_ok 1 12 [(7, ii x7_3), (12, s0 0 lh0_3.length), (15, s0 1 lh1_3.length), (85, ii x85_3), (86, ii x86_3), (138, .bool false)] rfl (by kernel_rfl) ?_
                refine XR.done (by kernel_rfl) ?_
                show XQ _ _ _ _ _ _ _ _
                refine XQ.cond (s := (.tmp 138)) (b := false) (by kernel_rfl) (by kernel_rfl) (fun q => by cases q) (fun _ => ?_)
                refine XQ.skip (by kernel_rfl) ?_
                show XQ _ _ _ _ _ _ _ _
                refine XQ.region (by kernel_rfl) ?_
                refine XR.runS E0_ok 1 2 [(7, ii x7_3), (12, s0 0 lh0_3.length), (15, s0 1 lh1_3.length), (85, ii x85_3), (86, ii (w64 (x86_3 + 1)))] rfl (by kernel_rfl) ?_
                refine XR.done (by kernel_rfl) ?_
                show XL _ _ _ _ _ _ _ _ _
                refine XL.ren (σ' := [(7, ii x7_3), (12, s0 0 lh0_3.length), (15, s0 1 lh1_3.length), (85, ii x85_3), (86, ii (w64 (x86_3 + 1)))]) (h' := [(1, rc (encI .i64) lh1_3 0 3 1), (0, rc (encI .i64) lh0_3 0 3 1)]) (c' := 2) [0, 1] (by decide) rfl ⟨by kernel_rfl, by kernel_rfl, by kernel_rfl, by kernel_rfl, by kernel_rfl, trivial⟩ ⟨⟨_, _, rfl, rfl, .inl ⟨rfl, rowC_scal (encI_ok .i64) _⟩⟩, ⟨_, _, rfl, rfl, .inl ⟨rfl, rowC_scal (encI_ok .i64) _⟩⟩, trivial⟩ rfl ?_
                refine XL.conv (f3_3_ok m fuel x7_3 x85_3 (w64 (x86_3 + 1)) lh0_3 lh1_3 o h Q hQ) (by first | with_reducible rfl | simp | rfl)
            | false =>
              have h := cF b5 h
              refine XR.runS E0_ok 1 17 [(7, ii x7_3), (12, s0 0 lh0_3.length), (15, s0 1 lh1_3.length), (85, ii x85_3), (86, ii x86_3), (138, .bool false)] rfl (by kernel_rfl) ?_
              refine XR.done (by kernel_rfl) ?_
              show XQ _ _ _ _ _ _ _ _
              refine XQ.cond (s := (.tmp 138)) (b := false) (by kernel_rfl) (by kernel_rfl) (fun q => by cases q) (fun _ => ?_)
              refine XQ.skip (by kernel_rfl) ?_
              show XQ _ _ _ _ _ _ _ _
              refine XQ.region (by kernel_rfl) ?_
              refine XR.runS E0_ok 1 2 [(7, ii x7_3), (12, s0 0 lh0_3.length), (15, s0 1 lh1_3.length), (85, ii x85_3), (86, ii (w64 (x86_3 + 1)))] rfl (by kernel_rfl) ?_
              refine XR.done (by kernel_rfl) ?_
              show XL _ _ _ _ _ _ _ _ _
              refine XL.ren (σ' := [(7, ii x7_3), (12, s0 0 lh0_3.length), (15, s0 1 lh1_3.length), (85, ii x85_3), (86, ii (w64 (x86_3 + 1)))]) (h' := [(1, rc (encI .i64) lh1_3 0 3 1), (0, rc (encI .i64) lh0_3 0 3 1)]) (c' := 2) [0, 1] (by decide) rfl ⟨by kernel_rfl, by kernel_rfl, by kernel_rfl, by kernel_rfl, by kernel_rfl, trivial⟩ ⟨⟨_, _, rfl, rfl, .inl ⟨rfl, rowC_scal (encI_ok .i64) _⟩⟩, ⟨_, _, rfl, rfl, .inl ⟨rfl, rowC_scal (encI_ok .i64) _⟩⟩, trivial⟩ rfl ?_
              refine XL.conv (f3_3_ok m fuel x7_3 x85_3 (w64 (x86_3 + 1)) lh0_3 lh1_3 o h Q hQ) (by first | with_reducible rfl | simp | rfl)
      | false =>
        have h := cF b2 h
        refine XQ.cond (s := (.tmp 91)) (b := false) (by kernel_rfl) (by kernel_rfl) (fun q => by cases q) (fun _ => ?_)
        refine XQ.seq E0_ok (by kernel_rfl) ?_
        refine XQ.region (by kernel_rfl) ?_
        refine XR.runS E0_ok 1 3 [(7, ii x7_3), (12, s0 0 lh0_3.length), (15, s0 1 lh1_3.length), (16, ii x86_3), (17, ii (-1)), (85, ii x85_3), (86, ii x86_3), (92, s0 0 lh0_3.length), (94, ii (w64 (x86_3 - 1)))] rfl (by kernel_rfl) ?_
        obtain ⟨r25, r25_h, h⟩ := bS h
        refine XR.call E0_ok [7, 12, 15, 16, 17, 85, 86, 95] rfl (K := 8) (args := [s0 0 lh0_3.length, ii (w64 (x86_3 - 1))]) (d := (some (path 12 95))) (by kernel_rfl) (KQ.call (KC.quiet E0_ok (args0 := [s0 0 lh0_3.length, ii (w64 (x86_3 - 1))]) (h0 := [(0, rc (encI .i64) lh0_3 (0 + ((rowC (encI .i64) lh0_3).length + 1)) 3 1)]) (n := 1) (V := .bool r25) [0] (f8_ok m (0 + ((rowC (encI .i64) lh0_3).length + 1)) 3 lh0_3 (w64 (x86_3 - 1)) r25 r25_h) rfl (by rfl) (by decide) rfl (by kernel_rfl) ⟨⟨_, _, rfl, rfl, .inl ⟨rfl, rowC_scal (encI_ok .i64) _⟩⟩, trivial⟩) rfl) ?_
        rintro _ _ _ ⟨rfl, rfl, rfl⟩
        refine XR.conv (σ' := [(7, ii x7_3), (12, s0 0 lh0_3.length), (15, s0 1 lh1_3.length), (16, ii x86_3), (17, ii (-1)), (85, ii x85_3), (86, ii x86_3), (95, .bool r25)]) (h' := [(1, rc (encI .i64) lh1_3 0 3 1), (0, rc (encI .i64) lh0_3 0 3 1)]) (c' := 2) ?_ (by kernel_rfl)
        refine XR.runS E0_ok 1 1 [(7, ii x7_3), (12, s0 0 lh0_3.length), (15, s0 1 lh1_3.length), (16, ii x86_3), (17, ii (-1)), (85, ii x85_3), (86, ii x86_3), (96, .bool r25)] rfl (by kernel_rfl) ?_
        cases b7 : (r25 : Bool) with
        | true =>
          have h := cT b7 h
          refine XR.runS E0_ok 1 3 [(7, ii x7_3), (12, s0 0 lh0_3.length), (15, s0 1 lh1_3.length), (16, ii x86_3), (17, ii (-1)), (85, ii x85_3), (86, ii x86_3), (96, .bool true), (97, s0 0 lh0_3.length), (99, ii (w64 (x86_3 + 1)))] rfl (by kernel_rfl) ?_
          obtain ⟨r26, r26_h, h⟩ := bS h
          refine XR.call E0_ok [7, 12, 15, 16, 17, 85, 86, 96, 100] rfl (K := 8) (args := [s0 0 lh0_3.length, ii (w64 (x86_3 + 1))]) (d := (some (path 12 100))) (by kernel_rfl) (KQ.call (KC.quiet E0_ok (args0 := [s0 0 lh0_3.length, ii (w64 (x86_3 + 1))]) (h0 := [(0, rc (encI .i64) lh0_3 (0 + ((rowC (encI .i64) lh0_3).length + 1)) 3 1)]) (n := 1) (V := .bool r26) [0] (f8_ok m (0 + ((rowC (encI .i64) lh0_3).length + 1)) 3 lh0_3 (w64 (x86_3 + 1)) r26 r26_h) rfl (by rfl) (by decide) rfl (by kernel_rfl) ⟨⟨_, _, rfl, rfl, .inl ⟨rfl, rowC_scal (encI_ok .i64) _⟩⟩, trivial⟩) rfl) ?_
          rintro _ _ _ ⟨rfl, rfl, rfl⟩
          refine XR.conv (σ' := [(7, ii x7_3), (12, s0 0 lh0_3.length), (15, s0 1 lh1_3.length), (16, ii x86_3), (17, ii (-1)), (85, ii x85_3), (86, ii x86_3), (96, .bool true), (100, .bool r26)]) (h' := [(1, rc (encI .i64) lh1_3 0 3 1), (0, rc (encI .i64) lh0_3 0 3 1)]) (c' := 2) ?_ (by kernel_rfl)
          refine XR.runS E0_ok 1 1 [(7, ii x7_3), (12, s0 0 lh0_3.length), (15, s0 1 lh1_3.length), (16, ii x86_3), (17, ii (-1)), (85, ii x85_3), (86, ii x86_3), (101, .bool r26)] rfl (by kernel_rfl) ?_
          refine XR.done (by kernel_rfl) ?_
          show XQ _ _ _ _ _ _ _ _
          refine XQ.meetC (σ' := [(7, ii x7_3), (12, s0 0 lh0_3.length), (15, s0 1 lh1_3.length), (16, ii x86_3), (17, ii (cond (r26) 1 (-1))), (85, ii x85_3), (86, ii x86_3)]) (h' := [(1, rc (encI .i64) lh1_3 0 3 1), (0, rc (encI .i64) lh0_3 0 3 1)]) (c' := 2) ?_ ?_
          rotate_left
          · refine XQ.cond (s := (.tmp 101)) (b := r26) (by kernel_rfl) (by kernel_rfl) (fun b8 => ?_) (fun b8 => ?_)
            · refine XQ.region (by kernel_rfl) ?_
              refine XR.runS E0_ok 1 1 [(7, ii x7_3), (12, s0 0 lh0_3.length), (15, s0 1 lh1_3.length), (16, ii x86_3), (17, ii 1), (85, ii x85_3), (86, ii x86_3)] rfl (by kernel_rfl) ?_
              refine XR.done (by kernel_rfl) ?_
              refine ⟨rfl, ?_, ?_⟩
              · try rw [b8]
                exact ⟨by kernel_rfl, by kernel_rfl, by kernel_rfl, by kernel_rfl, by kernel_rfl, by kernel_rfl, by kernel_rfl, trivial⟩
              · try rw [b8]
                kernel_rfl
            · refine XQ.skip (by kernel_rfl) ?_
              refine ⟨rfl, ?_, ?_⟩
              · try rw [b8]
                exact ⟨by kernel_rfl, by kernel_rfl, by kernel_rfl, by kernel_rfl, by kernel_rfl, by kernel_rfl, by kernel_rfl, trivial⟩
              · try rw [b8]
                kernel_rfl
          show XQ _ _ _ _ _ _ _ _
          refine XQ.seq E0_ok (by kernel_rfl) ?_
          refine XQ.seq E0_ok (by kernel_rfl) ?_
          refine XQ.region (by kernel_rfl) ?_
          refine XR.runS E0_ok 1 2 [(7, ii x7_3), (12, s0 0 lh0_3.length), (15, s0 1 lh1_3.length), (16, ii x86_3), (17, ii (cond (r26) 1 (-1))), (85, ii x85_3), (86, ii x86_3), (102, s0 1 lh1_3.length), (103, ii x86_3)] rfl (by kernel_rfl) ?_
          cases b9 : (inRow x86_3 lh1_3.length : Bool) with
          | false => cases (cF b9 h)
          | true =>
            have h := cT b9 h
            refine XR.rd E0_ok [7, 12, 15, 16, 17, 85, 86, 104] rfl (v := pp 1 ((Int.toNat x86_3) * 1)) (v_idx (s := 1) (x := (src 141 (.tmp 102))) (y := (src 141 (.tmp 103))) (b := 1) (o := 0) (len := lh1_3.length) (cap := lh1_3.length) (ik := .i64) (i := x86_3) (off := (Int.toNat x86_3) * 1) (d := (some (path 12 104))) (by kernel_rfl) (by kernel_rfl) (by kernel_rfl) b9 (by omega)) (σ' := [(7, ii x7_3), (12, s0 0 lh0_3.length), (15, s0 1 lh1_3.length), (16, ii x86_3), (17, ii (cond (r26) 1 (-1))), (85, ii x85_3), (86, ii x86_3), (104, pp 1 ((Int.toNat x86_3) * 1))]) (by kernel_rfl) ?_
            refine XR.rd E0_ok [7, 12, 15, 16, 17, 85, 86, 105] rfl (v := ii (List.getD lh1_3 (Int.toNat x86_3) 0)) (v_load1 (encI_ok .i64) (x := (src 141 (.tmp 104))) (b := 1) (off := (Int.toNat x86_3) * 1) (xs := lh1_3) (fz := 0) (e := 3) (es := 1) (d := (some (path 12 105))) (by kernel_rfl) (by kernel_rfl) (by kernel_rfl) (Int.toNat x86_3) 0 0 (by first | with_reducible rfl | omega | rfl) (row_len (inRow_toNat b9) (by simp)) rfl rfl) (σ' := [(7, ii x7_3), (12, s0 0 lh0_3.length), (15, s0 1 lh1_3.length), (16, ii x86_3), (17, ii (cond (r26) 1 (-1))), (85, ii x85_3), (86, ii x86_3), (105, ii (List.getD lh1_3 (Int.toNat x86_3) 0))]) (by kernel_rfl) ?_
            refine XR.runS E0_ok 1 2 [(7, ii x7_3), (12, s0 0 lh0_3.length), (15, s0 1 lh1_3.length), (16, ii x86_3), (17, ii (cond (r26) 1 (-1))), (85, ii x85_3), (86, ii x86_3), (107, .bool ((List.getD lh1_3 (Int.toNat x86_3) 0) != (cond (r26) 1 (-1))))] rfl (by kernel_rfl) ?_
            refine XR.done (by kernel_rfl) ?_
            show XQ _ _ _ _ _ _ _ _
            cases b10 : ((List.getD lh1_3 (Int.toNat x86_3) 0) != (cond (r26) 1 (-1)) : Bool) with
            | true =>
              have h := cT b10 h
              refine XQ.cond (s := (.tmp 107)) (b := true) (by kernel_rfl) (by kernel_rfl) (fun _ => ?_) (fun q => by cases q)
              refine XQ.seq E0_ok (by kernel_rfl) ?_
              refine XQ.region (by kernel_rfl) ?_
              refine XR.runS E0_ok 1 1 [(6, .bool false)] rfl (by kernel_rfl) ?_
              refine XR.done (by kernel_rfl) ?_
              show XQ _ _ _ _ _ _ _ _
              refine XQ.ren (σ' := [(6, .bool false)]) (h' := []) (c' := 0) [] (by decide) rfl ⟨by kernel_rfl, trivial⟩ trivial rfl ?_
              refine XQ.ret (by kernel_rfl) ?_
              cases h
              exact hQ
            | false =>
              have h := cF b10 h
              refine XQ.cond (s := (.tmp 107)) (b := false) (by kernel_rfl) (by kernel_rfl) (fun q => by cases q) (fun _ => ?_)
              refine XQ.skip (by kernel_rfl) ?_
              show XQ _ _ _ _ _ _ _ _
              refine XQ.seq E0_ok (by kernel_rfl) ?_
              refine XQ.region (by kernel_rfl) ?_
              refine XR.runS E0_ok 1 3 [(7, ii x7_3), (12, s0 0 lh0_3.length), (15, s0 1 lh1_3.length), (16, ii x86_3), (17, ii (cond (r26) 1 (-1))), (85, ii x85_3), (86, ii x86_3), (109, ii x7_3), (110, s0 0 lh0_3.length), (111, ii x86_3)] rfl (by kernel_rfl) ?_
              obtain ⟨r27, r27_h, h⟩ := bS h
              refine XR.call E0_ok [7, 12, 15, 16, 17, 85, 86, 112] rfl (K := 9) (args := [ii x7_3, s0 0 lh0_3.length, ii x86_3]) (d := (some (path 12 112))) (by kernel_rfl) (KQ.call (KC.quiet E0_ok (args0 := [ii x7_3, s0 0 lh0_3.length, ii x86_3]) (h0 := [(0, rc (encI .i64) lh0_3 (0 + ((rowC (encI .i64) lh0_3).length + 1)) 3 1)]) (n := 1) (V := .tuple #[ii r27.1, ii r27.2]) [0] (f9_ok m (0 + ((rowC (encI .i64) lh0_3).length + 1)) 3 x7_3 lh0_3 x86_3 r27 r27_h) rfl (by rfl) (by decide) rfl (by kernel_rfl) ⟨⟨_, _, rfl, rfl, .inl ⟨rfl, rowC_scal (encI_ok .i64) _⟩⟩, trivial⟩) rfl) ?_
              rintro _ _ _ ⟨rfl, rfl, rfl⟩
              refine XR.conv (σ' := [(7, ii x7_3), (12, s0 0 lh0_3.length), (15, s0 1 lh1_3.length), (16, ii x86_3), (17, ii (cond (r26) 1 (-1))), (85, ii x85_3), (86, ii x86_3), (112, .tuple #[ii r27.1, ii r27.2])]) (h' := [(1, rc (encI .i64) lh1_3 0 3 1), (0, rc (encI .i64) lh0_3 0 3 1)]) (c' := 2) ?_ (by kernel_rfl)
              refine XR.runS E0_ok 1 5 [(7, ii x7_3), (12, s0 0 lh0_3.length), (15, s0 1 lh1_3.length), (16, ii x86_3), (17, ii (cond (r26) 1 (-1))), (18, ii r27.1), (19, ii r27.2), (85, ii x85_3), (86, ii x86_3)] rfl (by kernel_rfl) ?_
              refine XR.done (by kernel_rfl) ?_
              show XQ _ _ _ _ _ _ _ _
              refine XQ.seq E0_ok (by kernel_rfl) ?_
              refine XQ.region (by kernel_rfl) ?_
              refine XR.runS E0_ok 1 3 [(7, ii x7_3), (12, s0 0 lh0_3.length), (15, s0 1 lh1_3.length), (16, ii x86_3), (17, ii (cond (r26) 1 (-1))), (18, ii r27.1), (19, ii r27.2), (85, ii x85_3), (86, ii x86_3), (117, .bool ((cond (r26) 1 (-1) : Int) == 0))] rfl (by kernel_rfl) ?_
              cases b11 : ((cond (r26) 1 (-1) : Int) == 0 : Bool) with
              | true =>
                have h := cT b11 h
                refine XR.runS E0_ok 1 4 [(7, ii x7_3), (12, s0 0 lh0_3.length), (15, s0 1 lh1_3.length), (16, ii x86_3), (17, ii (cond (r26) 1 (-1))), (18, ii r27.1), (19, ii r27.2), (85, ii x85_3), (86, ii x86_3), (121, .bool (r27.2 == 0))] rfl (by kernel_rfl) ?_
                cases b12 : (r27.2 == 0 : Bool) with
                | true =>
                  have h := cT b12 h
                  refine XR.runS E0_ok 1 5 [(7, ii x7_3), (12, s0 0 lh0_3.length), (15, s0 1 lh1_3.length), (16, ii x86_3), (17, ii (cond (r26) 1 (-1))), (18, ii r27.1), (19, ii r27.2), (85, ii x85_3), (86, ii x86_3), (126, .bool (decide (r27.1 ≤ x86_3)))] rfl (by kernel_rfl) ?_
                  cases b13 : (decide (r27.1 ≤ x86_3) : Bool) with
                  | true =>
                    have h := cT b13 h
                    refine XR.runS E0_ok 1 12 [(7, ii x7_3), (12, s0 0 lh0_3.length), (15, s0 1 lh1_3.length), (85, ii x85_3), (86, ii x86_3), (138, .bool true)] rfl (by kernel_rfl) ?_
                    refine XR.done (by kernel_rfl) ?_
                    show XQ _ _ _ _ _ _ _ _
                    refine XQ.cond (s := (.tmp 138)) (b := true) (by kernel_rfl) (by kernel_rfl) (fun _ => ?_) (fun q => by cases q)
                    refine XQ.seq E0_ok (by kernel_rfl) ?_
                    refine XQ.region (by kernel_rfl) ?_
                    refine XR.runS E0_ok 1 1 [(6, .bool false)] rfl (by kernel_rfl) ?_
                    refine XR.done (by kernel_rfl) ?_
                    show XQ _ _ _ _ _ _ _ _
                    refine XQ.ren (σ' := [(6, .bool false)]) (h' := []) (c' := 0) [] (by decide) rfl ⟨by kernel_rfl, trivial⟩ trivial rfl ?_
                    refine XQ.ret (by kernel_rfl) ?_
                    cases h
                    exact hQ
                  | false =>
                    have h := cF b13 h
                    refine XR.runS E0_ok 1 3 [(7, ii x7_3), (12, s0 0 lh0_3.length), (15, s0 1 lh1_3.length), (16, ii x86_3), (18, ii r27.1), (19, ii r27.2), (85, ii x85_3), (86, ii x86_3), (126, .bool false), (129, .bool ((cond (r26) 1 (-1) : Int) != 0))] rfl (by kernel_rfl) ?_
                    cases b14 : ((cond (r26) 1 (-1) : Int) != 0 : Bool) with
                    | true =>
                      have h := cT b14 h
                      refine XR.runS E0_ok 1 3 [(7, ii x7_3), (12, s0 0 lh0_3.length), (15, s0 1 lh1_3.length), (16, ii x86_3), (18, ii r27.1), (85, ii x85_3), (86, ii x86_3), (126, .bool false), (129, .bool true), (132, .bool (r27.2 != 0))] rfl (by kernel_rfl) ?_
                      cases b15 : (r27.2 != 0 : Bool) with
                      | true =>
                        have h := cT b15 h
                        refine XR.runS E0_ok 1 6 [(7, ii x7_3), (12, s0 0 lh0_3.length), (15, s0 1 lh1_3.length), (85, ii x85_3), (86, ii x86_3), (138, .bool true)] rfl (by kernel_rfl) ?_
                        refine XR.done (by kernel_rfl) ?_
                        show XQ _ _ _ _ _ _ _ _
                        refine XQ.cond (s := (.tmp 138)) (b := true) (by kernel_rfl) (by kernel_rfl) (fun _ => ?_) (fun q => by cases q)
                        refine XQ.seq E0_ok (by kernel_rfl) ?_
                        refine XQ.region (by kernel_rfl) ?_
                        refine XR.runS E0_ok 1 1 [(6, .bool false)] rfl (by kernel_rfl) ?_
                        refine XR.done (by kernel_rfl) ?_
                        show XQ _ _ _ _ _ _ _ _
                        refine XQ.ren (σ' := [(6, .bool false)]) (h' := []) (c' := 0) [] (by decide) rfl ⟨by kernel_rfl, trivial⟩ trivial rfl ?_
                        refine XQ.ret (by kernel_rfl) ?_
                        cases h
                        exact hQ
                      | false =>
                        have h := cF b15 h
                        refine XR.runS E0_ok 1 6 [(7, ii x7_3), (12, s0 0 lh0_3.length), (15, s0 1 lh1_3.length), (85, ii x85_3), (86, ii x86_3), (138, .bool (r27.1 != x86_3))] rfl (by kernel_rfl) ?_
                        refine XR.done (by kernel_rfl) ?_
                        show XQ _ _ _ _ _ _ _ _
                        cases b16 : (r27.1 != x86_3 : Bool) with
                        | true =>
                          have h := cT b16 h
                          refine XQ.cond (s := (.tmp 138)) (b := true) (by kernel_rfl) (by kernel_rfl) (fun _ => ?_) (fun q => by cases q)
                          refine XQ.seq E0_ok (by kernel_rfl) ?_
                          refine XQ.region (by kernel_rfl) ?_
                          refine XR.runS E0_ok 1 1 [(6, .bool false)] rfl (by kernel_rfl) ?_
                          refine XR.done (by kernel_rfl) ?_
                          show XQ _ _ _ _ _ _ _ _
                          refine XQ.ren (σ' := [(6, .bool false)]) (h' := []) (c' := 0) [] (by decide) rfl ⟨by kernel_rfl, trivial⟩ trivial rfl ?_
                          refine XQ.ret (by kernel_rfl) ?_
                          cases h
                          exact hQ
                        | false =>
                          have h := cF b16 h
                          refine XQ.cond (s := (.tmp 138)) (b := false) (by kernel_rfl) (by kernel_rfl) (fun q => by cases q) (fun _ => ?_)
                          refine XQ.skip (by kernel_rfl) ?_
                          show XQ _ _ _ _ _ _ _ _
                          refine XQ.region (by kernel_rfl) ?_
                          refine XR.runS E0_ok 1 2 [(7, ii x7_3), (12, s0 0 lh0_3.length), (15, s0 1 lh1_3.length), (85, ii x85_3), (86, ii (w64 (x86_3 + 1)))] rfl (by kernel_rfl) ?_
                          refine XR.done (by kernel_rfl) ?_
                          show XL _ _ _ _ _ _ _ _ _
                          refine XL.ren (σ' := [(7, ii x7_3), (12, s0 0 lh0_3.length), (15, s0 1 lh1_3.length), (85, ii x85_3), (86, ii (w64 (x86_3 + 1)))]) (h' := [(1, rc (encI .i64) lh1_3 0 3 1), (0, rc (encI .i64) lh0_3 0 3 1)]) (c' := 2) [0, 1] (by decide) rfl ⟨by kernel_rfl, by kernel_rfl, by kernel_rfl, by kernel_rfl, by kernel_rfl, trivial⟩ ⟨⟨_, _, rfl, rfl, .inl ⟨rfl, rowC_scal (encI_ok .i64) _⟩⟩, ⟨_, _, rfl, rfl, .inl ⟨rfl, rowC_scal (encI_ok .i64) _⟩⟩, trivial⟩ rfl ?_
                          refine XL.conv (f3_3_ok m fuel x7_3 x85_3 (w64 (x86_3 + 1)) lh0_3 lh1_3 o h Q hQ) (by first | with_reducible rfl | simp | rfl)
                    | false =>
                      have h := cF b14 h
                      refine XR.runS E0_ok 1 9 [(7, ii x7_3), (12, s0 0 lh0_3.length), (15, s0 1 lh1_3.length), (85, ii x85_3), (86, ii x86_3), (138, .bool false)] rfl (by kernel_rfl) ?_
                      refine XR.done (by kernel_rfl) ?_
                      show XQ _ _ _ _ _ _ _ _
                      refine XQ.cond (s := (.tmp 138)) (b := false) (by kernel_rfl) (by kernel_rfl) (fun q => by cases q) (fun _ => ?_)
                      refine XQ.skip (by kernel_rfl) ?_
                      show XQ _ _ _ _ _ _ _ _
                      refine XQ.region (by kernel_rfl) ?_
                      refine XR.runS E0_ok 1 2 [(7, ii x7_3), (12, s0 0 lh0_3.length), (15, s0 1 lh1_3.length), (85, ii x85_3), (86, ii (w64 (x86_3 + 1)))] rfl (by kernel_rfl) ?_
                      refine XR.done (by kernel_rfl) ?_
                      show XL _ _ _ _ _ _ _ _ _
                      refine XL.ren (σ' := [(7, ii x7_3), (12, s0 0 lh0_3.length), (15, s0 1 lh1_3.length), (85, ii x85_3), (86, ii (w64 (x86_3 + 1)))]) (h' := [(1, rc (encI .i64) lh1_3 0 3 1), (0, rc (encI .i64) lh0_3 0 3 1)]) (c' := 2) [0, 1] (by decide) rfl ⟨by kernel_rfl, by kernel_rfl, by kernel_rfl, by kernel_rfl, by kernel_rfl, trivial⟩ ⟨⟨_, _, rfl, rfl, .inl ⟨rfl, rowC_scal (encI_ok .i64) _⟩⟩, ⟨_, _, rfl, rfl, .inl ⟨rfl, rowC_scal (encI_ok .i64) _⟩⟩, trivial⟩ rfl ?_
                      refine XL.conv (f3_3_ok m fuel x7_3 x85_3 (w64 (x86_3 + 1)) lh0_3 lh1_3 o h Q hQ) (by first | with_reducible rfl | simp | rfl)
                | false =>
                  have h := cF b12 h
                  refine XR.runS E0_ok 1 8 [(7, ii x7_3), (12, s0 0 lh0_3.length), (15, s0 1 lh1_3.length), (16, ii x86_3), (18, ii r27.1), (19, ii r27.2), (85, ii x85_3), (86, ii x86_3), (126, .bool false), (129, .bool ((cond (r26) 1 (-1) : Int) != 0))] rfl (by kernel_rfl) ?_
                  cases b17 : ((cond (r26) 1 (-1) : Int) != 0 : Bool) with
                  | true =>
                    have h := cT b17 h
                    refine XR.runS E0_ok 1 3 [(7, ii x7_3), (12, s0 0 lh0_3.length), (15, s0 1 lh1_3.length), (16, ii x86_3), (18, ii r27.1), (85, ii x85_3), (86, ii x86_3), (126, .bool false), (129, .bool true), (132, .bool (r27.2 != 0))] rfl (by kernel_rfl) ?_
                    cases b18 : (r27.2 != 0 : Bool) with
                    | true =>
                      have h := cT b18 h
                      refine XR.runS E0_ok 1 6 [(7, ii x7_3), (12, s0 0 lh0_3.length), (15, s0 1 lh1_3.length), (85, ii x85_3), (86, ii x86_3), (138, .bool true)] rfl (by kernel_rfl) ?_
                      refine XR.done (by kernel_rfl) ?_
                      show XQ _ _ _ _ _ _ _ _
                      refine XQ.cond (s := (.tmp 138)) (b := true) (by kernel_rfl) (by kernel_rfl) (fun _ => ?_) (fun q => by cases q)
                      refine XQ.seq E0_ok (by kernel_rfl) ?_
                      refine XQ.region (by kernel_rfl) ?_
                      refine XR.runS E0_ok 1 1 [(6, .bool false)] rfl (by kernel_rfl) ?_
                      refine XR.done (by kernel_rfl) ?_
                      show XQ _ _ _ _ _ _ _ _
                      refine XQ.ren (σ' := [(6, .bool false)]) (h' := []) (c' := 0) [] (by decide) rfl ⟨by kernel_rfl, trivial⟩ trivial rfl ?_
                      refine XQ.ret (by kernel_rfl) ?_
                      cases h
                      exact hQ
                    | false =>
                      have h := cF b18 h
                      refine XR.runS E0_ok 1 6 [(7, ii x7_3), (12, s0 0 lh0_3.length), (15, s0 1 lh1_3.length), (85, ii x85_3), (86, ii x86_3), (138, .bool (r27.1 != x86_3))] rfl (by kernel_rfl) ?_
                      refine XR.done (by kernel_rfl) ?_
                      show XQ _ _ _ _ _ _ _ _
                      cases b19 : (r27.1 != x86_3 : Bool) with
                      | true =>
                        have h := cT b19 h
                        refine XQ.cond (s := (.tmp 138)) (b := true) (by kernel_rfl) (by kernel_rfl) (fun _ => ?_) (fun q => by cases q)
                        refine XQ.seq E0_ok (by kernel_rfl) ?_
                        refine XQ.region (by kernel_rfl) ?_
                        refine XR.runS E0_ok 1 1 [(6, .bool false)] rfl (by kernel_rfl) ?_
                        refine XR.done (by kernel_rfl) ?_
                        show XQ _ _ _ _ _ _ _ _
                        refine XQ.ren (σ' := [(6, .bool false)]) (h' := []) (c' := 0) [] (by decide) rfl ⟨by kernel_rfl, trivial⟩ trivial rfl ?_
                        refine XQ.ret (by kernel_rfl) ?_
                        cases h
                        exact hQ
                      | false =>
                        have h := cF b19 h
                        refine XQ.cond (s := (.tmp 138)) (b := false) (by kernel_rfl) (by kernel_rfl) (fun q => by cases q) (fun _ => ?_)
                        refine XQ.skip (by kernel_rfl) ?_
                        show XQ _ _ _ _ _ _ _ _
                        refine XQ.region (by kernel_rfl) ?_
                        refine XR.runS E0_ok 1 2 [(7, ii x7_3), (12, s0 0 lh0_3.length), (15, s0 1 lh1_3.length), (85, ii x85_3), (86, ii (w64 (x86_3 + 1)))] rfl (by kernel_rfl) ?_
                        refine XR.done (by kernel_rfl) ?_
                        show XL _ _ _ _ _ _ _ _ _
                        refine XL.ren (σ' := [(7, ii x7_3), (12, s0 0 lh0_3.length), (15, s0 1 lh1_3.length), (85, ii x85_3), (86, ii (w64 (x86_3 + 1)))]) (h' := [(1, rc (encI .i64) lh1_3 0 3 1), (0, rc (encI .i64) lh0_3 0 3 1)]) (c' := 2) [0, 1] (by decide) rfl ⟨by kernel_rfl, by kernel_rfl, by kernel_rfl, by kernel_rfl, by kernel_rfl, trivial⟩ ⟨⟨_, _, rfl, rfl, .inl ⟨rfl, rowC_scal (encI_ok .i64) _⟩⟩, ⟨_, _, rfl, rfl, .inl ⟨rfl, rowC_scal (encI_ok .i64) _⟩⟩, trivial⟩ rfl ?_
                        refine XL.conv (f3_3_ok m fuel x7_3 x85_3 (w64 (x86_3 + 1)) lh0_3 lh1_3 o h Q hQ) (by first | with_reducible rfl | simp | rfl)
                  | false =>
                    have h := cF b17 h
                    refine XR.runS E0_ok 1 9 [(7, ii x7_3), (12, s0 0 lh0_3.length), (15, s0 1 lh1_3.length), (85, ii x85_3), (86, ii x86_3), (138, .bool false)] rfl (by kernel_rfl) ?_
                    refine XR.done (by kernel_rfl) ?_
                    show XQ _ _ _ _ _ _ _ _
                    refine XQ.cond (s := (.tmp 138)) (b := false) (by kernel_rfl) (by kernel_rfl) (fun q => by cases q) (fun _ => ?_)
                    refine XQ.skip (by kernel_rfl) ?_
                    show XQ _ _ _ _ _ _ _ _
                    refine XQ.region (by kernel_rfl) ?_
                    refine XR.runS E0_ok 1 2 [(7, ii x7_3), (12, s0 0 lh0_3.length), (15, s0 1 lh1_3.length), (85, ii x85_3), (86, ii (w64 (x86_3 + 1)))] rfl (by kernel_rfl) ?_
                    refine XR.done (by kernel_rfl) ?_
                    show XL _ _ _ _ _ _ _ _ _
                    refine XL.ren (σ' := [(7, ii x7_3), (12, s0 0 lh0_3.length), (15, s0 1 lh1_3.length), (85, ii x85_3), (86, ii (w64 (x86_3 + 1)))]) (h' := [(1, rc (encI .i64) lh1_3 0 3 1), (0, rc (encI .i64) lh0_3 0 3 1)]) (c' := 2) [0, 1] (by decide) rfl ⟨by kernel_rfl, by kernel_rfl, by kernel_rfl, by kernel_rfl, by kernel_rfl, trivial⟩ ⟨⟨_, _, rfl, rfl, .inl ⟨rfl, rowC_scal (encI_ok .i64) _⟩⟩, ⟨_, _, rfl, rfl, .inl ⟨rfl, rowC_scal (encI_ok .i64) _⟩⟩, trivial⟩ rfl ?_
                    refine XL.conv (f3_3_ok m fuel x7_3 x85_3 (w64 (x86_3 + 1)) lh0_3 lh1_3 o h Q hQ) (by first | with_reducible rfl | simp | rfl)
              | false =>
                have h := cF b11 h
                refine XR.runS E0_ok 1 12 [(7, ii x7_3), (12, s0 0 lh0_3.length), (15, s0 1 lh1_3.length), (16, ii x86_3), (18, ii r27.1), (19, ii r27.2), (85, ii x85_3), (86, ii x86_3), (126, .bool false), (129, .bool ((cond (r26) 1 (-1) : Int) != 0))] rfl (by kernel_rfl) ?_
                cases b20 : ((cond (r26) 1 (-1) : Int) != 0 : Bool) with
                | true =>
                  have h := cT b20 h
                  refine XR.runS E0_ok 1 3 [(7, ii x7_3), (12, s0 0 lh0_3.length), (15, s0 1 lh1_3.length), (16, ii x86_3), (18, ii r27.1), (85, ii x85_3), (86, ii x86_3), (126, .bool false), (129, .bool true), (132, .bool (r27.2 != 0))] rfl (by kernel_rfl) ?_
                  cases b21 : (r27.2 != 0 : Bool) with
                  | true =>
                    have h := cT b21 h
                    refine XR.runS E0_ok 1 6 [(7, ii x7_3), (12, s0 0 lh0_3.length), (15, s0 1 lh1_3.length), (85, ii x85_3), (86, ii x86_3), (138, .bool true)] rfl (by kernel_rfl) ?_
                    refine XR.done (by kernel_rfl) ?_
                    show XQ _ _ _ _ _ _ _ _
                    refine XQ.cond (s := (.tmp 138)) (b := true) (by kernel_rfl) (by kernel_rfl) (fun _ => ?_) (fun q => by cases q)
                    refine XQ.seq E0_ok (by kernel_rfl) ?_
                    refine XQ.region (by kernel_rfl) ?_
                    refine XR.runS E0_ok 1 1 [(6, .bool false)] rfl (by kernel_rfl) ?_
                    refine XR.done (by kernel_rfl) ?_
                    show XQ _ _ _ _ _ _ _ _
                    refine XQ.ren (σ' := [(6, .bool false)]) (h' := []) (c' := 0) [] (by decide) rfl ⟨by kernel_rfl, trivial⟩ trivial rfl ?_
                    refine XQ.ret (by kernel_rfl) ?_
                    cases h
                    exact hQ
                  | false =>
                    have h := cF b21 h
                    refine XR.runS E0_ok 1 6 [(7, ii x7_3), (12, s0 0 lh0_3.length), (15, s0 1 lh1_3.length), (85, ii x85_3), (86, ii x86_3), (138, .bool (r27.1 != x86_3))] rfl (by kernel_rfl) ?_
                    refine XR.done (by kernel_rfl) ?_
                    show XQ _ _ _ _ _ _ _ _
                    cases b22 : (r27.1 != x86_3 : Bool) with
                    | true =>
                      have h := cT b22 h
                      refine XQ.cond (s := (.tmp 138)) (b := true) (by kernel_rfl) (by kernel_rfl) (fun _ => ?_) (fun q => by cases q)
                      refine XQ.seq E0_ok (by kernel_rfl) ?_
                      refine XQ.region (by kernel_rfl) ?_
                      refine XR.runS E0_ok 1 1 [(6, .bool false)] rfl (by kernel_rfl) ?_
                      refine XR.done (by kernel_rfl) ?_
                      show XQ _ _ _ _ _ _ _ _
                      refine XQ.ren (σ' := [(6, .bool false)]) (h' := []) (c' := 0) [] (by decide) rfl ⟨by kernel_rfl, trivial⟩ trivial rfl ?_
                      refine XQ.ret (by kernel_rfl) ?_
                      cases h
                      exact hQ
                    | false =>
                      have h := cF b22 h
                      refine XQ.cond (s := (.tmp 138)) (b := false) (by kernel_rfl) (by kernel_rfl) (fun q => by cases q) (fun _ => ?_)
                      refine XQ.skip (by kernel_rfl) ?_
                      show XQ _ _ _ _ _ _ _ _
                      refine XQ.region (by kernel_rfl) ?_
                      refine XR.runS E0_ok 1 2 [(7, ii x7_3), (12, s0 0 lh0_3.length), (15, s0 1 lh1_3.length), (85, ii x85_3), (86, ii (w64 (x86_3 + 1)))] rfl (by kernel_rfl) ?_
                      refine XR.done (by kernel_rfl) ?_
                      show XL _ _ _ _ _ _ _ _ _
                      refine XL.ren (σ' := [(7, ii x7_3), (12, s0 0 lh0_3.length), (15, s0 1 lh1_3.length), (85, ii x85_3), (86, ii (w64 (x86_3 + 1)))]) (h' := [(1, rc (encI .i64) lh1_3 0 3 1), (0, rc (encI .i64) lh0_3 0 3 1)]) (c' := 2) [0, 1] (by decide) rfl ⟨by kernel_rfl, by kernel_rfl, by kernel_rfl, by kernel_rfl, by kernel_rfl, trivial⟩ ⟨⟨_, _, rfl, rfl, .inl ⟨rfl, rowC_scal (encI_ok .i64) _⟩⟩, ⟨_, _, rfl, rfl, .inl ⟨rfl, rowC_scal (encI_ok .i64) _⟩⟩, trivial⟩ rfl ?_
                      refine XL.conv (f3_3_ok m fuel x7_3 x85_3 (w64 (x86_3 + 1)) lh0_3 lh1_3 o h Q hQ) (by first | with_reducible rfl | simp | rfl)
                | false =>
                  have h := cF b20 h
                  refine XR.runS E0_ok 1 9 [(7, ii x7_3), (12, s0 0 lh0_3.length), (15, s0 1 lh1_3.length), (85, ii x85_3), (86, ii x86_3), (138, .bool false)] rfl (by kernel_rfl) ?_
                  refine XR.done (by kernel_rfl) ?_
                  show XQ _ _ _ _ _ _ _ _
                  refine XQ.cond (s := (.tmp 138)) (b := false) (by kernel_rfl) (by kernel_rfl) (fun q => by cases q) (fun _ => ?_)
                  refine XQ.skip (by kernel_rfl) ?_
                  show XQ _ _ _ _ _ _ _ _
                  refine XQ.region (by kernel_rfl) ?_
                  refine XR.runS E0_ok 1 2 [(7, ii x7_3), (12, s0 0 lh0_3.length), (15, s0 1 lh1_3.length), (85, ii x85_3), (86, ii (w64 (x86_3 + 1)))] rfl (by kernel_rfl) ?_
                  refine XR.done (by kernel_rfl) ?_
                  show XL _ _ _ _ _ _ _ _ _
                  refine XL.ren (σ' := [(7, ii x7_3), (12, s0 0 lh0_3.length), (15, s0 1 lh1_3.length), (85, ii x85_3), (86, ii (w64 (x86_3 + 1)))]) (h' := [(1, rc (encI .i64) lh1_3 0 3 1), (0, rc (encI .i64) lh0_3 0 3 1)]) (c' := 2) [0, 1] (by decide) rfl ⟨by kernel_rfl, by kernel_rfl, by kernel_rfl, by kernel_rfl, by kernel_rfl, trivial⟩ ⟨⟨_, _, rfl, rfl, .inl ⟨rfl, rowC_scal (encI_ok .i64) _⟩⟩, ⟨_, _, rfl, rfl, .inl ⟨rfl, rowC_scal (encI_ok .i64) _⟩⟩, trivial⟩ rfl ?_
                  refine XL.conv (f3_3_ok m fuel x7_3 x85_3 (w64 (x86_3 + 1)) lh0_3 lh1_3 o h Q hQ) (by first | with_reducible rfl | simp | rfl)
        | false =>
          have h := cF b7 h
          refine XR.runS E0_ok 1 5 [(7, ii x7_3), (12, s0 0 lh0_3.length), (15, s0 1 lh1_3.length), (16, ii x86_3), (17, ii (-1)), (85, ii x85_3), (86, ii x86_3), (101, .bool false)] rfl (by kernel_rfl) ?_
          refine XR.done (by kernel_rfl) ?_
          show XQ _ _ _ _ _ _ _ _
          refine XQ.cond (s := (.tmp 101)) (b := false) (by kernel_rfl) (by kernel_rfl) (fun q => by cases q) (fun _ => ?_)
          refine XQ.skip (by kernel_rfl) ?_
          show XQ _ _ _ _ _ _ _ _
          refine XQ.seq E0_ok (by kernel_rfl) ?_
          refine XQ.seq E0_ok (by kernel_rfl) ?_
          refine XQ.region (by kernel_rfl) ?_
          refine XR.runS E0_ok 1 2 [(7, ii x7_3), (12, s0 0 lh0_3.length), (15, s0 1 lh1_3.length), (16, ii x86_3), (17, ii (-1)), (85, ii x85_3), (86, ii x86_3), (102, s0 1 lh1_3.length), (103, ii x86_3)] rfl (by kernel_rfl) ?_
          cases b23 : (inRow x86_3 lh1_3.length : Bool) with
          | false => cases (cF b23 h)
          | true =>
            have h := cT b23 h
            refine XR.rd E0_ok [7, 12, 15, 16, 17, 85, 86, 104] rfl (v := pp 1 ((Int.toNat x86_3) * 1)) (v_idx (s := 1) (x := (src 141 (.tmp 102))) (y := (src 141 (.tmp 103))) (b := 1) (o := 0) (len := lh1_3.length) (cap := lh1_3.length) (ik := .i64) (i := x86_3) (off := (Int.toNat x86_3) * 1) (d := (some (path 12 104))) (by kernel_rfl) (by kernel_rfl) (by kernel_rfl) b23 (by omega)) (σ' := [(7, ii x7_3), (12, s0 0 lh0_3.length), (15, s0 1 lh1_3.length), (16, ii x86_3), (17, ii (-1)), (85, ii x85_3), (86, ii x86_3), (104, pp 1 ((Int.toNat x86_3) * 1))]) (by kernel_rfl) ?_
            refine XR.rd E0_ok [7, 12, 15, 16, 17, 85, 86, 105] rfl (v := ii (List.getD lh1_3 (Int.toNat x86_3) 0)) (v_load1 (encI_ok .i64) (x := (src 141 (.tmp 104))) (b := 1) (off := (Int.toNat x86_3) * 1) (xs := lh1_3) (fz := 0) (e := 3) (es := 1) (d := (some (path 12 105))) (by kernel_rfl) (by kernel_rfl) (by kernel_rfl) (Int.toNat x86_3) 0 0 (by first | with_reducible rfl | omega | rfl) (row_len (inRow_toNat b23) (by simp)) rfl rfl) (σ' := [(7, ii x7_3), (12, s0 0 lh0_3.length), (15, s0 1 lh1_3.length), (16, ii x86_3), (17, ii (-1)), (85, ii x85_3), (86, ii x86_3), (105, ii (List.getD lh1_3 (Int.toNat x86_3) 0))]) (by kernel_rfl) ?_
            refine XR.runS E0_ok 1 2 [(7, ii x7_3), (12, s0 0 lh0_3.length), (15, s0 1 lh1_3.length), (16, ii x86_3), (17, ii (-1)), (85, ii x85_3), (86, ii x86_3), (107, .bool ((List.getD lh1_3 (Int.toNat x86_3) 0) != (-1)))] rfl (by kernel_rfl) ?_
            refine XR.done (by kernel_rfl) ?_
            show XQ _ _ _ _ _ _ _ _
            cases b24 : ((List.getD lh1_3 (Int.toNat x86_3) 0) != (-1) : Bool) with
            | true =>
              have h := cT b24 h
              refine XQ.cond (s := (.tmp 107)) (b := true) (by kernel_rfl) (by kernel_rfl) (fun _ => ?_) (fun q => by cases q)
              refine XQ.seq E0_ok (by kernel_rfl) ?_
              refine XQ.region (by kernel_rfl) ?_
              refine XR.runS E0_ok 1 1 [(6, .bool false)] rfl (by kernel_rfl) ?_
              refine XR.done (by kernel_rfl) ?_
              show XQ _ _ _ _ _ _ _ _
              refine XQ.ren (σ' := [(6, .bool false)]) (h' := []) (c' := 0) [] (by decide) rfl ⟨by kernel_rfl, trivial⟩ trivial rfl ?_
              refine XQ.ret (by kernel_rfl) ?_
              cases h
              exact hQ
            | false =>
              have h := cF b24 h
              refine XQ.cond (s := (.tmp 107)) (b := false) (by kernel_rfl) (by kernel_rfl) (fun q => by cases q) (fun _ => ?_)
              refine XQ.skip (by kernel_rfl) ?_
              show XQ _ _ _ _ _ _ _ _
              refine XQ.seq E0_ok (by kernel_rfl) ?_
              refine XQ.region (by kernel_rfl) ?_
              refine XR.runS E0_ok 1 3 [(7, ii x7_3), (12, s0 0 lh0_3.length), (15, s0 1 lh1_3.length), (16, ii x86_3), (17, ii (-1)), (85, ii x85_3), (86, ii x86_3), (109, ii x7_3), (110, s0 0 lh0_3.length), (111, ii x86_3)] rfl (by kernel_rfl) ?_
              obtain ⟨r28, r28_h, h⟩ := bS h
              refine XR.call E0_ok [7, 12, 15, 16, 17, 85, 86, 112] rfl (K := 9) (args := [ii x7_3, s0 0 lh0_3.length, ii x86_3]) (d := (some (path 12 112))) (by kernel_rfl) (KQ.call (KC.quiet E0_ok (args0 := [ii x7_3, s0 0 lh0_3.length, ii x86_3]) (h0 := [(0, rc (encI .i64) lh0_3 (0 + ((rowC (encI .i64) lh0_3).length + 1)) 3 1)]) (n := 1) (V := .tuple #[ii r28.1, ii r28.2]) [0] (f9_ok m (0 + ((rowC (encI .i64) lh0_3).length + 1)) 3 x7_3 lh0_3 x86_3 r28 r28_h) rfl (by rfl) (by decide) rfl (by kernel_rfl) ⟨⟨_, _, rfl, rfl, .inl ⟨rfl, rowC_scal (encI_ok .i64) _⟩⟩, trivial⟩) rfl) ?_
              rintro _ _ _ ⟨rfl, rfl, rfl⟩
              refine XR.conv (σ' := [(7, ii x7_3), (12, s0 0 lh0_3.length), (15, s0 1 lh1_3.length), (16, ii x86_3), (17, ii (-1)), (85, ii x85_3), (86, ii x86_3), (112, .tuple #[ii r28.1, ii r28.2])]) (h' := [(1, rc (encI .i64) lh1_3 0 3 1), (0, rc (encI .i64) lh0_3 0 3 1)]) (c' := 2) ?_ (by kernel_rfl)
              refine XR.runS E0_ok 1 5 [(7, ii x7_3), (12, s0 0 lh0_3.length), (15, s0 1 lh1_3.length), (16, ii x86_3), (17, ii (-1)), (18, ii r28.1), (19, ii r28.2), (85, ii x85_3), (86, ii x86_3)] rfl (by kernel_rfl) ?_
              refine XR.done (by kernel_rfl) ?_
              show XQ _ _ _ _ _ _ _ _
              refine XQ.seq E0_ok (by kernel_rfl) ?_
              refine XQ.region (by kernel_rfl) ?_
              refine XR.runS E0_ok 1 18 [(7, ii x7_3), (12, s0 0 lh0_3.length), (15, s0 1 lh1_3.length), (16, ii x86_3), (18, ii r28.1), (85, ii x85_3), (86, ii x86_3), (126, .bool false), (129, .bool true), (132, .bool (r28.2 != 0))] rfl (by kernel_rfl) ?_
              cases b25 : (r28.2 != 0 : Bool) with
              | true =>
                have h := cT b25 h
                refine XR.runS E0_ok 1 6 [(7, ii x7_3), (12, s0 0 lh0_3.length), (15, s0 1 lh1_3.length), (85, ii x85_3), (86, ii x86_3), (138, .bool true)] rfl (by kernel_rfl) ?_
                refine XR.done (by kernel_rfl) ?_
                show XQ _ _ _ _ _ _ _ _
                refine XQ.cond (s := (.tmp 138)) (b := true) (by kernel_rfl) (by kernel_rfl) (fun _ => ?_) (fun q => by cases q)
                refine XQ.seq E0_ok (by kernel_rfl) ?_
                refine XQ.region (by kernel_rfl) ?_
                refine XR.runS E0_ok 1 1 [(6, .bool false)] rfl (by kernel_rfl) ?_
                refine XR.done (by kernel_rfl) ?_
                show XQ _ _ _ _ _ _ _ _
                refine XQ.ren (σ' := [(6, .bool false)]) (h' := []) (c' := 0) [] (by decide) rfl ⟨by kernel_rfl, trivial⟩ trivial rfl ?_
                refine XQ.ret (by kernel_rfl) ?_
                cases h
                exact hQ
              | false =>
                have h := cF b25 h
                refine XR.runS E0_ok 1 6 [(7, ii x7_3), (12, s0 0 lh0_3.length), (15, s0 1 lh1_3.length), (85, ii x85_3), (86, ii x86_3), (138, .bool (r28.1 != x86_3))] rfl (by kernel_rfl) ?_
                refine XR.done (by kernel_rfl) ?_
                show XQ _ _ _ _ _ _ _ _
                cases b26 : (r28.1 != x86_3 : Bool) with
                | true =>
                  have h := cT b26 h
                  refine XQ.cond (s := (.tmp 138)) (b := true) (by kernel_rfl) (by kernel_rfl) (fun _ => ?_) (fun q => by cases q)
                  refine XQ.seq E0_ok (by kernel_rfl) ?_
                  refine XQ.region (by kernel_rfl) ?_
                  refine XR.runS E0_ok 1 1 [(6, .bool false)] rfl (by kernel_rfl) ?_
                  refine XR.done (by kernel_rfl) ?_
                  show XQ _ _ _ _ _ _ _ _
                  refine XQ.ren (σ' := [(6, .bool false)]) (h' := []) (c' := 0) [] (by decide) rfl ⟨by kernel_rfl, trivial⟩ trivial rfl ?_
                  refine XQ.ret (by kernel_rfl) ?_
                  cases h
                  exact hQ
                | false =>
                  have h := cF b26 h
                  refine XQ.cond (s := (.tmp 138)) (b := false) (by kernel_rfl) (by kernel_rfl) (fun q => by cases q) (fun _ => ?_)
                  refine XQ.skip (by kernel_rfl) ?_
                  show XQ _ _ _ _ _ _ _ _
                  refine XQ.region (by kernel_rfl) ?_
                  refine XR.runS E0_ok 1 2 [(7, ii x7_3), (12, s0 0 lh0_3.length), (15, s0 1 lh1_3.length), (85, ii x85_3), (86, ii (w64 (x86_3 + 1)))] rfl (by kernel_rfl) ?_
                  refine XR.done (by kernel_rfl) ?_
                  show XL _ _ _ _ _ _ _ _ _
                  refine XL.ren (σ' := [(7, ii x7_3), (12, s0 0 lh0_3.length), (15, s0 1 lh1_3.length), (85, ii x85_3), (86, ii (w64 (x86_3 + 1)))]) (h' := [(1, rc (encI .i64) lh1_3 0 3 1), (0, rc (encI .i64) lh0_3 0 3 1)]) (c' := 2) [0, 1] (by decide) rfl ⟨by kernel_rfl, by kernel_rfl, by kernel_rfl, by kernel_rfl, by kernel_rfl, trivial⟩ ⟨⟨_, _, rfl, rfl, .inl ⟨rfl, rowC_scal (encI_ok .i64) _⟩⟩, ⟨_, _, rfl, rfl, .inl ⟨rfl, rowC_scal (encI_ok .i64) _⟩⟩, trivial⟩ rfl ?_
                  refine XL.conv (f3_3_ok m fuel x7_3 x85_3 (w64 (x86_3 + 1)) lh0_3 lh1_3 o h Q hQ) (by first | with_reducible rfl | simp | rfl)
    | false =>
      have h := cF b1 h
      refine XQ.cond (s := (.tmp 87)) (b := false) (by kernel_rfl) (by kernel_rfl) (fun q => by cases q) (fun _ => ?_)
      refine XQ.ren (σ' := []) (h' := []) (c' := 0) [] (by decide) rfl trivial trivial rfl ?_
      refine XQ.exit (i := 4) (by kernel_rfl) ?_
      cases h
      exact hQ

def f3 (m : Nat) (a : Int) (b : Int) (c_0 : Int) (c_1 : Int) (c_2 : Int) (c_3 : Int) (c_4 : Int) : Option (Bool) :=
  cond ((w64 ((w64 (1 + (Int.tmod (w64 a) 5))) + 1)) != 0) (
    (f3_1 m m (w64 (1 + (Int.tmod (w64 a) 5))) (Int.tmod (w64 b) (w64 ((w64 (1 + (Int.tmod (w64 a) 5))) + 1))) 0 [c_0, c_1, c_2, c_3, c_4] []).bind fun o1 =>
      (f6 m o1.1 o1.2).bind fun r1 =>
        cond (r1.2 != 0) (
          some (false)
        ) (
          cond (((r1.1.length : Nat) : Int) != ((o1.2.length : Nat) : Int)) (
            some (false)
          ) (
            (f3_2 m m o1.1 ((r1.1.length : Nat) : Int) 0 [] r1.1).bind fun o2 =>
              (f24 m 1 o2.1 o2.2 []).bind fun r3 =>
                cond (r3.2.2.2.2.2.2 != 0) (
                  some (false)
                ) (
                  (f25 m r3.1 r3.2.1 r3.2.2.1 r3.2.2.2.1 r3.2.2.2.2.1 r3.2.2.2.2.2.1).bind fun r4 =>
                    cond (decide (r4.length = 25)) (
                      cond (cutOK 0 r3.2.2.1 ((25 : Nat) : Int) 25) (
                        cond (decide (0 + (Int.toNat r3.2.2.1) ≤ r4.length)) (
                          cond (decide ((Int.toNat r3.2.2.1) ≤ 25)) (
                            cond (fitsB (Int.toNat r3.2.2.1) 8) (
                              cond ((((List.take (Int.toNat r3.2.2.1) (List.drop 0 r4)).length : Nat) : Int) != o2.1) (
                                some (false)
                              ) (
                                (f3_3 m m o2.1 o2.1 0 o2.2 (List.take (Int.toNat r3.2.2.1) (List.drop 0 r4))).bind fun o3 =>
                                  match o3 with
                                  | .r =>
                                    some (false)
                                  | .x4 =>
                                    some (true)
                              )
                            ) none
                          ) none
                        ) none
                      ) none
                    ) none
                )
          )
        )
  ) none

theorem f3_ok (m : Nat) (a : Int) (b : Int) (c_0 : Int) (c_1 : Int) (c_2 : Int) (c_3 : Int) (c_4 : Int) (o : Bool) (h : f3 m a b c_0 c_1 c_2 c_3 c_4 = some o) (w : World) (hI : seatInv w) : Calls Proofs.Tryz.prog 3 #[.int .u8 a, .int .u8 b, .agg #[.int .u8 c_0, .int .u8 c_1, .int .u8 c_2, .int .u8 c_3, .int .u8 c_4]] w fun e w' => e = .returned (.bool o) ∧ Below w.heap.size w w' := by
  refine KC.calls (E := E0) (args := [.int .u8 a, .int .u8 b, .agg #[.int .u8 c_0, .int .u8 c_1, .int .u8 c_2, .int .u8 c_3, .int .u8 c_4]]) (v := .bool o) rfl rfl (KC.bodyN E0_ok (F := Proofs.Tryz.f3) (by kernel_rfl) (code := f3_C3) (by kernel_rfl) (nt := 141) (by kernel_rfl) (rs := [.tmp 6]) (by kernel_rfl) (by kernel_rfl) (σ := [(0, .int .u8 a), (1, .int .u8 b), (2, .agg #[.int .u8 c_0, .int .u8 c_1, .int .u8 c_2, .int .u8 c_3, .int .u8 c_4])]) (by kernel_rfl) ?_) w (seatInv_size hI) hI
  unfold f3 at h
  refine XQ.seq E0_ok (by kernel_rfl) ?_
  refine XQ.region (by kernel_rfl) ?_
  refine XR.runT E0_ok 1 2 [(0, .int .u8 a), (1, .int .u8 b), (5, pp 0 0)] [(0, .cells [.int .u8 c_0, .int .u8 c_1, .int .u8 c_2, .int .u8 c_3, .int .u8 c_4] 0 22 0)] 1 rfl (by kernel_rfl) ?_
  refine XR.done (by kernel_rfl) ?_
  show XQ _ _ _ _ _ _ _ _
  refine XQ.seq E0_ok (by kernel_rfl) ?_
  refine XQ.region (by kernel_rfl) ?_
  refine XR.runS E0_ok 1 5 [(1, .int .u8 b), (5, pp 0 0), (7, ii (w64 (1 + (Int.tmod (w64 a) 5))))] rfl (by kernel_rfl) ?_
  refine XR.done (by kernel_rfl) ?_
  show XQ _ _ _ _ _ _ _ _
  refine XQ.seq E0_ok (by kernel_rfl) ?_
  refine XQ.region (by kernel_rfl) ?_
  refine XR.runS E0_ok 1 1 [(1, .int .u8 b), (5, pp 0 0), (7, ii (w64 (1 + (Int.tmod (w64 a) 5)))), (8, .slice none 0 0)] rfl (by kernel_rfl) ?_
  refine XR.done (by kernel_rfl) ?_
  show XQ _ _ _ _ _ _ _ _
  refine XQ.ghost 3 1 rfl (σ' := [(1, .int .u8 b), (5, pp 0 0), (7, ii (w64 (1 + (Int.tmod (w64 a) 5)))), (8, s0 1 0)]) (h' := [(0, .cells [.int .u8 c_0, .int .u8 c_1, .int .u8 c_2, .int .u8 c_3, .int .u8 c_4] 0 22 0)]) ⟨by kernel_rfl, by kernel_rfl, by kernel_rfl, by kernel_rfl, trivial⟩ ⟨⟨_, rfl, .inl rfl⟩, trivial⟩ ?_
  refine XQ.conv (σ' := [(1, .int .u8 b), (5, pp 0 0), (7, ii (w64 (1 + (Int.tmod (w64 a) 5)))), (8, s0 1 0)]) (h' := [(1, rc (encI .i64) [] 0 3 1), (0, .cells [.int .u8 c_0, .int .u8 c_1, .int .u8 c_2, .int .u8 c_3, .int .u8 c_4] 0 22 0)]) (c' := 2) ?_ (by kernel_rfl)
  refine XQ.seq E0_ok (by kernel_rfl) ?_
  refine XQ.seq E0_ok (by kernel_rfl) ?_
  refine XQ.region (by kernel_rfl) ?_
  refine XR.runS E0_ok 1 4 [(5, pp 0 0), (7, ii (w64 (1 + (Int.tmod (w64 a) 5)))), (8, s0 1 0), (25, ii (w64 b)), (27, ii (w64 ((w64 (1 + (Int.tmod (w64 a) 5))) + 1)))] rfl (by kernel_rfl) ?_
  cases b1 : ((w64 ((w64 (1 + (Int.tmod (w64 a) 5))) + 1)) != 0 : Bool) with
  | false => cases (cF b1 h)
  | true =>
    have h := cT b1 h
    have e2 : insV (headI ((gsOf E0 141 (opsOf (lft (lft (rgt (rgt (rgt f3_C3))))))).drop 4) (trS 141 [(5, pp 0 0), (7, ii (w64 (1 + (Int.tmod (w64 a) 5)))), (8, s0 1 0), (25, ii (w64 b)), (27, ii (w64 ((w64 (1 + (Int.tmod (w64 a) 5))) + 1)))])) (trS 141 [(5, pp 0 0), (7, ii (w64 (1 + (Int.tmod (w64 a) 5)))), (8, s0 1 0), (25, ii (w64 b)), (27, ii (w64 ((w64 (1 + (Int.tmod (w64 a) 5))) + 1)))]) [(1, rc (encI .i64) [] 0 3 1), (0, .cells [.int .u8 c_0, .int .u8 c_1, .int .u8 c_2, .int .u8 c_3, .int .u8 c_4] 0 22 0)] = (match ((w64 ((w64 (1 + (Int.tmod (w64 a) 5))) + 1)) != 0 : Bool) with | true => some (ii (Int.tmod (w64 b) (w64 ((w64 (1 + (Int.tmod (w64 a) 5))) + 1)))) | false => none) := by kernel_rfl
    refine XR.rd E0_ok [5, 7, 8, 28] rfl (e2.trans (by rw [b1])) (σ' := [(5, pp 0 0), (7, ii (w64 (1 + (Int.tmod (w64 a) 5)))), (8, s0 1 0), (28, ii (Int.tmod (w64 b) (w64 ((w64 (1 + (Int.tmod (w64 a) 5))) + 1))))]) (by kernel_rfl) ?_
    refine XR.runS E0_ok 1 1 [(5, pp 0 0), (7, ii (w64 (1 + (Int.tmod (w64 a) 5)))), (8, s0 1 0), (28, ii (Int.tmod (w64 b) (w64 ((w64 (1 + (Int.tmod (w64 a) 5))) + 1)))), (29, ii 0)] rfl (by kernel_rfl) ?_
    refine XR.done (by kernel_rfl) ?_
    show XQ _ _ _ _ _ _ _ _
    refine XQ.block (id := 0) (by kernel_rfl) ?_
    refine XQ.loop m (by kernel_rfl) ?_
    obtain ⟨o1, o1_h, h⟩ := bS h
    refine XL.ren (σ' := [(5, pp 0 0), (7, ii (w64 (1 + (Int.tmod (w64 a) 5)))), (8, s0 1 0), (28, ii (Int.tmod (w64 b) (w64 ((w64 (1 + (Int.tmod (w64 a) 5))) + 1)))), (29, ii 0)]) (h' := [(1, rc (encI .i64) [] 0 3 1), (0, .cells [.int .u8 c_0, .int .u8 c_1, .int .u8 c_2, .int .u8 c_3, .int .u8 c_4] 0 22 0)]) (c' := 2) [0, 1] (by decide) rfl ⟨by kernel_rfl, by kernel_rfl, by kernel_rfl, by kernel_rfl, by kernel_rfl, trivial⟩ ⟨⟨_, _, rfl, rfl, .inl ⟨rfl, rowC_scal (encI_ok .i64) _⟩⟩, ⟨_, _, rfl, rfl, .inr ⟨_, _, _, _, rfl, rfl⟩⟩, trivial⟩ rfl ?_
    refine XL.conv (σ' := [(5, pp 0 0), (7, ii (w64 (1 + (Int.tmod (w64 a) 5)))), (8, s0 1 0), (28, ii (Int.tmod (w64 b) (w64 ((w64 (1 + (Int.tmod (w64 a) 5))) + 1)))), (29, ii 0)]) (h' := [(1, rc (encI .i64) [] 0 3 1), (0, rc (encI .u8) [c_0, c_1, c_2, c_3, c_4] 0 22 0)]) (c' := 2) ?_ (by kernel_rfl)
    refine XL.conv (f3_1_ok m m (w64 (1 + (Int.tmod (w64 a) 5))) (Int.tmod (w64 b) (w64 ((w64 (1 + (Int.tmod (w64 a) 5))) + 1))) 0 [c_0, c_1, c_2, c_3, c_4] [] o1 o1_h _ ?_) (by first | with_reducible rfl | simp | rfl)
    show XQ _ _ _ _ _ _ _ _
    refine XQ.seq E0_ok (by kernel_rfl) ?_
    refine XQ.region (by kernel_rfl) ?_
    refine XR.runS E0_ok 1 2 [(7, ii o1.1), (8, s0 0 o1.2.length), (43, ii o1.1), (44, s0 0 o1.2.length)] rfl (by kernel_rfl) ?_
    obtain ⟨r1, r1_h, h⟩ := bS h
    refine XR.call E0_ok [7, 8, 45] rfl (K := 6) (args := [ii o1.1, s0 0 o1.2.length]) (d := (some (path 12 45))) (by kernel_rfl) (KC.liftH (n0 := 1) (m := 1) (args0 := [ii o1.1, s0 0 o1.2.length]) (h0 := [(0, rc (encI .i64) o1.2 (0 + ((rowC (encI .i64) o1.2).length + 1)) 3 1)]) (V := .tuple #[s0 1 r1.1.length, ii r1.2]) (V2 := .tuple #[s0 1 r1.1.length, ii r1.2]) (H := [(1, rc (encI .i64) r1.1 0 3 1)]) (H2 := [(1, rc (encI .i64) r1.1 0 3 1)]) [0] [2, 1] (f6_ok m (0 + ((rowC (encI .i64) o1.2).length + 1)) 3 o1.1 o1.2 r1 r1_h) (by rfl) (by decide) rfl (by kernel_rfl) ⟨⟨_, _, rfl, rfl, .inl ⟨rfl, rowC_scal (encI_ok .i64) _⟩⟩, trivial⟩ (by decide) (by decide) (by kernel_rfl) ⟨⟨_, _, rfl, rfl, .inl ⟨rfl, rowC_scal (encI_ok .i64) _⟩⟩, trivial⟩ (by rfl)) ?_
    rintro _ _ _ ⟨rfl, rfl, rfl⟩
    refine XR.conv (σ' := [(7, ii o1.1), (8, s0 0 o1.2.length), (45, .tuple #[s0 1 r1.1.length, ii r1.2])]) (h' := [(1, rc (encI .i64) r1.1 0 3 1), (0, rc (encI .i64) o1.2 0 3 1)]) (c' := 2) ?_ (by kernel_rfl)
    refine XR.runS E0_ok 1 5 [(7, ii o1.1), (8, s0 0 o1.2.length), (10, s0 1 r1.1.length), (11, ii r1.2)] rfl (by kernel_rfl) ?_
    refine XR.done (by kernel_rfl) ?_
    show XQ _ _ _ _ _ _ _ _
    refine XQ.seq E0_ok (by kernel_rfl) ?_
    refine XQ.seq E0_ok (by kernel_rfl) ?_
    refine XQ.region (by kernel_rfl) ?_
    refine XR.runS E0_ok 1 3 [(7, ii o1.1), (8, s0 0 o1.2.length), (10, s0 1 r1.1.length), (50, .bool (r1.2 != 0))] rfl (by kernel_rfl) ?_
    cases b4 : (r1.2 != 0 : Bool) with
    | true =>
      have h := cT b4 h
      refine XR.runS E0_ok 1 6 [(7, ii o1.1), (10, s0 1 r1.1.length), (56, .bool true)] rfl (by kernel_rfl) ?_
      refine XR.done (by kernel_rfl) ?_
      show XQ _ _ _ _ _ _ _ _
      refine XQ.cond (s := (.tmp 56)) (b := true) (by kernel_rfl) (by kernel_rfl) (fun _ => ?_) (fun q => by cases q)
      refine XQ.seq E0_ok (by kernel_rfl) ?_
      refine XQ.region (by kernel_rfl) ?_
      refine XR.runS E0_ok 1 1 [(6, .bool false)] rfl (by kernel_rfl) ?_
      refine XR.done (by kernel_rfl) ?_
      show XQ _ _ _ _ _ _ _ _
      refine XQ.ret (by kernel_rfl) ?_
      have h := Option.some.inj h
      subst h
      exact ⟨fun i q => (by cases q), .bool false, (by kernel_rfl), rfl⟩
    | false =>
      have h := cF b4 h
      refine XR.runS E0_ok 1 6 [(7, ii o1.1), (10, s0 1 r1.1.length), (56, .bool (((r1.1.length : Nat) : Int) != ((o1.2.length : Nat) : Int)))] rfl (by kernel_rfl) ?_
      refine XR.done (by kernel_rfl) ?_
      show XQ _ _ _ _ _ _ _ _
      cases b5 : (((r1.1.length : Nat) : Int) != ((o1.2.length : Nat) : Int) : Bool) with
      | true =>
        have h := cT b5 h
        refine XQ.cond (s := (.tmp 56)) (b := true) (by kernel_rfl) (by kernel_rfl) (fun _ => ?_) (fun q => by cases q)
        refine XQ.seq E0_ok (by kernel_rfl) ?_
        refine XQ.region (by kernel_rfl) ?_
        refine XR.runS E0_ok 1 1 [(6, .bool false)] rfl (by kernel_rfl) ?_
        refine XR.done (by kernel_rfl) ?_
        show XQ _ _ _ _ _ _ _ _
        refine XQ.ret (by kernel_rfl) ?_
        have h := Option.some.inj h
        subst h
        exact ⟨fun i q => (by cases q), .bool false, (by kernel_rfl), rfl⟩
      | false =>
        have h := cF b5 h
        refine XQ.cond (s := (.tmp 56)) (b := false) (by kernel_rfl) (by kernel_rfl) (fun q => by cases q) (fun _ => ?_)
        refine XQ.skip (by kernel_rfl) ?_
        show XQ _ _ _ _ _ _ _ _
        refine XQ.seq E0_ok (by kernel_rfl) ?_
        refine XQ.region (by kernel_rfl) ?_
        refine XR.runS E0_ok 1 1 [(7, ii o1.1), (10, s0 1 r1.1.length), (12, .slice none 0 0)] rfl (by kernel_rfl) ?_
        refine XR.done (by kernel_rfl) ?_
        show XQ _ _ _ _ _ _ _ _
        refine XQ.ghost 3 1 rfl (σ' := [(7, ii o1.1), (10, s0 1 r1.1.length), (12, s0 2 0)]) (h' := [(1, rc (encI .i64) r1.1 0 3 1), (0, rc (encI .i64) o1.2 0 3 1)]) ⟨by kernel_rfl, by kernel_rfl, by kernel_rfl, trivial⟩ ⟨⟨_, rfl, .inl rfl⟩, ⟨_, rfl, .inl rfl⟩, trivial⟩ ?_
        refine XQ.conv (σ' := [(7, ii o1.1), (10, s0 1 r1.1.length), (12, s0 2 0)]) (h' := [(2, rc (encI .i64) [] 0 3 1), (1, rc (encI .i64) r1.1 0 3 1), (0, rc (encI .i64) o1.2 0 3 1)]) (c' := 3) ?_ (by kernel_rfl)
        refine XQ.seq E0_ok (by kernel_rfl) ?_
        refine XQ.seq E0_ok (by kernel_rfl) ?_
        refine XQ.region (by kernel_rfl) ?_
        refine XR.runS E0_ok 1 3 [(7, ii o1.1), (12, s0 2 0), (57, s0 1 r1.1.length), (58, ii ((r1.1.length : Nat) : Int)), (59, ii 0)] rfl (by kernel_rfl) ?_
        refine XR.done (by kernel_rfl) ?_
        show XQ _ _ _ _ _ _ _ _
        refine XQ.block (id := 2) (by kernel_rfl) ?_
        refine XQ.loop m (by kernel_rfl) ?_
        obtain ⟨o2, o2_h, h⟩ := bS h
        refine XL.ren (σ' := [(7, ii o1.1), (12, s0 0 0), (57, s0 1 r1.1.length), (58, ii ((r1.1.length : Nat) : Int)), (59, ii 0)]) (h' := [(1, rc (encI .i64) r1.1 0 3 1), (0, rc (encI .i64) [] 0 3 1)]) (c' := 2) [2, 1] (by decide) rfl ⟨by kernel_rfl, by kernel_rfl, by kernel_rfl, by kernel_rfl, by kernel_rfl, trivial⟩ ⟨⟨_, _, rfl, rfl, .inl ⟨rfl, rowC_scal (encI_ok .i64) _⟩⟩, ⟨_, _, rfl, rfl, .inl ⟨rfl, rowC_scal (encI_ok .i64) _⟩⟩, trivial⟩ rfl ?_
        refine XL.conv (f3_2_ok m m o1.1 ((r1.1.length : Nat) : Int) 0 [] r1.1 o2 o2_h _ ?_) (by first | with_reducible rfl | simp | rfl)
        show XQ _ _ _ _ _ _ _ _
        refine XQ.seq E0_ok (by kernel_rfl) ?_
        refine XQ.region (by kernel_rfl) ?_
        refine XR.runS E0_ok 1 3 [(7, ii o2.1), (12, s0 0 o2.2.length), (73, .agg #[ii 1, ii o2.1, s0 0 o2.2.length, .slice none 0 0])] rfl (by kernel_rfl) ?_
        refine XR.callK E0_ok [7, 12, 74] rfl (K := 7) (args := [.agg #[ii 1, ii o2.1, s0 0 o2.2.length, .slice none 0 0]]) (d := (some (path 12 74))) (by kernel_rfl) ?_
        refine KC.bodyN E0_ok (F := Proofs.Tryz.f7) (by kernel_rfl) (code := f3_C7) (by kernel_rfl) (nt := 26) (by kernel_rfl) (rs := [.tmp 2, .tmp 3]) (by kernel_rfl) (by kernel_rfl) (σ := [(0, .agg #[ii 1, ii o2.1, s0 0 o2.2.length, .slice none 0 0])]) (by kernel_rfl) ?_
        refine XQ.seq E0_ok (by kernel_rfl) ?_
        refine XQ.region (by kernel_rfl) ?_
        refine XR.runT E0_ok 1 3 [(1, pp 1 0)] [(1, .cells [ii 1, ii o2.1, s0 0 o2.2.length, .slice none 0 0] 0 29 0), (0, rc (encI .i64) o2.2 0 3 1)] 2 rfl (by kernel_rfl) ?_
        refine XR.done (by kernel_rfl) ?_
        show XQ _ _ _ _ _ _ _ _
        refine XQ.ghost 3 1 rfl (σ' := [(1, pp 1 0)]) (h' := [(1, .cells [ii 1, ii o2.1, s0 0 o2.2.length, s0 2 0] 0 29 0), (0, rc (encI .i64) o2.2 0 3 1)]) ⟨by kernel_rfl, trivial⟩ ⟨⟨_, rfl, .inr ⟨_, _, _, _, rfl, rfl⟩⟩, ⟨_, rfl, .inl rfl⟩, trivial⟩ ?_
        refine XQ.conv (σ' := [(1, pp 1 0)]) (h' := [(2, rc (encI .i64) [] 0 3 1), (1, .cells [ii 1, ii o2.1, s0 0 o2.2.length, s0 2 0] 0 29 0), (0, rc (encI .i64) o2.2 0 3 1)]) (c' := 3) ?_ (by kernel_rfl)
        refine XQ.seq E0_ok (by kernel_rfl) ?_
        refine XQ.region (by kernel_rfl) ?_
        refine XR.runS E0_ok 1 1 [(9, .agg #[ii 1, ii o2.1, s0 0 o2.2.length, s0 2 0])] rfl (by kernel_rfl) ?_
        obtain ⟨r3, r3_h, h⟩ := bS h
        refine XR.call E0_ok [10] rfl (K := 24) (args := [.agg #[ii 1, ii o2.1, s0 0 o2.2.length, s0 2 0]]) (d := (some (path 12 10))) (by kernel_rfl) (KC.liftH (n0 := 2) (m := 1) (args0 := [.agg #[ii 1, ii o2.1, s0 0 o2.2.length, s0 1 0]]) (h0 := [(1, rc (encI .i64) [] (0 + ((rowC (encI .i64) []).length + 1)) 3 1), (0, rc (encI .i64) o2.2 (0 + ((rowC (encI .i64) o2.2).length + 1)) 3 1)]) (V := .tuple #[pp 2 0, .agg #[.int .u32 r3.2.2.2.2.1, .int .u32 r3.2.2.2.2.2.1], ii r3.2.2.2.2.2.2]) (V2 := .tuple #[pp 3 0, .agg #[.int .u32 r3.2.2.2.2.1, .int .u32 r3.2.2.2.2.2.1], ii r3.2.2.2.2.2.2]) (H := [(2, .cells ([ii r3.1, ii r3.2.1, ii r3.2.2.1] ++ rowC (encI .u32) r3.2.2.2.1) 0 72 0)]) (H2 := [(3, .cells ([ii r3.1, ii r3.2.1, ii r3.2.2.1] ++ rowC (encI .u32) r3.2.2.2.1) 0 72 0)]) [0, 2] [3, 4, 5, 2] (f24_ok m (0 + ((rowC (encI .i64) o2.2).length + 1)) 3 (0 + ((rowC (encI .i64) []).length + 1)) 3 1 o2.1 o2.2 [] r3 r3_h) (by rfl) (by decide) rfl (by kernel_rfl) ⟨⟨_, _, rfl, rfl, .inl ⟨rfl, rowC_scal (encI_ok .i64) _⟩⟩, ⟨_, _, rfl, rfl, .inl ⟨rfl, rowC_scal (encI_ok .i64) _⟩⟩, trivial⟩ (by decide) (by decide) (by kernel_rfl) ⟨⟨_, _, rfl, rfl, .inl ⟨rfl, preC_scal rfl (rowC_scal (encI_ok .u32) _)⟩⟩, trivial⟩ (by rfl)) ?_
        rintro _ _ _ ⟨rfl, rfl, rfl⟩
        refine XR.conv (σ' := [(10, .tuple #[pp 3 0, .agg #[.int .u32 r3.2.2.2.2.1, .int .u32 r3.2.2.2.2.2.1], ii r3.2.2.2.2.2.2])]) (h' := [(3, .cells ([ii r3.1, ii r3.2.1, ii r3.2.2.1] ++ rowC (encI .u32) r3.2.2.2.1) 0 72 0), (2, rc (encI .i64) [] 0 3 1), (1, .cells [ii 1, ii o2.1, s0 0 o2.2.length, s0 2 0] 0 29 0), (0, rc (encI .i64) o2.2 0 3 1)]) (c' := 4) ?_ (by kernel_rfl)
        refine XR.runT E0_ok 1 8 [(4, pp 3 0), (5, pp 4 0), (6, ii r3.2.2.2.2.2.2)] [(4, .cells [.int .u32 r3.2.2.2.2.1, .int .u32 r3.2.2.2.2.2.1] 0 63 0), (3, .cells ([ii r3.1, ii r3.2.1, ii r3.2.2.1] ++ rowC (encI .u32) r3.2.2.2.1) 0 72 0), (2, rc (encI .i64) [] 0 3 1), (1, .cells [ii 1, ii o2.1, s0 0 o2.2.length, s0 2 0] 0 29 0), (0, rc (encI .i64) o2.2 0 3 1)] 5 rfl (by kernel_rfl) ?_
        refine XR.done (by kernel_rfl) ?_
        show XQ _ _ _ _ _ _ _ _
        refine XQ.seq E0_ok (by kernel_rfl) ?_
        refine XQ.seq E0_ok (by kernel_rfl) ?_
        refine XQ.region (by kernel_rfl) ?_
        refine XR.runS E0_ok 1 2 [(4, pp 3 0), (5, pp 4 0), (6, ii r3.2.2.2.2.2.2), (15, .bool (r3.2.2.2.2.2.2 != 0))] rfl (by kernel_rfl) ?_
        refine XR.done (by kernel_rfl) ?_
        show XQ _ _ _ _ _ _ _ _
        cases b7 : (r3.2.2.2.2.2.2 != 0 : Bool) with
        | true =>
          have h := cT b7 h
          refine XQ.cond (s := (.tmp 15)) (b := true) (by kernel_rfl) (by kernel_rfl) (fun _ => ?_) (fun q => by cases q)
          refine XQ.seq E0_ok (by kernel_rfl) ?_
          refine XQ.region (by kernel_rfl) ?_
          refine XR.runS E0_ok 1 3 [(2, .slice none 0 0), (3, ii r3.2.2.2.2.2.2)] rfl (by kernel_rfl) ?_
          refine XR.done (by kernel_rfl) ?_
          show XQ _ _ _ _ _ _ _ _
          refine XQ.ghost 3 1 rfl (σ' := [(2, s0 5 0), (3, ii r3.2.2.2.2.2.2)]) (h' := [(4, .cells [.int .u32 r3.2.2.2.2.1, .int .u32 r3.2.2.2.2.2.1] 0 63 0), (3, .cells ([ii r3.1, ii r3.2.1, ii r3.2.2.1] ++ rowC (encI .u32) r3.2.2.2.1) 0 72 0), (2, rc (encI .i64) [] 0 3 1), (1, .cells [ii 1, ii o2.1, s0 0 o2.2.length, s0 2 0] 0 29 0), (0, rc (encI .i64) o2.2 0 3 1)]) ⟨by kernel_rfl, by kernel_rfl, trivial⟩ ⟨⟨_, rfl, .inl rfl⟩, ⟨_, rfl, .inl rfl⟩, ⟨_, rfl, .inl rfl⟩, ⟨_, rfl, .inl rfl⟩, ⟨_, rfl, .inl rfl⟩, trivial⟩ ?_
          refine XQ.conv (σ' := [(2, s0 5 0), (3, ii r3.2.2.2.2.2.2)]) (h' := [(5, rc (encI .i64) [] 0 3 1), (4, .cells [.int .u32 r3.2.2.2.2.1, .int .u32 r3.2.2.2.2.2.1] 0 63 0), (3, .cells ([ii r3.1, ii r3.2.1, ii r3.2.2.1] ++ rowC (encI .u32) r3.2.2.2.1) 0 72 0), (2, rc (encI .i64) [] 0 3 1), (1, .cells [ii 1, ii o2.1, s0 0 o2.2.length, s0 2 0] 0 29 0), (0, rc (encI .i64) o2.2 0 3 1)]) (c' := 6) ?_ (by kernel_rfl)
          refine XQ.ret (by kernel_rfl) ?_
          refine ⟨fun i q => (by cases q), .tuple #[s0 5 0, ii r3.2.2.2.2.2.2], (by kernel_rfl), ?_⟩
          refine XR.conv (σ' := [(7, ii o2.1), (12, s0 0 o2.2.length), (74, .tuple #[s0 5 0, ii r3.2.2.2.2.2.2])]) (h' := [(5, rc (encI .i64) [] 0 3 1), (4, .cells [.int .u32 r3.2.2.2.2.1, .int .u32 r3.2.2.2.2.2.1] 0 63 0), (3, .cells ([ii r3.1, ii r3.2.1, ii r3.2.2.1] ++ rowC (encI .u32) r3.2.2.2.1) 0 72 0), (2, rc (encI .i64) [] 0 3 1), (1, .cells [ii 1, ii o2.1, s0 0 o2.2.length, s0 2 0] 0 29 0), (0, rc (encI .i64) o2.2 0 3 1)]) (c' := 6) ?_ (by kernel_rfl)
          refine XR.runS E0_ok 1 5 [(7, ii o2.1), (11, ii r3.2.2.2.2.2.2), (12, s0 0 o2.2.length), (15, s0 5 0)] rfl (by kernel_rfl) ?_
          refine XR.done (by kernel_rfl) ?_
          show XQ _ _ _ _ _ _ _ _
          refine XQ.seq E0_ok (by kernel_rfl) ?_
          refine XQ.seq E0_ok (by kernel_rfl) ?_
          refine XQ.region (by kernel_rfl) ?_
          refine XR.runS E0_ok 1 3 [(7, ii o2.1), (12, s0 0 o2.2.length), (15, s0 5 0), (79, .bool (r3.2.2.2.2.2.2 != 0))] rfl (by kernel_rfl) ?_
          rw [b7]
          refine XR.runS E0_ok 1 5 [(7, ii o2.1), (12, s0 0 o2.2.length), (15, s0 5 0), (84, .bool true)] rfl (by kernel_rfl) ?_
          refine XR.done (by kernel_rfl) ?_
          show XQ _ _ _ _ _ _ _ _
          refine XQ.cond (s := (.tmp 84)) (b := true) (by kernel_rfl) (by kernel_rfl) (fun _ => ?_) (fun q => by cases q)
          refine XQ.seq E0_ok (by kernel_rfl) ?_
          refine XQ.region (by kernel_rfl) ?_
          refine XR.runS E0_ok 1 1 [(6, .bool false)] rfl (by kernel_rfl) ?_
          refine XR.done (by kernel_rfl) ?_
          show XQ _ _ _ _ _ _ _ _
          refine XQ.ret (by kernel_rfl) ?_
          have h := Option.some.inj h
          subst h
          exact ⟨fun i q => (by cases q), .bool false, (by kernel_rfl), rfl⟩
        | false =>
          have h := cF b7 h
          refine XQ.cond (s := (.tmp 15)) (b := false) (by kernel_rfl) (by kernel_rfl) (fun q => by cases q) (fun _ => ?_)
          refine XQ.skip (by kernel_rfl) ?_
          show XQ _ _ _ _ _ _ _ _
          refine XQ.seq E0_ok (by kernel_rfl) ?_
          refine XQ.region (by kernel_rfl) ?_
          refine XR.runS E0_ok 1 2 [(4, pp 3 0), (17, pp 3 0), (18, .agg #[.int .u32 r3.2.2.2.2.1, .int .u32 r3.2.2.2.2.2.1])] rfl (by kernel_rfl) ?_
          obtain ⟨r4, r4_h, h⟩ := bS h
          refine XR.call E0_ok [4, 19] rfl (K := 25) (args := [pp 3 0, .agg #[.int .u32 r3.2.2.2.2.1, .int .u32 r3.2.2.2.2.2.1]]) (d := (some (path 12 19))) (by kernel_rfl) (KQ.call (KC.quiet E0_ok (args0 := [pp 0 0, .agg #[.int .u32 r3.2.2.2.2.1, .int .u32 r3.2.2.2.2.2.1]]) (h0 := [(0, .cells ([ii r3.1, ii r3.2.1, ii r3.2.2.1] ++ rowC (encI .u32) r3.2.2.2.1) (0 + (([ii r3.1, ii r3.2.1, ii r3.2.2.1] ++ rowC (encI .u32) r3.2.2.2.1).length + 1)) 72 0)]) (n := 1) (V := .agg (rowC (encI .i64) r4).toArray) [3] (f25_ok m (0 + (([ii r3.1, ii r3.2.1, ii r3.2.2.1] ++ rowC (encI .u32) r3.2.2.2.1).length + 1)) r3.1 r3.2.1 r3.2.2.1 r3.2.2.2.1 r3.2.2.2.2.1 r3.2.2.2.2.2.1 r4 r4_h) (plain_aggl _ _) (by rfl) (by decide) rfl (by kernel_rfl) ⟨⟨_, _, rfl, rfl, .inl ⟨rfl, preC_scal rfl (rowC_scal (encI_ok .u32) _)⟩⟩, trivial⟩) (plain_aggl _ _)) ?_
          rintro _ _ _ ⟨rfl, rfl, rfl⟩
          refine XR.conv (σ' := [(4, pp 3 0), (19, .agg (rowC (encI .i64) r4).toArray)]) (h' := [(4, .cells [.int .u32 r3.2.2.2.2.1, .int .u32 r3.2.2.2.2.2.1] 0 63 0), (3, .cells ([ii r3.1, ii r3.2.1, ii r3.2.2.1] ++ rowC (encI .u32) r3.2.2.2.1) 0 72 0), (2, rc (encI .i64) [] 0 3 1), (1, .cells [ii 1, ii o2.1, s0 0 o2.2.length, s0 2 0] 0 29 0), (0, rc (encI .i64) o2.2 0 3 1)]) (c' := 5) ?_ (by kernel_rfl)
          refine XR.runT E0_ok 1 1 [(4, pp 3 0), (7, pp 5 0), (19, .agg (rowC (encI .i64) r4).toArray)] [(5, .cells [ii 0, ii 0, ii 0, ii 0, ii 0, ii 0, ii 0, ii 0, ii 0, ii 0, ii 0, ii 0, ii 0, ii 0, ii 0, ii 0, ii 0, ii 0, ii 0, ii 0, ii 0, ii 0, ii 0, ii 0, ii 0] 0 67 0), (4, .cells [.int .u32 r3.2.2.2.2.1, .int .u32 r3.2.2.2.2.2.1] 0 63 0), (3, .cells ([ii r3.1, ii r3.2.1, ii r3.2.2.1] ++ rowC (encI .u32) r3.2.2.2.1) 0 72 0), (2, rc (encI .i64) [] 0 3 1), (1, .cells [ii 1, ii o2.1, s0 0 o2.2.length, s0 2 0] 0 29 0), (0, rc (encI .i64) o2.2 0 3 1)] 6 rfl (by kernel_rfl) ?_
          cases b8 : (decide (r4.length = 25) : Bool) with
          | false => cases (cF b8 h)
          | true =>
            have h := cT b8 h
            refine XR.ef E0_ok [4, 7] rfl (e_storeA (k := .i64) (n := 25) (x := (src 26 (.tmp 7))) (y := (src 26 (.tmp 19))) (b := 5) (cs := [ii 0, ii 0, ii 0, ii 0, ii 0, ii 0, ii 0, ii 0, ii 0, ii 0, ii 0, ii 0, ii 0, ii 0, ii 0, ii 0, ii 0, ii 0, ii 0, ii 0, ii 0, ii 0, ii 0, ii 0, ii 0]) (e := 67) (es := 0) (d := none) (L := r4) (h' := [(5, rc (encI .i64) r4 0 67 0), (4, .cells [.int .u32 r3.2.2.2.2.1, .int .u32 r3.2.2.2.2.2.1] 0 63 0), (3, .cells ([ii r3.1, ii r3.2.1, ii r3.2.2.1] ++ rowC (encI .u32) r3.2.2.2.1) 0 72 0), (2, rc (encI .i64) [] 0 3 1), (1, .cells [ii 1, ii o2.1, s0 0 o2.2.length, s0 2 0] 0 29 0), (0, rc (encI .i64) o2.2 0 3 1)]) (by kernel_rfl) (by kernel_rfl) (by kernel_rfl) rfl (by kernel_rfl) (of_decide_eq_true b8) rfl (by kernel_rfl)) (σ' := [(4, pp 3 0), (7, pp 5 0)]) (by kernel_rfl) ?_
            refine XR.done (by kernel_rfl) ?_
            show XQ _ _ _ _ _ _ _ _
            refine XQ.seq E0_ok (by kernel_rfl) ?_
            refine XQ.region (by kernel_rfl) ?_
            refine XR.runS E0_ok 1 4 [(7, pp 5 0), (23, ii r3.2.2.1)] rfl (by kernel_rfl) ?_
            cases b9 : (cutOK 0 r3.2.2.1 ((25 : Nat) : Int) 25 : Bool) with
            | false => cases (cF b9 h)
            | true =>
              have h := cT b9 h
              refine XR.rd E0_ok [24] rfl (v := sl 5 0 (Int.toNat r3.2.2.1) 25) (v_cutA (nt := 26) (s := 1) (n := 25) (x := (src 26 (.tmp 7))) (lo := none) (hi := (some (.tmp 23))) (b := 5) (o := 0) (l := none) (u := (some r3.2.2.1)) (cs := rowC (encI .i64) r4) (fz := 0) (e := 67) (o' := 0) (len' := Int.toNat r3.2.2.1) (cap' := 25) (d := (some (path 12 24))) (by kernel_rfl) (by kernel_rfl) (by kernel_rfl) (by kernel_rfl) (by kernel_rfl) b9 (by simp only [Option.getD_none, Option.getD_some] <;> omega) (by simp only [Option.getD_none, Option.getD_some] <;> omega) (by simp only [Option.getD_none, Option.getD_some] <;> omega)) (σ' := [(24, sl 5 0 (Int.toNat r3.2.2.1) 25)]) (by kernel_rfl) ?_
              cases b10 : (decide (0 + (Int.toNat r3.2.2.1) ≤ r4.length) : Bool) with
              | false => cases (cF b10 h)
              | true =>
                have h := cT b10 h
                cases b11 : (decide ((Int.toNat r3.2.2.1) ≤ 25) : Bool) with
                | false => cases (cF b11 h)
                | true =>
                  have h := cT b11 h
                  cases b12 : (fitsB (Int.toNat r3.2.2.1) 8 : Bool) with
                  | false => cases (cF b12 h)
                  | true =>
                    have h := cT b12 h
                    refine XR.call E0_ok [25] rfl (K := 26) (args := [sl 5 0 (Int.toNat r3.2.2.1) 25]) (d := (some (path 12 25))) (by kernel_rfl) (clone26_part (xs := r4) (fz := 0) (e0 := 67) (es0 := 0) (c := 6) 0 (by kernel_rfl) (by simp) b10 b11 b12) ?_
                    rintro _ _ _ ⟨rfl, rfl, rfl⟩
                    refine XR.conv (σ' := [(25, s0 7 ((List.take (Int.toNat r3.2.2.1) (List.drop 0 r4)).length))]) (h' := [(7, rc (encI .i64) (List.take (Int.toNat r3.2.2.1) (List.drop 0 r4)) 0 3 1), (5, rc (encI .i64) r4 0 67 0), (4, .cells [.int .u32 r3.2.2.2.2.1, .int .u32 r3.2.2.2.2.2.1] 0 63 0), (3, .cells ([ii r3.1, ii r3.2.1, ii r3.2.2.1] ++ rowC (encI .u32) r3.2.2.2.1) 0 72 0), (2, rc (encI .i64) [] 0 3 1), (1, .cells [ii 1, ii o2.1, s0 0 o2.2.length, s0 2 0] 0 29 0), (0, rc (encI .i64) o2.2 0 3 1)]) (c' := 8) ?_ (by kernel_rfl)
                    refine XR.runS E0_ok 1 2 [(2, s0 7 ((List.take (Int.toNat r3.2.2.1) (List.drop 0 r4)).length)), (3, ii 0)] rfl (by kernel_rfl) ?_
                    refine XR.done (by kernel_rfl) ?_
                    show XQ _ _ _ _ _ _ _ _
                    refine XQ.ret (by kernel_rfl) ?_
                    refine ⟨fun i q => (by cases q), .tuple #[s0 7 ((List.take (Int.toNat r3.2.2.1) (List.drop 0 r4)).length), ii 0], (by kernel_rfl), ?_⟩
                    refine XR.conv (σ' := [(7, ii o2.1), (12, s0 0 o2.2.length), (74, .tuple #[s0 7 ((List.take (Int.toNat r3.2.2.1) (List.drop 0 r4)).length), ii 0])]) (h' := [(7, rc (encI .i64) (List.take (Int.toNat r3.2.2.1) (List.drop 0 r4)) 0 3 1), (5, rc (encI .i64) r4 0 67 0), (4, .cells [.int .u32 r3.2.2.2.2.1, .int .u32 r3.2.2.2.2.2.1] 0 63 0), (3, .cells ([ii r3.1, ii r3.2.1, ii r3.2.2.1] ++ rowC (encI .u32) r3.2.2.2.1) 0 72 0), (2, rc (encI .i64) [] 0 3 1), (1, .cells [ii 1, ii o2.1, s0 0 o2.2.length, s0 2 0] 0 29 0), (0, rc (encI .i64) o2.2 0 3 1)]) (c' := 8) ?_ (by kernel_rfl)
                    refine XR.runS E0_ok 1 5 [(7, ii o2.1), (11, ii 0), (12, s0 0 o2.2.length), (15, s0 7 ((List.take (Int.toNat r3.2.2.1) (List.drop 0 r4)).length))] rfl (by kernel_rfl) ?_
                    refine XR.done (by kernel_rfl) ?_
                    show XQ _ _ _ _ _ _ _ _
                    refine XQ.seq E0_ok (by kernel_rfl) ?_
                    refine XQ.seq E0_ok (by kernel_rfl) ?_
                    refine XQ.region (by kernel_rfl) ?_
                    refine XR.runS E0_ok 1 8 [(7, ii o2.1), (12, s0 0 o2.2.length), (15, s0 7 ((List.take (Int.toNat r3.2.2.1) (List.drop 0 r4)).length)), (84, .bool ((((List.take (Int.toNat r3.2.2.1) (List.drop 0 r4)).length : Nat) : Int) != o2.1))] rfl (by kernel_rfl) ?_
                    refine XR.done (by kernel_rfl) ?_
                    show XQ _ _ _ _ _ _ _ _
                    cases b13 : ((((List.take (Int.toNat r3.2.2.1) (List.drop 0 r4)).length : Nat) : Int) != o2.1 : Bool) with
                    | true =>
                      have h := cT b13 h
                      refine XQ.cond (s := (.tmp 84)) (b := true) (by kernel_rfl) (by kernel_rfl) (fun _ => ?_) (fun q => by cases q)
                      refine XQ.seq E0_ok (by kernel_rfl) ?_
                      refine XQ.region (by kernel_rfl) ?_
                      refine XR.runS E0_ok 1 1 [(6, .bool false)] rfl (by kernel_rfl) ?_
                      refine XR.done (by kernel_rfl) ?_
                      show XQ _ _ _ _ _ _ _ _
                      refine XQ.ret (by kernel_rfl) ?_
                      have h := Option.some.inj h
                      subst h
                      exact ⟨fun i q => (by cases q), .bool false, (by kernel_rfl), rfl⟩
                    | false =>
                      have h := cF b13 h
                      refine XQ.cond (s := (.tmp 84)) (b := false) (by kernel_rfl) (by kernel_rfl) (fun q => by cases q) (fun _ => ?_)
                      refine XQ.skip (by kernel_rfl) ?_
                      show XQ _ _ _ _ _ _ _ _
                      refine XQ.seq E0_ok (by kernel_rfl) ?_
                      refine XQ.seq E0_ok (by kernel_rfl) ?_
                      refine XQ.region (by kernel_rfl) ?_
                      refine XR.runS E0_ok 1 2 [(7, ii o2.1), (12, s0 0 o2.2.length), (15, s0 7 ((List.take (Int.toNat r3.2.2.1) (List.drop 0 r4)).length)), (85, ii o2.1), (86, ii 0)] rfl (by kernel_rfl) ?_
                      refine XR.done (by kernel_rfl) ?_
                      show XQ _ _ _ _ _ _ _ _
                      refine XQ.block (id := 4) (by kernel_rfl) ?_
                      refine XQ.loop m (by kernel_rfl) ?_
                      obtain ⟨o3, o3_h, h⟩ := bS h
                      refine XL.ren (σ' := [(7, ii o2.1), (12, s0 0 o2.2.length), (15, s0 1 ((List.take (Int.toNat r3.2.2.1) (List.drop 0 r4)).length)), (85, ii o2.1), (86, ii 0)]) (h' := [(1, rc (encI .i64) (List.take (Int.toNat r3.2.2.1) (List.drop 0 r4)) 0 3 1), (0, rc (encI .i64) o2.2 0 3 1)]) (c' := 2) [0, 7] (by decide) rfl ⟨by kernel_rfl, by kernel_rfl, by kernel_rfl, by kernel_rfl, by kernel_rfl, trivial⟩ ⟨⟨_, _, rfl, rfl, .inl ⟨rfl, rowC_scal (encI_ok .i64) _⟩⟩, ⟨_, _, rfl, rfl, .inl ⟨rfl, rowC_scal (encI_ok .i64) _⟩⟩, trivial⟩ rfl ?_
                      cases o3 with
                      | r =>
                        dsimp only at h
                        refine XL.conv (f3_3_ok m m o2.1 o2.1 0 o2.2 (List.take (Int.toNat r3.2.2.1) (List.drop 0 r4)) (.r) o3_h _ ?_) (by first | with_reducible rfl | simp | rfl)
                        have h := Option.some.inj h
                        subst h
                        exact ⟨fun i q => (by cases q), .bool false, (by kernel_rfl), rfl⟩
                      | x4 =>
                        dsimp only at h
                        refine XL.conv (f3_3_ok m m o2.1 o2.1 0 o2.2 (List.take (Int.toNat r3.2.2.1) (List.drop 0 r4)) (.x4) o3_h _ ?_) (by first | with_reducible rfl | simp | rfl)
                        show XQ _ _ _ _ _ _ _ _
                        refine XQ.seq E0_ok (by kernel_rfl) ?_
                        refine XQ.region (by kernel_rfl) ?_
                        refine XR.call E0_ok [140] rfl (K := 10) (args := []) (d := (some (path 12 140))) (by kernel_rfl) (KC.of_calls E0_ok (F := Proofs.Tryz.f10) (v := .bool true) (by kernel_rfl) rfl rfl (works_ok)) ?_
                        rintro _ _ _ ⟨rfl, rfl, rfl⟩
                        refine XR.conv (σ' := [(140, .bool true)]) (h' := []) (c' := 0) ?_ (by kernel_rfl)
                        refine XR.runS E0_ok 1 1 [(6, .bool true)] rfl (by kernel_rfl) ?_
                        refine XR.done (by kernel_rfl) ?_
                        show XQ _ _ _ _ _ _ _ _
                        refine XQ.ret (by kernel_rfl) ?_
                        have h := Option.some.inj h
                        subst h
                        exact ⟨fun i q => (by cases q), .bool true, (by kernel_rfl), rfl⟩

end Go.Xm
