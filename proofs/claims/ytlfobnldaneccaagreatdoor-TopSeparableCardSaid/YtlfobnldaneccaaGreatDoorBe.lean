/- What these functions of the program compute, as functions in Lean, and the proofs that they do: vitolatop.TopSeparable. Conditions: the library's variables hold what their texts lay. -/
import Derived.Test.YtlfobnldaneccaaGreatDoorBc
import Derived.Test.YtlfobnldaneccaaGreatDoorBd
namespace Go.Xm
open Go.RowKit
set_option linter.unusedVariables false
set_option linter.unusedSimpArgs false
set_option maxRecDepth 20000

/-! vitola/vitolatop.TopSeparable -/
noncomputable def f4_C4 : Code := Proofs.Tryz.f4.body.getD .skip
noncomputable def f4_L1 : Code := lft (lft (rgt (lft (rgt (rgt (rgt f4_C4))))))
noncomputable def f4_L2 : Code := lft (lft (rgt (lft (rgt (rgt (rgt (rgt (rgt (rgt (rgt f4_C4))))))))))

def f4_1 (m : Nat) : Nat → Int → Int → Int → List Int → List Int → Option (Int × (List Int))
  | 0, _, _, _, _, _ => none
  | fuel + 1, x5_1, x27_1, x28_1, lh0_1, lh1_1 =>
    cond (decide (x28_1 < x27_1)) (
      cond (inRow x28_1 5) (
        cond (decide (Int.toNat x28_1 < lh0_1.length)) (
          cond ((w64 (x5_1 - x28_1)) != 0) (
            cond (fitsB (lh1_1.length + 1) 8) (
              f4_1 m fuel x5_1 x27_1 (w64 (x28_1 + 1)) lh0_1 (lh1_1 ++ [Int.tmod (w64 (List.getD lh0_1 (Int.toNat x28_1) 0)) (w64 (x5_1 - x28_1))])
            ) none
          ) none
        ) none
      ) none
    ) (
      some (x5_1, lh1_1)
    )

theorem f4_1_ok (m : Nat) : ∀ (fuel : Nat) (x5_1 : Int) (x27_1 : Int) (x28_1 : Int) (lh0_1 : List Int) (lh1_1 : List Int) (o : (Int × (List Int))), f4_1 m fuel x5_1 x27_1 x28_1 lh0_1 lh1_1 = some o → ∀ Q : QP, Q (.exit 0) [(5, ii o.1), (6, s0 0 o.2.length)] [(0, rc (encI .i64) o.2 0 3 1)] 1 → XL E0 171 0 fuel f4_L1 [(3, pp 0 0), (5, ii x5_1), (6, s0 1 lh1_1.length), (27, ii x27_1), (28, ii x28_1)] [(1, rc (encI .i64) lh1_1 0 3 1), (0, rc (encI .u8) lh0_1 0 22 0)] 2 Q
  | 0, x5_1, x27_1, x28_1, lh0_1, lh1_1, o, h, Q, hQ => by cases h
  | fuel + 1, x5_1, x27_1, x28_1, lh0_1, lh1_1, o, h, Q, hQ => by
    unfold f4_1 at h
    refine XL.succ E0_ok ?_
    refine XQ.seq E0_ok (by kernel_rfl) ?_
    refine XQ.region (by kernel_rfl) ?_
    refine XR.runS E0_ok 1 1 [(3, pp 0 0), (5, ii x5_1), (6, s0 1 lh1_1.length), (27, ii x27_1), (28, ii x28_1), (29, .bool (decide (x28_1 < x27_1)))] rfl (by kernel_rfl) ?_
    refine XR.done (by kernel_rfl) ?_
    show XQ _ _ _ _ _ _ _ _
    refine XQ.seq E0_ok (by kernel_rfl) ?_
    cases b1 : (decide (x28_1 < x27_1) : Bool) with
    | true =>
      have h := cT b1 h
      refine XQ.cond (s := (.tmp 29)) (b := true) (by kernel_rfl) (by kernel_rfl) (fun _ => ?_) (fun q => by cases q)
      refine XQ.skip (by kernel_rfl) ?_
      show XQ _ _ _ _ _ _ _ _
      refine XQ.seq E0_ok (by kernel_rfl) ?_
      refine XQ.block (id := 1) (by kernel_rfl) ?_
      refine XQ.seq E0_ok (by kernel_rfl) ?_
      refine XQ.region (by kernel_rfl) ?_
      refine XR.runS E0_ok 1 2 [(3, pp 0 0), (5, ii x5_1), (6, s0 1 lh1_1.length), (7, ii x28_1), (27, ii x27_1), (28, ii x28_1)] rfl (by kernel_rfl) ?_
      refine XR.done (by kernel_rfl) ?_
      show XQ _ _ _ _ _ _ _ _
      refine XQ.region (by kernel_rfl) ?_
      refine XR.runS E0_ok 1 2 [(3, pp 0 0), (5, ii x5_1), (7, ii x28_1), (27, ii x27_1), (28, ii x28_1), (31, s0 1 lh1_1.length), (32, ii x28_1)] rfl (by kernel_rfl) ?_
      cases b2 : (inRow x28_1 5 : Bool) with
      | false => cases (cF b2 h)
      | true =>
        have h := cT b2 h
        refine XR.rd E0_ok [3, 5, 7, 27, 28, 31, 33] rfl (v := pp 0 ((Int.toNat x28_1) * 1)) (v_idxA (s := 1) (len := 5) (x := (src 171 (.tmp 3))) (y := (src 171 (.tmp 32))) (b := 0) (o := 0) (ik := .i64) (i := x28_1) (off := (Int.toNat x28_1) * 1) (d := (some (path 12 33))) (by kernel_rfl) (by kernel_rfl) (by kernel_rfl) b2 (by omega)) (σ' := [(3, pp 0 0), (5, ii x5_1), (7, ii x28_1), (27, ii x27_1), (28, ii x28_1), (31, s0 1 lh1_1.length), (33, pp 0 ((Int.toNat x28_1) * 1))]) (by kernel_rfl) ?_
        cases b3 : (decide (Int.toNat x28_1 < lh0_1.length) : Bool) with
        | false => cases (cF b3 h)
        | true =>
          have h := cT b3 h
          refine XR.rd E0_ok [3, 5, 7, 27, 28, 31, 34] rfl (v := .int .u8 (List.getD lh0_1 (Int.toNat x28_1) 0)) (v_load1 (encI_ok .u8) (x := (src 171 (.tmp 33))) (b := 0) (off := (Int.toNat x28_1) * 1) (xs := lh0_1) (fz := 0) (e := 22) (es := 0) (d := (some (path 12 34))) (by kernel_rfl) (by kernel_rfl) (by kernel_rfl) (Int.toNat x28_1) 0 0 (by first | with_reducible rfl | omega | rfl) (row_len b3 (by simp)) rfl rfl) (σ' := [(3, pp 0 0), (5, ii x5_1), (7, ii x28_1), (27, ii x27_1), (28, ii x28_1), (31, s0 1 lh1_1.length), (34, .int .u8 (List.getD lh0_1 (Int.toNat x28_1) 0))]) (by kernel_rfl) ?_
          refine XR.runS E0_ok 1 4 [(3, pp 0 0), (5, ii x5_1), (27, ii x27_1), (28, ii x28_1), (31, s0 1 lh1_1.length), (35, ii (w64 (List.getD lh0_1 (Int.toNat x28_1) 0))), (38, ii (w64 (x5_1 - x28_1)))] rfl (by kernel_rfl) ?_
          cases b4 : ((w64 (x5_1 - x28_1)) != 0 : Bool) with
          | false => cases (cF b4 h)
          | true =>
            have h := cT b4 h
            have e5 : insV (headI ((gsOf E0 171 (opsOf (rgt (lft (lft (rgt (rgt f4_L1))))))).drop 8) (trS 171 [(3, pp 0 0), (5, ii x5_1), (27, ii x27_1), (28, ii x28_1), (31, s0 1 lh1_1.length), (35, ii (w64 (List.getD lh0_1 (Int.toNat x28_1) 0))), (38, ii (w64 (x5_1 - x28_1)))])) (trS 171 [(3, pp 0 0), (5, ii x5_1), (27, ii x27_1), (28, ii x28_1), (31, s0 1 lh1_1.length), (35, ii (w64 (List.getD lh0_1 (Int.toNat x28_1) 0))), (38, ii (w64 (x5_1 - x28_1)))]) [(1, rc (encI .i64) lh1_1 0 3 1), (0, rc (encI .u8) lh0_1 0 22 0)] = (match ((w64 (x5_1 - x28_1)) != 0 : Bool) with | true => some (ii (Int.tmod (w64 (List.getD lh0_1 (Int.toNat x28_1) 0)) (w64 (x5_1 - x28_1)))) | false => none) := by kernel_rfl
            refine XR.rd E0_ok [3, 5, 27, 28, 31, 39] rfl (e5.trans (by rw [b4])) (σ' := [(3, pp 0 0), (5, ii x5_1), (27, ii x27_1), (28, ii x28_1), (31, s0 1 lh1_1.length), (39, ii (Int.tmod (w64 (List.getD lh0_1 (Int.toNat x28_1) 0)) (w64 (x5_1 - x28_1))))]) (by kernel_rfl) ?_
            refine XR.runT E0_ok 1 1 [(3, pp 0 0), (5, ii x5_1), (27, ii x27_1), (28, ii x28_1), (31, s0 1 lh1_1.length), (40, s0 2 1)] [(2, .cells [ii (Int.tmod (w64 (List.getD lh0_1 (Int.toNat x28_1) 0)) (w64 (x5_1 - x28_1)))] 0 3 1), (1, rc (encI .i64) lh1_1 0 3 1), (0, rc (encI .u8) lh0_1 0 22 0)] 3 rfl (by kernel_rfl) ?_
            cases b6 : (fitsB (lh1_1.length + 1) 8 : Bool) with
            | false => cases (cF b6 h)
            | true =>
              have h := cT b6 h
              refine XR.ef E0_ok [3, 5, 27, 28, 41] rfl (e_append (encI_ok .i64) (bytes := 8) (e := 3) (x := (src 171 (.tmp 31))) (y := (src 171 (.tmp 40))) (b := 1) (len := lh1_1.length) (cap := lh1_1.length) (xs := lh1_1) (m := 0) (ys := [Int.tmod (w64 (List.getD lh0_1 (Int.toNat x28_1) 0)) (w64 (x5_1 - x28_1))]) (d := (some (path 12 41))) (n' := (lh1_1 ++ [Int.tmod (w64 (List.getD lh0_1 (Int.toNat x28_1) 0)) (w64 (x5_1 - x28_1))]).length) (h' := [(3, rc (encI .i64) (lh1_1 ++ [Int.tmod (w64 (List.getD lh0_1 (Int.toNat x28_1) 0)) (w64 (x5_1 - x28_1))]) 0 3 1), (2, .cells [ii (Int.tmod (w64 (List.getD lh0_1 (Int.toNat x28_1) 0)) (w64 (x5_1 - x28_1)))] 0 3 1), (0, rc (encI .u8) lh0_1 0 22 0)]) (by kernel_rfl) (by kernel_rfl) (by kernel_rfl) (by kernel_rfl) rfl (by simp) (by simp) b6 (by simp) (by kernel_rfl)) (σ' := [(3, pp 0 0), (5, ii x5_1), (27, ii x27_1), (28, ii x28_1), (41, s0 3 ((lh1_1 ++ [Int.tmod (w64 (List.getD lh0_1 (Int.toNat x28_1) 0)) (w64 (x5_1 - x28_1))]).length))]) (by kernel_rfl) ?_
              refine XR.runS E0_ok 1 1 [(3, pp 0 0), (5, ii x5_1), (6, s0 3 ((lh1_1 ++ [Int.tmod (w64 (List.getD lh0_1 (Int.toNat x28_1) 0)) (w64 (x5_1 - x28_1))]).length)), (27, ii x27_1), (28, ii x28_1)] rfl (by kernel_rfl) ?_
              refine XR.done (by kernel_rfl) ?_
              show XQ _ _ _ _ _ _ _ _
              refine XQ.region (by kernel_rfl) ?_
              refine XR.runS E0_ok 1 2 [(3, pp 0 0), (5, ii x5_1), (6, s0 3 ((lh1_1 ++ [Int.tmod (w64 (List.getD lh0_1 (Int.toNat x28_1) 0)) (w64 (x5_1 - x28_1))]).length)), (27, ii x27_1), (28, ii (w64 (x28_1 + 1)))] rfl (by kernel_rfl) ?_
              refine XR.done (by kernel_rfl) ?_
              show XL _ _ _ _ _ _ _ _ _
              refine XL.ren (σ' := [(3, pp 0 0), (5, ii x5_1), (6, s0 1 ((lh1_1 ++ [Int.tmod (w64 (List.getD lh0_1 (Int.toNat x28_1) 0)) (w64 (x5_1 - x28_1))]).length)), (27, ii x27_1), (28, ii (w64 (x28_1 + 1)))]) (h' := [(1, rc (encI .i64) (lh1_1 ++ [Int.tmod (w64 (List.getD lh0_1 (Int.toNat x28_1) 0)) (w64 (x5_1 - x28_1))]) 0 3 1), (0, rc (encI .u8) lh0_1 0 22 0)]) (c' := 2) [0, 3] (by decide) rfl ⟨by kernel_rfl, by kernel_rfl, by kernel_rfl, by kernel_rfl, by kernel_rfl, trivial⟩ ⟨⟨_, _, rfl, rfl, .inl ⟨rfl, rowC_scal (encI_ok .i64) _⟩⟩, ⟨_, _, rfl, rfl, .inl ⟨rfl, rowC_scal (encI_ok .u8) _⟩⟩, trivial⟩ rfl ?_
              refine XL.conv (f4_1_ok m fuel x5_1 x27_1 (w64 (x28_1 + 1)) lh0_1 (lh1_1 ++ [Int.tmod (w64 (List.getD lh0_1 (Int.toNat x28_1) 0)) (w64 (x5_1 - x28_1))]) o h Q hQ) (by first | with_reducible rfl | simp | rfl)
    | false =>
      have h := cF b1 h
      refine XQ.cond (s := (.tmp 29)) (b := false) (by kernel_rfl) (by kernel_rfl) (fun q => by cases q) (fun _ => ?_)
      refine XQ.ren (σ' := [(5, ii x5_1), (6, s0 0 lh1_1.length)]) (h' := [(0, rc (encI .i64) lh1_1 0 3 1)]) (c' := 1) [1] (by decide) rfl ⟨by kernel_rfl, by kernel_rfl, trivial⟩ ⟨⟨_, _, rfl, rfl, .inl ⟨rfl, rowC_scal (encI_ok .i64) _⟩⟩, trivial⟩ rfl ?_
      refine XQ.exit (i := 0) (by kernel_rfl) ?_
      cases h
      exact hQ

def f4_2 (m : Nat) : Nat → Int → Int → Int → List Int → Int → Int → List Int → Option (Int × (List Int) × Int × Int × (List Int))
  | 0, _, _, _, _, _, _, _ => none
  | fuel + 1, x5_2, x65_2, x66_2, lh0_2, xh1_0_2, xh1_1_2, lh2_2 =>
    cond (decide (x66_2 < x65_2)) (
      cond (inRow x66_2 lh0_2.length) (
        cond (fitsB (lh2_2.length + 1) 8) (
          f4_2 m fuel x5_2 x65_2 (w64 (x66_2 + 1)) lh0_2 xh1_0_2 xh1_1_2 (lh2_2 ++ [w64 ((w64 (x66_2 * x5_2)) + (List.getD lh0_2 (Int.toNat x66_2) 0))])
        ) none
      ) none
    ) (
      some (x5_2, lh0_2, xh1_0_2, xh1_1_2, lh2_2)
    )

theorem f4_2_ok (m : Nat) : ∀ (fuel : Nat) (x5_2 : Int) (x65_2 : Int) (x66_2 : Int) (lh0_2 : List Int) (xh1_0_2 : Int) (xh1_1_2 : Int) (lh2_2 : List Int) (o : (Int × (List Int) × Int × Int × (List Int))), f4_2 m fuel x5_2 x65_2 x66_2 lh0_2 xh1_0_2 xh1_1_2 lh2_2 = some o → ∀ Q : QP, Q (.exit 2) [(5, ii o.1), (8, s0 0 o.2.1.length), (10, pp 1 0)] [(3, rc (encI .i64) [] 0 3 1), (2, rc (encI .i64) o.2.2.2.2 0 3 1), (1, .cells [ii o.2.2.1, ii o.2.2.2.1, s0 2 o.2.2.2.2.length, s0 3 0] 0 29 0), (0, rc (encI .i64) o.2.1 0 3 1)] 4 → XL E0 171 0 fuel f4_L2 [(5, ii x5_2), (8, s0 0 lh0_2.length), (10, pp 1 0), (64, s0 0 lh0_2.length), (65, ii x65_2), (66, ii x66_2)] [(3, rc (encI .i64) [] 0 3 1), (2, rc (encI .i64) lh2_2 0 3 1), (1, .cells [ii xh1_0_2, ii xh1_1_2, s0 2 lh2_2.length, s0 3 0] 0 29 0), (0, rc (encI .i64) lh0_2 0 3 1)] 4 Q
  | 0, x5_2, x65_2, x66_2, lh0_2, xh1_0_2, xh1_1_2, lh2_2, o, h, Q, hQ => by cases h
  | fuel + 1, x5_2, x65_2, x66_2, lh0_2, xh1_0_2, xh1_1_2, lh2_2, o, h, Q, hQ => by
    unfold f4_2 at h
    refine XL.succ E0_ok ?_
    refine XQ.seq E0_ok (by kernel_rfl) ?_
    refine XQ.region (by kernel_rfl) ?_
    refine XR.runS E0_ok 1 1 [(5, ii x5_2), (8, s0 0 lh0_2.length), (10, pp 1 0), (64, s0 0 lh0_2.length), (65, ii x65_2), (66, ii x66_2), (67, .bool (decide (x66_2 < x65_2)))] rfl (by kernel_rfl) ?_
    refine XR.done (by kernel_rfl) ?_
    show XQ _ _ _ _ _ _ _ _
    refine XQ.seq E0_ok (by kernel_rfl) ?_
    cases b1 : (decide (x66_2 < x65_2) : Bool) with
    | true =>
      have h := cT b1 h
      refine XQ.cond (s := (.tmp 67)) (b := true) (by kernel_rfl) (by kernel_rfl) (fun _ => ?_) (fun q => by cases q)
      refine XQ.skip (by kernel_rfl) ?_
      show XQ _ _ _ _ _ _ _ _
      refine XQ.seq E0_ok (by kernel_rfl) ?_
      refine XQ.block (id := 3) (by kernel_rfl) ?_
      refine XQ.seq E0_ok (by kernel_rfl) ?_
      refine XQ.region (by kernel_rfl) ?_
      refine XR.runS E0_ok 1 1 [(5, ii x5_2), (8, s0 0 lh0_2.length), (10, pp 1 0), (64, s0 0 lh0_2.length), (65, ii x65_2), (66, ii x66_2), (68, ii x66_2)] rfl (by kernel_rfl) ?_
      cases b2 : (inRow x66_2 lh0_2.length : Bool) with
      | false => cases (cF b2 h)
      | true =>
        have h := cT b2 h
        refine XR.rd E0_ok [5, 8, 10, 64, 65, 66, 68, 69] rfl (v := pp 0 ((Int.toNat x66_2) * 1)) (v_idx (s := 1) (x := (src 171 (.tmp 64))) (y := (src 171 (.tmp 66))) (b := 0) (o := 0) (len := lh0_2.length) (cap := lh0_2.length) (ik := .i64) (i := x66_2) (off := (Int.toNat x66_2) * 1) (d := (some (path 12 69))) (by kernel_rfl) (by kernel_rfl) (by kernel_rfl) b2 (by omega)) (σ' := [(5, ii x5_2), (8, s0 0 lh0_2.length), (10, pp 1 0), (64, s0 0 lh0_2.length), (65, ii x65_2), (66, ii x66_2), (68, ii x66_2), (69, pp 0 ((Int.toNat x66_2) * 1))]) (by kernel_rfl) ?_
        refine XR.rd E0_ok [5, 8, 10, 64, 65, 66, 68, 70] rfl (v := ii (List.getD lh0_2 (Int.toNat x66_2) 0)) (v_load1 (encI_ok .i64) (x := (src 171 (.tmp 69))) (b := 0) (off := (Int.toNat x66_2) * 1) (xs := lh0_2) (fz := 0) (e := 3) (es := 1) (d := (some (path 12 70))) (by kernel_rfl) (by kernel_rfl) (by kernel_rfl) (Int.toNat x66_2) 0 0 (by first | with_reducible rfl | omega | rfl) (row_len (inRow_toNat b2) (by simp)) rfl rfl) (σ' := [(5, ii x5_2), (8, s0 0 lh0_2.length), (10, pp 1 0), (64, s0 0 lh0_2.length), (65, ii x65_2), (66, ii x66_2), (68, ii x66_2), (70, ii (List.getD lh0_2 (Int.toNat x66_2) 0))]) (by kernel_rfl) ?_
        refine XR.runS E0_ok 1 2 [(5, ii x5_2), (8, s0 0 lh0_2.length), (10, pp 1 0), (11, ii x66_2), (12, ii (List.getD lh0_2 (Int.toNat x66_2) 0)), (64, s0 0 lh0_2.length), (65, ii x65_2), (66, ii x66_2)] rfl (by kernel_rfl) ?_
        refine XR.done (by kernel_rfl) ?_
        show XQ _ _ _ _ _ _ _ _
        refine XQ.region (by kernel_rfl) ?_
        refine XR.runT E0_ok 1 8 [(5, ii x5_2), (8, s0 0 lh0_2.length), (10, pp 1 0), (64, s0 0 lh0_2.length), (65, ii x65_2), (66, ii x66_2), (72, s0 2 lh2_2.length), (78, s0 4 1)] [(4, .cells [ii (w64 ((w64 (x66_2 * x5_2)) + (List.getD lh0_2 (Int.toNat x66_2) 0)))] 0 3 1), (3, rc (encI .i64) [] 0 3 1), (2, rc (encI .i64) lh2_2 0 3 1), (1, .cells [ii xh1_0_2, ii xh1_1_2, s0 2 lh2_2.length, s0 3 0] 0 29 0), (0, rc (encI .i64) lh0_2 0 3 1)] 5 rfl (by kernel_rfl) ?_
        cases b3 : (fitsB (lh2_2.length + 1) 8 : Bool) with
        | false => cases (cF b3 h)
        | true =>
          have h := cT b3 h
          refine XR.ef E0_ok [5, 8, 10, 64, 65, 66, 79] rfl (e_append (encI_ok .i64) (bytes := 8) (e := 3) (x := (src 171 (.tmp 72))) (y := (src 171 (.tmp 78))) (b := 2) (len := lh2_2.length) (cap := lh2_2.length) (xs := lh2_2) (m := 0) (ys := [w64 ((w64 (x66_2 * x5_2)) + (List.getD lh0_2 (Int.toNat x66_2) 0))]) (d := (some (path 12 79))) (n' := (lh2_2 ++ [w64 ((w64 (x66_2 * x5_2)) + (List.getD lh0_2 (Int.toNat x66_2) 0))]).length) (h' := [(5, rc (encI .i64) (lh2_2 ++ [w64 ((w64 (x66_2 * x5_2)) + (List.getD lh0_2 (Int.toNat x66_2) 0))]) 0 3 1), (4, .cells [ii (w64 ((w64 (x66_2 * x5_2)) + (List.getD lh0_2 (Int.toNat x66_2) 0)))] 0 3 1), (3, rc (encI .i64) [] 0 3 1), (1, .cells [ii xh1_0_2, ii xh1_1_2, s0 2 lh2_2.length, s0 3 0] 0 29 0), (0, rc (encI .i64) lh0_2 0 3 1)]) (by kernel_rfl) (by kernel_rfl) (by kernel_rfl) (by kernel_rfl) rfl (by simp) (by simp) b3 (by simp) (by kernel_rfl)) (σ' := [(5, ii x5_2), (8, s0 0 lh0_2.length), (10, pp 1 0), (64, s0 0 lh0_2.length), (65, ii x65_2), (66, ii x66_2), (79, s0 5 ((lh2_2 ++ [w64 ((w64 (x66_2 * x5_2)) + (List.getD lh0_2 (Int.toNat x66_2) 0))]).length))]) (by kernel_rfl) ?_
          refine XR.runT E0_ok 1 2 [(5, ii x5_2), (8, s0 0 lh0_2.length), (10, pp 1 0), (64, s0 0 lh0_2.length), (65, ii x65_2), (66, ii x66_2)] [(5, rc (encI .i64) (lh2_2 ++ [w64 ((w64 (x66_2 * x5_2)) + (List.getD lh0_2 (Int.toNat x66_2) 0))]) 0 3 1), (4, .cells [ii (w64 ((w64 (x66_2 * x5_2)) + (List.getD lh0_2 (Int.toNat x66_2) 0)))] 0 3 1), (3, rc (encI .i64) [] 0 3 1), (1, .cells [ii xh1_0_2, ii xh1_1_2, s0 5 ((lh2_2 ++ [w64 ((w64 (x66_2 * x5_2)) + (List.getD lh0_2 (Int.toNat x66_2) 0))]).length), s0 3 0] 0 29 0), (0, rc (encI .i64) lh0_2 0 3 1)] 6 rfl (by kernel_rfl) ?_
          refine XR.done (by kernel_rfl) ?_
          show XQ _ _ _ _ _ _ _ _
          refine XQ.region (by kernel_rfl) ?_
          refine XR.runS E0_ok 1 2 [(5, ii x5_2), (8, s0 0 lh0_2.length), (10, pp 1 0), (64, s0 0 lh0_2.length), (65, ii x65_2), (66, ii (w64 (x66_2 + 1)))] rfl (by kernel_rfl) ?_
          refine XR.done (by kernel_rfl) ?_
          show XL _ _ _ _ _ _ _ _ _
          refine XL.ren (σ' := [(5, ii x5_2), (8, s0 0 lh0_2.length), (10, pp 1 0), (64, s0 0 lh0_2.length), (65, ii x65_2), (66, ii (w64 (x66_2 + 1)))]) (h' := [(3, rc (encI .i64) [] 0 3 1), (2, rc (encI .i64) (lh2_2 ++ [w64 ((w64 (x66_2 * x5_2)) + (List.getD lh0_2 (Int.toNat x66_2) 0))]) 0 3 1), (1, .cells [ii xh1_0_2, ii xh1_1_2, s0 2 ((lh2_2 ++ [w64 ((w64 (x66_2 * x5_2)) + (List.getD lh0_2 (Int.toNat x66_2) 0))]).length), s0 3 0] 0 29 0), (0, rc (encI .i64) lh0_2 0 3 1)]) (c' := 4) [0, 1, 5, 3] (by decide) rfl ⟨by kernel_rfl, by kernel_rfl, by kernel_rfl, by kernel_rfl, by kernel_rfl, by kernel_rfl, trivial⟩ ⟨⟨_, _, rfl, rfl, .inl ⟨rfl, rowC_scal (encI_ok .i64) _⟩⟩, ⟨_, _, rfl, rfl, .inl ⟨rfl, rowC_scal (encI_ok .i64) _⟩⟩, ⟨_, _, rfl, rfl, .inr ⟨_, _, _, _, rfl, rfl⟩⟩, ⟨_, _, rfl, rfl, .inl ⟨rfl, rowC_scal (encI_ok .i64) _⟩⟩, trivial⟩ rfl ?_
          refine XL.conv (f4_2_ok m fuel x5_2 x65_2 (w64 (x66_2 + 1)) lh0_2 xh1_0_2 xh1_1_2 (lh2_2 ++ [w64 ((w64 (x66_2 * x5_2)) + (List.getD lh0_2 (Int.toNat x66_2) 0))]) o h Q hQ) (by first | with_reducible rfl | simp | rfl)
    | false =>
      have h := cF b1 h
      refine XQ.cond (s := (.tmp 67)) (b := false) (by kernel_rfl) (by kernel_rfl) (fun q => by cases q) (fun _ => ?_)
      refine XQ.ren (σ' := [(5, ii x5_2), (8, s0 0 lh0_2.length), (10, pp 1 0)]) (h' := [(3, rc (encI .i64) [] 0 3 1), (2, rc (encI .i64) lh2_2 0 3 1), (1, .cells [ii xh1_0_2, ii xh1_1_2, s0 2 lh2_2.length, s0 3 0] 0 29 0), (0, rc (encI .i64) lh0_2 0 3 1)]) (c' := 4) [0, 1, 2, 3] (by decide) rfl ⟨by kernel_rfl, by kernel_rfl, by kernel_rfl, trivial⟩ ⟨⟨_, _, rfl, rfl, .inl ⟨rfl, rowC_scal (encI_ok .i64) _⟩⟩, ⟨_, _, rfl, rfl, .inl ⟨rfl, rowC_scal (encI_ok .i64) _⟩⟩, ⟨_, _, rfl, rfl, .inr ⟨_, _, _, _, rfl, rfl⟩⟩, ⟨_, _, rfl, rfl, .inl ⟨rfl, rowC_scal (encI_ok .i64) _⟩⟩, trivial⟩ rfl ?_
      refine XQ.exit (i := 2) (by kernel_rfl) ?_
      cases h
      exact hQ

def f4 (m : Nat) (a : Int) (b_0 : Int) (b_1 : Int) (b_2 : Int) (b_3 : Int) (b_4 : Int) : Option (Bool) :=
  (f4_1 m m (w64 (1 + (Int.tmod (w64 a) 5))) (w64 (1 + (Int.tmod (w64 a) 5))) 0 [b_0, b_1, b_2, b_3, b_4] []).bind fun o1 =>
    (f11 m o1.2).bind fun r1 =>
      cond (r1.2 != 0) (
        some (false)
      ) (
        cond (((r1.1.length : Nat) : Int) != o1.1) (
          some (false)
        ) (
          (f12 m r1.1).bind fun r2 =>
            cond (r2 != 0) (
              some (false)
            ) (
              (f4_2 m m o1.1 ((r1.1.length : Nat) : Int) 0 r1.1 o1.1 o1.1 []).bind fun o2 =>
                (f13 m o2.2.2.1 o2.2.2.2.1 o2.2.2.2.2 []).bind fun r3 =>
                  (f14 m o2.2.2.1 o2.2.2.2.1 o2.2.2.2.2 []).bind fun r4 =>
                    (f15 m o2.2.2.1 o2.2.2.2.1 o2.2.2.2.2 []).bind fun r5 =>
                      (f16 m o2.2.2.1 o2.2.2.2.1 o2.2.2.2.2 []).bind fun r6 =>
                        cond (r3.2 != 0) (
                          some (false)
                        ) (
                          cond (r4.2.2 != 0) (
                            some (false)
                          ) (
                            cond (r5.2 != 0) (
                              some (false)
                            ) (
                              cond (r6.2 != 0) (
                                some (false)
                              ) (
                                cond (r4.1 != (w64 (4 * o2.1))) (
                                  some (false)
                                ) (
                                  cond (decide (r4.2.1 > r4.1)) (
                                    some (false)
                                  ) (
                                    cond (decide (((r6.1.length : Nat) : Int) > 0)) (
                                      some (false)
                                    ) (
                                      (f17 m m 0 o2.2.1.length o2.2.1.length o2.2.1).bind fun r7 =>
                                        cond (decide (o2.1 < 4)) (
                                          cond (!r7) (
                                            some (false)
                                          ) (
                                            cond (!(r7 == (((r3.1.length : Nat) : Int) == (w64 (o2.1 * o2.1))))) (
                                              some (false)
                                            ) (
                                              cond (((r5.1.length : Nat) : Int) == 1) (
                                                cond (inRow 0 r5.1.length) (
                                                  cond ((((List.getD r5.1 0 (0, 0, 0, 0)).1) == 0 && (((List.getD r5.1 0 (0, 0, 0, 0)).2.1) == 0 && (((List.getD r5.1 0 (0, 0, 0, 0)).2.2.1) == (w64 (o2.1 - 1)) && (((List.getD r5.1 0 (0, 0, 0, 0)).2.2.2) == (w64 (o2.1 - 1)) && true)))) == r7) (
                                                    some (true)
                                                  ) (
                                                    some (false)
                                                  )
                                                ) none
                                              ) (
                                                cond (false == r7) (
                                                  some (true)
                                                ) (
                                                  some (false)
                                                )
                                              )
                                            )
                                          )
                                        ) (
                                          cond (!(r7 == (((r3.1.length : Nat) : Int) == (w64 (o2.1 * o2.1))))) (
                                            some (false)
                                          ) (
                                            cond (((r5.1.length : Nat) : Int) == 1) (
                                              cond (inRow 0 r5.1.length) (
                                                cond ((((List.getD r5.1 0 (0, 0, 0, 0)).1) == 0 && (((List.getD r5.1 0 (0, 0, 0, 0)).2.1) == 0 && (((List.getD r5.1 0 (0, 0, 0, 0)).2.2.1) == (w64 (o2.1 - 1)) && (((List.getD r5.1 0 (0, 0, 0, 0)).2.2.2) == (w64 (o2.1 - 1)) && true)))) == r7) (
                                                  some (true)
                                                ) (
                                                  some (false)
                                                )
                                              ) none
                                            ) (
                                              cond (false == r7) (
                                                some (true)
                                              ) (
                                                some (false)
                                              )
                                            )
                                          )
                                        )
                                    )
                                  )
                                )
                              )
                            )
                          )
                        )
            )
        )
      )

theorem f4_ok (m : Nat) (a : Int) (b_0 : Int) (b_1 : Int) (b_2 : Int) (b_3 : Int) (b_4 : Int) (o : Bool) (h : f4 m a b_0 b_1 b_2 b_3 b_4 = some o) (w : World) (hI : seatInv w) : Calls Proofs.Tryz.prog 4 #[.int .u8 a, .agg #[.int .u8 b_0, .int .u8 b_1, .int .u8 b_2, .int .u8 b_3, .int .u8 b_4]] w fun e w' => e = .returned (.bool o) ∧ Below w.heap.size w w' := by
  refine KC.calls (E := E0) (args := [.int .u8 a, .agg #[.int .u8 b_0, .int .u8 b_1, .int .u8 b_2, .int .u8 b_3, .int .u8 b_4]]) (v := .bool o) rfl rfl (KC.bodyN E0_ok (F := Proofs.Tryz.f4) (by kernel_rfl) (code := f4_C4) (by kernel_rfl) (nt := 171) (by kernel_rfl) (rs := [.tmp 4]) (by kernel_rfl) (by kernel_rfl) (σ := [(0, .int .u8 a), (1, .agg #[.int .u8 b_0, .int .u8 b_1, .int .u8 b_2, .int .u8 b_3, .int .u8 b_4])]) (by kernel_rfl) ?_) w (seatInv_size hI) hI
  unfold f4 at h
  refine XQ.seq E0_ok (by kernel_rfl) ?_
  refine XQ.region (by kernel_rfl) ?_
  refine XR.runT E0_ok 1 2 [(0, .int .u8 a), (3, pp 0 0)] [(0, .cells [.int .u8 b_0, .int .u8 b_1, .int .u8 b_2, .int .u8 b_3, .int .u8 b_4] 0 22 0)] 1 rfl (by kernel_rfl) ?_
  refine XR.done (by kernel_rfl) ?_
  show XQ _ _ _ _ _ _ _ _
  refine XQ.seq E0_ok (by kernel_rfl) ?_
  refine XQ.region (by kernel_rfl) ?_
  refine XR.runS E0_ok 1 5 [(3, pp 0 0), (5, ii (w64 (1 + (Int.tmod (w64 a) 5))))] rfl (by kernel_rfl) ?_
  refine XR.done (by kernel_rfl) ?_
  show XQ _ _ _ _ _ _ _ _
  refine XQ.seq E0_ok (by kernel_rfl) ?_
  refine XQ.region (by kernel_rfl) ?_
  refine XR.runS E0_ok 1 1 [(3, pp 0 0), (5, ii (w64 (1 + (Int.tmod (w64 a) 5)))), (6, .slice none 0 0)] rfl (by kernel_rfl) ?_
  refine XR.done (by kernel_rfl) ?_
  show XQ _ _ _ _ _ _ _ _
  refine XQ.ghost 3 1 rfl (σ' := [(3, pp 0 0), (5, ii (w64 (1 + (Int.tmod (w64 a) 5)))), (6, s0 1 0)]) (h' := [(0, .cells [.int .u8 b_0, .int .u8 b_1, .int .u8 b_2, .int .u8 b_3, .int .u8 b_4] 0 22 0)]) ⟨by kernel_rfl, by kernel_rfl, by kernel_rfl, trivial⟩ ⟨⟨_, rfl, .inl rfl⟩, trivial⟩ ?_
  refine XQ.conv (σ' := [(3, pp 0 0), (5, ii (w64 (1 + (Int.tmod (w64 a) 5)))), (6, s0 1 0)]) (h' := [(1, rc (encI .i64) [] 0 3 1), (0, .cells [.int .u8 b_0, .int .u8 b_1, .int .u8 b_2, .int .u8 b_3, .int .u8 b_4] 0 22 0)]) (c' := 2) ?_ (by kernel_rfl)
  refine XQ.seq E0_ok (by kernel_rfl) ?_
  refine XQ.seq E0_ok (by kernel_rfl) ?_
  refine XQ.region (by kernel_rfl) ?_
  refine XR.runS E0_ok 1 2 [(3, pp 0 0), (5, ii (w64 (1 + (Int.tmod (w64 a) 5)))), (6, s0 1 0), (27, ii (w64 (1 + (Int.tmod (w64 a) 5)))), (28, ii 0)] rfl (by kernel_rfl) ?_
  refine XR.done (by kernel_rfl) ?_
  show XQ _ _ _ _ _ _ _ _
  refine XQ.block (id := 0) (by kernel_rfl) ?_
  refine XQ.loop m (by kernel_rfl) ?_
  obtain ⟨o1, o1_h, h⟩ := bS h
  refine XL.ren (σ' := [(3, pp 0 0), (5, ii (w64 (1 + (Int.tmod (w64 a) 5)))), (6, s0 1 0), (27, ii (w64 (1 + (Int.tmod (w64 a) 5)))), (28, ii 0)]) (h' := [(1, rc (encI .i64) [] 0 3 1), (0, .cells [.int .u8 b_0, .int .u8 b_1, .int .u8 b_2, .int .u8 b_3, .int .u8 b_4] 0 22 0)]) (c' := 2) [0, 1] (by decide) rfl ⟨by kernel_rfl, by kernel_rfl, by kernel_rfl, by kernel_rfl, by kernel_rfl, trivial⟩ ⟨⟨_, _, rfl, rfl, .inl ⟨rfl, rowC_scal (encI_ok .i64) _⟩⟩, ⟨_, _, rfl, rfl, .inr ⟨_, _, _, _, rfl, rfl⟩⟩, trivial⟩ rfl ?_
  refine XL.conv (σ' := [(3, pp 0 0), (5, ii (w64 (1 + (Int.tmod (w64 a) 5)))), (6, s0 1 0), (27, ii (w64 (1 + (Int.tmod (w64 a) 5)))), (28, ii 0)]) (h' := [(1, rc (encI .i64) [] 0 3 1), (0, rc (encI .u8) [b_0, b_1, b_2, b_3, b_4] 0 22 0)]) (c' := 2) ?_ (by kernel_rfl)
  refine XL.conv (f4_1_ok m m (w64 (1 + (Int.tmod (w64 a) 5))) (w64 (1 + (Int.tmod (w64 a) 5))) 0 [b_0, b_1, b_2, b_3, b_4] [] o1 o1_h _ ?_) (by first | with_reducible rfl | simp | rfl)
  show XQ _ _ _ _ _ _ _ _
  refine XQ.seq E0_ok (by kernel_rfl) ?_
  refine XQ.region (by kernel_rfl) ?_
  refine XR.runS E0_ok 1 1 [(5, ii o1.1), (44, s0 0 o1.2.length)] rfl (by kernel_rfl) ?_
  obtain ⟨r1, r1_h, h⟩ := bS h
  refine XR.call E0_ok [5, 45] rfl (K := 11) (args := [s0 0 o1.2.length]) (d := (some (path 12 45))) (by kernel_rfl) (KC.liftH (n0 := 1) (m := 1) (args0 := [s0 0 o1.2.length]) (h0 := [(0, rc (encI .i64) o1.2 (0 + ((rowC (encI .i64) o1.2).length + 1)) 3 1)]) (V := .tuple #[s0 1 r1.1.length, ii r1.2]) (V2 := .tuple #[s0 1 r1.1.length, ii r1.2]) (H := [(1, rc (encI .i64) r1.1 0 3 1)]) (H2 := [(1, rc (encI .i64) r1.1 0 3 1)]) [0] [2, 1] (f11_ok m (0 + ((rowC (encI .i64) o1.2).length + 1)) 3 o1.2 r1 r1_h) (by rfl) (by decide) rfl (by kernel_rfl) ⟨⟨_, _, rfl, rfl, .inl ⟨rfl, rowC_scal (encI_ok .i64) _⟩⟩, trivial⟩ (by decide) (by decide) (by kernel_rfl) ⟨⟨_, _, rfl, rfl, .inl ⟨rfl, rowC_scal (encI_ok .i64) _⟩⟩, trivial⟩ (by rfl)) ?_
  rintro _ _ _ ⟨rfl, rfl, rfl⟩
  refine XR.conv (σ' := [(5, ii o1.1), (45, .tuple #[s0 1 r1.1.length, ii r1.2])]) (h' := [(1, rc (encI .i64) r1.1 0 3 1), (0, rc (encI .i64) o1.2 0 3 1)]) (c' := 2) ?_ (by kernel_rfl)
  refine XR.runS E0_ok 1 5 [(5, ii o1.1), (8, s0 1 r1.1.length), (9, ii r1.2)] rfl (by kernel_rfl) ?_
  refine XR.done (by kernel_rfl) ?_
  show XQ _ _ _ _ _ _ _ _
  refine XQ.seq E0_ok (by kernel_rfl) ?_
  refine XQ.seq E0_ok (by kernel_rfl) ?_
  refine XQ.region (by kernel_rfl) ?_
  refine XR.runS E0_ok 1 3 [(5, ii o1.1), (8, s0 1 r1.1.length), (50, .bool (r1.2 != 0))] rfl (by kernel_rfl) ?_
  cases b2 : (r1.2 != 0 : Bool) with
  | true =>
    have h := cT b2 h
    refine XR.runS E0_ok 1 10 [(5, ii o1.1), (8, s0 1 r1.1.length), (60, .bool true)] rfl (by kernel_rfl) ?_
    refine XR.done (by kernel_rfl) ?_
    show XQ _ _ _ _ _ _ _ _
    refine XQ.cond (s := (.tmp 60)) (b := true) (by kernel_rfl) (by kernel_rfl) (fun _ => ?_) (fun q => by cases q)
    refine XQ.seq E0_ok (by kernel_rfl) ?_
    refine XQ.region (by kernel_rfl) ?_
    refine XR.runS E0_ok 1 1 [(4, .bool false)] rfl (by kernel_rfl) ?_
    refine XR.done (by kernel_rfl) ?_
    show XQ _ _ _ _ _ _ _ _
    refine XQ.ret (by kernel_rfl) ?_
    have h := Option.some.inj h
    subst h
    exact ⟨fun i q => (by cases q), .bool false, (by kernel_rfl), rfl⟩
  | false =>
    have h := cF b2 h
    refine XR.runS E0_ok 1 6 [(5, ii o1.1), (8, s0 1 r1.1.length), (56, .bool (((r1.1.length : Nat) : Int) != o1.1))] rfl (by kernel_rfl) ?_
    cases b3 : (((r1.1.length : Nat) : Int) != o1.1 : Bool) with
    | true =>
      have h := cT b3 h
      refine XR.runS E0_ok 1 4 [(5, ii o1.1), (8, s0 1 r1.1.length), (60, .bool true)] rfl (by kernel_rfl) ?_
      refine XR.done (by kernel_rfl) ?_
      show XQ _ _ _ _ _ _ _ _
      refine XQ.cond (s := (.tmp 60)) (b := true) (by kernel_rfl) (by kernel_rfl) (fun _ => ?_) (fun q => by cases q)
      refine XQ.seq E0_ok (by kernel_rfl) ?_
      refine XQ.region (by kernel_rfl) ?_
      refine XR.runS E0_ok 1 1 [(4, .bool false)] rfl (by kernel_rfl) ?_
      refine XR.done (by kernel_rfl) ?_
      show XQ _ _ _ _ _ _ _ _
      refine XQ.ret (by kernel_rfl) ?_
      have h := Option.some.inj h
      subst h
      exact ⟨fun i q => (by cases q), .bool false, (by kernel_rfl), rfl⟩
    | false =>
      have h := cF b3 h
      refine XR.runS E0_ok 1 1 [(5, ii o1.1), (8, s0 1 r1.1.length), (56, .bool false), (57, s0 1 r1.1.length)] rfl (by kernel_rfl) ?_
      obtain ⟨r2, r2_h, h⟩ := bS h
      refine XR.call E0_ok [5, 8, 56, 58] rfl (K := 12) (args := [s0 1 r1.1.length]) (d := (some (path 12 58))) (by kernel_rfl) (KQ.call (KC.quiet E0_ok (args0 := [s0 0 r1.1.length]) (h0 := [(0, rc (encI .i64) r1.1 (0 + ((rowC (encI .i64) r1.1).length + 1)) 3 1)]) (n := 1) (V := ii r2) [1] (f12_ok m (0 + ((rowC (encI .i64) r1.1).length + 1)) 3 r1.1 r2 r2_h) rfl (by rfl) (by decide) rfl (by kernel_rfl) ⟨⟨_, _, rfl, rfl, .inl ⟨rfl, rowC_scal (encI_ok .i64) _⟩⟩, trivial⟩) rfl) ?_
      rintro _ _ _ ⟨rfl, rfl, rfl⟩
      refine XR.conv (σ' := [(5, ii o1.1), (8, s0 1 r1.1.length), (56, .bool false), (58, ii r2)]) (h' := [(1, rc (encI .i64) r1.1 0 3 1), (0, rc (encI .i64) o1.2 0 3 1)]) (c' := 2) ?_ (by kernel_rfl)
      refine XR.runS E0_ok 1 2 [(5, ii o1.1), (8, s0 1 r1.1.length), (60, .bool (r2 != 0))] rfl (by kernel_rfl) ?_
      refine XR.done (by kernel_rfl) ?_
      show XQ _ _ _ _ _ _ _ _
      cases b4 : (r2 != 0 : Bool) with
      | true =>
        have h := cT b4 h
        refine XQ.cond (s := (.tmp 60)) (b := true) (by kernel_rfl) (by kernel_rfl) (fun _ => ?_) (fun q => by cases q)
        refine XQ.seq E0_ok (by kernel_rfl) ?_
        refine XQ.region (by kernel_rfl) ?_
        refine XR.runS E0_ok 1 1 [(4, .bool false)] rfl (by kernel_rfl) ?_
        refine XR.done (by kernel_rfl) ?_
        show XQ _ _ _ _ _ _ _ _
        refine XQ.ret (by kernel_rfl) ?_
        have h := Option.some.inj h
        subst h
        exact ⟨fun i q => (by cases q), .bool false, (by kernel_rfl), rfl⟩
      | false =>
        have h := cF b4 h
        refine XQ.cond (s := (.tmp 60)) (b := false) (by kernel_rfl) (by kernel_rfl) (fun q => by cases q) (fun _ => ?_)
        refine XQ.skip (by kernel_rfl) ?_
        show XQ _ _ _ _ _ _ _ _
        refine XQ.seq E0_ok (by kernel_rfl) ?_
        refine XQ.region (by kernel_rfl) ?_
        refine XR.runT E0_ok 1 5 [(5, ii o1.1), (8, s0 1 r1.1.length), (10, pp 2 0)] [(2, .cells [ii o1.1, ii o1.1, .slice none 0 0, .slice none 0 0] 0 29 0), (1, rc (encI .i64) r1.1 0 3 1), (0, rc (encI .i64) o1.2 0 3 1)] 3 rfl (by kernel_rfl) ?_
        refine XR.done (by kernel_rfl) ?_
        show XQ _ _ _ _ _ _ _ _
        refine XQ.ghost 3 1 rfl (σ' := [(5, ii o1.1), (8, s0 1 r1.1.length), (10, pp 2 0)]) (h' := [(2, .cells [ii o1.1, ii o1.1, s0 3 0, .slice none 0 0] 0 29 0), (1, rc (encI .i64) r1.1 0 3 1), (0, rc (encI .i64) o1.2 0 3 1)]) ⟨by kernel_rfl, by kernel_rfl, by kernel_rfl, trivial⟩ ⟨⟨_, rfl, .inr ⟨_, _, _, _, rfl, rfl⟩⟩, ⟨_, rfl, .inl rfl⟩, ⟨_, rfl, .inl rfl⟩, trivial⟩ ?_
        refine XQ.conv (σ' := [(5, ii o1.1), (8, s0 1 r1.1.length), (10, pp 2 0)]) (h' := [(3, rc (encI .i64) [] 0 3 1), (2, .cells [ii o1.1, ii o1.1, s0 3 0, .slice none 0 0] 0 29 0), (1, rc (encI .i64) r1.1 0 3 1), (0, rc (encI .i64) o1.2 0 3 1)]) (c' := 4) ?_ (by kernel_rfl)
        refine XQ.ghost 3 1 rfl (σ' := [(5, ii o1.1), (8, s0 1 r1.1.length), (10, pp 2 0)]) (h' := [(3, rc (encI .i64) [] 0 3 1), (2, .cells [ii o1.1, ii o1.1, s0 3 0, s0 4 0] 0 29 0), (1, rc (encI .i64) r1.1 0 3 1), (0, rc (encI .i64) o1.2 0 3 1)]) ⟨by kernel_rfl, by kernel_rfl, by kernel_rfl, trivial⟩ ⟨⟨_, rfl, .inl rfl⟩, ⟨_, rfl, .inr ⟨_, _, _, _, rfl, rfl⟩⟩, ⟨_, rfl, .inl rfl⟩, ⟨_, rfl, .inl rfl⟩, trivial⟩ ?_
        refine XQ.conv (σ' := [(5, ii o1.1), (8, s0 1 r1.1.length), (10, pp 2 0)]) (h' := [(4, rc (encI .i64) [] 0 3 1), (3, rc (encI .i64) [] 0 3 1), (2, .cells [ii o1.1, ii o1.1, s0 3 0, s0 4 0] 0 29 0), (1, rc (encI .i64) r1.1 0 3 1), (0, rc (encI .i64) o1.2 0 3 1)]) (c' := 5) ?_ (by kernel_rfl)
        refine XQ.seq E0_ok (by kernel_rfl) ?_
        refine XQ.seq E0_ok (by kernel_rfl) ?_
        refine XQ.region (by kernel_rfl) ?_
        refine XR.runS E0_ok 1 3 [(5, ii o1.1), (8, s0 1 r1.1.length), (10, pp 2 0), (64, s0 1 r1.1.length), (65, ii ((r1.1.length : Nat) : Int)), (66, ii 0)] rfl (by kernel_rfl) ?_
        refine XR.done (by kernel_rfl) ?_
        show XQ _ _ _ _ _ _ _ _
        refine XQ.block (id := 2) (by kernel_rfl) ?_
        refine XQ.loop m (by kernel_rfl) ?_
        obtain ⟨o2, o2_h, h⟩ := bS h
        refine XL.ren (σ' := [(5, ii o1.1), (8, s0 0 r1.1.length), (10, pp 1 0), (64, s0 0 r1.1.length), (65, ii ((r1.1.length : Nat) : Int)), (66, ii 0)]) (h' := [(3, rc (encI .i64) [] 0 3 1), (2, rc (encI .i64) [] 0 3 1), (1, .cells [ii o1.1, ii o1.1, s0 2 0, s0 3 0] 0 29 0), (0, rc (encI .i64) r1.1 0 3 1)]) (c' := 4) [1, 2, 3, 4] (by decide) rfl ⟨by kernel_rfl, by kernel_rfl, by kernel_rfl, by kernel_rfl, by kernel_rfl, by kernel_rfl, trivial⟩ ⟨⟨_, _, rfl, rfl, .inl ⟨rfl, rowC_scal (encI_ok .i64) _⟩⟩, ⟨_, _, rfl, rfl, .inl ⟨rfl, rowC_scal (encI_ok .i64) _⟩⟩, ⟨_, _, rfl, rfl, .inr ⟨_, _, _, _, rfl, rfl⟩⟩, ⟨_, _, rfl, rfl, .inl ⟨rfl, rowC_scal (encI_ok .i64) _⟩⟩, trivial⟩ rfl ?_
        refine XL.conv (f4_2_ok m m o1.1 ((r1.1.length : Nat) : Int) 0 r1.1 o1.1 o1.1 [] o2 o2_h _ ?_) (by first | with_reducible rfl | simp | rfl)
        show XQ _ _ _ _ _ _ _ _
        refine XQ.seq E0_ok (by kernel_rfl) ?_
        refine XQ.region (by kernel_rfl) ?_
        refine XR.runS E0_ok 1 1 [(5, ii o2.1), (8, s0 0 o2.2.1.length), (10, pp 1 0), (83, .agg #[ii o2.2.2.1, ii o2.2.2.2.1, s0 2 o2.2.2.2.2.length, s0 3 0])] rfl (by kernel_rfl) ?_
        obtain ⟨r3, r3_h, h⟩ := bS h
        refine XR.call E0_ok [5, 8, 10, 84] rfl (K := 13) (args := [.agg #[ii o2.2.2.1, ii o2.2.2.2.1, s0 2 o2.2.2.2.2.length, s0 3 0]]) (d := (some (path 12 84))) (by kernel_rfl) (KC.liftH (n0 := 2) (m := 1) (args0 := [.agg #[ii o2.2.2.1, ii o2.2.2.2.1, s0 0 o2.2.2.2.2.length, s0 1 0]]) (h0 := [(1, rc (encI .i64) [] (0 + ((rowC (encI .i64) []).length + 1)) 3 1), (0, rc (encI .i64) o2.2.2.2.2 (0 + ((rowC (encI .i64) o2.2.2.2.2).length + 1)) 3 1)]) (V := .tuple #[s0 2 r3.1.length, ii r3.2]) (V2 := .tuple #[s0 4 r3.1.length, ii r3.2]) (H := [(2, rc (encI .i64) r3.1 0 3 1)]) (H2 := [(4, rc (encI .i64) r3.1 0 3 1)]) [2, 3] [3, 4, 5, 6, 2] (f13_ok m (0 + ((rowC (encI .i64) o2.2.2.2.2).length + 1)) 3 (0 + ((rowC (encI .i64) []).length + 1)) 3 o2.2.2.1 o2.2.2.2.1 o2.2.2.2.2 [] r3 r3_h) (by rfl) (by decide) rfl (by kernel_rfl) ⟨⟨_, _, rfl, rfl, .inl ⟨rfl, rowC_scal (encI_ok .i64) _⟩⟩, ⟨_, _, rfl, rfl, .inl ⟨rfl, rowC_scal (encI_ok .i64) _⟩⟩, trivial⟩ (by decide) (by decide) (by kernel_rfl) ⟨⟨_, _, rfl, rfl, .inl ⟨rfl, rowC_scal (encI_ok .i64) _⟩⟩, trivial⟩ (by rfl)) ?_
        rintro _ _ _ ⟨rfl, rfl, rfl⟩
        refine XR.conv (σ' := [(5, ii o2.1), (8, s0 0 o2.2.1.length), (10, pp 1 0), (84, .tuple #[s0 4 r3.1.length, ii r3.2])]) (h' := [(4, rc (encI .i64) r3.1 0 3 1), (3, rc (encI .i64) [] 0 3 1), (2, rc (encI .i64) o2.2.2.2.2 0 3 1), (1, .cells [ii o2.2.2.1, ii o2.2.2.2.1, s0 2 o2.2.2.2.2.length, s0 3 0] 0 29 0), (0, rc (encI .i64) o2.2.1 0 3 1)]) (c' := 5) ?_ (by kernel_rfl)
        refine XR.runS E0_ok 1 5 [(5, ii o2.1), (8, s0 0 o2.2.1.length), (9, ii r3.2), (10, pp 1 0), (13, s0 4 r3.1.length)] rfl (by kernel_rfl) ?_
        refine XR.done (by kernel_rfl) ?_
        show XQ _ _ _ _ _ _ _ _
        refine XQ.seq E0_ok (by kernel_rfl) ?_
        refine XQ.region (by kernel_rfl) ?_
        refine XR.runS E0_ok 1 1 [(5, ii o2.1), (8, s0 0 o2.2.1.length), (9, ii r3.2), (10, pp 1 0), (13, s0 4 r3.1.length), (88, .agg #[ii o2.2.2.1, ii o2.2.2.2.1, s0 2 o2.2.2.2.2.length, s0 3 0])] rfl (by kernel_rfl) ?_
        obtain ⟨r4, r4_h, h⟩ := bS h
        refine XR.call E0_ok [5, 8, 9, 10, 13, 89] rfl (K := 14) (args := [.agg #[ii o2.2.2.1, ii o2.2.2.2.1, s0 2 o2.2.2.2.2.length, s0 3 0]]) (d := (some (path 12 89))) (by kernel_rfl) (KQ.call (KC.quiet E0_ok (args0 := [.agg #[ii o2.2.2.1, ii o2.2.2.2.1, s0 0 o2.2.2.2.2.length, s0 1 0]]) (h0 := [(1, rc (encI .i64) [] (0 + ((rowC (encI .i64) []).length + 1)) 3 1), (0, rc (encI .i64) o2.2.2.2.2 (0 + ((rowC (encI .i64) o2.2.2.2.2).length + 1)) 3 1)]) (n := 2) (V := .tuple #[ii r4.1, ii r4.2.1, ii r4.2.2]) [2, 3] (f14_ok m (0 + ((rowC (encI .i64) o2.2.2.2.2).length + 1)) 3 (0 + ((rowC (encI .i64) []).length + 1)) 3 o2.2.2.1 o2.2.2.2.1 o2.2.2.2.2 [] r4 r4_h) rfl (by rfl) (by decide) rfl (by kernel_rfl) ⟨⟨_, _, rfl, rfl, .inl ⟨rfl, rowC_scal (encI_ok .i64) _⟩⟩, ⟨_, _, rfl, rfl, .inl ⟨rfl, rowC_scal (encI_ok .i64) _⟩⟩, trivial⟩) rfl) ?_
        rintro _ _ _ ⟨rfl, rfl, rfl⟩
        refine XR.conv (σ' := [(5, ii o2.1), (8, s0 0 o2.2.1.length), (9, ii r3.2), (10, pp 1 0), (13, s0 4 r3.1.length), (89, .tuple #[ii r4.1, ii r4.2.1, ii r4.2.2])]) (h' := [(4, rc (encI .i64) r3.1 0 3 1), (3, rc (encI .i64) [] 0 3 1), (2, rc (encI .i64) o2.2.2.2.2 0 3 1), (1, .cells [ii o2.2.2.1, ii o2.2.2.2.1, s0 2 o2.2.2.2.2.length, s0 3 0] 0 29 0), (0, rc (encI .i64) o2.2.1 0 3 1)]) (c' := 5) ?_ (by kernel_rfl)
        refine XR.runS E0_ok 1 7 [(5, ii o2.1), (8, s0 0 o2.2.1.length), (9, ii r3.2), (10, pp 1 0), (13, s0 4 r3.1.length), (14, ii r4.1), (15, ii r4.2.1), (16, ii r4.2.2)] rfl (by kernel_rfl) ?_
        refine XR.done (by kernel_rfl) ?_
        show XQ _ _ _ _ _ _ _ _
        refine XQ.seq E0_ok (by kernel_rfl) ?_
        refine XQ.region (by kernel_rfl) ?_
        refine XR.runS E0_ok 1 1 [(5, ii o2.1), (8, s0 0 o2.2.1.length), (9, ii r3.2), (10, pp 1 0), (13, s0 4 r3.1.length), (14, ii r4.1), (15, ii r4.2.1), (16, ii r4.2.2), (94, .agg #[ii o2.2.2.1, ii o2.2.2.2.1, s0 2 o2.2.2.2.2.length, s0 3 0])] rfl (by kernel_rfl) ?_
        obtain ⟨r5, r5_h, h⟩ := bS h
        refine XR.call E0_ok [5, 8, 9, 10, 13, 14, 15, 16, 95] rfl (K := 15) (args := [.agg #[ii o2.2.2.1, ii o2.2.2.2.1, s0 2 o2.2.2.2.2.length, s0 3 0]]) (d := (some (path 12 95))) (by kernel_rfl) (KC.liftH (n0 := 2) (m := 1) (args0 := [.agg #[ii o2.2.2.1, ii o2.2.2.2.1, s0 0 o2.2.2.2.2.length, s0 1 0]]) (h0 := [(1, rc (encI .i64) [] (0 + ((rowC (encI .i64) []).length + 1)) 3 1), (0, rc (encI .i64) o2.2.2.2.2 (0 + ((rowC (encI .i64) o2.2.2.2.2).length + 1)) 3 1)]) (V := .tuple #[s0 2 r5.1.length, ii r5.2]) (V2 := .tuple #[s0 5 r5.1.length, ii r5.2]) (H := [(2, rc encR r5.1 0 43 4)]) (H2 := [(5, rc encR r5.1 0 43 4)]) [2, 3] [3, 4, 5, 6, 7, 2] (f15_ok m (0 + ((rowC (encI .i64) o2.2.2.2.2).length + 1)) 3 (0 + ((rowC (encI .i64) []).length + 1)) 3 o2.2.2.1 o2.2.2.2.1 o2.2.2.2.2 [] r5 r5_h) (by rfl) (by decide) rfl (by kernel_rfl) ⟨⟨_, _, rfl, rfl, .inl ⟨rfl, rowC_scal (encI_ok .i64) _⟩⟩, ⟨_, _, rfl, rfl, .inl ⟨rfl, rowC_scal (encI_ok .i64) _⟩⟩, trivial⟩ (by decide) (by decide) (by kernel_rfl) ⟨⟨_, _, rfl, rfl, .inl ⟨rfl, rowC_scal encR_ok _⟩⟩, trivial⟩ (by rfl)) ?_
        rintro _ _ _ ⟨rfl, rfl, rfl⟩
        refine XR.conv (σ' := [(5, ii o2.1), (8, s0 0 o2.2.1.length), (9, ii r3.2), (10, pp 1 0), (13, s0 4 r3.1.length), (14, ii r4.1), (15, ii r4.2.1), (16, ii r4.2.2), (95, .tuple #[s0 5 r5.1.length, ii r5.2])]) (h' := [(5, rc encR r5.1 0 43 4), (4, rc (encI .i64) r3.1 0 3 1), (3, rc (encI .i64) [] 0 3 1), (2, rc (encI .i64) o2.2.2.2.2 0 3 1), (1, .cells [ii o2.2.2.1, ii o2.2.2.2.1, s0 2 o2.2.2.2.2.length, s0 3 0] 0 29 0), (0, rc (encI .i64) o2.2.1 0 3 1)]) (c' := 6) ?_ (by kernel_rfl)
        refine XR.runS E0_ok 1 5 [(5, ii o2.1), (8, s0 0 o2.2.1.length), (9, ii r3.2), (10, pp 1 0), (13, s0 4 r3.1.length), (14, ii r4.1), (15, ii r4.2.1), (16, ii r4.2.2), (17, s0 5 r5.1.length), (18, ii r5.2)] rfl (by kernel_rfl) ?_
        refine XR.done (by kernel_rfl) ?_
        show XQ _ _ _ _ _ _ _ _
        refine XQ.seq E0_ok (by kernel_rfl) ?_
        refine XQ.region (by kernel_rfl) ?_
        refine XR.runS E0_ok 1 1 [(5, ii o2.1), (8, s0 0 o2.2.1.length), (9, ii r3.2), (13, s0 4 r3.1.length), (14, ii r4.1), (15, ii r4.2.1), (16, ii r4.2.2), (17, s0 5 r5.1.length), (18, ii r5.2), (99, .agg #[ii o2.2.2.1, ii o2.2.2.2.1, s0 2 o2.2.2.2.2.length, s0 3 0])] rfl (by kernel_rfl) ?_
        obtain ⟨r6, r6_h, h⟩ := bS h
        refine XR.call E0_ok [5, 8, 9, 13, 14, 15, 16, 17, 18, 100] rfl (K := 16) (args := [.agg #[ii o2.2.2.1, ii o2.2.2.2.1, s0 2 o2.2.2.2.2.length, s0 3 0]]) (d := (some (path 12 100))) (by kernel_rfl) (KC.liftH (n0 := 2) (m := 1) (args0 := [.agg #[ii o2.2.2.1, ii o2.2.2.2.1, s0 0 o2.2.2.2.2.length, s0 1 0]]) (h0 := [(1, rc (encI .i64) [] (0 + ((rowC (encI .i64) []).length + 1)) 3 1), (0, rc (encI .i64) o2.2.2.2.2 (0 + ((rowC (encI .i64) o2.2.2.2.2).length + 1)) 3 1)]) (V := .tuple #[s0 2 r6.1.length, ii r6.2]) (V2 := .tuple #[s0 6 r6.1.length, ii r6.2]) (H := [(2, rc (encI .i64) r6.1 0 3 1)]) (H2 := [(6, rc (encI .i64) r6.1 0 3 1)]) [2, 3] [3, 4, 5, 6, 7, 8, 2] (f16_ok m (0 + ((rowC (encI .i64) o2.2.2.2.2).length + 1)) 3 (0 + ((rowC (encI .i64) []).length + 1)) 3 o2.2.2.1 o2.2.2.2.1 o2.2.2.2.2 [] r6 r6_h) (by rfl) (by decide) rfl (by kernel_rfl) ⟨⟨_, _, rfl, rfl, .inl ⟨rfl, rowC_scal (encI_ok .i64) _⟩⟩, ⟨_, _, rfl, rfl, .inl ⟨rfl, rowC_scal (encI_ok .i64) _⟩⟩, trivial⟩ (by decide) (by decide) (by kernel_rfl) ⟨⟨_, _, rfl, rfl, .inl ⟨rfl, rowC_scal (encI_ok .i64) _⟩⟩, trivial⟩ (by rfl)) ?_
        rintro _ _ _ ⟨rfl, rfl, rfl⟩
        refine XR.conv (σ' := [(5, ii o2.1), (8, s0 0 o2.2.1.length), (9, ii r3.2), (13, s0 4 r3.1.length), (14, ii r4.1), (15, ii r4.2.1), (16, ii r4.2.2), (17, s0 5 r5.1.length), (18, ii r5.2), (100, .tuple #[s0 6 r6.1.length, ii r6.2])]) (h' := [(6, rc (encI .i64) r6.1 0 3 1), (5, rc encR r5.1 0 43 4), (4, rc (encI .i64) r3.1 0 3 1), (3, rc (encI .i64) [] 0 3 1), (2, rc (encI .i64) o2.2.2.2.2 0 3 1), (1, .cells [ii o2.2.2.1, ii o2.2.2.2.1, s0 2 o2.2.2.2.2.length, s0 3 0] 0 29 0), (0, rc (encI .i64) o2.2.1 0 3 1)]) (c' := 7) ?_ (by kernel_rfl)
        refine XR.runS E0_ok 1 5 [(5, ii o2.1), (8, s0 0 o2.2.1.length), (9, ii r3.2), (13, s0 4 r3.1.length), (14, ii r4.1), (15, ii r4.2.1), (16, ii r4.2.2), (17, s0 5 r5.1.length), (18, ii r5.2), (19, s0 6 r6.1.length), (20, ii r6.2)] rfl (by kernel_rfl) ?_
        refine XR.done (by kernel_rfl) ?_
        show XQ _ _ _ _ _ _ _ _
        refine XQ.seq E0_ok (by kernel_rfl) ?_
        refine XQ.seq E0_ok (by kernel_rfl) ?_
        refine XQ.region (by kernel_rfl) ?_
        refine XR.runS E0_ok 1 3 [(5, ii o2.1), (8, s0 0 o2.2.1.length), (13, s0 4 r3.1.length), (14, ii r4.1), (15, ii r4.2.1), (16, ii r4.2.2), (17, s0 5 r5.1.length), (18, ii r5.2), (19, s0 6 r6.1.length), (20, ii r6.2), (105, .bool (r3.2 != 0))] rfl (by kernel_rfl) ?_
        cases b6 : (r3.2 != 0 : Bool) with
        | true =>
          have h := cT b6 h
          refine XR.runS E0_ok 1 27 [(5, ii o2.1), (8, s0 0 o2.2.1.length), (13, s0 4 r3.1.length), (17, s0 5 r5.1.length), (132, .bool true)] rfl (by kernel_rfl) ?_
          refine XR.done (by kernel_rfl) ?_
          show XQ _ _ _ _ _ _ _ _
          refine XQ.cond (s := (.tmp 132)) (b := true) (by kernel_rfl) (by kernel_rfl) (fun _ => ?_) (fun q => by cases q)
          refine XQ.seq E0_ok (by kernel_rfl) ?_
          refine XQ.region (by kernel_rfl) ?_
          refine XR.runS E0_ok 1 1 [(4, .bool false)] rfl (by kernel_rfl) ?_
          refine XR.done (by kernel_rfl) ?_
          show XQ _ _ _ _ _ _ _ _
          refine XQ.ret (by kernel_rfl) ?_
          have h := Option.some.inj h
          subst h
          exact ⟨fun i q => (by cases q), .bool false, (by kernel_rfl), rfl⟩
        | false =>
          have h := cF b6 h
          refine XR.runS E0_ok 1 4 [(5, ii o2.1), (8, s0 0 o2.2.1.length), (13, s0 4 r3.1.length), (14, ii r4.1), (15, ii r4.2.1), (17, s0 5 r5.1.length), (18, ii r5.2), (19, s0 6 r6.1.length), (20, ii r6.2), (109, .bool (r4.2.2 != 0))] rfl (by kernel_rfl) ?_
          cases b7 : (r4.2.2 != 0 : Bool) with
          | true =>
            have h := cT b7 h
            refine XR.runS E0_ok 1 23 [(5, ii o2.1), (8, s0 0 o2.2.1.length), (13, s0 4 r3.1.length), (17, s0 5 r5.1.length), (132, .bool true)] rfl (by kernel_rfl) ?_
            refine XR.done (by kernel_rfl) ?_
            show XQ _ _ _ _ _ _ _ _
            refine XQ.cond (s := (.tmp 132)) (b := true) (by kernel_rfl) (by kernel_rfl) (fun _ => ?_) (fun q => by cases q)
            refine XQ.seq E0_ok (by kernel_rfl) ?_
            refine XQ.region (by kernel_rfl) ?_
            refine XR.runS E0_ok 1 1 [(4, .bool false)] rfl (by kernel_rfl) ?_
            refine XR.done (by kernel_rfl) ?_
            show XQ _ _ _ _ _ _ _ _
            refine XQ.ret (by kernel_rfl) ?_
            have h := Option.some.inj h
            subst h
            exact ⟨fun i q => (by cases q), .bool false, (by kernel_rfl), rfl⟩
          | false =>
            have h := cF b7 h
            refine XR.runS E0_ok 1 4 [(5, ii o2.1), (8, s0 0 o2.2.1.length), (13, s0 4 r3.1.length), (14, ii r4.1), (15, ii r4.2.1), (17, s0 5 r5.1.length), (19, s0 6 r6.1.length), (20, ii r6.2), (113, .bool (r5.2 != 0))] rfl (by kernel_rfl) ?_
            cases b8 : (r5.2 != 0 : Bool) with
            | true =>
              have h := cT b8 h
              refine XR.runS E0_ok 1 19 [(5, ii o2.1), (8, s0 0 o2.2.1.length), (13, s0 4 r3.1.length), (17, s0 5 r5.1.length), (132, .bool true)] rfl (by kernel_rfl) ?_
              refine XR.done (by kernel_rfl) ?_
              show XQ _ _ _ _ _ _ _ _
              refine XQ.cond (s := (.tmp 132)) (b := true) (by kernel_rfl) (by kernel_rfl) (fun _ => ?_) (fun q => by cases q)
              refine XQ.seq E0_ok (by kernel_rfl) ?_
              refine XQ.region (by kernel_rfl) ?_
              refine XR.runS E0_ok 1 1 [(4, .bool false)] rfl (by kernel_rfl) ?_
              refine XR.done (by kernel_rfl) ?_
              show XQ _ _ _ _ _ _ _ _
              refine XQ.ret (by kernel_rfl) ?_
              have h := Option.some.inj h
              subst h
              exact ⟨fun i q => (by cases q), .bool false, (by kernel_rfl), rfl⟩
            | false =>
              have h := cF b8 h
              refine XR.runS E0_ok 1 4 [(5, ii o2.1), (8, s0 0 o2.2.1.length), (13, s0 4 r3.1.length), (14, ii r4.1), (15, ii r4.2.1), (17, s0 5 r5.1.length), (19, s0 6 r6.1.length), (117, .bool (r6.2 != 0))] rfl (by kernel_rfl) ?_
              cases b9 : (r6.2 != 0 : Bool) with
              | true =>
                have h := cT b9 h
                refine XR.runS E0_ok 1 15 [(5, ii o2.1), (8, s0 0 o2.2.1.length), (13, s0 4 r3.1.length), (17, s0 5 r5.1.length), (132, .bool true)] rfl (by kernel_rfl) ?_
                refine XR.done (by kernel_rfl) ?_
                show XQ _ _ _ _ _ _ _ _
                refine XQ.cond (s := (.tmp 132)) (b := true) (by kernel_rfl) (by kernel_rfl) (fun _ => ?_) (fun q => by cases q)
                refine XQ.seq E0_ok (by kernel_rfl) ?_
                refine XQ.region (by kernel_rfl) ?_
                refine XR.runS E0_ok 1 1 [(4, .bool false)] rfl (by kernel_rfl) ?_
                refine XR.done (by kernel_rfl) ?_
                show XQ _ _ _ _ _ _ _ _
                refine XQ.ret (by kernel_rfl) ?_
                have h := Option.some.inj h
                subst h
                exact ⟨fun i q => (by cases q), .bool false, (by kernel_rfl), rfl⟩
              | false =>
                have h := cF b9 h
                refine XR.runS E0_ok 1 6 [(5, ii o2.1), (8, s0 0 o2.2.1.length), (13, s0 4 r3.1.length), (14, ii r4.1), (15, ii r4.2.1), (17, s0 5 r5.1.length), (19, s0 6 r6.1.length), (123, .bool (r4.1 != (w64 (4 * o2.1))))] rfl (by kernel_rfl) ?_
                cases b10 : (r4.1 != (w64 (4 * o2.1)) : Bool) with
                | true =>
                  have h := cT b10 h
                  refine XR.runS E0_ok 1 9 [(5, ii o2.1), (8, s0 0 o2.2.1.length), (13, s0 4 r3.1.length), (17, s0 5 r5.1.length), (132, .bool true)] rfl (by kernel_rfl) ?_
                  refine XR.done (by kernel_rfl) ?_
                  show XQ _ _ _ _ _ _ _ _
                  refine XQ.cond (s := (.tmp 132)) (b := true) (by kernel_rfl) (by kernel_rfl) (fun _ => ?_) (fun q => by cases q)
                  refine XQ.seq E0_ok (by kernel_rfl) ?_
                  refine XQ.region (by kernel_rfl) ?_
                  refine XR.runS E0_ok 1 1 [(4, .bool false)] rfl (by kernel_rfl) ?_
                  refine XR.done (by kernel_rfl) ?_
                  show XQ _ _ _ _ _ _ _ _
                  refine XQ.ret (by kernel_rfl) ?_
                  have h := Option.some.inj h
                  subst h
                  exact ⟨fun i q => (by cases q), .bool false, (by kernel_rfl), rfl⟩
                | false =>
                  have h := cF b10 h
                  refine XR.runS E0_ok 1 5 [(5, ii o2.1), (8, s0 0 o2.2.1.length), (13, s0 4 r3.1.length), (17, s0 5 r5.1.length), (19, s0 6 r6.1.length), (128, .bool (decide (r4.2.1 > r4.1)))] rfl (by kernel_rfl) ?_
                  cases b11 : (decide (r4.2.1 > r4.1) : Bool) with
                  | true =>
                    have h := cT b11 h
                    refine XR.runS E0_ok 1 4 [(5, ii o2.1), (8, s0 0 o2.2.1.length), (13, s0 4 r3.1.length), (17, s0 5 r5.1.length), (132, .bool true)] rfl (by kernel_rfl) ?_
                    refine XR.done (by kernel_rfl) ?_
                    show XQ _ _ _ _ _ _ _ _
                    refine XQ.cond (s := (.tmp 132)) (b := true) (by kernel_rfl) (by kernel_rfl) (fun _ => ?_) (fun q => by cases q)
                    refine XQ.seq E0_ok (by kernel_rfl) ?_
                    refine XQ.region (by kernel_rfl) ?_
                    refine XR.runS E0_ok 1 1 [(4, .bool false)] rfl (by kernel_rfl) ?_
                    refine XR.done (by kernel_rfl) ?_
                    show XQ _ _ _ _ _ _ _ _
                    refine XQ.ret (by kernel_rfl) ?_
                    have h := Option.some.inj h
                    subst h
                    exact ⟨fun i q => (by cases q), .bool false, (by kernel_rfl), rfl⟩
                  | false =>
                    have h := cF b11 h
                    refine XR.runS E0_ok 1 4 [(5, ii o2.1), (8, s0 0 o2.2.1.length), (13, s0 4 r3.1.length), (17, s0 5 r5.1.length), (132, .bool (decide (((r6.1.length : Nat) : Int) > 0)))] rfl (by kernel_rfl) ?_
                    refine XR.done (by kernel_rfl) ?_
                    show XQ _ _ _ _ _ _ _ _
                    cases b12 : (decide (((r6.1.length : Nat) : Int) > 0) : Bool) with
                    | true =>
                      have h := cT b12 h
                      refine XQ.cond (s := (.tmp 132)) (b := true) (by kernel_rfl) (by kernel_rfl) (fun _ => ?_) (fun q => by cases q)
                      refine XQ.seq E0_ok (by kernel_rfl) ?_
                      refine XQ.region (by kernel_rfl) ?_
                      refine XR.runS E0_ok 1 1 [(4, .bool false)] rfl (by kernel_rfl) ?_
                      refine XR.done (by kernel_rfl) ?_
                      show XQ _ _ _ _ _ _ _ _
                      refine XQ.ret (by kernel_rfl) ?_
                      have h := Option.some.inj h
                      subst h
                      exact ⟨fun i q => (by cases q), .bool false, (by kernel_rfl), rfl⟩
                    | false =>
                      have h := cF b12 h
                      refine XQ.cond (s := (.tmp 132)) (b := false) (by kernel_rfl) (by kernel_rfl) (fun q => by cases q) (fun _ => ?_)
                      refine XQ.skip (by kernel_rfl) ?_
                      show XQ _ _ _ _ _ _ _ _
                      refine XQ.seq E0_ok (by kernel_rfl) ?_
                      refine XQ.region (by kernel_rfl) ?_
                      refine XR.runS E0_ok 1 1 [(5, ii o2.1), (13, s0 4 r3.1.length), (17, s0 5 r5.1.length), (133, s0 0 o2.2.1.length)] rfl (by kernel_rfl) ?_
                      obtain ⟨r7, r7_h, h⟩ := bS h
                      refine XR.call E0_ok [5, 13, 17, 134] rfl (K := 17) (args := [s0 0 o2.2.1.length]) (d := (some (path 12 134))) (by kernel_rfl) (KQ.call (KC.quiet E0_ok (args0 := [s0 0 o2.2.1.length]) (h0 := [(0, rc (encI .i64) o2.2.1 (0 + ((rowC (encI .i64) o2.2.1).length + 1)) 3 1)]) (n := 1) (V := .bool r7) [0] (by have q := (f17_ok m m (0 + ((rowC (encI .i64) o2.2.1).length + 1)) 3 0 o2.2.1.length o2.2.1.length o2.2.1 r7 r7_h); simpa only [Nat.zero_mul] using q) rfl (by rfl) (by decide) rfl (by kernel_rfl) ⟨⟨_, _, rfl, rfl, .inl ⟨rfl, rowC_scal (encI_ok .i64) _⟩⟩, trivial⟩) rfl) ?_
                      rintro _ _ _ ⟨rfl, rfl, rfl⟩
                      refine XR.conv (σ' := [(5, ii o2.1), (13, s0 4 r3.1.length), (17, s0 5 r5.1.length), (134, .bool r7)]) (h' := [(6, rc (encI .i64) r6.1 0 3 1), (5, rc encR r5.1 0 43 4), (4, rc (encI .i64) r3.1 0 3 1), (3, rc (encI .i64) [] 0 3 1), (2, rc (encI .i64) o2.2.2.2.2 0 3 1), (1, .cells [ii o2.2.2.1, ii o2.2.2.2.1, s0 2 o2.2.2.2.2.length, s0 3 0] 0 29 0), (0, rc (encI .i64) o2.2.1 0 3 1)]) (c' := 7) ?_ (by kernel_rfl)
                      refine XR.runS E0_ok 1 1 [(5, ii o2.1), (13, s0 4 r3.1.length), (17, s0 5 r5.1.length), (21, .bool r7)] rfl (by kernel_rfl) ?_
                      refine XR.done (by kernel_rfl) ?_
                      show XQ _ _ _ _ _ _ _ _
                      refine XQ.seq E0_ok (by kernel_rfl) ?_
                      refine XQ.seq E0_ok (by kernel_rfl) ?_
                      refine XQ.region (by kernel_rfl) ?_
                      refine XR.runS E0_ok 1 3 [(5, ii o2.1), (13, s0 4 r3.1.length), (17, s0 5 r5.1.length), (21, .bool r7), (137, .bool (decide (o2.1 < 4)))] rfl (by kernel_rfl) ?_
                      cases b13 : (decide (o2.1 < 4) : Bool) with
                      | true =>
                        have h := cT b13 h
                        refine XR.runS E0_ok 1 4 [(5, ii o2.1), (13, s0 4 r3.1.length), (17, s0 5 r5.1.length), (21, .bool r7), (141, .bool (!r7))] rfl (by kernel_rfl) ?_
                        cases b14 : (!r7 : Bool) with
                        | true =>
                          have h := cT b14 h
                          refine XR.runS E0_ok 1 9 [(5, ii o2.1), (17, s0 5 r5.1.length), (21, .bool r7), (150, .bool true)] rfl (by kernel_rfl) ?_
                          refine XR.done (by kernel_rfl) ?_
                          show XQ _ _ _ _ _ _ _ _
                          refine XQ.cond (s := (.tmp 150)) (b := true) (by kernel_rfl) (by kernel_rfl) (fun _ => ?_) (fun q => by cases q)
                          refine XQ.seq E0_ok (by kernel_rfl) ?_
                          refine XQ.region (by kernel_rfl) ?_
                          refine XR.runS E0_ok 1 1 [(4, .bool false)] rfl (by kernel_rfl) ?_
                          refine XR.done (by kernel_rfl) ?_
                          show XQ _ _ _ _ _ _ _ _
                          refine XQ.ret (by kernel_rfl) ?_
                          have h := Option.some.inj h
                          subst h
                          exact ⟨fun i q => (by cases q), .bool false, (by kernel_rfl), rfl⟩
                        | false =>
                          have h := cF b14 h
                          refine XR.runS E0_ok 1 9 [(5, ii o2.1), (17, s0 5 r5.1.length), (21, .bool r7), (150, .bool (!(r7 == (((r3.1.length : Nat) : Int) == (w64 (o2.1 * o2.1))))))] rfl (by kernel_rfl) ?_
                          refine XR.done (by kernel_rfl) ?_
                          show XQ _ _ _ _ _ _ _ _
                          cases b15 : (!(r7 == (((r3.1.length : Nat) : Int) == (w64 (o2.1 * o2.1)))) : Bool) with
                          | true =>
                            have h := cT b15 h
                            refine XQ.cond (s := (.tmp 150)) (b := true) (by kernel_rfl) (by kernel_rfl) (fun _ => ?_) (fun q => by cases q)
                            refine XQ.seq E0_ok (by kernel_rfl) ?_
                            refine XQ.region (by kernel_rfl) ?_
                            refine XR.runS E0_ok 1 1 [(4, .bool false)] rfl (by kernel_rfl) ?_
                            refine XR.done (by kernel_rfl) ?_
                            show XQ _ _ _ _ _ _ _ _
                            refine XQ.ret (by kernel_rfl) ?_
                            have h := Option.some.inj h
                            subst h
                            exact ⟨fun i q => (by cases q), .bool false, (by kernel_rfl), rfl⟩
                          | false =>
                            have h := cF b15 h
                            refine XQ.cond (s := (.tmp 150)) (b := false) (by kernel_rfl) (by kernel_rfl) (fun q => by cases q) (fun _ => ?_)
                            refine XQ.skip (by kernel_rfl) ?_
                            show XQ _ _ _ _ _ _ _ _
                            refine XQ.seq E0_ok (by kernel_rfl) ?_
                            refine XQ.region (by kernel_rfl) ?_
                            refine XR.runS E0_ok 1 4 [(5, ii o2.1), (17, s0 5 r5.1.length), (21, .bool r7), (154, .bool (((r5.1.length : Nat) : Int) == 1))] rfl (by kernel_rfl) ?_
                            cases b16 : (((r5.1.length : Nat) : Int) == 1 : Bool) with
                            | true =>
                              have h := cT b16 h
                              refine XR.runS E0_ok 1 1 [(5, ii o2.1), (21, .bool r7), (154, .bool true), (155, s0 5 r5.1.length)] rfl (by kernel_rfl) ?_
                              cases b17 : (inRow 0 r5.1.length : Bool) with
                              | false => cases (cF b17 h)
                              | true =>
                                have h := cT b17 h
                                refine XR.rd E0_ok [5, 21, 154, 156] rfl (v := pp 5 (0 * 4)) (v_idx (s := 4) (x := (src 171 (.tmp 155))) (y := (src 171 (.const (ii 0)))) (b := 5) (o := 0) (len := r5.1.length) (cap := r5.1.length) (ik := .i64) (i := 0) (off := 0 * 4) (d := (some (path 12 156))) (by kernel_rfl) (by kernel_rfl) (by kernel_rfl) b17 (by omega)) (σ' := [(5, ii o2.1), (21, .bool r7), (154, .bool true), (156, pp 5 (0 * 4))]) (by kernel_rfl) ?_
                                refine XR.rd E0_ok [5, 21, 154, 157] rfl (v := .agg #[ii ((List.getD r5.1 0 (0, 0, 0, 0)).1), ii ((List.getD r5.1 0 (0, 0, 0, 0)).2.1), ii ((List.getD r5.1 0 (0, 0, 0, 0)).2.2.1), ii ((List.getD r5.1 0 (0, 0, 0, 0)).2.2.2)]) (v_loadN encR_ok (x := (src 171 (.tmp 156))) (b := 5) (off := 0 * 4) (xs := r5.1) (fz := 0) (e := 43) (es := 4) (d := (some (path 12 157))) (by kernel_rfl) (by kernel_rfl) (by kernel_rfl) 0 (0, 0, 0, 0) (by first | with_reducible rfl | omega | rfl) (row_len (inRow_toNat b17) (by simp)) rfl) (σ' := [(5, ii o2.1), (21, .bool r7), (154, .bool true), (157, .agg #[ii ((List.getD r5.1 0 (0, 0, 0, 0)).1), ii ((List.getD r5.1 0 (0, 0, 0, 0)).2.1), ii ((List.getD r5.1 0 (0, 0, 0, 0)).2.2.1), ii ((List.getD r5.1 0 (0, 0, 0, 0)).2.2.2)])]) (by kernel_rfl) ?_
                                refine XR.runS E0_ok 1 8 [(21, .bool r7), (22, .bool (((List.getD r5.1 0 (0, 0, 0, 0)).1) == 0 && (((List.getD r5.1 0 (0, 0, 0, 0)).2.1) == 0 && (((List.getD r5.1 0 (0, 0, 0, 0)).2.2.1) == (w64 (o2.1 - 1)) && (((List.getD r5.1 0 (0, 0, 0, 0)).2.2.2) == (w64 (o2.1 - 1)) && true)))))] rfl (by kernel_rfl) ?_
                                refine XR.done (by kernel_rfl) ?_
                                show XQ _ _ _ _ _ _ _ _
                                refine XQ.seq E0_ok (by kernel_rfl) ?_
                                refine XQ.region (by kernel_rfl) ?_
                                refine XR.runS E0_ok 1 4 [(168, .bool ((((List.getD r5.1 0 (0, 0, 0, 0)).1) == 0 && (((List.getD r5.1 0 (0, 0, 0, 0)).2.1) == 0 && (((List.getD r5.1 0 (0, 0, 0, 0)).2.2.1) == (w64 (o2.1 - 1)) && (((List.getD r5.1 0 (0, 0, 0, 0)).2.2.2) == (w64 (o2.1 - 1)) && true)))) == r7))] rfl (by kernel_rfl) ?_
                                cases b18 : ((((List.getD r5.1 0 (0, 0, 0, 0)).1) == 0 && (((List.getD r5.1 0 (0, 0, 0, 0)).2.1) == 0 && (((List.getD r5.1 0 (0, 0, 0, 0)).2.2.1) == (w64 (o2.1 - 1)) && (((List.getD r5.1 0 (0, 0, 0, 0)).2.2.2) == (w64 (o2.1 - 1)) && true)))) == r7 : Bool) with
                                | true =>
                                  have h := cT b18 h
                                  refine XR.call E0_ok [168, 169] rfl (K := 10) (args := []) (d := (some (path 12 169))) (by kernel_rfl) (KC.of_calls E0_ok (F := Proofs.Tryz.f10) (v := .bool true) (by kernel_rfl) rfl rfl (works_ok)) ?_
                                  rintro _ _ _ ⟨rfl, rfl, rfl⟩
                                  refine XR.conv (σ' := [(168, .bool true), (169, .bool true)]) (h' := [(6, rc (encI .i64) r6.1 0 3 1), (5, rc encR r5.1 0 43 4), (4, rc (encI .i64) r3.1 0 3 1), (3, rc (encI .i64) [] 0 3 1), (2, rc (encI .i64) o2.2.2.2.2 0 3 1), (1, .cells [ii o2.2.2.1, ii o2.2.2.2.1, s0 2 o2.2.2.2.2.length, s0 3 0] 0 29 0), (0, rc (encI .i64) o2.2.1 0 3 1)]) (c' := 7) ?_ (by kernel_rfl)
                                  refine XR.runS E0_ok 1 2 [(4, .bool true)] rfl (by kernel_rfl) ?_
                                  refine XR.done (by kernel_rfl) ?_
                                  show XQ _ _ _ _ _ _ _ _
                                  refine XQ.ret (by kernel_rfl) ?_
                                  have h := Option.some.inj h
                                  subst h
                                  exact ⟨fun i q => (by cases q), .bool true, (by kernel_rfl), rfl⟩
                                | false =>
                                  have h := cF b18 h
                                  refine XR.runS E0_ok 1 3 [(4, .bool false)] rfl (by kernel_rfl) ?_
                                  refine XR.done (by kernel_rfl) ?_
                                  show XQ _ _ _ _ _ _ _ _
                                  refine XQ.ret (by kernel_rfl) ?_
                                  have h := Option.some.inj h
                                  subst h
                                  exact ⟨fun i q => (by cases q), .bool false, (by kernel_rfl), rfl⟩
                            | false =>
                              have h := cF b16 h
                              refine XR.runS E0_ok 1 11 [(21, .bool r7), (22, .bool false)] rfl (by kernel_rfl) ?_
                              refine XR.done (by kernel_rfl) ?_
                              show XQ _ _ _ _ _ _ _ _
                              refine XQ.seq E0_ok (by kernel_rfl) ?_
                              refine XQ.region (by kernel_rfl) ?_
                              refine XR.runS E0_ok 1 4 [(168, .bool (false == r7))] rfl (by kernel_rfl) ?_
                              cases b19 : (false == r7 : Bool) with
                              | true =>
                                have h := cT b19 h
                                refine XR.call E0_ok [168, 169] rfl (K := 10) (args := []) (d := (some (path 12 169))) (by kernel_rfl) (KC.of_calls E0_ok (F := Proofs.Tryz.f10) (v := .bool true) (by kernel_rfl) rfl rfl (works_ok)) ?_
                                rintro _ _ _ ⟨rfl, rfl, rfl⟩
                                refine XR.conv (σ' := [(168, .bool true), (169, .bool true)]) (h' := [(6, rc (encI .i64) r6.1 0 3 1), (5, rc encR r5.1 0 43 4), (4, rc (encI .i64) r3.1 0 3 1), (3, rc (encI .i64) [] 0 3 1), (2, rc (encI .i64) o2.2.2.2.2 0 3 1), (1, .cells [ii o2.2.2.1, ii o2.2.2.2.1, s0 2 o2.2.2.2.2.length, s0 3 0] 0 29 0), (0, rc (encI .i64) o2.2.1 0 3 1)]) (c' := 7) ?_ (by kernel_rfl)
                                refine XR.runS E0_ok 1 2 [(4, .bool true)] rfl (by kernel_rfl) ?_
                                refine XR.done (by kernel_rfl) ?_
                                show XQ _ _ _ _ _ _ _ _
                                refine XQ.ret (by kernel_rfl) ?_
                                have h := Option.some.inj h
                                subst h
                                exact ⟨fun i q => (by cases q), .bool true, (by kernel_rfl), rfl⟩
                              | false =>
                                have h := cF b19 h
                                refine XR.runS E0_ok 1 3 [(4, .bool false)] rfl (by kernel_rfl) ?_
                                refine XR.done (by kernel_rfl) ?_
                                show XQ _ _ _ _ _ _ _ _
                                refine XQ.ret (by kernel_rfl) ?_
                                have h := Option.some.inj h
                                subst h
                                exact ⟨fun i q => (by cases q), .bool false, (by kernel_rfl), rfl⟩
                      | false =>
                        have h := cF b13 h
                        refine XR.runS E0_ok 1 13 [(5, ii o2.1), (17, s0 5 r5.1.length), (21, .bool r7), (150, .bool (!(r7 == (((r3.1.length : Nat) : Int) == (w64 (o2.1 * o2.1))))))] rfl (by kernel_rfl) ?_
                        refine XR.done (by kernel_rfl) ?_
                        show XQ _ _ _ _ _ _ _ _
                        cases b20 : (!(r7 == (((r3.1.length : Nat) : Int) == (w64 (o2.1 * o2.1)))) : Bool) with
                        | true =>
                          have h := cT b20 h
                          refine XQ.cond (s := (.tmp 150)) (b := true) (by kernel_rfl) (by kernel_rfl) (fun _ => ?_) (fun q => by cases q)
                          refine XQ.seq E0_ok (by kernel_rfl) ?_
                          refine XQ.region (by kernel_rfl) ?_
                          refine XR.runS E0_ok 1 1 [(4, .bool false)] rfl (by kernel_rfl) ?_
                          refine XR.done (by kernel_rfl) ?_
                          show XQ _ _ _ _ _ _ _ _
                          refine XQ.ret (by kernel_rfl) ?_
                          have h := Option.some.inj h
                          subst h
                          exact ⟨fun i q => (by cases q), .bool false, (by kernel_rfl), rfl⟩
                        | false =>
                          have h := cF b20 h
                          refine XQ.cond (s := (.tmp 150)) (b := false) (by kernel_rfl) (by kernel_rfl) (fun q => by cases q) (fun _ => ?_)
                          refine XQ.skip (by kernel_rfl) ?_
                          show XQ _ _ _ _ _ _ _ _
                          refine XQ.seq E0_ok (by kernel_rfl) ?_
                          refine XQ.region (by kernel_rfl) ?_
                          refine XR.runS E0_ok 1 4 [(5, ii o2.1), (17, s0 5 r5.1.length), (21, .bool r7), (154, .bool (((r5.1.length : Nat) : Int) == 1))] rfl (by kernel_rfl) ?_
                          cases b21 : (((r5.1.length : Nat) : Int) == 1 : Bool) with
                          | true =>
                            have h := cT b21 h
                            refine XR.runS E0_ok 1 1 [(5, ii o2.1), (21, .bool r7), (154, .bool true), (155, s0 5 r5.1.length)] rfl (by kernel_rfl) ?_
                            cases b22 : (inRow 0 r5.1.length : Bool) with
                            | false => cases (cF b22 h)
                            | true =>
                              have h := cT b22 h
                              refine XR.rd E0_ok [5, 21, 154, 156] rfl (v := pp 5 (0 * 4)) (v_idx (s := 4) (x := (src 171 (.tmp 155))) (y := (src 171 (.const (ii 0)))) (b := 5) (o := 0) (len := r5.1.length) (cap := r5.1.length) (ik := .i64) (i := 0) (off := 0 * 4) (d := (some (path 12 156))) (by kernel_rfl) (by kernel_rfl) (by kernel_rfl) b22 (by omega)) (σ' := [(5, ii o2.1), (21, .bool r7), (154, .bool true), (156, pp 5 (0 * 4))]) (by kernel_rfl) ?_
                              refine XR.rd E0_ok [5, 21, 154, 157] rfl (v := .agg #[ii ((List.getD r5.1 0 (0, 0, 0, 0)).1), ii ((List.getD r5.1 0 (0, 0, 0, 0)).2.1), ii ((List.getD r5.1 0 (0, 0, 0, 0)).2.2.1), ii ((List.getD r5.1 0 (0, 0, 0, 0)).2.2.2)]) (v_loadN encR_ok (x := (src 171 (.tmp 156))) (b := 5) (off := 0 * 4) (xs := r5.1) (fz := 0) (e := 43) (es := 4) (d := (some (path 12 157))) (by kernel_rfl) (by kernel_rfl) (by kernel_rfl) 0 (0, 0, 0, 0) (by first | with_reducible rfl | omega | rfl) (row_len (inRow_toNat b22) (by simp)) rfl) (σ' := [(5, ii o2.1), (21, .bool r7), (154, .bool true), (157, .agg #[ii ((List.getD r5.1 0 (0, 0, 0, 0)).1), ii ((List.getD r5.1 0 (0, 0, 0, 0)).2.1), ii ((List.getD r5.1 0 (0, 0, 0, 0)).2.2.1), ii ((List.getD r5.1 0 (0, 0, 0, 0)).2.2.2)])]) (by kernel_rfl) ?_
                              refine XR.runS E0_ok 1 8 [(21, .bool r7), (22, .bool (((List.getD r5.1 0 (0, 0, 0, 0)).1) == 0 && (((List.getD r5.1 0 (0, 0, 0, 0)).2.1) == 0 && (((List.getD r5.1 0 (0, 0, 0, 0)).2.2.1) == (w64 (o2.1 - 1)) && (((List.getD r5.1 0 (0, 0, 0, 0)).2.2.2) == (w64 (o2.1 - 1)) && true)))))] rfl (by kernel_rfl) ?_
                              refine XR.done (by kernel_rfl) ?_
                              show XQ _ _ _ _ _ _ _ _
                              refine XQ.seq E0_ok (by kernel_rfl) ?_
                              refine XQ.region (by kernel_rfl) ?_
                              refine XR.runS E0_ok 1 4 [(168, .bool ((((List.getD r5.1 0 (0, 0, 0, 0)).1) == 0 && (((List.getD r5.1 0 (0, 0, 0, 0)).2.1) == 0 && (((List.getD r5.1 0 (0, 0, 0, 0)).2.2.1) == (w64 (o2.1 - 1)) && (((List.getD r5.1 0 (0, 0, 0, 0)).2.2.2) == (w64 (o2.1 - 1)) && true)))) == r7))] rfl (by kernel_rfl) ?_
                              cases b23 : ((((List.getD r5.1 0 (0, 0, 0, 0)).1) == 0 && (((List.getD r5.1 0 (0, 0, 0, 0)).2.1) == 0 && (((List.getD r5.1 0 (0, 0, 0, 0)).2.2.1) == (w64 (o2.1 - 1)) && (((List.getD r5.1 0 (0, 0, 0, 0)).2.2.2) == (w64 (o2.1 - 1)) && true)))) == r7 : Bool) with
                              | true =>
                                have h := cT b23 h
                                refine XR.call E0_ok [168, 169] rfl (K := 10) (args := []) (d := (some (path 12 169))) (by kernel_rfl) (KC.of_calls E0_ok (F := Proofs.Tryz.f10) (v := .bool true) (by kernel_rfl) rfl rfl (works_ok)) ?_
                                rintro _ _ _ ⟨rfl, rfl, rfl⟩
                                refine XR.conv (σ' := [(168, .bool true), (169, .bool true)]) (h' := [(6, rc (encI .i64) r6.1 0 3 1), (5, rc encR r5.1 0 43 4), (4, rc (encI .i64) r3.1 0 3 1), (3, rc (encI .i64) [] 0 3 1), (2, rc (encI .i64) o2.2.2.2.2 0 3 1), (1, .cells [ii o2.2.2.1, ii o2.2.2.2.1, s0 2 o2.2.2.2.2.length, s0 3 0] 0 29 0), (0, rc (encI .i64) o2.2.1 0 3 1)]) (c' := 7) ?_ (by kernel_rfl)
                                refine XR.runS E0_ok 1 2 [(4, .bool true)] rfl (by kernel_rfl) ?_
                                refine XR.done (by kernel_rfl) ?_
                                show XQ _ _ _ _ _ _ _ _
                                refine XQ.ret (by kernel_rfl) ?_
                                have h := Option.some.inj h
                                subst h
                                exact ⟨fun i q => (by cases q), .bool true, (by kernel_rfl), rfl⟩
                              | false =>
                                have h := cF b23 h
                                refine XR.runS E0_ok 1 3 [(4, .bool false)] rfl (by kernel_rfl) ?_
                                refine XR.done (by kernel_rfl) ?_
                                show XQ _ _ _ _ _ _ _ _
                                refine XQ.ret (by kernel_rfl) ?_
                                have h := Option.some.inj h
                                subst h
                                exact ⟨fun i q => (by cases q), .bool false, (by kernel_rfl), rfl⟩
                          | false =>
                            have h := cF b21 h
                            refine XR.runS E0_ok 1 11 [(21, .bool r7), (22, .bool false)] rfl (by kernel_rfl) ?_
                            refine XR.done (by kernel_rfl) ?_
                            show XQ _ _ _ _ _ _ _ _
                            refine XQ.seq E0_ok (by kernel_rfl) ?_
                            refine XQ.region (by kernel_rfl) ?_
                            refine XR.runS E0_ok 1 4 [(168, .bool (false == r7))] rfl (by kernel_rfl) ?_
                            cases b24 : (false == r7 : Bool) with
                            | true =>
                              have h := cT b24 h
                              refine XR.call E0_ok [168, 169] rfl (K := 10) (args := []) (d := (some (path 12 169))) (by kernel_rfl) (KC.of_calls E0_ok (F := Proofs.Tryz.f10) (v := .bool true) (by kernel_rfl) rfl rfl (works_ok)) ?_
                              rintro _ _ _ ⟨rfl, rfl, rfl⟩
                              refine XR.conv (σ' := [(168, .bool true), (169, .bool true)]) (h' := [(6, rc (encI .i64) r6.1 0 3 1), (5, rc encR r5.1 0 43 4), (4, rc (encI .i64) r3.1 0 3 1), (3, rc (encI .i64) [] 0 3 1), (2, rc (encI .i64) o2.2.2.2.2 0 3 1), (1, .cells [ii o2.2.2.1, ii o2.2.2.2.1, s0 2 o2.2.2.2.2.length, s0 3 0] 0 29 0), (0, rc (encI .i64) o2.2.1 0 3 1)]) (c' := 7) ?_ (by kernel_rfl)
                              refine XR.runS E0_ok 1 2 [(4, .bool true)] rfl (by kernel_rfl) ?_
                              refine XR.done (by kernel_rfl) ?_
                              show XQ _ _ _ _ _ _ _ _
                              refine XQ.ret (by kernel_rfl) ?_
                              have h := Option.some.inj h
                              subst h
                              exact ⟨fun i q => (by cases q), .bool true, (by kernel_rfl), rfl⟩
                            | false =>
                              have h := cF b24 h
                              refine XR.runS E0_ok 1 3 [(4, .bool false)] rfl (by kernel_rfl) ?_
                              refine XR.done (by kernel_rfl) ?_
                              show XQ _ _ _ _ _ _ _ _
                              refine XQ.ret (by kernel_rfl) ?_
                              have h := Option.some.inj h
                              subst h
                              exact ⟨fun i q => (by cases q), .bool false, (by kernel_rfl), rfl⟩

end Go.Xm
