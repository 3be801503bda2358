/- What these functions of the program compute, as functions in Lean, and the proofs that they do: vitolalaw02.HeapDual. Conditions: none. -/
import Derived.Test.YtfdeihnkoaihfaaBt
import Derived.Test.YtfdeihnkoaihfaaBu
import Derived.Test.YtfdeihnkoaihfaaBv
import Derived.Test.YtfdeihnkoaihfaaBb
namespace Go.Xm
open Go.RowKit
set_option linter.unusedVariables false
set_option linter.unusedSimpArgs false
set_option maxRecDepth 20000

/-! vitola/vitolalaw02.HeapDual -/
noncomputable def f14_C14 : Code := Proofs.Try.f14.body.getD .skip
noncomputable def f14_C55 : Code := Proofs.Try.f55.body.getD .skip
noncomputable def f14_C87 : Code := Proofs.Try.f87.body.getD .skip
noncomputable def f14_C56 : Code := Proofs.Try.f56.body.getD .skip
noncomputable def f14_C54 : Code := Proofs.Try.f54.body.getD .skip
noncomputable def f14_C86 : Code := Proofs.Try.f86.body.getD .skip
noncomputable def f14_C96 : Code := Proofs.Try.f96.body.getD .skip
noncomputable def f14_L1 : Code := lft (lft (rgt (lft (rgt (rgt (rgt (rgt f14_C14)))))))
noncomputable def f14_L2 : Code := lft (lft (rgt (lft (rgt (rgt (lft (lft (rgt (rgt f14_L1)))))))))
noncomputable def f14_L3 : Code := lft (lft (rgt (lft (rgt (rgt (rgt (rgt (lft (lft (rgt (rgt f14_L1)))))))))))
noncomputable def f14_L4 : Code := lft (lft (rgt (lft (rgt f14_C87))))
noncomputable def f14_L6 : Code := lft (lft (rgt (lft (rgt f14_C54))))
noncomputable def f14_L7 : Code := lft (lft (rgt (lft (rgt (rgt (rgt (rgt (rgt f14_C14))))))))
noncomputable def f14_L8 : Code := lft (lft (rgt (lft (rgt (rgt (rgt (lft (lft (rgt (rgt f14_L7))))))))))
noncomputable def f14_L9 : Code := lft (lft (rgt (lft (rgt (rgt (lft (lft (rgt (rgt f14_L8)))))))))
noncomputable def f14_L10 : Code := lft (lft (rgt (lft (rgt f14_C54))))

def f14_2 (m : Nat) : Nat → Int → Int → Int → List (Int × Int) → List Int → Int → List Int → Option (List Int)
  | 0, _, _, _, _, _, _, _ => none
  | fuel + 1, b, x8_1, x31_1, lh0_1, lh1_1, x34_2, lh3_2 =>
    cond (decide (x34_2 < 9)) (
      cond (decide (0 ≤ x34_2)) (
        cond ((andV .i64 (shV false .i64 x31_1 x34_2) 1) == 1) (
          cond (fitsB (lh3_2.length + 1) 8) (
            f14_2 m fuel b x8_1 x31_1 lh0_1 lh1_1 (w64 (x34_2 + 1)) (lh3_2 ++ [x34_2])
          ) none
        ) (
          f14_2 m fuel b x8_1 x31_1 lh0_1 lh1_1 (w64 (x34_2 + 1)) lh3_2
        )
      ) none
    ) (
      some (lh3_2)
    )

theorem f14_2_ok (m : Nat) : ∀ (fuel : Nat) (b : Int) (x8_1 : Int) (x31_1 : Int) (lh0_1 : List (Int × Int)) (lh1_1 : List Int) (x34_2 : Int) (lh3_2 : List Int) (o : (List Int)), f14_2 m fuel b x8_1 x31_1 lh0_1 lh1_1 x34_2 lh3_2 = some o → ∀ Q : QP, Q (.exit 2) [(1, .int .u8 b), (5, s0 0 lh0_1.length), (6, s0 1 lh1_1.length), (7, s0 2 0), (8, ii x8_1), (9, ii (-1)), (10, ii x31_1), (11, s0 3 o.length), (31, ii x31_1)] [(3, rc (encI .i64) o 0 3 1), (2, rc (encI .i64) [] 0 3 1), (1, rc (encI .i64) lh1_1 0 3 1), (0, rc encP lh0_1 0 61 2)] 4 → XL E0 212 0 fuel f14_L2 [(1, .int .u8 b), (5, s0 0 lh0_1.length), (6, s0 1 lh1_1.length), (7, s0 2 0), (8, ii x8_1), (9, ii (-1)), (10, ii x31_1), (11, s0 3 lh3_2.length), (31, ii x31_1), (34, ii x34_2)] [(3, rc (encI .i64) lh3_2 0 3 1), (2, rc (encI .i64) [] 0 3 1), (1, rc (encI .i64) lh1_1 0 3 1), (0, rc encP lh0_1 0 61 2)] 4 Q
  | 0, b, x8_1, x31_1, lh0_1, lh1_1, x34_2, lh3_2, o, h, Q, hQ => by cases h
  | fuel + 1, b, x8_1, x31_1, lh0_1, lh1_1, x34_2, lh3_2, o, h, Q, hQ => by
    unfold f14_2 at h
    refine XL.succ E0_ok ?_
    refine XQ.seq E0_ok (by kernel_rfl) ?_
    refine XQ.region (by kernel_rfl) ?_
    refine XR.runS E0_ok 1 1 [(1, .int .u8 b), (5, s0 0 lh0_1.length), (6, s0 1 lh1_1.length), (7, s0 2 0), (8, ii x8_1), (9, ii (-1)), (10, ii x31_1), (11, s0 3 lh3_2.length), (31, ii x31_1), (34, ii x34_2), (35, .bool (decide (x34_2 < 9)))] rfl (by kernel_rfl) ?_
    refine XR.done (by kernel_rfl) ?_
    show XQ _ _ _ _ _ _ _ _
    refine XQ.seq E0_ok (by kernel_rfl) ?_
    cases b1 : (decide (x34_2 < 9) : Bool) with
    | true =>
      have h := cT b1 h
      refine XQ.cond (s := (.tmp 35)) (b := true) (by kernel_rfl) (by kernel_rfl) (fun _ => ?_) (fun q => by cases q)
      refine XQ.skip (by kernel_rfl) ?_
      show XQ _ _ _ _ _ _ _ _
      refine XQ.seq E0_ok (by kernel_rfl) ?_
      refine XQ.block (id := 3) (by kernel_rfl) ?_
      refine XQ.seq E0_ok (by kernel_rfl) ?_
      refine XQ.region (by kernel_rfl) ?_
      refine XR.runS E0_ok 1 2 [(1, .int .u8 b), (5, s0 0 lh0_1.length), (6, s0 1 lh1_1.length), (7, s0 2 0), (8, ii x8_1), (9, ii (-1)), (10, ii x31_1), (11, s0 3 lh3_2.length), (12, ii x34_2), (31, ii x31_1), (34, ii x34_2)] rfl (by kernel_rfl) ?_
      refine XR.done (by kernel_rfl) ?_
      show XQ _ _ _ _ _ _ _ _
      refine XQ.seq E0_ok (by kernel_rfl) ?_
      refine XQ.region (by kernel_rfl) ?_
      refine XR.runS E0_ok 1 2 [(1, .int .u8 b), (5, s0 0 lh0_1.length), (6, s0 1 lh1_1.length), (7, s0 2 0), (8, ii x8_1), (9, ii (-1)), (10, ii x31_1), (11, s0 3 lh3_2.length), (12, ii x34_2), (31, ii x31_1), (34, ii x34_2), (37, ii x31_1), (38, ii x34_2)] rfl (by kernel_rfl) ?_
      cases b2 : (decide (0 ≤ x34_2) : Bool) with
      | false => cases (cF b2 h)
      | true =>
        have h := cT b2 h
        have e3 : insV (headI ((gsOf E0 212 (opsOf (lft (rgt (lft (lft (rgt (rgt f14_L2)))))))).drop 2) (trS 212 [(1, .int .u8 b), (5, s0 0 lh0_1.length), (6, s0 1 lh1_1.length), (7, s0 2 0), (8, ii x8_1), (9, ii (-1)), (10, ii x31_1), (11, s0 3 lh3_2.length), (12, ii x34_2), (31, ii x31_1), (34, ii x34_2), (37, ii x31_1), (38, ii x34_2)])) (trS 212 [(1, .int .u8 b), (5, s0 0 lh0_1.length), (6, s0 1 lh1_1.length), (7, s0 2 0), (8, ii x8_1), (9, ii (-1)), (10, ii x31_1), (11, s0 3 lh3_2.length), (12, ii x34_2), (31, ii x31_1), (34, ii x34_2), (37, ii x31_1), (38, ii x34_2)]) [(3, rc (encI .i64) lh3_2 0 3 1), (2, rc (encI .i64) [] 0 3 1), (1, rc (encI .i64) lh1_1 0 3 1), (0, rc encP lh0_1 0 61 2)] = (match (decide (0 ≤ x34_2) : Bool) with | true => some (ii (shV false .i64 x31_1 x34_2)) | false => none) := by kernel_rfl
        refine XR.rd E0_ok [1, 5, 6, 7, 8, 9, 10, 11, 12, 31, 34, 39] rfl (e3.trans (by rw [b2])) (σ' := [(1, .int .u8 b), (5, s0 0 lh0_1.length), (6, s0 1 lh1_1.length), (7, s0 2 0), (8, ii x8_1), (9, ii (-1)), (10, ii x31_1), (11, s0 3 lh3_2.length), (12, ii x34_2), (31, ii x31_1), (34, ii x34_2), (39, ii (shV false .i64 x31_1 x34_2))]) (by kernel_rfl) ?_
        refine XR.runS E0_ok 1 2 [(1, .int .u8 b), (5, s0 0 lh0_1.length), (6, s0 1 lh1_1.length), (7, s0 2 0), (8, ii x8_1), (9, ii (-1)), (10, ii x31_1), (11, s0 3 lh3_2.length), (12, ii x34_2), (31, ii x31_1), (34, ii x34_2), (41, .bool ((andV .i64 (shV false .i64 x31_1 x34_2) 1) == 1))] rfl (by kernel_rfl) ?_
        refine XR.done (by kernel_rfl) ?_
        show XQ _ _ _ _ _ _ _ _
        cases b4 : ((andV .i64 (shV false .i64 x31_1 x34_2) 1) == 1 : Bool) with
        | true =>
          have h := cT b4 h
          refine XQ.cond (s := (.tmp 41)) (b := true) (by kernel_rfl) (by kernel_rfl) (fun _ => ?_) (fun q => by cases q)
          refine XQ.region (by kernel_rfl) ?_
          refine XR.runT E0_ok 1 3 [(1, .int .u8 b), (5, s0 0 lh0_1.length), (6, s0 1 lh1_1.length), (7, s0 2 0), (8, ii x8_1), (9, ii (-1)), (10, ii x31_1), (31, ii x31_1), (34, ii x34_2), (42, s0 3 lh3_2.length), (44, s0 4 1)] [(4, .cells [ii x34_2] 0 3 1), (3, rc (encI .i64) lh3_2 0 3 1), (2, rc (encI .i64) [] 0 3 1), (1, rc (encI .i64) lh1_1 0 3 1), (0, rc encP lh0_1 0 61 2)] 5 rfl (by kernel_rfl) ?_
          cases b5 : (fitsB (lh3_2.length + 1) 8 : Bool) with
          | false => cases (cF b5 h)
          | true =>
            have h := cT b5 h
            refine XR.ef E0_ok [1, 5, 6, 7, 8, 9, 10, 31, 34, 45] rfl (e_append (encI_ok .i64) (bytes := 8) (e := 3) (x := (src 212 (.tmp 42))) (y := (src 212 (.tmp 44))) (b := 3) (len := lh3_2.length) (cap := lh3_2.length) (xs := lh3_2) (m := 0) (ys := [x34_2]) (d := (some (path 12 45))) (n' := (lh3_2 ++ [x34_2]).length) (h' := [(5, rc (encI .i64) (lh3_2 ++ [x34_2]) 0 3 1), (4, .cells [ii x34_2] 0 3 1), (2, rc (encI .i64) [] 0 3 1), (1, rc (encI .i64) lh1_1 0 3 1), (0, rc encP lh0_1 0 61 2)]) (by kernel_rfl) (by kernel_rfl) (by kernel_rfl) (by kernel_rfl) rfl (by simp) (by simp) b5 (by simp) (by kernel_rfl)) (σ' := [(1, .int .u8 b), (5, s0 0 lh0_1.length), (6, s0 1 lh1_1.length), (7, s0 2 0), (8, ii x8_1), (9, ii (-1)), (10, ii x31_1), (31, ii x31_1), (34, ii x34_2), (45, s0 5 ((lh3_2 ++ [x34_2]).length))]) (by kernel_rfl) ?_
            refine XR.runS E0_ok 1 1 [(1, .int .u8 b), (5, s0 0 lh0_1.length), (6, s0 1 lh1_1.length), (7, s0 2 0), (8, ii x8_1), (9, ii (-1)), (10, ii x31_1), (11, s0 5 ((lh3_2 ++ [x34_2]).length)), (31, ii x31_1), (34, ii x34_2)] rfl (by kernel_rfl) ?_
            refine XR.done (by kernel_rfl) ?_
            show XQ _ _ _ _ _ _ _ _
            refine XQ.region (by kernel_rfl) ?_
            refine XR.runS E0_ok 1 2 [(1, .int .u8 b), (5, s0 0 lh0_1.length), (6, s0 1 lh1_1.length), (7, s0 2 0), (8, ii x8_1), (9, ii (-1)), (10, ii x31_1), (11, s0 5 ((lh3_2 ++ [x34_2]).length)), (31, ii x31_1), (34, ii (w64 (x34_2 + 1)))] rfl (by kernel_rfl) ?_
            refine XR.done (by kernel_rfl) ?_
            show XL _ _ _ _ _ _ _ _ _
            refine XL.ren (σ' := [(1, .int .u8 b), (5, s0 0 lh0_1.length), (6, s0 1 lh1_1.length), (7, s0 2 0), (8, ii x8_1), (9, ii (-1)), (10, ii x31_1), (11, s0 3 ((lh3_2 ++ [x34_2]).length)), (31, ii x31_1), (34, ii (w64 (x34_2 + 1)))]) (h' := [(3, rc (encI .i64) (lh3_2 ++ [x34_2]) 0 3 1), (2, rc (encI .i64) [] 0 3 1), (1, rc (encI .i64) lh1_1 0 3 1), (0, rc encP lh0_1 0 61 2)]) (c' := 4) [0, 1, 2, 5] (by decide) rfl ⟨by kernel_rfl, by kernel_rfl, by kernel_rfl, by kernel_rfl, by kernel_rfl, by kernel_rfl, by kernel_rfl, by kernel_rfl, by kernel_rfl, by kernel_rfl, trivial⟩ ⟨⟨_, _, rfl, rfl, .inl ⟨rfl, rowC_scal (encI_ok .i64) _⟩⟩, ⟨_, _, rfl, rfl, .inl ⟨rfl, rowC_scal (encI_ok .i64) _⟩⟩, ⟨_, _, rfl, rfl, .inl ⟨rfl, rowC_scal (encI_ok .i64) _⟩⟩, ⟨_, _, rfl, rfl, .inl ⟨rfl, rowC_scal encP_ok _⟩⟩, trivial⟩ rfl ?_
            refine XL.conv (f14_2_ok m fuel b x8_1 x31_1 lh0_1 lh1_1 (w64 (x34_2 + 1)) (lh3_2 ++ [x34_2]) o h Q hQ) (by first | rfl | simp)
        | false =>
          have h := cF b4 h
          refine XQ.cond (s := (.tmp 41)) (b := false) (by kernel_rfl) (by kernel_rfl) (fun q => by cases q) (fun _ => ?_)
          refine XQ.skip (by kernel_rfl) ?_
          show XQ _ _ _ _ _ _ _ _
          refine XQ.region (by kernel_rfl) ?_
          refine XR.runS E0_ok 1 2 [(1, .int .u8 b), (5, s0 0 lh0_1.length), (6, s0 1 lh1_1.length), (7, s0 2 0), (8, ii x8_1), (9, ii (-1)), (10, ii x31_1), (11, s0 3 lh3_2.length), (31, ii x31_1), (34, ii (w64 (x34_2 + 1)))] rfl (by kernel_rfl) ?_
          refine XR.done (by kernel_rfl) ?_
          show XL _ _ _ _ _ _ _ _ _
          refine XL.ren (σ' := [(1, .int .u8 b), (5, s0 0 lh0_1.length), (6, s0 1 lh1_1.length), (7, s0 2 0), (8, ii x8_1), (9, ii (-1)), (10, ii x31_1), (11, s0 3 lh3_2.length), (31, ii x31_1), (34, ii (w64 (x34_2 + 1)))]) (h' := [(3, rc (encI .i64) lh3_2 0 3 1), (2, rc (encI .i64) [] 0 3 1), (1, rc (encI .i64) lh1_1 0 3 1), (0, rc encP lh0_1 0 61 2)]) (c' := 4) [0, 1, 2, 3] (by decide) rfl ⟨by kernel_rfl, by kernel_rfl, by kernel_rfl, by kernel_rfl, by kernel_rfl, by kernel_rfl, by kernel_rfl, by kernel_rfl, by kernel_rfl, by kernel_rfl, trivial⟩ ⟨⟨_, _, rfl, rfl, .inl ⟨rfl, rowC_scal (encI_ok .i64) _⟩⟩, ⟨_, _, rfl, rfl, .inl ⟨rfl, rowC_scal (encI_ok .i64) _⟩⟩, ⟨_, _, rfl, rfl, .inl ⟨rfl, rowC_scal (encI_ok .i64) _⟩⟩, ⟨_, _, rfl, rfl, .inl ⟨rfl, rowC_scal encP_ok _⟩⟩, trivial⟩ rfl ?_
          refine XL.conv (f14_2_ok m fuel b x8_1 x31_1 lh0_1 lh1_1 (w64 (x34_2 + 1)) lh3_2 o h Q hQ) (by first | rfl | simp)
    | false =>
      have h := cF b1 h
      refine XQ.cond (s := (.tmp 35)) (b := false) (by kernel_rfl) (by kernel_rfl) (fun q => by cases q) (fun _ => ?_)
      refine XQ.ren (σ' := [(1, .int .u8 b), (5, s0 0 lh0_1.length), (6, s0 1 lh1_1.length), (7, s0 2 0), (8, ii x8_1), (9, ii (-1)), (10, ii x31_1), (11, s0 3 lh3_2.length), (31, ii x31_1)]) (h' := [(3, rc (encI .i64) lh3_2 0 3 1), (2, rc (encI .i64) [] 0 3 1), (1, rc (encI .i64) lh1_1 0 3 1), (0, rc encP lh0_1 0 61 2)]) (c' := 4) [0, 1, 2, 3] (by decide) rfl ⟨by kernel_rfl, by kernel_rfl, by kernel_rfl, by kernel_rfl, by kernel_rfl, by kernel_rfl, by kernel_rfl, by kernel_rfl, by kernel_rfl, trivial⟩ ⟨⟨_, _, rfl, rfl, .inl ⟨rfl, rowC_scal (encI_ok .i64) _⟩⟩, ⟨_, _, rfl, rfl, .inl ⟨rfl, rowC_scal (encI_ok .i64) _⟩⟩, ⟨_, _, rfl, rfl, .inl ⟨rfl, rowC_scal (encI_ok .i64) _⟩⟩, ⟨_, _, rfl, rfl, .inl ⟨rfl, rowC_scal encP_ok _⟩⟩, trivial⟩ rfl ?_
      refine XQ.exit (i := 2) (by kernel_rfl) ?_
      cases h
      exact hQ

inductive Of14_4 where
  | r (x4_r4 : Int) (xh4_0_r4 : Int) (xh4_1_r4 : Int)
  | x0 (xh4_0_x04 : Int) (xh4_1_x04 : Int)

def f14_4 (m : Nat) : Nat → List (Int × Int) → List Int → (List Int) → Int → Int → Int → Int → Option Of14_4
  | 0, _, _, _, _, _, _, _ => none
  | fuel + 1, lh0_1, lh1_1, o2, x7_4, x8_4, xh4_0_4, xh4_1_4 =>
    cond (decide (x8_4 < x7_4)) (
      cond (inRow x8_4 o2.length) (
        cond (decide ((List.getD o2 (Int.toNat x8_4) 0) ≥ xh4_0_4)) (
          cond (decide ((List.getD o2 (Int.toNat x8_4) 0) ≤ xh4_1_4)) (
            some (.r x8_4 xh4_0_4 xh4_1_4)
          ) (
            f14_4 m fuel lh0_1 lh1_1 o2 x7_4 (w64 (x8_4 + 1)) xh4_0_4 xh4_1_4
          )
        ) (
          f14_4 m fuel lh0_1 lh1_1 o2 x7_4 (w64 (x8_4 + 1)) xh4_0_4 xh4_1_4
        )
      ) none
    ) (
      some (.x0 xh4_0_4 xh4_1_4)
    )

theorem f14_4_ok (m : Nat) : ∀ (fuel : Nat) (lh0_1 : List (Int × Int)) (lh1_1 : List Int) (o2 : (List Int)) (x7_4 : Int) (x8_4 : Int) (xh4_0_4 : Int) (xh4_1_4 : Int) (o : Of14_4), f14_4 m fuel lh0_1 lh1_1 o2 x7_4 x8_4 xh4_0_4 xh4_1_4 = some o → ∀ Q : QP, (match o with | .r x4_r4 xh4_0_r4 xh4_1_r4 => Q .ret [(4, ii x4_r4)] [(4, .cells [ii xh4_0_r4, ii xh4_1_r4] 0 61 0), (3, rc (encI .i64) o2 0 3 1), (2, rc (encI .i64) [] 0 3 1), (1, rc (encI .i64) lh1_1 0 3 1), (0, rc encP lh0_1 0 61 2)] 5 | .x0 xh4_0_x04 xh4_1_x04 => Q (.exit 0) [] [(4, .cells [ii xh4_0_x04, ii xh4_1_x04] 0 61 0), (3, rc (encI .i64) o2 0 3 1), (2, rc (encI .i64) [] 0 3 1), (1, rc (encI .i64) lh1_1 0 3 1), (0, rc encP lh0_1 0 61 2)] 5) → XL E0 19 5 fuel f14_L4 [(0, s0 3 o2.length), (1, .func (.func 56) #[] #[pp 4 0]), (7, ii x7_4), (8, ii x8_4)] [(4, .cells [ii xh4_0_4, ii xh4_1_4] 0 61 0), (3, rc (encI .i64) o2 0 3 1), (2, rc (encI .i64) [] 0 3 1), (1, rc (encI .i64) lh1_1 0 3 1), (0, rc encP lh0_1 0 61 2)] 5 Q
  | 0, lh0_1, lh1_1, o2, x7_4, x8_4, xh4_0_4, xh4_1_4, o, h, Q, hQ => by cases h
  | fuel + 1, lh0_1, lh1_1, o2, x7_4, x8_4, xh4_0_4, xh4_1_4, o, h, Q, hQ => by
    unfold f14_4 at h
    refine XL.succ E0_ok ?_
    refine XQ.seq E0_ok (by kernel_rfl) ?_
    refine XQ.region (by kernel_rfl) ?_
    refine XR.runS E0_ok 1 1 [(0, s0 3 o2.length), (1, .func (.func 56) #[] #[pp 4 0]), (7, ii x7_4), (8, ii x8_4), (9, .bool (decide (x8_4 < x7_4)))] rfl (by kernel_rfl) ?_
    refine XR.done (by kernel_rfl) ?_
    show XQ _ _ _ _ _ _ _ _
    refine XQ.seq E0_ok (by kernel_rfl) ?_
    cases b1 : (decide (x8_4 < x7_4) : Bool) with
    | true =>
      have h := cT b1 h
      refine XQ.cond (s := (.tmp 9)) (b := true) (by kernel_rfl) (by kernel_rfl) (fun _ => ?_) (fun q => by cases q)
      refine XQ.skip (by kernel_rfl) ?_
      show XQ _ _ _ _ _ _ _ _
      refine XQ.seq E0_ok (by kernel_rfl) ?_
      refine XQ.block (id := 1) (by kernel_rfl) ?_
      refine XQ.seq E0_ok (by kernel_rfl) ?_
      refine XQ.region (by kernel_rfl) ?_
      refine XR.runS E0_ok 1 2 [(0, s0 3 o2.length), (1, .func (.func 56) #[] #[pp 4 0]), (5, ii x8_4), (7, ii x7_4), (8, ii x8_4)] rfl (by kernel_rfl) ?_
      refine XR.done (by kernel_rfl) ?_
      show XQ _ _ _ _ _ _ _ _
      refine XQ.seq E0_ok (by kernel_rfl) ?_
      refine XQ.region (by kernel_rfl) ?_
      refine XR.runS E0_ok 1 3 [(0, s0 3 o2.length), (1, .func (.func 56) #[] #[pp 4 0]), (5, ii x8_4), (7, ii x7_4), (8, ii x8_4), (11, .func (.func 56) #[] #[pp 4 0]), (12, s0 3 o2.length), (13, ii x8_4)] rfl (by kernel_rfl) ?_
      cases b2 : (inRow x8_4 o2.length : Bool) with
      | false => cases (cF b2 h)
      | true =>
        have h := cT b2 h
        refine XR.rd E0_ok [0, 1, 5, 7, 8, 11, 14] rfl (v := pp 3 ((Int.toNat x8_4) * 1)) (v_idx (s := 1) (x := (src 19 (.tmp 12))) (y := (src 19 (.tmp 13))) (b := 3) (o := 0) (len := o2.length) (cap := o2.length) (ik := .i64) (i := x8_4) (off := (Int.toNat x8_4) * 1) (d := (some (path 12 14))) (by kernel_rfl) (by kernel_rfl) (by kernel_rfl) b2 (by omega)) (σ' := [(0, s0 3 o2.length), (1, .func (.func 56) #[] #[pp 4 0]), (5, ii x8_4), (7, ii x7_4), (8, ii x8_4), (11, .func (.func 56) #[] #[pp 4 0]), (14, pp 3 ((Int.toNat x8_4) * 1))]) (by kernel_rfl) ?_
        refine XR.rd E0_ok [0, 1, 5, 7, 8, 11, 15] rfl (v := ii (List.getD o2 (Int.toNat x8_4) 0)) (v_load1 (encI_ok .i64) (x := (src 19 (.tmp 14))) (b := 3) (off := (Int.toNat x8_4) * 1) (xs := o2) (fz := 0) (e := 3) (es := 1) (d := (some (path 12 15))) (by kernel_rfl) (by kernel_rfl) (by kernel_rfl) (Int.toNat x8_4) 0 0 (by first | rfl | omega) (row_len (inRow_toNat b2) (by simp)) rfl rfl) (σ' := [(0, s0 3 o2.length), (1, .func (.func 56) #[] #[pp 4 0]), (5, ii x8_4), (7, ii x7_4), (8, ii x8_4), (11, .func (.func 56) #[] #[pp 4 0]), (15, ii (List.getD o2 (Int.toNat x8_4) 0))]) (by kernel_rfl) ?_
        refine XR.callK E0_ok [0, 1, 5, 7, 8, 16] rfl (K := 56) (args := [ii (List.getD o2 (Int.toNat x8_4) 0), pp 4 0]) (d := (some (path 12 16))) (by kernel_rfl) ?_
        refine KC.bodyN E0_ok (F := Proofs.Try.f56) (by kernel_rfl) (code := f14_C56) (by kernel_rfl) (nt := 14) (by kernel_rfl) (rs := [.tmp 3]) (by kernel_rfl) (by kernel_rfl) (σ := [(0, ii (List.getD o2 (Int.toNat x8_4) 0)), (1, pp 4 0)]) (by kernel_rfl) ?_
        refine XQ.seq E0_ok (by kernel_rfl) ?_
        refine XQ.region (by kernel_rfl) ?_
        refine XR.runS E0_ok 1 1 [(0, ii (List.getD o2 (Int.toNat x8_4) 0)), (1, pp 4 0)] rfl (by kernel_rfl) ?_
        refine XR.done (by kernel_rfl) ?_
        show XQ _ _ _ _ _ _ _ _
        refine XQ.seq E0_ok (by kernel_rfl) ?_
        refine XQ.region (by kernel_rfl) ?_
        refine XR.runS E0_ok 1 5 [(0, ii (List.getD o2 (Int.toNat x8_4) 0)), (1, pp 4 0), (8, .bool (decide ((List.getD o2 (Int.toNat x8_4) 0) ≥ xh4_0_4)))] rfl (by kernel_rfl) ?_
        cases b3 : (decide ((List.getD o2 (Int.toNat x8_4) 0) ≥ xh4_0_4) : Bool) with
        | true =>
          have h := cT b3 h
          refine XR.runS E0_ok 1 6 [(3, .bool (decide ((List.getD o2 (Int.toNat x8_4) 0) ≤ xh4_1_4)))] rfl (by kernel_rfl) ?_
          refine XR.done (by kernel_rfl) ?_
          show XQ _ _ _ _ _ _ _ _
          refine XQ.ret (by kernel_rfl) ?_
          refine ⟨fun i q => (by cases q), .bool (decide ((List.getD o2 (Int.toNat x8_4) 0) ≤ xh4_1_4)), (by kernel_rfl), ?_⟩
          refine XR.conv (σ' := [(0, s0 3 o2.length), (1, .func (.func 56) #[] #[pp 4 0]), (5, ii x8_4), (7, ii x7_4), (8, ii x8_4), (16, .bool (decide ((List.getD o2 (Int.toNat x8_4) 0) ≤ xh4_1_4)))]) (h' := [(4, .cells [ii xh4_0_4, ii xh4_1_4] 0 61 0), (3, rc (encI .i64) o2 0 3 1), (2, rc (encI .i64) [] 0 3 1), (1, rc (encI .i64) lh1_1 0 3 1), (0, rc encP lh0_1 0 61 2)]) (c' := 5) ?_ (by kernel_rfl)
          refine XR.done (by kernel_rfl) ?_
          show XQ _ _ _ _ _ _ _ _
          cases b4 : (decide ((List.getD o2 (Int.toNat x8_4) 0) ≤ xh4_1_4) : Bool) with
          | true =>
            have h := cT b4 h
            refine XQ.cond (s := (.tmp 16)) (b := true) (by kernel_rfl) (by kernel_rfl) (fun _ => ?_) (fun q => by cases q)
            refine XQ.seq E0_ok (by kernel_rfl) ?_
            refine XQ.region (by kernel_rfl) ?_
            refine XR.runS E0_ok 1 2 [(4, ii x8_4)] rfl (by kernel_rfl) ?_
            refine XR.done (by kernel_rfl) ?_
            show XQ _ _ _ _ _ _ _ _
            refine XQ.ren (σ' := [(4, ii x8_4)]) (h' := [(4, .cells [ii xh4_0_4, ii xh4_1_4] 0 61 0), (3, rc (encI .i64) o2 0 3 1), (2, rc (encI .i64) [] 0 3 1), (1, rc (encI .i64) lh1_1 0 3 1), (0, rc encP lh0_1 0 61 2)]) (c' := 5) [0, 1, 2, 3, 4] (by decide) rfl ⟨by kernel_rfl, trivial⟩ ⟨⟨_, _, rfl, rfl, .inr ⟨_, _, _, _, rfl, rfl⟩⟩, ⟨_, _, rfl, rfl, .inl ⟨rfl, rowC_scal (encI_ok .i64) _⟩⟩, ⟨_, _, rfl, rfl, .inl ⟨rfl, rowC_scal (encI_ok .i64) _⟩⟩, ⟨_, _, rfl, rfl, .inl ⟨rfl, rowC_scal (encI_ok .i64) _⟩⟩, ⟨_, _, rfl, rfl, .inl ⟨rfl, rowC_scal encP_ok _⟩⟩, trivial⟩ rfl ?_
            refine XQ.ret (by kernel_rfl) ?_
            cases h
            exact hQ
          | false =>
            have h := cF b4 h
            refine XQ.cond (s := (.tmp 16)) (b := false) (by kernel_rfl) (by kernel_rfl) (fun q => by cases q) (fun _ => ?_)
            refine XQ.skip (by kernel_rfl) ?_
            show XQ _ _ _ _ _ _ _ _
            refine XQ.region (by kernel_rfl) ?_
            refine XR.runS E0_ok 1 2 [(0, s0 3 o2.length), (1, .func (.func 56) #[] #[pp 4 0]), (7, ii x7_4), (8, ii (w64 (x8_4 + 1)))] rfl (by kernel_rfl) ?_
            refine XR.done (by kernel_rfl) ?_
            show XL _ _ _ _ _ _ _ _ _
            refine XL.ren (σ' := [(0, s0 3 o2.length), (1, .func (.func 56) #[] #[pp 4 0]), (7, ii x7_4), (8, ii (w64 (x8_4 + 1)))]) (h' := [(4, .cells [ii xh4_0_4, ii xh4_1_4] 0 61 0), (3, rc (encI .i64) o2 0 3 1), (2, rc (encI .i64) [] 0 3 1), (1, rc (encI .i64) lh1_1 0 3 1), (0, rc encP lh0_1 0 61 2)]) (c' := 5) [0, 1, 2, 3, 4] (by decide) rfl ⟨by kernel_rfl, by kernel_rfl, by kernel_rfl, by kernel_rfl, trivial⟩ ⟨⟨_, _, rfl, rfl, .inr ⟨_, _, _, _, rfl, rfl⟩⟩, ⟨_, _, rfl, rfl, .inl ⟨rfl, rowC_scal (encI_ok .i64) _⟩⟩, ⟨_, _, rfl, rfl, .inl ⟨rfl, rowC_scal (encI_ok .i64) _⟩⟩, ⟨_, _, rfl, rfl, .inl ⟨rfl, rowC_scal (encI_ok .i64) _⟩⟩, ⟨_, _, rfl, rfl, .inl ⟨rfl, rowC_scal encP_ok _⟩⟩, trivial⟩ rfl ?_
            refine XL.conv (f14_4_ok m fuel lh0_1 lh1_1 o2 x7_4 (w64 (x8_4 + 1)) xh4_0_4 xh4_1_4 o h Q hQ) (by first | rfl | simp)
        | false =>
          have h := cF b3 h
          refine XR.runS E0_ok 1 6 [(3, .bool false)] rfl (by kernel_rfl) ?_
          refine XR.done (by kernel_rfl) ?_
          show XQ _ _ _ _ _ _ _ _
          refine XQ.ret (by kernel_rfl) ?_
          refine ⟨fun i q => (by cases q), .bool false, (by kernel_rfl), ?_⟩
          refine XR.conv (σ' := [(0, s0 3 o2.length), (1, .func (.func 56) #[] #[pp 4 0]), (5, ii x8_4), (7, ii x7_4), (8, ii x8_4), (16, .bool false)]) (h' := [(4, .cells [ii xh4_0_4, ii xh4_1_4] 0 61 0), (3, rc (encI .i64) o2 0 3 1), (2, rc (encI .i64) [] 0 3 1), (1, rc (encI .i64) lh1_1 0 3 1), (0, rc encP lh0_1 0 61 2)]) (c' := 5) ?_ (by kernel_rfl)
          refine XR.done (by kernel_rfl) ?_
          show XQ _ _ _ _ _ _ _ _
          refine XQ.cond (s := (.tmp 16)) (b := false) (by kernel_rfl) (by kernel_rfl) (fun q => by cases q) (fun _ => ?_)
          refine XQ.skip (by kernel_rfl) ?_
          show XQ _ _ _ _ _ _ _ _
          refine XQ.region (by kernel_rfl) ?_
          refine XR.runS E0_ok 1 2 [(0, s0 3 o2.length), (1, .func (.func 56) #[] #[pp 4 0]), (7, ii x7_4), (8, ii (w64 (x8_4 + 1)))] rfl (by kernel_rfl) ?_
          refine XR.done (by kernel_rfl) ?_
          show XL _ _ _ _ _ _ _ _ _
          refine XL.ren (σ' := [(0, s0 3 o2.length), (1, .func (.func 56) #[] #[pp 4 0]), (7, ii x7_4), (8, ii (w64 (x8_4 + 1)))]) (h' := [(4, .cells [ii xh4_0_4, ii xh4_1_4] 0 61 0), (3, rc (encI .i64) o2 0 3 1), (2, rc (encI .i64) [] 0 3 1), (1, rc (encI .i64) lh1_1 0 3 1), (0, rc encP lh0_1 0 61 2)]) (c' := 5) [0, 1, 2, 3, 4] (by decide) rfl ⟨by kernel_rfl, by kernel_rfl, by kernel_rfl, by kernel_rfl, trivial⟩ ⟨⟨_, _, rfl, rfl, .inr ⟨_, _, _, _, rfl, rfl⟩⟩, ⟨_, _, rfl, rfl, .inl ⟨rfl, rowC_scal (encI_ok .i64) _⟩⟩, ⟨_, _, rfl, rfl, .inl ⟨rfl, rowC_scal (encI_ok .i64) _⟩⟩, ⟨_, _, rfl, rfl, .inl ⟨rfl, rowC_scal (encI_ok .i64) _⟩⟩, ⟨_, _, rfl, rfl, .inl ⟨rfl, rowC_scal encP_ok _⟩⟩, trivial⟩ rfl ?_
          refine XL.conv (f14_4_ok m fuel lh0_1 lh1_1 o2 x7_4 (w64 (x8_4 + 1)) xh4_0_4 xh4_1_4 o h Q hQ) (by first | rfl | simp)
    | false =>
      have h := cF b1 h
      refine XQ.cond (s := (.tmp 9)) (b := false) (by kernel_rfl) (by kernel_rfl) (fun q => by cases q) (fun _ => ?_)
      refine XQ.ren (σ' := []) (h' := [(4, .cells [ii xh4_0_4, ii xh4_1_4] 0 61 0), (3, rc (encI .i64) o2 0 3 1), (2, rc (encI .i64) [] 0 3 1), (1, rc (encI .i64) lh1_1 0 3 1), (0, rc encP lh0_1 0 61 2)]) (c' := 5) [0, 1, 2, 3, 4] (by decide) rfl trivial ⟨⟨_, _, rfl, rfl, .inr ⟨_, _, _, _, rfl, rfl⟩⟩, ⟨_, _, rfl, rfl, .inl ⟨rfl, rowC_scal (encI_ok .i64) _⟩⟩, ⟨_, _, rfl, rfl, .inl ⟨rfl, rowC_scal (encI_ok .i64) _⟩⟩, ⟨_, _, rfl, rfl, .inl ⟨rfl, rowC_scal (encI_ok .i64) _⟩⟩, ⟨_, _, rfl, rfl, .inl ⟨rfl, rowC_scal encP_ok _⟩⟩, trivial⟩ rfl ?_
      refine XQ.exit (i := 0) (by kernel_rfl) ?_
      cases h
      exact hQ

def f14_3 (m : Nat) : Nat → Int → Int → Int → List (Int × Int) → List Int → (List Int) → Bool → Int → Int → Option Bool
  | 0, _, _, _, _, _, _, _, _, _ => none
  | fuel + 1, b, x8_1, x31_1, lh0_1, lh1_1, o2, b13_3, x48_3, x49_3 =>
    cond (decide (x49_3 < x48_3)) (
      cond (inRow x49_3 lh0_1.length) (
        cond (b13_3) (
          (f14_4 m m lh0_1 lh1_1 o2 ((o2.length : Nat) : Int) 0 ((List.getD lh0_1 (Int.toNat x49_3) (0, 0)).1) ((List.getD lh0_1 (Int.toNat x49_3) (0, 0)).2)).bind fun o4 =>
            match o4 with
            | .r x4_r4 xh4_0_r4 xh4_1_r4 =>
              f14_3 m fuel b x8_1 x31_1 lh0_1 lh1_1 o2 (decide (x4_r4 ≥ 0)) x48_3 (w64 (x49_3 + 1))
            | .x0 xh4_0_x04 xh4_1_x04 =>
              f14_3 m fuel b x8_1 x31_1 lh0_1 lh1_1 o2 false x48_3 (w64 (x49_3 + 1))
        ) (
          f14_3 m fuel b x8_1 x31_1 lh0_1 lh1_1 o2 false x48_3 (w64 (x49_3 + 1))
        )
      ) none
    ) (
      some (b13_3)
    )

theorem f14_3_ok (m : Nat) : ∀ (fuel : Nat) (b : Int) (x8_1 : Int) (x31_1 : Int) (lh0_1 : List (Int × Int)) (lh1_1 : List Int) (o2 : (List Int)) (b13_3 : Bool) (x48_3 : Int) (x49_3 : Int) (o : Bool), f14_3 m fuel b x8_1 x31_1 lh0_1 lh1_1 o2 b13_3 x48_3 x49_3 = some o → ∀ Q : QP, Q (.exit 4) [(1, .int .u8 b), (5, s0 0 lh0_1.length), (6, s0 1 lh1_1.length), (7, s0 2 0), (8, ii x8_1), (9, ii (-1)), (10, ii x31_1), (11, s0 3 o2.length), (13, .bool o), (31, ii x31_1)] [(3, rc (encI .i64) o2 0 3 1), (2, rc (encI .i64) [] 0 3 1), (1, rc (encI .i64) lh1_1 0 3 1), (0, rc encP lh0_1 0 61 2)] 4 → XL E0 212 0 fuel f14_L3 [(1, .int .u8 b), (5, s0 0 lh0_1.length), (6, s0 1 lh1_1.length), (7, s0 2 0), (8, ii x8_1), (9, ii (-1)), (10, ii x31_1), (11, s0 3 o2.length), (13, .bool b13_3), (31, ii x31_1), (47, s0 0 lh0_1.length), (48, ii x48_3), (49, ii x49_3)] [(3, rc (encI .i64) o2 0 3 1), (2, rc (encI .i64) [] 0 3 1), (1, rc (encI .i64) lh1_1 0 3 1), (0, rc encP lh0_1 0 61 2)] 4 Q
  | 0, b, x8_1, x31_1, lh0_1, lh1_1, o2, b13_3, x48_3, x49_3, o, h, Q, hQ => by cases h
  | fuel + 1, b, x8_1, x31_1, lh0_1, lh1_1, o2, b13_3, x48_3, x49_3, o, h, Q, hQ => by
    unfold f14_3 at h
    refine XL.succ E0_ok ?_
    refine XQ.seq E0_ok (by kernel_rfl) ?_
    refine XQ.region (by kernel_rfl) ?_
    refine XR.runS E0_ok 1 1 [(1, .int .u8 b), (5, s0 0 lh0_1.length), (6, s0 1 lh1_1.length), (7, s0 2 0), (8, ii x8_1), (9, ii (-1)), (10, ii x31_1), (11, s0 3 o2.length), (13, .bool b13_3), (31, ii x31_1), (47, s0 0 lh0_1.length), (48, ii x48_3), (49, ii x49_3), (50, .bool (decide (x49_3 < x48_3)))] rfl (by kernel_rfl) ?_
    refine XR.done (by kernel_rfl) ?_
    show XQ _ _ _ _ _ _ _ _
    refine XQ.seq E0_ok (by kernel_rfl) ?_
    cases b1 : (decide (x49_3 < x48_3) : Bool) with
    | true =>
      have h := cT b1 h
      refine XQ.cond (s := (.tmp 50)) (b := true) (by kernel_rfl) (by kernel_rfl) (fun _ => ?_) (fun q => by cases q)
      refine XQ.skip (by kernel_rfl) ?_
      show XQ _ _ _ _ _ _ _ _
      refine XQ.seq E0_ok (by kernel_rfl) ?_
      refine XQ.block (id := 5) (by kernel_rfl) ?_
      refine XQ.seq E0_ok (by kernel_rfl) ?_
      refine XQ.region (by kernel_rfl) ?_
      cases b2 : (inRow x49_3 lh0_1.length : Bool) with
      | false => cases (cF b2 h)
      | true =>
        have h := cT b2 h
        refine XR.rd E0_ok [1, 5, 6, 7, 8, 9, 10, 11, 13, 31, 47, 48, 49, 51] rfl (v := pp 0 ((Int.toNat x49_3) * 2)) (v_idx (s := 2) (x := (src 212 (.tmp 47))) (y := (src 212 (.tmp 49))) (b := 0) (o := 0) (len := lh0_1.length) (cap := lh0_1.length) (ik := .i64) (i := x49_3) (off := (Int.toNat x49_3) * 2) (d := (some (path 12 51))) (by kernel_rfl) (by kernel_rfl) (by kernel_rfl) b2 (by omega)) (σ' := [(1, .int .u8 b), (5, s0 0 lh0_1.length), (6, s0 1 lh1_1.length), (7, s0 2 0), (8, ii x8_1), (9, ii (-1)), (10, ii x31_1), (11, s0 3 o2.length), (13, .bool b13_3), (31, ii x31_1), (47, s0 0 lh0_1.length), (48, ii x48_3), (49, ii x49_3), (51, pp 0 ((Int.toNat x49_3) * 2))]) (by kernel_rfl) ?_
        refine XR.rd E0_ok [1, 5, 6, 7, 8, 9, 10, 11, 13, 31, 47, 48, 49, 52] rfl (v := .agg #[ii ((List.getD lh0_1 (Int.toNat x49_3) (0, 0)).1), ii ((List.getD lh0_1 (Int.toNat x49_3) (0, 0)).2)]) (v_loadN encP_ok (x := (src 212 (.tmp 51))) (b := 0) (off := (Int.toNat x49_3) * 2) (xs := lh0_1) (fz := 0) (e := 61) (es := 2) (d := (some (path 12 52))) (by kernel_rfl) (by kernel_rfl) (by kernel_rfl) (Int.toNat x49_3) (0, 0) (by first | rfl | omega) (row_len (inRow_toNat b2) (by simp)) rfl) (σ' := [(1, .int .u8 b), (5, s0 0 lh0_1.length), (6, s0 1 lh1_1.length), (7, s0 2 0), (8, ii x8_1), (9, ii (-1)), (10, ii x31_1), (11, s0 3 o2.length), (13, .bool b13_3), (31, ii x31_1), (47, s0 0 lh0_1.length), (48, ii x48_3), (49, ii x49_3), (52, .agg #[ii ((List.getD lh0_1 (Int.toNat x49_3) (0, 0)).1), ii ((List.getD lh0_1 (Int.toNat x49_3) (0, 0)).2)])]) (by kernel_rfl) ?_
        refine XR.runT E0_ok 1 2 [(1, .int .u8 b), (5, s0 0 lh0_1.length), (6, s0 1 lh1_1.length), (7, s0 2 0), (8, ii x8_1), (9, ii (-1)), (10, ii x31_1), (11, s0 3 o2.length), (13, .bool b13_3), (15, pp 4 0), (31, ii x31_1), (47, s0 0 lh0_1.length), (48, ii x48_3), (49, ii x49_3)] [(4, .cells [ii ((List.getD lh0_1 (Int.toNat x49_3) (0, 0)).1), ii ((List.getD lh0_1 (Int.toNat x49_3) (0, 0)).2)] 0 61 0), (3, rc (encI .i64) o2 0 3 1), (2, rc (encI .i64) [] 0 3 1), (1, rc (encI .i64) lh1_1 0 3 1), (0, rc encP lh0_1 0 61 2)] 5 rfl (by kernel_rfl) ?_
        refine XR.done (by kernel_rfl) ?_
        show XQ _ _ _ _ _ _ _ _
        refine XQ.region (by kernel_rfl) ?_
        refine XR.runS E0_ok 1 2 [(1, .int .u8 b), (5, s0 0 lh0_1.length), (6, s0 1 lh1_1.length), (7, s0 2 0), (8, ii x8_1), (9, ii (-1)), (10, ii x31_1), (11, s0 3 o2.length), (15, pp 4 0), (31, ii x31_1), (47, s0 0 lh0_1.length), (48, ii x48_3), (49, ii x49_3), (54, .bool b13_3)] rfl (by kernel_rfl) ?_
        cases b3 : (b13_3 : Bool) with
        | true =>
          have h := cT b3 h
          refine XR.runS E0_ok 1 2 [(1, .int .u8 b), (5, s0 0 lh0_1.length), (6, s0 1 lh1_1.length), (7, s0 2 0), (8, ii x8_1), (9, ii (-1)), (10, ii x31_1), (11, s0 3 o2.length), (31, ii x31_1), (47, s0 0 lh0_1.length), (48, ii x48_3), (49, ii x49_3), (54, .bool true), (55, s0 3 o2.length), (56, .func (.func 56) #[] #[pp 4 0])] rfl (by kernel_rfl) ?_
          refine XR.callK E0_ok [1, 5, 6, 7, 8, 9, 10, 11, 31, 47, 48, 49, 54, 57] rfl (K := 55) (args := [s0 3 o2.length, .func (.func 56) #[] #[pp 4 0]]) (d := (some (path 12 57))) (by kernel_rfl) ?_
          refine KC.bodyN E0_ok (F := Proofs.Try.f55) (by kernel_rfl) (code := f14_C55) (by kernel_rfl) (nt := 9) (by kernel_rfl) (rs := [.tmp 4]) (by kernel_rfl) (by kernel_rfl) (σ := [(0, s0 3 o2.length), (1, .func (.func 56) #[] #[pp 4 0])]) (by kernel_rfl) ?_
          refine XQ.seq E0_ok (by kernel_rfl) ?_
          refine XQ.region (by kernel_rfl) ?_
          refine XR.runS E0_ok 1 1 [(0, s0 3 o2.length), (1, .func (.func 56) #[] #[pp 4 0])] rfl (by kernel_rfl) ?_
          refine XR.done (by kernel_rfl) ?_
          show XQ _ _ _ _ _ _ _ _
          refine XQ.seq E0_ok (by kernel_rfl) ?_
          refine XQ.region (by kernel_rfl) ?_
          refine XR.runS E0_ok 1 2 [(5, s0 3 o2.length), (6, .func (.func 56) #[] #[pp 4 0])] rfl (by kernel_rfl) ?_
          refine XR.callK E0_ok [7] rfl (K := 87) (args := [s0 3 o2.length, .func (.func 56) #[] #[pp 4 0]]) (d := (some (path 12 7))) (by kernel_rfl) ?_
          refine KC.bodyN E0_ok (F := Proofs.Try.f87) (by kernel_rfl) (code := f14_C87) (by kernel_rfl) (nt := 19) (by kernel_rfl) (rs := [.tmp 4]) (by kernel_rfl) (by kernel_rfl) (σ := [(0, s0 3 o2.length), (1, .func (.func 56) #[] #[pp 4 0])]) (by kernel_rfl) ?_
          refine XQ.seq E0_ok (by kernel_rfl) ?_
          refine XQ.region (by kernel_rfl) ?_
          refine XR.runS E0_ok 1 1 [(0, s0 3 o2.length), (1, .func (.func 56) #[] #[pp 4 0])] rfl (by kernel_rfl) ?_
          refine XR.done (by kernel_rfl) ?_
          show XQ _ _ _ _ _ _ _ _
          refine XQ.seq E0_ok (by kernel_rfl) ?_
          refine XQ.seq E0_ok (by kernel_rfl) ?_
          refine XQ.region (by kernel_rfl) ?_
          refine XR.runS E0_ok 1 3 [(0, s0 3 o2.length), (1, .func (.func 56) #[] #[pp 4 0]), (7, ii ((o2.length : Nat) : Int)), (8, ii 0)] rfl (by kernel_rfl) ?_
          refine XR.done (by kernel_rfl) ?_
          show XQ _ _ _ _ _ _ _ _
          refine XQ.block (id := 0) (by kernel_rfl) ?_
          refine XQ.loop m (by kernel_rfl) ?_
          obtain ⟨o4, o4_h, h⟩ := bS h
          refine XL.ren (σ' := [(0, s0 3 o2.length), (1, .func (.func 56) #[] #[pp 4 0]), (7, ii ((o2.length : Nat) : Int)), (8, ii 0)]) (h' := [(4, .cells [ii ((List.getD lh0_1 (Int.toNat x49_3) (0, 0)).1), ii ((List.getD lh0_1 (Int.toNat x49_3) (0, 0)).2)] 0 61 0), (3, rc (encI .i64) o2 0 3 1), (2, rc (encI .i64) [] 0 3 1), (1, rc (encI .i64) lh1_1 0 3 1), (0, rc encP lh0_1 0 61 2)]) (c' := 5) [0, 1, 2, 3, 4] (by decide) rfl ⟨by kernel_rfl, by kernel_rfl, by kernel_rfl, by kernel_rfl, trivial⟩ ⟨⟨_, _, rfl, rfl, .inr ⟨_, _, _, _, rfl, rfl⟩⟩, ⟨_, _, rfl, rfl, .inl ⟨rfl, rowC_scal (encI_ok .i64) _⟩⟩, ⟨_, _, rfl, rfl, .inl ⟨rfl, rowC_scal (encI_ok .i64) _⟩⟩, ⟨_, _, rfl, rfl, .inl ⟨rfl, rowC_scal (encI_ok .i64) _⟩⟩, ⟨_, _, rfl, rfl, .inl ⟨rfl, rowC_scal encP_ok _⟩⟩, trivial⟩ rfl ?_
          cases o4 with
          | r x4_r4 xh4_0_r4 xh4_1_r4 =>
            dsimp only at h
            refine XL.conv (f14_4_ok m m lh0_1 lh1_1 o2 ((o2.length : Nat) : Int) 0 ((List.getD lh0_1 (Int.toNat x49_3) (0, 0)).1) ((List.getD lh0_1 (Int.toNat x49_3) (0, 0)).2) (.r x4_r4 xh4_0_r4 xh4_1_r4) o4_h _ ?_) (by first | rfl | simp)
            refine ⟨fun i q => (by cases q), ii x4_r4, (by kernel_rfl), ?_⟩
            refine XR.conv (σ' := [(7, ii x4_r4)]) (h' := [(4, .cells [ii xh4_0_r4, ii xh4_1_r4] 0 61 0), (3, rc (encI .i64) o2 0 3 1), (2, rc (encI .i64) [] 0 3 1), (1, rc (encI .i64) lh1_1 0 3 1), (0, rc encP lh0_1 0 61 2)]) (c' := 5) ?_ (by kernel_rfl)
            refine XR.runS E0_ok 1 2 [(4, .bool (decide (x4_r4 ≥ 0)))] rfl (by kernel_rfl) ?_
            refine XR.done (by kernel_rfl) ?_
            show XQ _ _ _ _ _ _ _ _
            refine XQ.ret (by kernel_rfl) ?_
            refine ⟨fun i q => (by cases q), .bool (decide (x4_r4 ≥ 0)), (by kernel_rfl), ?_⟩
            refine XR.conv (σ' := [(1, .int .u8 b), (5, s0 0 lh0_1.length), (6, s0 1 lh1_1.length), (7, s0 2 0), (8, ii x8_1), (9, ii (-1)), (10, ii x31_1), (11, s0 3 o2.length), (31, ii x31_1), (47, s0 0 lh0_1.length), (48, ii x48_3), (49, ii x49_3), (54, .bool true), (57, .bool (decide (x4_r4 ≥ 0)))]) (h' := [(4, .cells [ii xh4_0_r4, ii xh4_1_r4] 0 61 0), (3, rc (encI .i64) o2 0 3 1), (2, rc (encI .i64) [] 0 3 1), (1, rc (encI .i64) lh1_1 0 3 1), (0, rc encP lh0_1 0 61 2)]) (c' := 5) ?_ (by kernel_rfl)
            refine XR.runS E0_ok 1 2 [(1, .int .u8 b), (5, s0 0 lh0_1.length), (6, s0 1 lh1_1.length), (7, s0 2 0), (8, ii x8_1), (9, ii (-1)), (10, ii x31_1), (11, s0 3 o2.length), (13, .bool (decide (x4_r4 ≥ 0))), (31, ii x31_1), (47, s0 0 lh0_1.length), (48, ii x48_3), (49, ii x49_3)] rfl (by kernel_rfl) ?_
            refine XR.done (by kernel_rfl) ?_
            show XQ _ _ _ _ _ _ _ _
            refine XQ.region (by kernel_rfl) ?_
            refine XR.runS E0_ok 1 2 [(1, .int .u8 b), (5, s0 0 lh0_1.length), (6, s0 1 lh1_1.length), (7, s0 2 0), (8, ii x8_1), (9, ii (-1)), (10, ii x31_1), (11, s0 3 o2.length), (13, .bool (decide (x4_r4 ≥ 0))), (31, ii x31_1), (47, s0 0 lh0_1.length), (48, ii x48_3), (49, ii (w64 (x49_3 + 1)))] rfl (by kernel_rfl) ?_
            refine XR.done (by kernel_rfl) ?_
            show XL _ _ _ _ _ _ _ _ _
            refine XL.ren (σ' := [(1, .int .u8 b), (5, s0 0 lh0_1.length), (6, s0 1 lh1_1.length), (7, s0 2 0), (8, ii x8_1), (9, ii (-1)), (10, ii x31_1), (11, s0 3 o2.length), (13, .bool (decide (x4_r4 ≥ 0))), (31, ii x31_1), (47, s0 0 lh0_1.length), (48, ii x48_3), (49, ii (w64 (x49_3 + 1)))]) (h' := [(3, rc (encI .i64) o2 0 3 1), (2, rc (encI .i64) [] 0 3 1), (1, rc (encI .i64) lh1_1 0 3 1), (0, rc encP lh0_1 0 61 2)]) (c' := 4) [0, 1, 2, 3] (by decide) rfl ⟨by kernel_rfl, by kernel_rfl, by kernel_rfl, by kernel_rfl, by kernel_rfl, by kernel_rfl, by kernel_rfl, by kernel_rfl, by kernel_rfl, by kernel_rfl, by kernel_rfl, by kernel_rfl, by kernel_rfl, trivial⟩ ⟨⟨_, _, rfl, rfl, .inl ⟨rfl, rowC_scal (encI_ok .i64) _⟩⟩, ⟨_, _, rfl, rfl, .inl ⟨rfl, rowC_scal (encI_ok .i64) _⟩⟩, ⟨_, _, rfl, rfl, .inl ⟨rfl, rowC_scal (encI_ok .i64) _⟩⟩, ⟨_, _, rfl, rfl, .inl ⟨rfl, rowC_scal encP_ok _⟩⟩, trivial⟩ rfl ?_
            refine XL.conv (f14_3_ok m fuel b x8_1 x31_1 lh0_1 lh1_1 o2 (decide (x4_r4 ≥ 0)) x48_3 (w64 (x49_3 + 1)) o h Q hQ) (by first | rfl | simp)
          | x0 xh4_0_x04 xh4_1_x04 =>
            dsimp only at h
            refine XL.conv (f14_4_ok m m lh0_1 lh1_1 o2 ((o2.length : Nat) : Int) 0 ((List.getD lh0_1 (Int.toNat x49_3) (0, 0)).1) ((List.getD lh0_1 (Int.toNat x49_3) (0, 0)).2) (.x0 xh4_0_x04 xh4_1_x04) o4_h _ ?_) (by first | rfl | simp)
            show XQ _ _ _ _ _ _ _ _
            refine XQ.seq E0_ok (by kernel_rfl) ?_
            refine XQ.region (by kernel_rfl) ?_
            refine XR.runS E0_ok 1 1 [(4, ii (-1))] rfl (by kernel_rfl) ?_
            refine XR.done (by kernel_rfl) ?_
            show XQ _ _ _ _ _ _ _ _
            refine XQ.ret (by kernel_rfl) ?_
            refine ⟨fun i q => (by cases q), ii (-1), (by kernel_rfl), ?_⟩
            refine XR.conv (σ' := [(7, ii (-1))]) (h' := [(4, .cells [ii xh4_0_x04, ii xh4_1_x04] 0 61 0), (3, rc (encI .i64) o2 0 3 1), (2, rc (encI .i64) [] 0 3 1), (1, rc (encI .i64) lh1_1 0 3 1), (0, rc encP lh0_1 0 61 2)]) (c' := 5) ?_ (by kernel_rfl)
            refine XR.runS E0_ok 1 2 [(4, .bool false)] rfl (by kernel_rfl) ?_
            refine XR.done (by kernel_rfl) ?_
            show XQ _ _ _ _ _ _ _ _
            refine XQ.ret (by kernel_rfl) ?_
            refine ⟨fun i q => (by cases q), .bool false, (by kernel_rfl), ?_⟩
            refine XR.conv (σ' := [(1, .int .u8 b), (5, s0 0 lh0_1.length), (6, s0 1 lh1_1.length), (7, s0 2 0), (8, ii x8_1), (9, ii (-1)), (10, ii x31_1), (11, s0 3 o2.length), (31, ii x31_1), (47, s0 0 lh0_1.length), (48, ii x48_3), (49, ii x49_3), (54, .bool true), (57, .bool false)]) (h' := [(4, .cells [ii xh4_0_x04, ii xh4_1_x04] 0 61 0), (3, rc (encI .i64) o2 0 3 1), (2, rc (encI .i64) [] 0 3 1), (1, rc (encI .i64) lh1_1 0 3 1), (0, rc encP lh0_1 0 61 2)]) (c' := 5) ?_ (by kernel_rfl)
            refine XR.runS E0_ok 1 2 [(1, .int .u8 b), (5, s0 0 lh0_1.length), (6, s0 1 lh1_1.length), (7, s0 2 0), (8, ii x8_1), (9, ii (-1)), (10, ii x31_1), (11, s0 3 o2.length), (13, .bool false), (31, ii x31_1), (47, s0 0 lh0_1.length), (48, ii x48_3), (49, ii x49_3)] rfl (by kernel_rfl) ?_
            refine XR.done (by kernel_rfl) ?_
            show XQ _ _ _ _ _ _ _ _
            refine XQ.region (by kernel_rfl) ?_
            refine XR.runS E0_ok 1 2 [(1, .int .u8 b), (5, s0 0 lh0_1.length), (6, s0 1 lh1_1.length), (7, s0 2 0), (8, ii x8_1), (9, ii (-1)), (10, ii x31_1), (11, s0 3 o2.length), (13, .bool false), (31, ii x31_1), (47, s0 0 lh0_1.length), (48, ii x48_3), (49, ii (w64 (x49_3 + 1)))] rfl (by kernel_rfl) ?_
            refine XR.done (by kernel_rfl) ?_
            show XL _ _ _ _ _ _ _ _ _
            refine XL.ren (σ' := [(1, .int .u8 b), (5, s0 0 lh0_1.length), (6, s0 1 lh1_1.length), (7, s0 2 0), (8, ii x8_1), (9, ii (-1)), (10, ii x31_1), (11, s0 3 o2.length), (13, .bool false), (31, ii x31_1), (47, s0 0 lh0_1.length), (48, ii x48_3), (49, ii (w64 (x49_3 + 1)))]) (h' := [(3, rc (encI .i64) o2 0 3 1), (2, rc (encI .i64) [] 0 3 1), (1, rc (encI .i64) lh1_1 0 3 1), (0, rc encP lh0_1 0 61 2)]) (c' := 4) [0, 1, 2, 3] (by decide) rfl ⟨by kernel_rfl, by kernel_rfl, by kernel_rfl, by kernel_rfl, by kernel_rfl, by kernel_rfl, by kernel_rfl, by kernel_rfl, by kernel_rfl, by kernel_rfl, by kernel_rfl, by kernel_rfl, by kernel_rfl, trivial⟩ ⟨⟨_, _, rfl, rfl, .inl ⟨rfl, rowC_scal (encI_ok .i64) _⟩⟩, ⟨_, _, rfl, rfl, .inl ⟨rfl, rowC_scal (encI_ok .i64) _⟩⟩, ⟨_, _, rfl, rfl, .inl ⟨rfl, rowC_scal (encI_ok .i64) _⟩⟩, ⟨_, _, rfl, rfl, .inl ⟨rfl, rowC_scal encP_ok _⟩⟩, trivial⟩ rfl ?_
            refine XL.conv (f14_3_ok m fuel b x8_1 x31_1 lh0_1 lh1_1 o2 false x48_3 (w64 (x49_3 + 1)) o h Q hQ) (by first | rfl | simp)
        | false =>
          have h := cF b3 h
          refine XR.runS E0_ok 1 5 [(1, .int .u8 b), (5, s0 0 lh0_1.length), (6, s0 1 lh1_1.length), (7, s0 2 0), (8, ii x8_1), (9, ii (-1)), (10, ii x31_1), (11, s0 3 o2.length), (13, .bool false), (31, ii x31_1), (47, s0 0 lh0_1.length), (48, ii x48_3), (49, ii x49_3)] rfl (by kernel_rfl) ?_
          refine XR.done (by kernel_rfl) ?_
          show XQ _ _ _ _ _ _ _ _
          refine XQ.region (by kernel_rfl) ?_
          refine XR.runS E0_ok 1 2 [(1, .int .u8 b), (5, s0 0 lh0_1.length), (6, s0 1 lh1_1.length), (7, s0 2 0), (8, ii x8_1), (9, ii (-1)), (10, ii x31_1), (11, s0 3 o2.length), (13, .bool false), (31, ii x31_1), (47, s0 0 lh0_1.length), (48, ii x48_3), (49, ii (w64 (x49_3 + 1)))] rfl (by kernel_rfl) ?_
          refine XR.done (by kernel_rfl) ?_
          show XL _ _ _ _ _ _ _ _ _
          refine XL.ren (σ' := [(1, .int .u8 b), (5, s0 0 lh0_1.length), (6, s0 1 lh1_1.length), (7, s0 2 0), (8, ii x8_1), (9, ii (-1)), (10, ii x31_1), (11, s0 3 o2.length), (13, .bool false), (31, ii x31_1), (47, s0 0 lh0_1.length), (48, ii x48_3), (49, ii (w64 (x49_3 + 1)))]) (h' := [(3, rc (encI .i64) o2 0 3 1), (2, rc (encI .i64) [] 0 3 1), (1, rc (encI .i64) lh1_1 0 3 1), (0, rc encP lh0_1 0 61 2)]) (c' := 4) [0, 1, 2, 3] (by decide) rfl ⟨by kernel_rfl, by kernel_rfl, by kernel_rfl, by kernel_rfl, by kernel_rfl, by kernel_rfl, by kernel_rfl, by kernel_rfl, by kernel_rfl, by kernel_rfl, by kernel_rfl, by kernel_rfl, by kernel_rfl, trivial⟩ ⟨⟨_, _, rfl, rfl, .inl ⟨rfl, rowC_scal (encI_ok .i64) _⟩⟩, ⟨_, _, rfl, rfl, .inl ⟨rfl, rowC_scal (encI_ok .i64) _⟩⟩, ⟨_, _, rfl, rfl, .inl ⟨rfl, rowC_scal (encI_ok .i64) _⟩⟩, ⟨_, _, rfl, rfl, .inl ⟨rfl, rowC_scal encP_ok _⟩⟩, trivial⟩ rfl ?_
          refine XL.conv (f14_3_ok m fuel b x8_1 x31_1 lh0_1 lh1_1 o2 false x48_3 (w64 (x49_3 + 1)) o h Q hQ) (by first | rfl | simp)
    | false =>
      have h := cF b1 h
      refine XQ.cond (s := (.tmp 50)) (b := false) (by kernel_rfl) (by kernel_rfl) (fun q => by cases q) (fun _ => ?_)
      refine XQ.ren (σ' := [(1, .int .u8 b), (5, s0 0 lh0_1.length), (6, s0 1 lh1_1.length), (7, s0 2 0), (8, ii x8_1), (9, ii (-1)), (10, ii x31_1), (11, s0 3 o2.length), (13, .bool b13_3), (31, ii x31_1)]) (h' := [(3, rc (encI .i64) o2 0 3 1), (2, rc (encI .i64) [] 0 3 1), (1, rc (encI .i64) lh1_1 0 3 1), (0, rc encP lh0_1 0 61 2)]) (c' := 4) [0, 1, 2, 3] (by decide) rfl ⟨by kernel_rfl, by kernel_rfl, by kernel_rfl, by kernel_rfl, by kernel_rfl, by kernel_rfl, by kernel_rfl, by kernel_rfl, by kernel_rfl, by kernel_rfl, trivial⟩ ⟨⟨_, _, rfl, rfl, .inl ⟨rfl, rowC_scal (encI_ok .i64) _⟩⟩, ⟨_, _, rfl, rfl, .inl ⟨rfl, rowC_scal (encI_ok .i64) _⟩⟩, ⟨_, _, rfl, rfl, .inl ⟨rfl, rowC_scal (encI_ok .i64) _⟩⟩, ⟨_, _, rfl, rfl, .inl ⟨rfl, rowC_scal encP_ok _⟩⟩, trivial⟩ rfl ?_
      refine XQ.exit (i := 4) (by kernel_rfl) ?_
      cases h
      exact hQ

inductive Of14_5 where
  | r (x4_r5 : Int)
  | x0

def f14_5 (m : Nat) : Nat → List (Int × Int) → List Int → (List Int) → Int → Int → Option Of14_5
  | 0, _, _, _, _, _ => none
  | fuel + 1, lh0_1, lh1_1, o2, x10_5, x11_5 =>
    cond (decide (x11_5 < x10_5)) (
      cond (inRow x11_5 o2.length) (
        cond (decide (x11_5 ≥ ((lh1_1.length : Nat) : Int))) (
          some (.r 1)
        ) (
          cond (inRow x11_5 lh1_1.length) (
            cond ((List.getD o2 (Int.toNat x11_5) 0) != (List.getD o2 (Int.toNat x11_5) 0)) (
              cond ((List.getD lh1_1 (Int.toNat x11_5) 0) != (List.getD lh1_1 (Int.toNat x11_5) 0)) (
                f14_5 m fuel lh0_1 lh1_1 o2 x10_5 (w64 (x11_5 + 1))
              ) (
                some (.r (-1))
              )
            ) (
              cond ((List.getD lh1_1 (Int.toNat x11_5) 0) != (List.getD lh1_1 (Int.toNat x11_5) 0)) (
                some (.r 1)
              ) (
                cond (decide ((List.getD o2 (Int.toNat x11_5) 0) < (List.getD lh1_1 (Int.toNat x11_5) 0))) (
                  some (.r (-1))
                ) (
                  cond (decide ((List.getD o2 (Int.toNat x11_5) 0) > (List.getD lh1_1 (Int.toNat x11_5) 0))) (
                    some (.r 1)
                  ) (
                    f14_5 m fuel lh0_1 lh1_1 o2 x10_5 (w64 (x11_5 + 1))
                  )
                )
              )
            )
          ) none
        )
      ) none
    ) (
      some (.x0)
    )

theorem f14_5_ok (m : Nat) : ∀ (fuel : Nat) (lh0_1 : List (Int × Int)) (lh1_1 : List Int) (o2 : (List Int)) (x10_5 : Int) (x11_5 : Int) (o : Of14_5), f14_5 m fuel lh0_1 lh1_1 o2 x10_5 x11_5 = some o → ∀ Q : QP, (match o with | .r x4_r5 => Q .ret [(4, ii x4_r5)] [(3, rc (encI .i64) o2 0 3 1), (2, rc (encI .i64) [] 0 3 1), (1, rc (encI .i64) lh1_1 0 3 1), (0, rc encP lh0_1 0 61 2)] 4 | .x0 => Q (.exit 0) [(0, s0 3 o2.length), (1, s0 1 lh1_1.length)] [(3, rc (encI .i64) o2 0 3 1), (2, rc (encI .i64) [] 0 3 1), (1, rc (encI .i64) lh1_1 0 3 1), (0, rc encP lh0_1 0 61 2)] 4) → XL E0 36 4 fuel f14_L6 [(0, s0 3 o2.length), (1, s0 1 lh1_1.length), (9, s0 3 o2.length), (10, ii x10_5), (11, ii x11_5)] [(3, rc (encI .i64) o2 0 3 1), (2, rc (encI .i64) [] 0 3 1), (1, rc (encI .i64) lh1_1 0 3 1), (0, rc encP lh0_1 0 61 2)] 4 Q
  | 0, lh0_1, lh1_1, o2, x10_5, x11_5, o, h, Q, hQ => by cases h
  | fuel + 1, lh0_1, lh1_1, o2, x10_5, x11_5, o, h, Q, hQ => by
    unfold f14_5 at h
    refine XL.succ E0_ok ?_
    refine XQ.seq E0_ok (by kernel_rfl) ?_
    refine XQ.region (by kernel_rfl) ?_
    refine XR.runS E0_ok 1 1 [(0, s0 3 o2.length), (1, s0 1 lh1_1.length), (9, s0 3 o2.length), (10, ii x10_5), (11, ii x11_5), (12, .bool (decide (x11_5 < x10_5)))] rfl (by kernel_rfl) ?_
    refine XR.done (by kernel_rfl) ?_
    show XQ _ _ _ _ _ _ _ _
    refine XQ.seq E0_ok (by kernel_rfl) ?_
    cases b1 : (decide (x11_5 < x10_5) : Bool) with
    | true =>
      have h := cT b1 h
      refine XQ.cond (s := (.tmp 12)) (b := true) (by kernel_rfl) (by kernel_rfl) (fun _ => ?_) (fun q => by cases q)
      refine XQ.skip (by kernel_rfl) ?_
      show XQ _ _ _ _ _ _ _ _
      refine XQ.seq E0_ok (by kernel_rfl) ?_
      refine XQ.block (id := 1) (by kernel_rfl) ?_
      refine XQ.seq E0_ok (by kernel_rfl) ?_
      refine XQ.region (by kernel_rfl) ?_
      refine XR.runS E0_ok 1 1 [(0, s0 3 o2.length), (1, s0 1 lh1_1.length), (9, s0 3 o2.length), (10, ii x10_5), (11, ii x11_5), (13, ii x11_5)] rfl (by kernel_rfl) ?_
      cases b2 : (inRow x11_5 o2.length : Bool) with
      | false => cases (cF b2 h)
      | true =>
        have h := cT b2 h
        refine XR.rd E0_ok [0, 1, 9, 10, 11, 13, 14] rfl (v := pp 3 ((Int.toNat x11_5) * 1)) (v_idx (s := 1) (x := (src 36 (.tmp 9))) (y := (src 36 (.tmp 11))) (b := 3) (o := 0) (len := o2.length) (cap := o2.length) (ik := .i64) (i := x11_5) (off := (Int.toNat x11_5) * 1) (d := (some (path 12 14))) (by kernel_rfl) (by kernel_rfl) (by kernel_rfl) b2 (by omega)) (σ' := [(0, s0 3 o2.length), (1, s0 1 lh1_1.length), (9, s0 3 o2.length), (10, ii x10_5), (11, ii x11_5), (13, ii x11_5), (14, pp 3 ((Int.toNat x11_5) * 1))]) (by kernel_rfl) ?_
        refine XR.rd E0_ok [0, 1, 9, 10, 11, 13, 15] rfl (v := ii (List.getD o2 (Int.toNat x11_5) 0)) (v_load1 (encI_ok .i64) (x := (src 36 (.tmp 14))) (b := 3) (off := (Int.toNat x11_5) * 1) (xs := o2) (fz := 0) (e := 3) (es := 1) (d := (some (path 12 15))) (by kernel_rfl) (by kernel_rfl) (by kernel_rfl) (Int.toNat x11_5) 0 0 (by first | rfl | omega) (row_len (inRow_toNat b2) (by simp)) rfl rfl) (σ' := [(0, s0 3 o2.length), (1, s0 1 lh1_1.length), (9, s0 3 o2.length), (10, ii x10_5), (11, ii x11_5), (13, ii x11_5), (15, ii (List.getD o2 (Int.toNat x11_5) 0))]) (by kernel_rfl) ?_
        refine XR.runS E0_ok 1 2 [(0, s0 3 o2.length), (1, s0 1 lh1_1.length), (5, ii x11_5), (6, ii (List.getD o2 (Int.toNat x11_5) 0)), (9, s0 3 o2.length), (10, ii x10_5), (11, ii x11_5)] rfl (by kernel_rfl) ?_
        refine XR.done (by kernel_rfl) ?_
        show XQ _ _ _ _ _ _ _ _
        refine XQ.seq E0_ok (by kernel_rfl) ?_
        refine XQ.seq E0_ok (by kernel_rfl) ?_
        refine XQ.region (by kernel_rfl) ?_
        refine XR.runS E0_ok 1 4 [(0, s0 3 o2.length), (1, s0 1 lh1_1.length), (5, ii x11_5), (6, ii (List.getD o2 (Int.toNat x11_5) 0)), (9, s0 3 o2.length), (10, ii x10_5), (11, ii x11_5), (19, .bool (decide (x11_5 ≥ ((lh1_1.length : Nat) : Int))))] rfl (by kernel_rfl) ?_
        refine XR.done (by kernel_rfl) ?_
        show XQ _ _ _ _ _ _ _ _
        cases b3 : (decide (x11_5 ≥ ((lh1_1.length : Nat) : Int)) : Bool) with
        | true =>
          have h := cT b3 h
          refine XQ.cond (s := (.tmp 19)) (b := true) (by kernel_rfl) (by kernel_rfl) (fun _ => ?_) (fun q => by cases q)
          refine XQ.seq E0_ok (by kernel_rfl) ?_
          refine XQ.region (by kernel_rfl) ?_
          refine XR.runS E0_ok 1 1 [(4, ii 1)] rfl (by kernel_rfl) ?_
          refine XR.done (by kernel_rfl) ?_
          show XQ _ _ _ _ _ _ _ _
          refine XQ.ren (σ' := [(4, ii 1)]) (h' := [(3, rc (encI .i64) o2 0 3 1), (2, rc (encI .i64) [] 0 3 1), (1, rc (encI .i64) lh1_1 0 3 1), (0, rc encP lh0_1 0 61 2)]) (c' := 4) [0, 1, 2, 3] (by decide) rfl ⟨by kernel_rfl, trivial⟩ ⟨⟨_, _, rfl, rfl, .inl ⟨rfl, rowC_scal (encI_ok .i64) _⟩⟩, ⟨_, _, rfl, rfl, .inl ⟨rfl, rowC_scal (encI_ok .i64) _⟩⟩, ⟨_, _, rfl, rfl, .inl ⟨rfl, rowC_scal (encI_ok .i64) _⟩⟩, ⟨_, _, rfl, rfl, .inl ⟨rfl, rowC_scal encP_ok _⟩⟩, trivial⟩ rfl ?_
          refine XQ.ret (by kernel_rfl) ?_
          cases h
          exact hQ
        | false =>
          have h := cF b3 h
          refine XQ.cond (s := (.tmp 19)) (b := false) (by kernel_rfl) (by kernel_rfl) (fun q => by cases q) (fun _ => ?_)
          refine XQ.skip (by kernel_rfl) ?_
          show XQ _ _ _ _ _ _ _ _
          refine XQ.seq E0_ok (by kernel_rfl) ?_
          refine XQ.region (by kernel_rfl) ?_
          refine XR.runS E0_ok 1 2 [(0, s0 3 o2.length), (1, s0 1 lh1_1.length), (6, ii (List.getD o2 (Int.toNat x11_5) 0)), (9, s0 3 o2.length), (10, ii x10_5), (11, ii x11_5), (20, s0 1 lh1_1.length), (21, ii x11_5)] rfl (by kernel_rfl) ?_
          cases b4 : (inRow x11_5 lh1_1.length : Bool) with
          | false => cases (cF b4 h)
          | true =>
            have h := cT b4 h
            refine XR.rd E0_ok [0, 1, 6, 9, 10, 11, 22] rfl (v := pp 1 ((Int.toNat x11_5) * 1)) (v_idx (s := 1) (x := (src 36 (.tmp 20))) (y := (src 36 (.tmp 21))) (b := 1) (o := 0) (len := lh1_1.length) (cap := lh1_1.length) (ik := .i64) (i := x11_5) (off := (Int.toNat x11_5) * 1) (d := (some (path 12 22))) (by kernel_rfl) (by kernel_rfl) (by kernel_rfl) b4 (by omega)) (σ' := [(0, s0 3 o2.length), (1, s0 1 lh1_1.length), (6, ii (List.getD o2 (Int.toNat x11_5) 0)), (9, s0 3 o2.length), (10, ii x10_5), (11, ii x11_5), (22, pp 1 ((Int.toNat x11_5) * 1))]) (by kernel_rfl) ?_
            refine XR.rd E0_ok [0, 1, 6, 9, 10, 11, 23] rfl (v := ii (List.getD lh1_1 (Int.toNat x11_5) 0)) (v_load1 (encI_ok .i64) (x := (src 36 (.tmp 22))) (b := 1) (off := (Int.toNat x11_5) * 1) (xs := lh1_1) (fz := 0) (e := 3) (es := 1) (d := (some (path 12 23))) (by kernel_rfl) (by kernel_rfl) (by kernel_rfl) (Int.toNat x11_5) 0 0 (by first | rfl | omega) (row_len (inRow_toNat b4) (by simp)) rfl rfl) (σ' := [(0, s0 3 o2.length), (1, s0 1 lh1_1.length), (6, ii (List.getD o2 (Int.toNat x11_5) 0)), (9, s0 3 o2.length), (10, ii x10_5), (11, ii x11_5), (23, ii (List.getD lh1_1 (Int.toNat x11_5) 0))]) (by kernel_rfl) ?_
            refine XR.runS E0_ok 1 1 [(0, s0 3 o2.length), (1, s0 1 lh1_1.length), (6, ii (List.getD o2 (Int.toNat x11_5) 0)), (7, ii (List.getD lh1_1 (Int.toNat x11_5) 0)), (9, s0 3 o2.length), (10, ii x10_5), (11, ii x11_5)] rfl (by kernel_rfl) ?_
            refine XR.done (by kernel_rfl) ?_
            show XQ _ _ _ _ _ _ _ _
            refine XQ.seq E0_ok (by kernel_rfl) ?_
            refine XQ.region (by kernel_rfl) ?_
            refine XR.runS E0_ok 1 2 [(0, s0 3 o2.length), (1, s0 1 lh1_1.length), (9, s0 3 o2.length), (10, ii x10_5), (11, ii x11_5), (24, ii (List.getD o2 (Int.toNat x11_5) 0)), (25, ii (List.getD lh1_1 (Int.toNat x11_5) 0))] rfl (by kernel_rfl) ?_
            refine XR.callK E0_ok [0, 1, 9, 10, 11, 26] rfl (K := 86) (args := [ii (List.getD o2 (Int.toNat x11_5) 0), ii (List.getD lh1_1 (Int.toNat x11_5) 0)]) (d := (some (path 12 26))) (by kernel_rfl) ?_
            refine KC.bodyN E0_ok (F := Proofs.Try.f86) (by kernel_rfl) (code := f14_C86) (by kernel_rfl) (nt := 20) (by kernel_rfl) (rs := [.tmp 4]) (by kernel_rfl) (by kernel_rfl) (σ := [(0, ii (List.getD o2 (Int.toNat x11_5) 0)), (1, ii (List.getD lh1_1 (Int.toNat x11_5) 0))]) (by kernel_rfl) ?_
            refine XQ.seq E0_ok (by kernel_rfl) ?_
            refine XQ.region (by kernel_rfl) ?_
            refine XR.runS E0_ok 1 1 [(0, ii (List.getD o2 (Int.toNat x11_5) 0)), (1, ii (List.getD lh1_1 (Int.toNat x11_5) 0))] rfl (by kernel_rfl) ?_
            refine XR.done (by kernel_rfl) ?_
            show XQ _ _ _ _ _ _ _ _
            refine XQ.seq E0_ok (by kernel_rfl) ?_
            refine XQ.region (by kernel_rfl) ?_
            refine XR.runS E0_ok 1 1 [(0, ii (List.getD o2 (Int.toNat x11_5) 0)), (1, ii (List.getD lh1_1 (Int.toNat x11_5) 0)), (7, ii (List.getD o2 (Int.toNat x11_5) 0))] rfl (by kernel_rfl) ?_
            refine XR.callK E0_ok [0, 1, 8] rfl (K := 96) (args := [ii (List.getD o2 (Int.toNat x11_5) 0)]) (d := (some (path 12 8))) (by kernel_rfl) ?_
            refine KC.bodyN E0_ok (F := Proofs.Try.f96) (by kernel_rfl) (code := f14_C96) (by kernel_rfl) (nt := 6) (by kernel_rfl) (rs := [.tmp 2]) (by kernel_rfl) (by kernel_rfl) (σ := [(0, ii (List.getD o2 (Int.toNat x11_5) 0))]) (by kernel_rfl) ?_
            refine XQ.seq E0_ok (by kernel_rfl) ?_
            refine XQ.region (by kernel_rfl) ?_
            refine XR.runS E0_ok 1 1 [(0, ii (List.getD o2 (Int.toNat x11_5) 0))] rfl (by kernel_rfl) ?_
            refine XR.done (by kernel_rfl) ?_
            show XQ _ _ _ _ _ _ _ _
            refine XQ.seq E0_ok (by kernel_rfl) ?_
            refine XQ.region (by kernel_rfl) ?_
            refine XR.runS E0_ok 1 4 [(2, .bool ((List.getD o2 (Int.toNat x11_5) 0) != (List.getD o2 (Int.toNat x11_5) 0)))] rfl (by kernel_rfl) ?_
            refine XR.done (by kernel_rfl) ?_
            show XQ _ _ _ _ _ _ _ _
            refine XQ.ret (by kernel_rfl) ?_
            refine ⟨fun i q => (by cases q), .bool ((List.getD o2 (Int.toNat x11_5) 0) != (List.getD o2 (Int.toNat x11_5) 0)), (by kernel_rfl), ?_⟩
            refine XR.conv (σ' := [(0, ii (List.getD o2 (Int.toNat x11_5) 0)), (1, ii (List.getD lh1_1 (Int.toNat x11_5) 0)), (8, .bool ((List.getD o2 (Int.toNat x11_5) 0) != (List.getD o2 (Int.toNat x11_5) 0)))]) (h' := [(3, rc (encI .i64) o2 0 3 1), (2, rc (encI .i64) [] 0 3 1), (1, rc (encI .i64) lh1_1 0 3 1), (0, rc encP lh0_1 0 61 2)]) (c' := 4) ?_ (by kernel_rfl)
            refine XR.runS E0_ok 1 1 [(0, ii (List.getD o2 (Int.toNat x11_5) 0)), (1, ii (List.getD lh1_1 (Int.toNat x11_5) 0)), (5, .bool ((List.getD o2 (Int.toNat x11_5) 0) != (List.getD o2 (Int.toNat x11_5) 0)))] rfl (by kernel_rfl) ?_
            refine XR.done (by kernel_rfl) ?_
            show XQ _ _ _ _ _ _ _ _
            refine XQ.seq E0_ok (by kernel_rfl) ?_
            refine XQ.region (by kernel_rfl) ?_
            refine XR.runS E0_ok 1 1 [(0, ii (List.getD o2 (Int.toNat x11_5) 0)), (1, ii (List.getD lh1_1 (Int.toNat x11_5) 0)), (5, .bool ((List.getD o2 (Int.toNat x11_5) 0) != (List.getD o2 (Int.toNat x11_5) 0))), (9, ii (List.getD lh1_1 (Int.toNat x11_5) 0))] rfl (by kernel_rfl) ?_
            refine XR.callK E0_ok [0, 1, 5, 10] rfl (K := 96) (args := [ii (List.getD lh1_1 (Int.toNat x11_5) 0)]) (d := (some (path 12 10))) (by kernel_rfl) ?_
            refine KC.bodyN E0_ok (F := Proofs.Try.f96) (by kernel_rfl) (code := f14_C96) (by kernel_rfl) (nt := 6) (by kernel_rfl) (rs := [.tmp 2]) (by kernel_rfl) (by kernel_rfl) (σ := [(0, ii (List.getD lh1_1 (Int.toNat x11_5) 0))]) (by kernel_rfl) ?_
            refine XQ.seq E0_ok (by kernel_rfl) ?_
            refine XQ.region (by kernel_rfl) ?_
            refine XR.runS E0_ok 1 1 [(0, ii (List.getD lh1_1 (Int.toNat x11_5) 0))] rfl (by kernel_rfl) ?_
            refine XR.done (by kernel_rfl) ?_
            show XQ _ _ _ _ _ _ _ _
            refine XQ.seq E0_ok (by kernel_rfl) ?_
            refine XQ.region (by kernel_rfl) ?_
            refine XR.runS E0_ok 1 4 [(2, .bool ((List.getD lh1_1 (Int.toNat x11_5) 0) != (List.getD lh1_1 (Int.toNat x11_5) 0)))] rfl (by kernel_rfl) ?_
            refine XR.done (by kernel_rfl) ?_
            show XQ _ _ _ _ _ _ _ _
            refine XQ.ret (by kernel_rfl) ?_
            refine ⟨fun i q => (by cases q), .bool ((List.getD lh1_1 (Int.toNat x11_5) 0) != (List.getD lh1_1 (Int.toNat x11_5) 0)), (by kernel_rfl), ?_⟩
            refine XR.conv (σ' := [(0, ii (List.getD o2 (Int.toNat x11_5) 0)), (1, ii (List.getD lh1_1 (Int.toNat x11_5) 0)), (5, .bool ((List.getD o2 (Int.toNat x11_5) 0) != (List.getD o2 (Int.toNat x11_5) 0))), (10, .bool ((List.getD lh1_1 (Int.toNat x11_5) 0) != (List.getD lh1_1 (Int.toNat x11_5) 0)))]) (h' := [(3, rc (encI .i64) o2 0 3 1), (2, rc (encI .i64) [] 0 3 1), (1, rc (encI .i64) lh1_1 0 3 1), (0, rc encP lh0_1 0 61 2)]) (c' := 4) ?_ (by kernel_rfl)
            refine XR.runS E0_ok 1 1 [(0, ii (List.getD o2 (Int.toNat x11_5) 0)), (1, ii (List.getD lh1_1 (Int.toNat x11_5) 0)), (5, .bool ((List.getD o2 (Int.toNat x11_5) 0) != (List.getD o2 (Int.toNat x11_5) 0))), (6, .bool ((List.getD lh1_1 (Int.toNat x11_5) 0) != (List.getD lh1_1 (Int.toNat x11_5) 0)))] rfl (by kernel_rfl) ?_
            refine XR.done (by kernel_rfl) ?_
            show XQ _ _ _ _ _ _ _ _
            refine XQ.seq E0_ok (by kernel_rfl) ?_
            refine XQ.seq E0_ok (by kernel_rfl) ?_
            refine XQ.region (by kernel_rfl) ?_
            refine XR.runS E0_ok 1 1 [(0, ii (List.getD o2 (Int.toNat x11_5) 0)), (1, ii (List.getD lh1_1 (Int.toNat x11_5) 0)), (6, .bool ((List.getD lh1_1 (Int.toNat x11_5) 0) != (List.getD lh1_1 (Int.toNat x11_5) 0))), (11, .bool ((List.getD o2 (Int.toNat x11_5) 0) != (List.getD o2 (Int.toNat x11_5) 0)))] rfl (by kernel_rfl) ?_
            refine XR.done (by kernel_rfl) ?_
            show XQ _ _ _ _ _ _ _ _
            cases b5 : ((List.getD o2 (Int.toNat x11_5) 0) != (List.getD o2 (Int.toNat x11_5) 0) : Bool) with
            | true =>
              have h := cT b5 h
              refine XQ.cond (s := (.tmp 11)) (b := true) (by kernel_rfl) (by kernel_rfl) (fun _ => ?_) (fun q => by cases q)
              refine XQ.seq E0_ok (by kernel_rfl) ?_
              refine XQ.seq E0_ok (by kernel_rfl) ?_
              refine XQ.region (by kernel_rfl) ?_
              refine XR.runS E0_ok 1 1 [(12, .bool ((List.getD lh1_1 (Int.toNat x11_5) 0) != (List.getD lh1_1 (Int.toNat x11_5) 0)))] rfl (by kernel_rfl) ?_
              refine XR.done (by kernel_rfl) ?_
              show XQ _ _ _ _ _ _ _ _
              cases b6 : ((List.getD lh1_1 (Int.toNat x11_5) 0) != (List.getD lh1_1 (Int.toNat x11_5) 0) : Bool) with
              | true =>
                have h := cT b6 h
                refine XQ.cond (s := (.tmp 12)) (b := true) (by kernel_rfl) (by kernel_rfl) (fun _ => ?_) (fun q => by cases q)
                refine XQ.seq E0_ok (by kernel_rfl) ?_
                refine XQ.region (by kernel_rfl) ?_
                refine XR.runS E0_ok 1 1 [(4, ii 0)] rfl (by kernel_rfl) ?_
                refine XR.done (by kernel_rfl) ?_
                show XQ _ _ _ _ _ _ _ _
                refine XQ.ret (by kernel_rfl) ?_
                refine ⟨fun i q => (by cases q), ii 0, (by kernel_rfl), ?_⟩
                refine XR.conv (σ' := [(0, s0 3 o2.length), (1, s0 1 lh1_1.length), (9, s0 3 o2.length), (10, ii x10_5), (11, ii x11_5), (26, ii 0)]) (h' := [(3, rc (encI .i64) o2 0 3 1), (2, rc (encI .i64) [] 0 3 1), (1, rc (encI .i64) lh1_1 0 3 1), (0, rc encP lh0_1 0 61 2)]) (c' := 4) ?_ (by kernel_rfl)
                refine XR.runS E0_ok 1 1 [(0, s0 3 o2.length), (1, s0 1 lh1_1.length), (8, ii 0), (9, s0 3 o2.length), (10, ii x10_5), (11, ii x11_5)] rfl (by kernel_rfl) ?_
                refine XR.done (by kernel_rfl) ?_
                show XQ _ _ _ _ _ _ _ _
                refine XQ.seq E0_ok (by kernel_rfl) ?_
                refine XQ.region (by kernel_rfl) ?_
                refine XR.runS E0_ok 1 2 [(0, s0 3 o2.length), (1, s0 1 lh1_1.length), (8, ii 0), (9, s0 3 o2.length), (10, ii x10_5), (11, ii x11_5), (28, .bool false)] rfl (by kernel_rfl) ?_
                refine XR.done (by kernel_rfl) ?_
                show XQ _ _ _ _ _ _ _ _
                refine XQ.cond (s := (.tmp 28)) (b := false) (by kernel_rfl) (by kernel_rfl) (fun q => by cases q) (fun _ => ?_)
                refine XQ.skip (by kernel_rfl) ?_
                show XQ _ _ _ _ _ _ _ _
                refine XQ.region (by kernel_rfl) ?_
                refine XR.runS E0_ok 1 2 [(0, s0 3 o2.length), (1, s0 1 lh1_1.length), (9, s0 3 o2.length), (10, ii x10_5), (11, ii (w64 (x11_5 + 1)))] rfl (by kernel_rfl) ?_
                refine XR.done (by kernel_rfl) ?_
                show XL _ _ _ _ _ _ _ _ _
                refine XL.ren (σ' := [(0, s0 3 o2.length), (1, s0 1 lh1_1.length), (9, s0 3 o2.length), (10, ii x10_5), (11, ii (w64 (x11_5 + 1)))]) (h' := [(3, rc (encI .i64) o2 0 3 1), (2, rc (encI .i64) [] 0 3 1), (1, rc (encI .i64) lh1_1 0 3 1), (0, rc encP lh0_1 0 61 2)]) (c' := 4) [0, 1, 2, 3] (by decide) rfl ⟨by kernel_rfl, by kernel_rfl, by kernel_rfl, by kernel_rfl, by kernel_rfl, trivial⟩ ⟨⟨_, _, rfl, rfl, .inl ⟨rfl, rowC_scal (encI_ok .i64) _⟩⟩, ⟨_, _, rfl, rfl, .inl ⟨rfl, rowC_scal (encI_ok .i64) _⟩⟩, ⟨_, _, rfl, rfl, .inl ⟨rfl, rowC_scal (encI_ok .i64) _⟩⟩, ⟨_, _, rfl, rfl, .inl ⟨rfl, rowC_scal encP_ok _⟩⟩, trivial⟩ rfl ?_
                refine XL.conv (f14_5_ok m fuel lh0_1 lh1_1 o2 x10_5 (w64 (x11_5 + 1)) o h Q hQ) (by first | rfl | simp)
              | false =>
                have h := cF b6 h
                refine XQ.cond (s := (.tmp 12)) (b := false) (by kernel_rfl) (by kernel_rfl) (fun q => by cases q) (fun _ => ?_)
                refine XQ.skip (by kernel_rfl) ?_
                show XQ _ _ _ _ _ _ _ _
                refine XQ.seq E0_ok (by kernel_rfl) ?_
                refine XQ.region (by kernel_rfl) ?_
                refine XR.runS E0_ok 1 1 [(4, ii (-1))] rfl (by kernel_rfl) ?_
                refine XR.done (by kernel_rfl) ?_
                show XQ _ _ _ _ _ _ _ _
                refine XQ.ret (by kernel_rfl) ?_
                refine ⟨fun i q => (by cases q), ii (-1), (by kernel_rfl), ?_⟩
                refine XR.conv (σ' := [(0, s0 3 o2.length), (1, s0 1 lh1_1.length), (9, s0 3 o2.length), (10, ii x10_5), (11, ii x11_5), (26, ii (-1))]) (h' := [(3, rc (encI .i64) o2 0 3 1), (2, rc (encI .i64) [] 0 3 1), (1, rc (encI .i64) lh1_1 0 3 1), (0, rc encP lh0_1 0 61 2)]) (c' := 4) ?_ (by kernel_rfl)
                refine XR.runS E0_ok 1 1 [(0, s0 3 o2.length), (1, s0 1 lh1_1.length), (8, ii (-1)), (9, s0 3 o2.length), (10, ii x10_5), (11, ii x11_5)] rfl (by kernel_rfl) ?_
                refine XR.done (by kernel_rfl) ?_
                show XQ _ _ _ _ _ _ _ _
                refine XQ.seq E0_ok (by kernel_rfl) ?_
                refine XQ.region (by kernel_rfl) ?_
                refine XR.runS E0_ok 1 2 [(0, s0 3 o2.length), (1, s0 1 lh1_1.length), (8, ii (-1)), (9, s0 3 o2.length), (10, ii x10_5), (11, ii x11_5), (28, .bool true)] rfl (by kernel_rfl) ?_
                refine XR.done (by kernel_rfl) ?_
                show XQ _ _ _ _ _ _ _ _
                refine XQ.cond (s := (.tmp 28)) (b := true) (by kernel_rfl) (by kernel_rfl) (fun _ => ?_) (fun q => by cases q)
                refine XQ.seq E0_ok (by kernel_rfl) ?_
                refine XQ.region (by kernel_rfl) ?_
                refine XR.runS E0_ok 1 2 [(4, ii (-1))] rfl (by kernel_rfl) ?_
                refine XR.done (by kernel_rfl) ?_
                show XQ _ _ _ _ _ _ _ _
                refine XQ.ren (σ' := [(4, ii (-1))]) (h' := [(3, rc (encI .i64) o2 0 3 1), (2, rc (encI .i64) [] 0 3 1), (1, rc (encI .i64) lh1_1 0 3 1), (0, rc encP lh0_1 0 61 2)]) (c' := 4) [0, 1, 2, 3] (by decide) rfl ⟨by kernel_rfl, trivial⟩ ⟨⟨_, _, rfl, rfl, .inl ⟨rfl, rowC_scal (encI_ok .i64) _⟩⟩, ⟨_, _, rfl, rfl, .inl ⟨rfl, rowC_scal (encI_ok .i64) _⟩⟩, ⟨_, _, rfl, rfl, .inl ⟨rfl, rowC_scal (encI_ok .i64) _⟩⟩, ⟨_, _, rfl, rfl, .inl ⟨rfl, rowC_scal encP_ok _⟩⟩, trivial⟩ rfl ?_
                refine XQ.ret (by kernel_rfl) ?_
                cases h
                exact hQ
            | false =>
              have h := cF b5 h
              refine XQ.cond (s := (.tmp 11)) (b := false) (by kernel_rfl) (by kernel_rfl) (fun q => by cases q) (fun _ => ?_)
              refine XQ.skip (by kernel_rfl) ?_
              show XQ _ _ _ _ _ _ _ _
              refine XQ.seq E0_ok (by kernel_rfl) ?_
              refine XQ.seq E0_ok (by kernel_rfl) ?_
              refine XQ.region (by kernel_rfl) ?_
              refine XR.runS E0_ok 1 1 [(0, ii (List.getD o2 (Int.toNat x11_5) 0)), (1, ii (List.getD lh1_1 (Int.toNat x11_5) 0)), (13, .bool ((List.getD lh1_1 (Int.toNat x11_5) 0) != (List.getD lh1_1 (Int.toNat x11_5) 0)))] rfl (by kernel_rfl) ?_
              refine XR.done (by kernel_rfl) ?_
              show XQ _ _ _ _ _ _ _ _
              cases b7 : ((List.getD lh1_1 (Int.toNat x11_5) 0) != (List.getD lh1_1 (Int.toNat x11_5) 0) : Bool) with
              | true =>
                have h := cT b7 h
                refine XQ.cond (s := (.tmp 13)) (b := true) (by kernel_rfl) (by kernel_rfl) (fun _ => ?_) (fun q => by cases q)
                refine XQ.seq E0_ok (by kernel_rfl) ?_
                refine XQ.region (by kernel_rfl) ?_
                refine XR.runS E0_ok 1 1 [(4, ii 1)] rfl (by kernel_rfl) ?_
                refine XR.done (by kernel_rfl) ?_
                show XQ _ _ _ _ _ _ _ _
                refine XQ.ret (by kernel_rfl) ?_
                refine ⟨fun i q => (by cases q), ii 1, (by kernel_rfl), ?_⟩
                refine XR.conv (σ' := [(0, s0 3 o2.length), (1, s0 1 lh1_1.length), (9, s0 3 o2.length), (10, ii x10_5), (11, ii x11_5), (26, ii 1)]) (h' := [(3, rc (encI .i64) o2 0 3 1), (2, rc (encI .i64) [] 0 3 1), (1, rc (encI .i64) lh1_1 0 3 1), (0, rc encP lh0_1 0 61 2)]) (c' := 4) ?_ (by kernel_rfl)
                refine XR.runS E0_ok 1 1 [(0, s0 3 o2.length), (1, s0 1 lh1_1.length), (8, ii 1), (9, s0 3 o2.length), (10, ii x10_5), (11, ii x11_5)] rfl (by kernel_rfl) ?_
                refine XR.done (by kernel_rfl) ?_
                show XQ _ _ _ _ _ _ _ _
                refine XQ.seq E0_ok (by kernel_rfl) ?_
                refine XQ.region (by kernel_rfl) ?_
                refine XR.runS E0_ok 1 2 [(0, s0 3 o2.length), (1, s0 1 lh1_1.length), (8, ii 1), (9, s0 3 o2.length), (10, ii x10_5), (11, ii x11_5), (28, .bool true)] rfl (by kernel_rfl) ?_
                refine XR.done (by kernel_rfl) ?_
                show XQ _ _ _ _ _ _ _ _
                refine XQ.cond (s := (.tmp 28)) (b := true) (by kernel_rfl) (by kernel_rfl) (fun _ => ?_) (fun q => by cases q)
                refine XQ.seq E0_ok (by kernel_rfl) ?_
                refine XQ.region (by kernel_rfl) ?_
                refine XR.runS E0_ok 1 2 [(4, ii 1)] rfl (by kernel_rfl) ?_
                refine XR.done (by kernel_rfl) ?_
                show XQ _ _ _ _ _ _ _ _
                refine XQ.ren (σ' := [(4, ii 1)]) (h' := [(3, rc (encI .i64) o2 0 3 1), (2, rc (encI .i64) [] 0 3 1), (1, rc (encI .i64) lh1_1 0 3 1), (0, rc encP lh0_1 0 61 2)]) (c' := 4) [0, 1, 2, 3] (by decide) rfl ⟨by kernel_rfl, trivial⟩ ⟨⟨_, _, rfl, rfl, .inl ⟨rfl, rowC_scal (encI_ok .i64) _⟩⟩, ⟨_, _, rfl, rfl, .inl ⟨rfl, rowC_scal (encI_ok .i64) _⟩⟩, ⟨_, _, rfl, rfl, .inl ⟨rfl, rowC_scal (encI_ok .i64) _⟩⟩, ⟨_, _, rfl, rfl, .inl ⟨rfl, rowC_scal encP_ok _⟩⟩, trivial⟩ rfl ?_
                refine XQ.ret (by kernel_rfl) ?_
                cases h
                exact hQ
              | false =>
                have h := cF b7 h
                refine XQ.cond (s := (.tmp 13)) (b := false) (by kernel_rfl) (by kernel_rfl) (fun q => by cases q) (fun _ => ?_)
                refine XQ.skip (by kernel_rfl) ?_
                show XQ _ _ _ _ _ _ _ _
                refine XQ.seq E0_ok (by kernel_rfl) ?_
                refine XQ.seq E0_ok (by kernel_rfl) ?_
                refine XQ.region (by kernel_rfl) ?_
                refine XR.runS E0_ok 1 3 [(0, ii (List.getD o2 (Int.toNat x11_5) 0)), (1, ii (List.getD lh1_1 (Int.toNat x11_5) 0)), (16, .bool (decide ((List.getD o2 (Int.toNat x11_5) 0) < (List.getD lh1_1 (Int.toNat x11_5) 0))))] rfl (by kernel_rfl) ?_
                refine XR.done (by kernel_rfl) ?_
                show XQ _ _ _ _ _ _ _ _
                cases b8 : (decide ((List.getD o2 (Int.toNat x11_5) 0) < (List.getD lh1_1 (Int.toNat x11_5) 0)) : Bool) with
                | true =>
                  have h := cT b8 h
                  refine XQ.cond (s := (.tmp 16)) (b := true) (by kernel_rfl) (by kernel_rfl) (fun _ => ?_) (fun q => by cases q)
                  refine XQ.seq E0_ok (by kernel_rfl) ?_
                  refine XQ.region (by kernel_rfl) ?_
                  refine XR.runS E0_ok 1 1 [(4, ii (-1))] rfl (by kernel_rfl) ?_
                  refine XR.done (by kernel_rfl) ?_
                  show XQ _ _ _ _ _ _ _ _
                  refine XQ.ret (by kernel_rfl) ?_
                  refine ⟨fun i q => (by cases q), ii (-1), (by kernel_rfl), ?_⟩
                  refine XR.conv (σ' := [(0, s0 3 o2.length), (1, s0 1 lh1_1.length), (9, s0 3 o2.length), (10, ii x10_5), (11, ii x11_5), (26, ii (-1))]) (h' := [(3, rc (encI .i64) o2 0 3 1), (2, rc (encI .i64) [] 0 3 1), (1, rc (encI .i64) lh1_1 0 3 1), (0, rc encP lh0_1 0 61 2)]) (c' := 4) ?_ (by kernel_rfl)
                  refine XR.runS E0_ok 1 1 [(0, s0 3 o2.length), (1, s0 1 lh1_1.length), (8, ii (-1)), (9, s0 3 o2.length), (10, ii x10_5), (11, ii x11_5)] rfl (by kernel_rfl) ?_
                  refine XR.done (by kernel_rfl) ?_
                  show XQ _ _ _ _ _ _ _ _
                  refine XQ.seq E0_ok (by kernel_rfl) ?_
                  refine XQ.region (by kernel_rfl) ?_
                  refine XR.runS E0_ok 1 2 [(0, s0 3 o2.length), (1, s0 1 lh1_1.length), (8, ii (-1)), (9, s0 3 o2.length), (10, ii x10_5), (11, ii x11_5), (28, .bool true)] rfl (by kernel_rfl) ?_
                  refine XR.done (by kernel_rfl) ?_
                  show XQ _ _ _ _ _ _ _ _
                  refine XQ.cond (s := (.tmp 28)) (b := true) (by kernel_rfl) (by kernel_rfl) (fun _ => ?_) (fun q => by cases q)
                  refine XQ.seq E0_ok (by kernel_rfl) ?_
                  refine XQ.region (by kernel_rfl) ?_
                  refine XR.runS E0_ok 1 2 [(4, ii (-1))] rfl (by kernel_rfl) ?_
                  refine XR.done (by kernel_rfl) ?_
                  show XQ _ _ _ _ _ _ _ _
                  refine XQ.ren (σ' := [(4, ii (-1))]) (h' := [(3, rc (encI .i64) o2 0 3 1), (2, rc (encI .i64) [] 0 3 1), (1, rc (encI .i64) lh1_1 0 3 1), (0, rc encP lh0_1 0 61 2)]) (c' := 4) [0, 1, 2, 3] (by decide) rfl ⟨by kernel_rfl, trivial⟩ ⟨⟨_, _, rfl, rfl, .inl ⟨rfl, rowC_scal (encI_ok .i64) _⟩⟩, ⟨_, _, rfl, rfl, .inl ⟨rfl, rowC_scal (encI_ok .i64) _⟩⟩, ⟨_, _, rfl, rfl, .inl ⟨rfl, rowC_scal (encI_ok .i64) _⟩⟩, ⟨_, _, rfl, rfl, .inl ⟨rfl, rowC_scal encP_ok _⟩⟩, trivial⟩ rfl ?_
                  refine XQ.ret (by kernel_rfl) ?_
                  cases h
                  exact hQ
                | false =>
                  have h := cF b8 h
                  refine XQ.cond (s := (.tmp 16)) (b := false) (by kernel_rfl) (by kernel_rfl) (fun q => by cases q) (fun _ => ?_)
                  refine XQ.skip (by kernel_rfl) ?_
                  show XQ _ _ _ _ _ _ _ _
                  refine XQ.seq E0_ok (by kernel_rfl) ?_
                  refine XQ.seq E0_ok (by kernel_rfl) ?_
                  refine XQ.region (by kernel_rfl) ?_
                  refine XR.runS E0_ok 1 3 [(19, .bool (decide ((List.getD o2 (Int.toNat x11_5) 0) > (List.getD lh1_1 (Int.toNat x11_5) 0))))] rfl (by kernel_rfl) ?_
                  refine XR.done (by kernel_rfl) ?_
                  show XQ _ _ _ _ _ _ _ _
                  cases b9 : (decide ((List.getD o2 (Int.toNat x11_5) 0) > (List.getD lh1_1 (Int.toNat x11_5) 0)) : Bool) with
                  | true =>
                    have h := cT b9 h
                    refine XQ.cond (s := (.tmp 19)) (b := true) (by kernel_rfl) (by kernel_rfl) (fun _ => ?_) (fun q => by cases q)
                    refine XQ.seq E0_ok (by kernel_rfl) ?_
                    refine XQ.region (by kernel_rfl) ?_
                    refine XR.runS E0_ok 1 1 [(4, ii 1)] rfl (by kernel_rfl) ?_
                    refine XR.done (by kernel_rfl) ?_
                    show XQ _ _ _ _ _ _ _ _
                    refine XQ.ret (by kernel_rfl) ?_
                    refine ⟨fun i q => (by cases q), ii 1, (by kernel_rfl), ?_⟩
                    refine XR.conv (σ' := [(0, s0 3 o2.length), (1, s0 1 lh1_1.length), (9, s0 3 o2.length), (10, ii x10_5), (11, ii x11_5), (26, ii 1)]) (h' := [(3, rc (encI .i64) o2 0 3 1), (2, rc (encI .i64) [] 0 3 1), (1, rc (encI .i64) lh1_1 0 3 1), (0, rc encP lh0_1 0 61 2)]) (c' := 4) ?_ (by kernel_rfl)
                    refine XR.runS E0_ok 1 1 [(0, s0 3 o2.length), (1, s0 1 lh1_1.length), (8, ii 1), (9, s0 3 o2.length), (10, ii x10_5), (11, ii x11_5)] rfl (by kernel_rfl) ?_
                    refine XR.done (by kernel_rfl) ?_
                    show XQ _ _ _ _ _ _ _ _
                    refine XQ.seq E0_ok (by kernel_rfl) ?_
                    refine XQ.region (by kernel_rfl) ?_
                    refine XR.runS E0_ok 1 2 [(0, s0 3 o2.length), (1, s0 1 lh1_1.length), (8, ii 1), (9, s0 3 o2.length), (10, ii x10_5), (11, ii x11_5), (28, .bool true)] rfl (by kernel_rfl) ?_
                    refine XR.done (by kernel_rfl) ?_
                    show XQ _ _ _ _ _ _ _ _
                    refine XQ.cond (s := (.tmp 28)) (b := true) (by kernel_rfl) (by kernel_rfl) (fun _ => ?_) (fun q => by cases q)
                    refine XQ.seq E0_ok (by kernel_rfl) ?_
                    refine XQ.region (by kernel_rfl) ?_
                    refine XR.runS E0_ok 1 2 [(4, ii 1)] rfl (by kernel_rfl) ?_
                    refine XR.done (by kernel_rfl) ?_
                    show XQ _ _ _ _ _ _ _ _
                    refine XQ.ren (σ' := [(4, ii 1)]) (h' := [(3, rc (encI .i64) o2 0 3 1), (2, rc (encI .i64) [] 0 3 1), (1, rc (encI .i64) lh1_1 0 3 1), (0, rc encP lh0_1 0 61 2)]) (c' := 4) [0, 1, 2, 3] (by decide) rfl ⟨by kernel_rfl, trivial⟩ ⟨⟨_, _, rfl, rfl, .inl ⟨rfl, rowC_scal (encI_ok .i64) _⟩⟩, ⟨_, _, rfl, rfl, .inl ⟨rfl, rowC_scal (encI_ok .i64) _⟩⟩, ⟨_, _, rfl, rfl, .inl ⟨rfl, rowC_scal (encI_ok .i64) _⟩⟩, ⟨_, _, rfl, rfl, .inl ⟨rfl, rowC_scal encP_ok _⟩⟩, trivial⟩ rfl ?_
                    refine XQ.ret (by kernel_rfl) ?_
                    cases h
                    exact hQ
                  | false =>
                    have h := cF b9 h
                    refine XQ.cond (s := (.tmp 19)) (b := false) (by kernel_rfl) (by kernel_rfl) (fun q => by cases q) (fun _ => ?_)
                    refine XQ.skip (by kernel_rfl) ?_
                    show XQ _ _ _ _ _ _ _ _
                    refine XQ.seq E0_ok (by kernel_rfl) ?_
                    refine XQ.region (by kernel_rfl) ?_
                    refine XR.runS E0_ok 1 1 [(4, ii 0)] rfl (by kernel_rfl) ?_
                    refine XR.done (by kernel_rfl) ?_
                    show XQ _ _ _ _ _ _ _ _
                    refine XQ.ret (by kernel_rfl) ?_
                    refine ⟨fun i q => (by cases q), ii 0, (by kernel_rfl), ?_⟩
                    refine XR.conv (σ' := [(0, s0 3 o2.length), (1, s0 1 lh1_1.length), (9, s0 3 o2.length), (10, ii x10_5), (11, ii x11_5), (26, ii 0)]) (h' := [(3, rc (encI .i64) o2 0 3 1), (2, rc (encI .i64) [] 0 3 1), (1, rc (encI .i64) lh1_1 0 3 1), (0, rc encP lh0_1 0 61 2)]) (c' := 4) ?_ (by kernel_rfl)
                    refine XR.runS E0_ok 1 1 [(0, s0 3 o2.length), (1, s0 1 lh1_1.length), (8, ii 0), (9, s0 3 o2.length), (10, ii x10_5), (11, ii x11_5)] rfl (by kernel_rfl) ?_
                    refine XR.done (by kernel_rfl) ?_
                    show XQ _ _ _ _ _ _ _ _
                    refine XQ.seq E0_ok (by kernel_rfl) ?_
                    refine XQ.region (by kernel_rfl) ?_
                    refine XR.runS E0_ok 1 2 [(0, s0 3 o2.length), (1, s0 1 lh1_1.length), (8, ii 0), (9, s0 3 o2.length), (10, ii x10_5), (11, ii x11_5), (28, .bool false)] rfl (by kernel_rfl) ?_
                    refine XR.done (by kernel_rfl) ?_
                    show XQ _ _ _ _ _ _ _ _
                    refine XQ.cond (s := (.tmp 28)) (b := false) (by kernel_rfl) (by kernel_rfl) (fun q => by cases q) (fun _ => ?_)
                    refine XQ.skip (by kernel_rfl) ?_
                    show XQ _ _ _ _ _ _ _ _
                    refine XQ.region (by kernel_rfl) ?_
                    refine XR.runS E0_ok 1 2 [(0, s0 3 o2.length), (1, s0 1 lh1_1.length), (9, s0 3 o2.length), (10, ii x10_5), (11, ii (w64 (x11_5 + 1)))] rfl (by kernel_rfl) ?_
                    refine XR.done (by kernel_rfl) ?_
                    show XL _ _ _ _ _ _ _ _ _
                    refine XL.ren (σ' := [(0, s0 3 o2.length), (1, s0 1 lh1_1.length), (9, s0 3 o2.length), (10, ii x10_5), (11, ii (w64 (x11_5 + 1)))]) (h' := [(3, rc (encI .i64) o2 0 3 1), (2, rc (encI .i64) [] 0 3 1), (1, rc (encI .i64) lh1_1 0 3 1), (0, rc encP lh0_1 0 61 2)]) (c' := 4) [0, 1, 2, 3] (by decide) rfl ⟨by kernel_rfl, by kernel_rfl, by kernel_rfl, by kernel_rfl, by kernel_rfl, trivial⟩ ⟨⟨_, _, rfl, rfl, .inl ⟨rfl, rowC_scal (encI_ok .i64) _⟩⟩, ⟨_, _, rfl, rfl, .inl ⟨rfl, rowC_scal (encI_ok .i64) _⟩⟩, ⟨_, _, rfl, rfl, .inl ⟨rfl, rowC_scal (encI_ok .i64) _⟩⟩, ⟨_, _, rfl, rfl, .inl ⟨rfl, rowC_scal encP_ok _⟩⟩, trivial⟩ rfl ?_
                    refine XL.conv (f14_5_ok m fuel lh0_1 lh1_1 o2 x10_5 (w64 (x11_5 + 1)) o h Q hQ) (by first | rfl | simp)
    | false =>
      have h := cF b1 h
      refine XQ.cond (s := (.tmp 12)) (b := false) (by kernel_rfl) (by kernel_rfl) (fun q => by cases q) (fun _ => ?_)
      refine XQ.ren (σ' := [(0, s0 3 o2.length), (1, s0 1 lh1_1.length)]) (h' := [(3, rc (encI .i64) o2 0 3 1), (2, rc (encI .i64) [] 0 3 1), (1, rc (encI .i64) lh1_1 0 3 1), (0, rc encP lh0_1 0 61 2)]) (c' := 4) [0, 1, 2, 3] (by decide) rfl ⟨by kernel_rfl, by kernel_rfl, trivial⟩ ⟨⟨_, _, rfl, rfl, .inl ⟨rfl, rowC_scal (encI_ok .i64) _⟩⟩, ⟨_, _, rfl, rfl, .inl ⟨rfl, rowC_scal (encI_ok .i64) _⟩⟩, ⟨_, _, rfl, rfl, .inl ⟨rfl, rowC_scal (encI_ok .i64) _⟩⟩, ⟨_, _, rfl, rfl, .inl ⟨rfl, rowC_scal encP_ok _⟩⟩, trivial⟩ rfl ?_
      refine XQ.exit (i := 0) (by kernel_rfl) ?_
      cases h
      exact hQ

inductive Of14_1 where
  | r
  | x0 (x8_x01 : Int) (lh0_x01 : List (Int × Int)) (lh1_x01 : List Int)

def f14_1 (m : Nat) : Nat → Int → Int → Int → List (Int × Int) → List Int → Option Of14_1
  | 0, _, _, _, _, _ => none
  | fuel + 1, b, x8_1, x31_1, lh0_1, lh1_1 =>
    cond (decide (x31_1 < 512)) (
      (f14_2 m m b x8_1 x31_1 lh0_1 lh1_1 0 []).bind fun o2 =>
        (f14_3 m m b x8_1 x31_1 lh0_1 lh1_1 o2 true ((lh0_1.length : Nat) : Int) 0).bind fun o3 =>
          cond (o3) (
            cond (decide (((o2.length : Nat) : Int) < x8_1)) (
              cond ((Int.tmod x31_1 7) == (Int.tmod (w64 b) 7)) (
                (f39 m lh0_1 o2).bind fun r15 =>
                  cond (r15 != 0) (
                    some (.r)
                  ) (
                    f14_1 m fuel b ((o2.length : Nat) : Int) (w64 (x31_1 + 1)) lh0_1 o2
                  )
              ) (
                f14_1 m fuel b ((o2.length : Nat) : Int) (w64 (x31_1 + 1)) lh0_1 o2
              )
            ) (
              cond (((o2.length : Nat) : Int) == x8_1) (
                (f14_5 m m lh0_1 lh1_1 o2 ((o2.length : Nat) : Int) 0).bind fun o5 =>
                  match o5 with
                  | .r x4_r5 =>
                    cond (decide (x4_r5 < 0)) (
                      cond ((Int.tmod x31_1 7) == (Int.tmod (w64 b) 7)) (
                        (f39 m lh0_1 o2).bind fun r16 =>
                          cond (r16 != 0) (
                            some (.r)
                          ) (
                            f14_1 m fuel b ((o2.length : Nat) : Int) (w64 (x31_1 + 1)) lh0_1 o2
                          )
                      ) (
                        f14_1 m fuel b ((o2.length : Nat) : Int) (w64 (x31_1 + 1)) lh0_1 o2
                      )
                    ) (
                      cond ((Int.tmod x31_1 7) == (Int.tmod (w64 b) 7)) (
                        (f39 m lh0_1 o2).bind fun r17 =>
                          cond (r17 != 0) (
                            some (.r)
                          ) (
                            f14_1 m fuel b x8_1 (w64 (x31_1 + 1)) lh0_1 lh1_1
                          )
                      ) (
                        f14_1 m fuel b x8_1 (w64 (x31_1 + 1)) lh0_1 lh1_1
                      )
                    )
                  | .x0 =>
                    cond (decide (((o2.length : Nat) : Int) < ((lh1_1.length : Nat) : Int))) (
                      cond ((Int.tmod x31_1 7) == (Int.tmod (w64 b) 7)) (
                        (f39 m lh0_1 o2).bind fun r18 =>
                          cond (r18 != 0) (
                            some (.r)
                          ) (
                            f14_1 m fuel b ((o2.length : Nat) : Int) (w64 (x31_1 + 1)) lh0_1 o2
                          )
                      ) (
                        f14_1 m fuel b ((o2.length : Nat) : Int) (w64 (x31_1 + 1)) lh0_1 o2
                      )
                    ) (
                      cond ((Int.tmod x31_1 7) == (Int.tmod (w64 b) 7)) (
                        (f39 m lh0_1 o2).bind fun r19 =>
                          cond (r19 != 0) (
                            some (.r)
                          ) (
                            f14_1 m fuel b x8_1 (w64 (x31_1 + 1)) lh0_1 lh1_1
                          )
                      ) (
                        f14_1 m fuel b x8_1 (w64 (x31_1 + 1)) lh0_1 lh1_1
                      )
                    )
              ) (
                cond ((Int.tmod x31_1 7) == (Int.tmod (w64 b) 7)) (
                  (f39 m lh0_1 o2).bind fun r20 =>
                    cond (r20 != 0) (
                      some (.r)
                    ) (
                      f14_1 m fuel b x8_1 (w64 (x31_1 + 1)) lh0_1 lh1_1
                    )
                ) (
                  f14_1 m fuel b x8_1 (w64 (x31_1 + 1)) lh0_1 lh1_1
                )
              )
            )
          ) (
            cond ((Int.tmod x31_1 7) == (Int.tmod (w64 b) 7)) (
              (f39 m lh0_1 o2).bind fun r21 =>
                cond (r21 != 14) (
                  some (.r)
                ) (
                  f14_1 m fuel b x8_1 (w64 (x31_1 + 1)) lh0_1 lh1_1
                )
            ) (
              f14_1 m fuel b x8_1 (w64 (x31_1 + 1)) lh0_1 lh1_1
            )
          )
    ) (
      some (.x0 x8_1 lh0_1 lh1_1)
    )

theorem f14_1_ok (m : Nat) : ∀ (fuel : Nat) (b : Int) (x8_1 : Int) (x31_1 : Int) (lh0_1 : List (Int × Int)) (lh1_1 : List Int) (o : Of14_1), f14_1 m fuel b x8_1 x31_1 lh0_1 lh1_1 = some o → ∀ Q : QP, (match o with | .r => Q .ret [(4, .bool false)] [] 0 | .x0 x8_x01 lh0_x01 lh1_x01 => Q (.exit 0) [(5, s0 0 lh0_x01.length), (6, s0 1 lh1_x01.length), (7, s0 2 0), (8, ii x8_x01), (9, ii (-1))] [(2, rc (encI .i64) [] 0 3 1), (1, rc (encI .i64) lh1_x01 0 3 1), (0, rc encP lh0_x01 0 61 2)] 3) → XL E0 212 0 fuel f14_L1 [(1, .int .u8 b), (5, s0 0 lh0_1.length), (6, s0 1 lh1_1.length), (7, s0 2 0), (8, ii x8_1), (9, ii (-1)), (31, ii x31_1)] [(2, rc (encI .i64) [] 0 3 1), (1, rc (encI .i64) lh1_1 0 3 1), (0, rc encP lh0_1 0 61 2)] 3 Q
  | 0, b, x8_1, x31_1, lh0_1, lh1_1, o, h, Q, hQ => by cases h
  | fuel + 1, b, x8_1, x31_1, lh0_1, lh1_1, o, h, Q, hQ => by
    unfold f14_1 at h
    refine XL.succ E0_ok ?_
    refine XQ.seq E0_ok (by kernel_rfl) ?_
    refine XQ.region (by kernel_rfl) ?_
    refine XR.runS E0_ok 1 1 [(1, .int .u8 b), (5, s0 0 lh0_1.length), (6, s0 1 lh1_1.length), (7, s0 2 0), (8, ii x8_1), (9, ii (-1)), (31, ii x31_1), (32, .bool (decide (x31_1 < 512)))] rfl (by kernel_rfl) ?_
    refine XR.done (by kernel_rfl) ?_
    show XQ _ _ _ _ _ _ _ _
    refine XQ.seq E0_ok (by kernel_rfl) ?_
    cases b1 : (decide (x31_1 < 512) : Bool) with
    | true =>
      have h := cT b1 h
      refine XQ.cond (s := (.tmp 32)) (b := true) (by kernel_rfl) (by kernel_rfl) (fun _ => ?_) (fun q => by cases q)
      refine XQ.skip (by kernel_rfl) ?_
      show XQ _ _ _ _ _ _ _ _
      refine XQ.seq E0_ok (by kernel_rfl) ?_
      refine XQ.block (id := 1) (by kernel_rfl) ?_
      refine XQ.seq E0_ok (by kernel_rfl) ?_
      refine XQ.region (by kernel_rfl) ?_
      refine XR.runS E0_ok 1 2 [(1, .int .u8 b), (5, s0 0 lh0_1.length), (6, s0 1 lh1_1.length), (7, s0 2 0), (8, ii x8_1), (9, ii (-1)), (10, ii x31_1), (31, ii x31_1)] rfl (by kernel_rfl) ?_
      refine XR.done (by kernel_rfl) ?_
      show XQ _ _ _ _ _ _ _ _
      refine XQ.seq E0_ok (by kernel_rfl) ?_
      refine XQ.region (by kernel_rfl) ?_
      refine XR.runS E0_ok 1 1 [(1, .int .u8 b), (5, s0 0 lh0_1.length), (6, s0 1 lh1_1.length), (7, s0 2 0), (8, ii x8_1), (9, ii (-1)), (10, ii x31_1), (11, .slice none 0 0), (31, ii x31_1)] rfl (by kernel_rfl) ?_
      refine XR.done (by kernel_rfl) ?_
      show XQ _ _ _ _ _ _ _ _
      refine XQ.ghost 3 1 rfl (σ' := [(1, .int .u8 b), (5, s0 0 lh0_1.length), (6, s0 1 lh1_1.length), (7, s0 2 0), (8, ii x8_1), (9, ii (-1)), (10, ii x31_1), (11, s0 3 0), (31, ii x31_1)]) (h' := [(2, rc (encI .i64) [] 0 3 1), (1, rc (encI .i64) lh1_1 0 3 1), (0, rc encP lh0_1 0 61 2)]) ⟨by kernel_rfl, by kernel_rfl, by kernel_rfl, by kernel_rfl, by kernel_rfl, by kernel_rfl, by kernel_rfl, by kernel_rfl, by kernel_rfl, trivial⟩ ⟨⟨_, rfl, .inl rfl⟩, ⟨_, rfl, .inl rfl⟩, ⟨_, rfl, .inl rfl⟩, trivial⟩ ?_
      refine XQ.conv (σ' := [(1, .int .u8 b), (5, s0 0 lh0_1.length), (6, s0 1 lh1_1.length), (7, s0 2 0), (8, ii x8_1), (9, ii (-1)), (10, ii x31_1), (11, s0 3 0), (31, ii x31_1)]) (h' := [(3, rc (encI .i64) [] 0 3 1), (2, rc (encI .i64) [] 0 3 1), (1, rc (encI .i64) lh1_1 0 3 1), (0, rc encP lh0_1 0 61 2)]) (c' := 4) ?_ (by kernel_rfl)
      refine XQ.seq E0_ok (by kernel_rfl) ?_
      refine XQ.seq E0_ok (by kernel_rfl) ?_
      refine XQ.region (by kernel_rfl) ?_
      refine XR.runS E0_ok 1 1 [(1, .int .u8 b), (5, s0 0 lh0_1.length), (6, s0 1 lh1_1.length), (7, s0 2 0), (8, ii x8_1), (9, ii (-1)), (10, ii x31_1), (11, s0 3 0), (31, ii x31_1), (34, ii 0)] rfl (by kernel_rfl) ?_
      refine XR.done (by kernel_rfl) ?_
      show XQ _ _ _ _ _ _ _ _
      refine XQ.block (id := 2) (by kernel_rfl) ?_
      refine XQ.loop m (by kernel_rfl) ?_
      obtain ⟨o2, o2_h, h⟩ := bS h
      refine XL.ren (σ' := [(1, .int .u8 b), (5, s0 0 lh0_1.length), (6, s0 1 lh1_1.length), (7, s0 2 0), (8, ii x8_1), (9, ii (-1)), (10, ii x31_1), (11, s0 3 0), (31, ii x31_1), (34, ii 0)]) (h' := [(3, rc (encI .i64) [] 0 3 1), (2, rc (encI .i64) [] 0 3 1), (1, rc (encI .i64) lh1_1 0 3 1), (0, rc encP lh0_1 0 61 2)]) (c' := 4) [0, 1, 2, 3] (by decide) rfl ⟨by kernel_rfl, by kernel_rfl, by kernel_rfl, by kernel_rfl, by kernel_rfl, by kernel_rfl, by kernel_rfl, by kernel_rfl, by kernel_rfl, by kernel_rfl, trivial⟩ ⟨⟨_, _, rfl, rfl, .inl ⟨rfl, rowC_scal (encI_ok .i64) _⟩⟩, ⟨_, _, rfl, rfl, .inl ⟨rfl, rowC_scal (encI_ok .i64) _⟩⟩, ⟨_, _, rfl, rfl, .inl ⟨rfl, rowC_scal (encI_ok .i64) _⟩⟩, ⟨_, _, rfl, rfl, .inl ⟨rfl, rowC_scal encP_ok _⟩⟩, trivial⟩ rfl ?_
      refine XL.conv (f14_2_ok m m b x8_1 x31_1 lh0_1 lh1_1 0 [] o2 o2_h _ ?_) (by first | rfl | simp)
      show XQ _ _ _ _ _ _ _ _
      refine XQ.seq E0_ok (by kernel_rfl) ?_
      refine XQ.region (by kernel_rfl) ?_
      refine XR.runS E0_ok 1 1 [(1, .int .u8 b), (5, s0 0 lh0_1.length), (6, s0 1 lh1_1.length), (7, s0 2 0), (8, ii x8_1), (9, ii (-1)), (10, ii x31_1), (11, s0 3 o2.length), (13, .bool true), (31, ii x31_1)] rfl (by kernel_rfl) ?_
      refine XR.done (by kernel_rfl) ?_
      show XQ _ _ _ _ _ _ _ _
      refine XQ.seq E0_ok (by kernel_rfl) ?_
      refine XQ.seq E0_ok (by kernel_rfl) ?_
      refine XQ.region (by kernel_rfl) ?_
      refine XR.runS E0_ok 1 3 [(1, .int .u8 b), (5, s0 0 lh0_1.length), (6, s0 1 lh1_1.length), (7, s0 2 0), (8, ii x8_1), (9, ii (-1)), (10, ii x31_1), (11, s0 3 o2.length), (13, .bool true), (31, ii x31_1), (47, s0 0 lh0_1.length), (48, ii ((lh0_1.length : Nat) : Int)), (49, ii 0)] rfl (by kernel_rfl) ?_
      refine XR.done (by kernel_rfl) ?_
      show XQ _ _ _ _ _ _ _ _
      refine XQ.block (id := 4) (by kernel_rfl) ?_
      refine XQ.loop m (by kernel_rfl) ?_
      obtain ⟨o3, o3_h, h⟩ := bS h
      refine XL.ren (σ' := [(1, .int .u8 b), (5, s0 0 lh0_1.length), (6, s0 1 lh1_1.length), (7, s0 2 0), (8, ii x8_1), (9, ii (-1)), (10, ii x31_1), (11, s0 3 o2.length), (13, .bool true), (31, ii x31_1), (47, s0 0 lh0_1.length), (48, ii ((lh0_1.length : Nat) : Int)), (49, ii 0)]) (h' := [(3, rc (encI .i64) o2 0 3 1), (2, rc (encI .i64) [] 0 3 1), (1, rc (encI .i64) lh1_1 0 3 1), (0, rc encP lh0_1 0 61 2)]) (c' := 4) [0, 1, 2, 3] (by decide) rfl ⟨by kernel_rfl, by kernel_rfl, by kernel_rfl, by kernel_rfl, by kernel_rfl, by kernel_rfl, by kernel_rfl, by kernel_rfl, by kernel_rfl, by kernel_rfl, by kernel_rfl, by kernel_rfl, by kernel_rfl, trivial⟩ ⟨⟨_, _, rfl, rfl, .inl ⟨rfl, rowC_scal (encI_ok .i64) _⟩⟩, ⟨_, _, rfl, rfl, .inl ⟨rfl, rowC_scal (encI_ok .i64) _⟩⟩, ⟨_, _, rfl, rfl, .inl ⟨rfl, rowC_scal (encI_ok .i64) _⟩⟩, ⟨_, _, rfl, rfl, .inl ⟨rfl, rowC_scal encP_ok _⟩⟩, trivial⟩ rfl ?_
      refine XL.conv (f14_3_ok m m b x8_1 x31_1 lh0_1 lh1_1 o2 true ((lh0_1.length : Nat) : Int) 0 o3 o3_h _ ?_) (by first | rfl | simp)
      show XQ _ _ _ _ _ _ _ _
      refine XQ.seq E0_ok (by kernel_rfl) ?_
      refine XQ.region (by kernel_rfl) ?_
      refine XR.runS E0_ok 1 1 [(1, .int .u8 b), (5, s0 0 lh0_1.length), (6, s0 1 lh1_1.length), (7, s0 2 0), (8, ii x8_1), (9, ii (-1)), (10, ii x31_1), (11, s0 3 o2.length), (13, .bool o3), (16, ii 14), (31, ii x31_1)] rfl (by kernel_rfl) ?_
      refine XR.done (by kernel_rfl) ?_
      show XQ _ _ _ _ _ _ _ _
      refine XQ.seq E0_ok (by kernel_rfl) ?_
      refine XQ.seq E0_ok (by kernel_rfl) ?_
      refine XQ.region (by kernel_rfl) ?_
      refine XR.runS E0_ok 1 1 [(1, .int .u8 b), (5, s0 0 lh0_1.length), (6, s0 1 lh1_1.length), (7, s0 2 0), (8, ii x8_1), (9, ii (-1)), (10, ii x31_1), (11, s0 3 o2.length), (16, ii 14), (31, ii x31_1), (60, .bool o3)] rfl (by kernel_rfl) ?_
      refine XR.done (by kernel_rfl) ?_
      show XQ _ _ _ _ _ _ _ _
      cases b4 : (o3 : Bool) with
      | true =>
        have h := cT b4 h
        refine XQ.cond (s := (.tmp 60)) (b := true) (by kernel_rfl) (by kernel_rfl) (fun _ => ?_) (fun q => by cases q)
        refine XQ.seq E0_ok (by kernel_rfl) ?_
        refine XQ.region (by kernel_rfl) ?_
        refine XR.runS E0_ok 1 1 [(1, .int .u8 b), (5, s0 0 lh0_1.length), (6, s0 1 lh1_1.length), (7, s0 2 0), (8, ii x8_1), (9, ii (-1)), (10, ii x31_1), (11, s0 3 o2.length), (16, ii 0), (31, ii x31_1)] rfl (by kernel_rfl) ?_
        refine XR.done (by kernel_rfl) ?_
        show XQ _ _ _ _ _ _ _ _
        refine XQ.seq E0_ok (by kernel_rfl) ?_
        refine XQ.region (by kernel_rfl) ?_
        refine XR.runS E0_ok 1 5 [(1, .int .u8 b), (5, s0 0 lh0_1.length), (6, s0 1 lh1_1.length), (7, s0 2 0), (8, ii x8_1), (9, ii (-1)), (10, ii x31_1), (11, s0 3 o2.length), (16, ii 0), (31, ii x31_1), (65, .bool (decide (((o2.length : Nat) : Int) < x8_1)))] rfl (by kernel_rfl) ?_
        cases b5 : (decide (((o2.length : Nat) : Int) < x8_1) : Bool) with
        | true =>
          have h := cT b5 h
          refine XR.runS E0_ok 1 11 [(1, .int .u8 b), (5, s0 0 lh0_1.length), (6, s0 1 lh1_1.length), (7, s0 2 0), (8, ii x8_1), (9, ii (-1)), (10, ii x31_1), (11, s0 3 o2.length), (16, ii 0), (31, ii x31_1), (76, .bool true)] rfl (by kernel_rfl) ?_
          refine XR.done (by kernel_rfl) ?_
          show XQ _ _ _ _ _ _ _ _
          refine XQ.cond (s := (.tmp 76)) (b := true) (by kernel_rfl) (by kernel_rfl) (fun _ => ?_) (fun q => by cases q)
          refine XQ.region (by kernel_rfl) ?_
          refine XR.runS E0_ok 1 5 [(1, .int .u8 b), (5, s0 0 lh0_1.length), (6, s0 3 o2.length), (7, s0 2 0), (8, ii ((o2.length : Nat) : Int)), (9, ii (-1)), (10, ii x31_1), (11, s0 3 o2.length), (16, ii 0), (31, ii x31_1)] rfl (by kernel_rfl) ?_
          refine XR.done (by kernel_rfl) ?_
          show XQ _ _ _ _ _ _ _ _
          refine XQ.seq E0_ok (by kernel_rfl) ?_
          refine XQ.region (by kernel_rfl) ?_
          refine XR.runS E0_ok 1 7 [(1, .int .u8 b), (5, s0 0 lh0_1.length), (6, s0 3 o2.length), (7, s0 2 0), (8, ii ((o2.length : Nat) : Int)), (9, ii (-1)), (11, s0 3 o2.length), (16, ii 0), (31, ii x31_1), (86, .bool ((Int.tmod x31_1 7) == (Int.tmod (w64 b) 7)))] rfl (by kernel_rfl) ?_
          cases b6 : ((Int.tmod x31_1 7) == (Int.tmod (w64 b) 7) : Bool) with
          | true =>
            have h := cT b6 h
            refine XR.runS E0_ok 1 2 [(1, .int .u8 b), (5, s0 0 lh0_1.length), (6, s0 3 o2.length), (7, s0 2 0), (8, ii ((o2.length : Nat) : Int)), (9, ii (-1)), (16, ii 0), (31, ii x31_1), (86, .bool true), (87, s0 0 lh0_1.length), (88, s0 3 o2.length)] rfl (by kernel_rfl) ?_
            obtain ⟨r15, r15_h, h⟩ := bS h
            refine XR.call E0_ok [1, 5, 6, 7, 8, 9, 16, 31, 86, 89] rfl (K := 39) (args := [s0 0 lh0_1.length, s0 3 o2.length]) (d := (some (path 12 89))) (by kernel_rfl) (KQ.call (KC.quiet E0_ok (args0 := [s0 0 lh0_1.length, s0 1 o2.length]) (h0 := [(1, rc (encI .i64) o2 (0 + ((rowC (encI .i64) o2).length + 1)) 3 1), (0, rc encP lh0_1 (0 + ((rowC encP lh0_1).length + 1)) 61 2)]) (n := 2) (V := ii r15) [0, 3] (f39_ok m (0 + ((rowC encP lh0_1).length + 1)) 61 (0 + ((rowC (encI .i64) o2).length + 1)) 3 lh0_1 o2 r15 r15_h) rfl (by rfl) (by decide) rfl (by kernel_rfl) ⟨⟨_, _, rfl, rfl, .inl ⟨rfl, rowC_scal (encI_ok .i64) _⟩⟩, ⟨_, _, rfl, rfl, .inl ⟨rfl, rowC_scal encP_ok _⟩⟩, trivial⟩) rfl) ?_
            rintro _ _ _ ⟨rfl, rfl, rfl⟩
            refine XR.conv (σ' := [(1, .int .u8 b), (5, s0 0 lh0_1.length), (6, s0 3 o2.length), (7, s0 2 0), (8, ii ((o2.length : Nat) : Int)), (9, ii (-1)), (16, ii 0), (31, ii x31_1), (86, .bool true), (89, ii r15)]) (h' := [(3, rc (encI .i64) o2 0 3 1), (2, rc (encI .i64) [] 0 3 1), (1, rc (encI .i64) lh1_1 0 3 1), (0, rc encP lh0_1 0 61 2)]) (c' := 4) ?_ (by kernel_rfl)
            refine XR.runS E0_ok 1 3 [(1, .int .u8 b), (5, s0 0 lh0_1.length), (6, s0 3 o2.length), (7, s0 2 0), (8, ii ((o2.length : Nat) : Int)), (9, ii (-1)), (31, ii x31_1), (92, .bool (r15 != 0))] rfl (by kernel_rfl) ?_
            refine XR.done (by kernel_rfl) ?_
            show XQ _ _ _ _ _ _ _ _
            cases b7 : (r15 != 0 : Bool) with
            | true =>
              have h := cT b7 h
              refine XQ.cond (s := (.tmp 92)) (b := true) (by kernel_rfl) (by kernel_rfl) (fun _ => ?_) (fun q => by cases q)
              refine XQ.seq E0_ok (by kernel_rfl) ?_
              refine XQ.region (by kernel_rfl) ?_
              refine XR.runS E0_ok 1 1 [(4, .bool false)] rfl (by kernel_rfl) ?_
              refine XR.done (by kernel_rfl) ?_
              show XQ _ _ _ _ _ _ _ _
              refine XQ.ren (σ' := [(4, .bool false)]) (h' := []) (c' := 0) [] (by decide) rfl ⟨by kernel_rfl, trivial⟩ trivial rfl ?_
              refine XQ.ret (by kernel_rfl) ?_
              cases h
              exact hQ
            | false =>
              have h := cF b7 h
              refine XQ.cond (s := (.tmp 92)) (b := false) (by kernel_rfl) (by kernel_rfl) (fun q => by cases q) (fun _ => ?_)
              refine XQ.skip (by kernel_rfl) ?_
              show XQ _ _ _ _ _ _ _ _
              refine XQ.region (by kernel_rfl) ?_
              refine XR.runS E0_ok 1 2 [(1, .int .u8 b), (5, s0 0 lh0_1.length), (6, s0 3 o2.length), (7, s0 2 0), (8, ii ((o2.length : Nat) : Int)), (9, ii (-1)), (31, ii (w64 (x31_1 + 1)))] rfl (by kernel_rfl) ?_
              refine XR.done (by kernel_rfl) ?_
              show XL _ _ _ _ _ _ _ _ _
              refine XL.ren (σ' := [(1, .int .u8 b), (5, s0 0 lh0_1.length), (6, s0 1 o2.length), (7, s0 2 0), (8, ii ((o2.length : Nat) : Int)), (9, ii (-1)), (31, ii (w64 (x31_1 + 1)))]) (h' := [(2, rc (encI .i64) [] 0 3 1), (1, rc (encI .i64) o2 0 3 1), (0, rc encP lh0_1 0 61 2)]) (c' := 3) [0, 3, 2] (by decide) rfl ⟨by kernel_rfl, by kernel_rfl, by kernel_rfl, by kernel_rfl, by kernel_rfl, by kernel_rfl, by kernel_rfl, trivial⟩ ⟨⟨_, _, rfl, rfl, .inl ⟨rfl, rowC_scal (encI_ok .i64) _⟩⟩, ⟨_, _, rfl, rfl, .inl ⟨rfl, rowC_scal (encI_ok .i64) _⟩⟩, ⟨_, _, rfl, rfl, .inl ⟨rfl, rowC_scal encP_ok _⟩⟩, trivial⟩ rfl ?_
              refine XL.conv (f14_1_ok m fuel b ((o2.length : Nat) : Int) (w64 (x31_1 + 1)) lh0_1 o2 o h Q hQ) (by first | rfl | simp)
          | false =>
            have h := cF b6 h
            refine XR.runS E0_ok 1 6 [(1, .int .u8 b), (5, s0 0 lh0_1.length), (6, s0 3 o2.length), (7, s0 2 0), (8, ii ((o2.length : Nat) : Int)), (9, ii (-1)), (31, ii x31_1), (92, .bool false)] rfl (by kernel_rfl) ?_
            refine XR.done (by kernel_rfl) ?_
            show XQ _ _ _ _ _ _ _ _
            refine XQ.cond (s := (.tmp 92)) (b := false) (by kernel_rfl) (by kernel_rfl) (fun q => by cases q) (fun _ => ?_)
            refine XQ.skip (by kernel_rfl) ?_
            show XQ _ _ _ _ _ _ _ _
            refine XQ.region (by kernel_rfl) ?_
            refine XR.runS E0_ok 1 2 [(1, .int .u8 b), (5, s0 0 lh0_1.length), (6, s0 3 o2.length), (7, s0 2 0), (8, ii ((o2.length : Nat) : Int)), (9, ii (-1)), (31, ii (w64 (x31_1 + 1)))] rfl (by kernel_rfl) ?_
            refine XR.done (by kernel_rfl) ?_
            show XL _ _ _ _ _ _ _ _ _
            refine XL.ren (σ' := [(1, .int .u8 b), (5, s0 0 lh0_1.length), (6, s0 1 o2.length), (7, s0 2 0), (8, ii ((o2.length : Nat) : Int)), (9, ii (-1)), (31, ii (w64 (x31_1 + 1)))]) (h' := [(2, rc (encI .i64) [] 0 3 1), (1, rc (encI .i64) o2 0 3 1), (0, rc encP lh0_1 0 61 2)]) (c' := 3) [0, 3, 2] (by decide) rfl ⟨by kernel_rfl, by kernel_rfl, by kernel_rfl, by kernel_rfl, by kernel_rfl, by kernel_rfl, by kernel_rfl, trivial⟩ ⟨⟨_, _, rfl, rfl, .inl ⟨rfl, rowC_scal (encI_ok .i64) _⟩⟩, ⟨_, _, rfl, rfl, .inl ⟨rfl, rowC_scal (encI_ok .i64) _⟩⟩, ⟨_, _, rfl, rfl, .inl ⟨rfl, rowC_scal encP_ok _⟩⟩, trivial⟩ rfl ?_
            refine XL.conv (f14_1_ok m fuel b ((o2.length : Nat) : Int) (w64 (x31_1 + 1)) lh0_1 o2 o h Q hQ) (by first | rfl | simp)
        | false =>
          have h := cF b5 h
          refine XR.runS E0_ok 1 5 [(1, .int .u8 b), (5, s0 0 lh0_1.length), (6, s0 1 lh1_1.length), (7, s0 2 0), (8, ii x8_1), (9, ii (-1)), (10, ii x31_1), (11, s0 3 o2.length), (16, ii 0), (31, ii x31_1), (65, .bool false), (70, .bool (((o2.length : Nat) : Int) == x8_1))] rfl (by kernel_rfl) ?_
          cases b8 : (((o2.length : Nat) : Int) == x8_1 : Bool) with
          | true =>
            have h := cT b8 h
            refine XR.runS E0_ok 1 2 [(1, .int .u8 b), (5, s0 0 lh0_1.length), (6, s0 1 lh1_1.length), (7, s0 2 0), (8, ii x8_1), (9, ii (-1)), (10, ii x31_1), (11, s0 3 o2.length), (16, ii 0), (31, ii x31_1), (65, .bool false), (70, .bool true), (71, s0 3 o2.length), (72, s0 1 lh1_1.length)] rfl (by kernel_rfl) ?_
            refine XR.callK E0_ok [1, 5, 6, 7, 8, 9, 10, 11, 16, 31, 65, 70, 73] rfl (K := 54) (args := [s0 3 o2.length, s0 1 lh1_1.length]) (d := (some (path 12 73))) (by kernel_rfl) ?_
            refine KC.bodyN E0_ok (F := Proofs.Try.f54) (by kernel_rfl) (code := f14_C54) (by kernel_rfl) (nt := 36) (by kernel_rfl) (rs := [.tmp 4]) (by kernel_rfl) (by kernel_rfl) (σ := [(0, s0 3 o2.length), (1, s0 1 lh1_1.length)]) (by kernel_rfl) ?_
            refine XQ.seq E0_ok (by kernel_rfl) ?_
            refine XQ.region (by kernel_rfl) ?_
            refine XR.runS E0_ok 1 1 [(0, s0 3 o2.length), (1, s0 1 lh1_1.length)] rfl (by kernel_rfl) ?_
            refine XR.done (by kernel_rfl) ?_
            show XQ _ _ _ _ _ _ _ _
            refine XQ.seq E0_ok (by kernel_rfl) ?_
            refine XQ.seq E0_ok (by kernel_rfl) ?_
            refine XQ.region (by kernel_rfl) ?_
            refine XR.runS E0_ok 1 3 [(0, s0 3 o2.length), (1, s0 1 lh1_1.length), (9, s0 3 o2.length), (10, ii ((o2.length : Nat) : Int)), (11, ii 0)] rfl (by kernel_rfl) ?_
            refine XR.done (by kernel_rfl) ?_
            show XQ _ _ _ _ _ _ _ _
            refine XQ.block (id := 0) (by kernel_rfl) ?_
            refine XQ.loop m (by kernel_rfl) ?_
            obtain ⟨o5, o5_h, h⟩ := bS h
            refine XL.ren (σ' := [(0, s0 3 o2.length), (1, s0 1 lh1_1.length), (9, s0 3 o2.length), (10, ii ((o2.length : Nat) : Int)), (11, ii 0)]) (h' := [(3, rc (encI .i64) o2 0 3 1), (2, rc (encI .i64) [] 0 3 1), (1, rc (encI .i64) lh1_1 0 3 1), (0, rc encP lh0_1 0 61 2)]) (c' := 4) [0, 1, 2, 3] (by decide) rfl ⟨by kernel_rfl, by kernel_rfl, by kernel_rfl, by kernel_rfl, by kernel_rfl, trivial⟩ ⟨⟨_, _, rfl, rfl, .inl ⟨rfl, rowC_scal (encI_ok .i64) _⟩⟩, ⟨_, _, rfl, rfl, .inl ⟨rfl, rowC_scal (encI_ok .i64) _⟩⟩, ⟨_, _, rfl, rfl, .inl ⟨rfl, rowC_scal (encI_ok .i64) _⟩⟩, ⟨_, _, rfl, rfl, .inl ⟨rfl, rowC_scal encP_ok _⟩⟩, trivial⟩ rfl ?_
            cases o5 with
            | r x4_r5 =>
              dsimp only at h
              refine XL.conv (f14_5_ok m m lh0_1 lh1_1 o2 ((o2.length : Nat) : Int) 0 (.r x4_r5) o5_h _ ?_) (by first | rfl | simp)
              refine ⟨fun i q => (by cases q), ii x4_r5, (by kernel_rfl), ?_⟩
              refine XR.conv (σ' := [(1, .int .u8 b), (5, s0 0 lh0_1.length), (6, s0 1 lh1_1.length), (7, s0 2 0), (8, ii x8_1), (9, ii (-1)), (10, ii x31_1), (11, s0 3 o2.length), (16, ii 0), (31, ii x31_1), (65, .bool false), (70, .bool true), (73, ii x4_r5)]) (h' := [(3, rc (encI .i64) o2 0 3 1), (2, rc (encI .i64) [] 0 3 1), (1, rc (encI .i64) lh1_1 0 3 1), (0, rc encP lh0_1 0 61 2)]) (c' := 4) ?_ (by kernel_rfl)
              refine XR.runS E0_ok 1 3 [(1, .int .u8 b), (5, s0 0 lh0_1.length), (6, s0 1 lh1_1.length), (7, s0 2 0), (8, ii x8_1), (9, ii (-1)), (10, ii x31_1), (11, s0 3 o2.length), (16, ii 0), (31, ii x31_1), (76, .bool (decide (x4_r5 < 0)))] rfl (by kernel_rfl) ?_
              refine XR.done (by kernel_rfl) ?_
              show XQ _ _ _ _ _ _ _ _
              cases b10 : (decide (x4_r5 < 0) : Bool) with
              | true =>
                have h := cT b10 h
                refine XQ.cond (s := (.tmp 76)) (b := true) (by kernel_rfl) (by kernel_rfl) (fun _ => ?_) (fun q => by cases q)
                refine XQ.region (by kernel_rfl) ?_
                refine XR.runS E0_ok 1 5 [(1, .int .u8 b), (5, s0 0 lh0_1.length), (6, s0 3 o2.length), (7, s0 2 0), (8, ii ((o2.length : Nat) : Int)), (9, ii (-1)), (10, ii x31_1), (11, s0 3 o2.length), (16, ii 0), (31, ii x31_1)] rfl (by kernel_rfl) ?_
                refine XR.done (by kernel_rfl) ?_
                show XQ _ _ _ _ _ _ _ _
                refine XQ.seq E0_ok (by kernel_rfl) ?_
                refine XQ.region (by kernel_rfl) ?_
                refine XR.runS E0_ok 1 7 [(1, .int .u8 b), (5, s0 0 lh0_1.length), (6, s0 3 o2.length), (7, s0 2 0), (8, ii ((o2.length : Nat) : Int)), (9, ii (-1)), (11, s0 3 o2.length), (16, ii 0), (31, ii x31_1), (86, .bool ((Int.tmod x31_1 7) == (Int.tmod (w64 b) 7)))] rfl (by kernel_rfl) ?_
                cases b11 : ((Int.tmod x31_1 7) == (Int.tmod (w64 b) 7) : Bool) with
                | true =>
                  have h := cT b11 h
                  refine XR.runS E0_ok 1 2 [(1, .int .u8 b), (5, s0 0 lh0_1.length), (6, s0 3 o2.length), (7, s0 2 0), (8, ii ((o2.length : Nat) : Int)), (9, ii (-1)), (16, ii 0), (31, ii x31_1), (86, .bool true), (87, s0 0 lh0_1.length), (88, s0 3 o2.length)] rfl (by kernel_rfl) ?_
                  obtain ⟨r16, r16_h, h⟩ := bS h
                  refine XR.call E0_ok [1, 5, 6, 7, 8, 9, 16, 31, 86, 89] rfl (K := 39) (args := [s0 0 lh0_1.length, s0 3 o2.length]) (d := (some (path 12 89))) (by kernel_rfl) (KQ.call (KC.quiet E0_ok (args0 := [s0 0 lh0_1.length, s0 1 o2.length]) (h0 := [(1, rc (encI .i64) o2 (0 + ((rowC (encI .i64) o2).length + 1)) 3 1), (0, rc encP lh0_1 (0 + ((rowC encP lh0_1).length + 1)) 61 2)]) (n := 2) (V := ii r16) [0, 3] (f39_ok m (0 + ((rowC encP lh0_1).length + 1)) 61 (0 + ((rowC (encI .i64) o2).length + 1)) 3 lh0_1 o2 r16 r16_h) rfl (by rfl) (by decide) rfl (by kernel_rfl) ⟨⟨_, _, rfl, rfl, .inl ⟨rfl, rowC_scal (encI_ok .i64) _⟩⟩, ⟨_, _, rfl, rfl, .inl ⟨rfl, rowC_scal encP_ok _⟩⟩, trivial⟩) rfl) ?_
                  rintro _ _ _ ⟨rfl, rfl, rfl⟩
                  refine XR.conv (σ' := [(1, .int .u8 b), (5, s0 0 lh0_1.length), (6, s0 3 o2.length), (7, s0 2 0), (8, ii ((o2.length : Nat) : Int)), (9, ii (-1)), (16, ii 0), (31, ii x31_1), (86, .bool true), (89, ii r16)]) (h' := [(3, rc (encI .i64) o2 0 3 1), (2, rc (encI .i64) [] 0 3 1), (1, rc (encI .i64) lh1_1 0 3 1), (0, rc encP lh0_1 0 61 2)]) (c' := 4) ?_ (by kernel_rfl)
                  refine XR.runS E0_ok 1 3 [(1, .int .u8 b), (5, s0 0 lh0_1.length), (6, s0 3 o2.length), (7, s0 2 0), (8, ii ((o2.length : Nat) : Int)), (9, ii (-1)), (31, ii x31_1), (92, .bool (r16 != 0))] rfl (by kernel_rfl) ?_
                  refine XR.done (by kernel_rfl) ?_
                  show XQ _ _ _ _ _ _ _ _
                  cases b12 : (r16 != 0 : Bool) with
                  | true =>
                    have h := cT b12 h
                    refine XQ.cond (s := (.tmp 92)) (b := true) (by kernel_rfl) (by kernel_rfl) (fun _ => ?_) (fun q => by cases q)
                    refine XQ.seq E0_ok (by kernel_rfl) ?_
                    refine XQ.region (by kernel_rfl) ?_
                    refine XR.runS E0_ok 1 1 [(4, .bool false)] rfl (by kernel_rfl) ?_
                    refine XR.done (by kernel_rfl) ?_
                    show XQ _ _ _ _ _ _ _ _
                    refine XQ.ren (σ' := [(4, .bool false)]) (h' := []) (c' := 0) [] (by decide) rfl ⟨by kernel_rfl, trivial⟩ trivial rfl ?_
                    refine XQ.ret (by kernel_rfl) ?_
                    cases h
                    exact hQ
                  | false =>
                    have h := cF b12 h
                    refine XQ.cond (s := (.tmp 92)) (b := false) (by kernel_rfl) (by kernel_rfl) (fun q => by cases q) (fun _ => ?_)
                    refine XQ.skip (by kernel_rfl) ?_
                    show XQ _ _ _ _ _ _ _ _
                    refine XQ.region (by kernel_rfl) ?_
                    refine XR.runS E0_ok 1 2 [(1, .int .u8 b), (5, s0 0 lh0_1.length), (6, s0 3 o2.length), (7, s0 2 0), (8, ii ((o2.length : Nat) : Int)), (9, ii (-1)), (31, ii (w64 (x31_1 + 1)))] rfl (by kernel_rfl) ?_
                    refine XR.done (by kernel_rfl) ?_
                    show XL _ _ _ _ _ _ _ _ _
                    refine XL.ren (σ' := [(1, .int .u8 b), (5, s0 0 lh0_1.length), (6, s0 1 o2.length), (7, s0 2 0), (8, ii ((o2.length : Nat) : Int)), (9, ii (-1)), (31, ii (w64 (x31_1 + 1)))]) (h' := [(2, rc (encI .i64) [] 0 3 1), (1, rc (encI .i64) o2 0 3 1), (0, rc encP lh0_1 0 61 2)]) (c' := 3) [0, 3, 2] (by decide) rfl ⟨by kernel_rfl, by kernel_rfl, by kernel_rfl, by kernel_rfl, by kernel_rfl, by kernel_rfl, by kernel_rfl, trivial⟩ ⟨⟨_, _, rfl, rfl, .inl ⟨rfl, rowC_scal (encI_ok .i64) _⟩⟩, ⟨_, _, rfl, rfl, .inl ⟨rfl, rowC_scal (encI_ok .i64) _⟩⟩, ⟨_, _, rfl, rfl, .inl ⟨rfl, rowC_scal encP_ok _⟩⟩, trivial⟩ rfl ?_
                    refine XL.conv (f14_1_ok m fuel b ((o2.length : Nat) : Int) (w64 (x31_1 + 1)) lh0_1 o2 o h Q hQ) (by first | rfl | simp)
                | false =>
                  have h := cF b11 h
                  refine XR.runS E0_ok 1 6 [(1, .int .u8 b), (5, s0 0 lh0_1.length), (6, s0 3 o2.length), (7, s0 2 0), (8, ii ((o2.length : Nat) : Int)), (9, ii (-1)), (31, ii x31_1), (92, .bool false)] rfl (by kernel_rfl) ?_
                  refine XR.done (by kernel_rfl) ?_
                  show XQ _ _ _ _ _ _ _ _
                  refine XQ.cond (s := (.tmp 92)) (b := false) (by kernel_rfl) (by kernel_rfl) (fun q => by cases q) (fun _ => ?_)
                  refine XQ.skip (by kernel_rfl) ?_
                  show XQ _ _ _ _ _ _ _ _
                  refine XQ.region (by kernel_rfl) ?_
                  refine XR.runS E0_ok 1 2 [(1, .int .u8 b), (5, s0 0 lh0_1.length), (6, s0 3 o2.length), (7, s0 2 0), (8, ii ((o2.length : Nat) : Int)), (9, ii (-1)), (31, ii (w64 (x31_1 + 1)))] rfl (by kernel_rfl) ?_
                  refine XR.done (by kernel_rfl) ?_
                  show XL _ _ _ _ _ _ _ _ _
                  refine XL.ren (σ' := [(1, .int .u8 b), (5, s0 0 lh0_1.length), (6, s0 1 o2.length), (7, s0 2 0), (8, ii ((o2.length : Nat) : Int)), (9, ii (-1)), (31, ii (w64 (x31_1 + 1)))]) (h' := [(2, rc (encI .i64) [] 0 3 1), (1, rc (encI .i64) o2 0 3 1), (0, rc encP lh0_1 0 61 2)]) (c' := 3) [0, 3, 2] (by decide) rfl ⟨by kernel_rfl, by kernel_rfl, by kernel_rfl, by kernel_rfl, by kernel_rfl, by kernel_rfl, by kernel_rfl, trivial⟩ ⟨⟨_, _, rfl, rfl, .inl ⟨rfl, rowC_scal (encI_ok .i64) _⟩⟩, ⟨_, _, rfl, rfl, .inl ⟨rfl, rowC_scal (encI_ok .i64) _⟩⟩, ⟨_, _, rfl, rfl, .inl ⟨rfl, rowC_scal encP_ok _⟩⟩, trivial⟩ rfl ?_
                  refine XL.conv (f14_1_ok m fuel b ((o2.length : Nat) : Int) (w64 (x31_1 + 1)) lh0_1 o2 o h Q hQ) (by first | rfl | simp)
              | false =>
                have h := cF b10 h
                refine XQ.cond (s := (.tmp 76)) (b := false) (by kernel_rfl) (by kernel_rfl) (fun q => by cases q) (fun _ => ?_)
                refine XQ.skip (by kernel_rfl) ?_
                show XQ _ _ _ _ _ _ _ _
                refine XQ.seq E0_ok (by kernel_rfl) ?_
                refine XQ.region (by kernel_rfl) ?_
                refine XR.runS E0_ok 1 7 [(1, .int .u8 b), (5, s0 0 lh0_1.length), (6, s0 1 lh1_1.length), (7, s0 2 0), (8, ii x8_1), (9, ii (-1)), (11, s0 3 o2.length), (16, ii 0), (31, ii x31_1), (86, .bool ((Int.tmod x31_1 7) == (Int.tmod (w64 b) 7)))] rfl (by kernel_rfl) ?_
                cases b13 : ((Int.tmod x31_1 7) == (Int.tmod (w64 b) 7) : Bool) with
                | true =>
                  have h := cT b13 h
                  refine XR.runS E0_ok 1 2 [(1, .int .u8 b), (5, s0 0 lh0_1.length), (6, s0 1 lh1_1.length), (7, s0 2 0), (8, ii x8_1), (9, ii (-1)), (16, ii 0), (31, ii x31_1), (86, .bool true), (87, s0 0 lh0_1.length), (88, s0 3 o2.length)] rfl (by kernel_rfl) ?_
                  obtain ⟨r17, r17_h, h⟩ := bS h
                  refine XR.call E0_ok [1, 5, 6, 7, 8, 9, 16, 31, 86, 89] rfl (K := 39) (args := [s0 0 lh0_1.length, s0 3 o2.length]) (d := (some (path 12 89))) (by kernel_rfl) (KQ.call (KC.quiet E0_ok (args0 := [s0 0 lh0_1.length, s0 1 o2.length]) (h0 := [(1, rc (encI .i64) o2 (0 + ((rowC (encI .i64) o2).length + 1)) 3 1), (0, rc encP lh0_1 (0 + ((rowC encP lh0_1).length + 1)) 61 2)]) (n := 2) (V := ii r17) [0, 3] (f39_ok m (0 + ((rowC encP lh0_1).length + 1)) 61 (0 + ((rowC (encI .i64) o2).length + 1)) 3 lh0_1 o2 r17 r17_h) rfl (by rfl) (by decide) rfl (by kernel_rfl) ⟨⟨_, _, rfl, rfl, .inl ⟨rfl, rowC_scal (encI_ok .i64) _⟩⟩, ⟨_, _, rfl, rfl, .inl ⟨rfl, rowC_scal encP_ok _⟩⟩, trivial⟩) rfl) ?_
                  rintro _ _ _ ⟨rfl, rfl, rfl⟩
                  refine XR.conv (σ' := [(1, .int .u8 b), (5, s0 0 lh0_1.length), (6, s0 1 lh1_1.length), (7, s0 2 0), (8, ii x8_1), (9, ii (-1)), (16, ii 0), (31, ii x31_1), (86, .bool true), (89, ii r17)]) (h' := [(3, rc (encI .i64) o2 0 3 1), (2, rc (encI .i64) [] 0 3 1), (1, rc (encI .i64) lh1_1 0 3 1), (0, rc encP lh0_1 0 61 2)]) (c' := 4) ?_ (by kernel_rfl)
                  refine XR.runS E0_ok 1 3 [(1, .int .u8 b), (5, s0 0 lh0_1.length), (6, s0 1 lh1_1.length), (7, s0 2 0), (8, ii x8_1), (9, ii (-1)), (31, ii x31_1), (92, .bool (r17 != 0))] rfl (by kernel_rfl) ?_
                  refine XR.done (by kernel_rfl) ?_
                  show XQ _ _ _ _ _ _ _ _
                  cases b14 : (r17 != 0 : Bool) with
                  | true =>
                    have h := cT b14 h
                    refine XQ.cond (s := (.tmp 92)) (b := true) (by kernel_rfl) (by kernel_rfl) (fun _ => ?_) (fun q => by cases q)
                    refine XQ.seq E0_ok (by kernel_rfl) ?_
                    refine XQ.region (by kernel_rfl) ?_
                    refine XR.runS E0_ok 1 1 [(4, .bool false)] rfl (by kernel_rfl) ?_
                    refine XR.done (by kernel_rfl) ?_
                    show XQ _ _ _ _ _ _ _ _
                    refine XQ.ren (σ' := [(4, .bool false)]) (h' := []) (c' := 0) [] (by decide) rfl ⟨by kernel_rfl, trivial⟩ trivial rfl ?_
                    refine XQ.ret (by kernel_rfl) ?_
                    cases h
                    exact hQ
                  | false =>
                    have h := cF b14 h
                    refine XQ.cond (s := (.tmp 92)) (b := false) (by kernel_rfl) (by kernel_rfl) (fun q => by cases q) (fun _ => ?_)
                    refine XQ.skip (by kernel_rfl) ?_
                    show XQ _ _ _ _ _ _ _ _
                    refine XQ.region (by kernel_rfl) ?_
                    refine XR.runS E0_ok 1 2 [(1, .int .u8 b), (5, s0 0 lh0_1.length), (6, s0 1 lh1_1.length), (7, s0 2 0), (8, ii x8_1), (9, ii (-1)), (31, ii (w64 (x31_1 + 1)))] rfl (by kernel_rfl) ?_
                    refine XR.done (by kernel_rfl) ?_
                    show XL _ _ _ _ _ _ _ _ _
                    refine XL.ren (σ' := [(1, .int .u8 b), (5, s0 0 lh0_1.length), (6, s0 1 lh1_1.length), (7, s0 2 0), (8, ii x8_1), (9, ii (-1)), (31, ii (w64 (x31_1 + 1)))]) (h' := [(2, rc (encI .i64) [] 0 3 1), (1, rc (encI .i64) lh1_1 0 3 1), (0, rc encP lh0_1 0 61 2)]) (c' := 3) [0, 1, 2] (by decide) rfl ⟨by kernel_rfl, by kernel_rfl, by kernel_rfl, by kernel_rfl, by kernel_rfl, by kernel_rfl, by kernel_rfl, trivial⟩ ⟨⟨_, _, rfl, rfl, .inl ⟨rfl, rowC_scal (encI_ok .i64) _⟩⟩, ⟨_, _, rfl, rfl, .inl ⟨rfl, rowC_scal (encI_ok .i64) _⟩⟩, ⟨_, _, rfl, rfl, .inl ⟨rfl, rowC_scal encP_ok _⟩⟩, trivial⟩ rfl ?_
                    refine XL.conv (f14_1_ok m fuel b x8_1 (w64 (x31_1 + 1)) lh0_1 lh1_1 o h Q hQ) (by first | rfl | simp)
                | false =>
                  have h := cF b13 h
                  refine XR.runS E0_ok 1 6 [(1, .int .u8 b), (5, s0 0 lh0_1.length), (6, s0 1 lh1_1.length), (7, s0 2 0), (8, ii x8_1), (9, ii (-1)), (31, ii x31_1), (92, .bool false)] rfl (by kernel_rfl) ?_
                  refine XR.done (by kernel_rfl) ?_
                  show XQ _ _ _ _ _ _ _ _
                  refine XQ.cond (s := (.tmp 92)) (b := false) (by kernel_rfl) (by kernel_rfl) (fun q => by cases q) (fun _ => ?_)
                  refine XQ.skip (by kernel_rfl) ?_
                  show XQ _ _ _ _ _ _ _ _
                  refine XQ.region (by kernel_rfl) ?_
                  refine XR.runS E0_ok 1 2 [(1, .int .u8 b), (5, s0 0 lh0_1.length), (6, s0 1 lh1_1.length), (7, s0 2 0), (8, ii x8_1), (9, ii (-1)), (31, ii (w64 (x31_1 + 1)))] rfl (by kernel_rfl) ?_
                  refine XR.done (by kernel_rfl) ?_
                  show XL _ _ _ _ _ _ _ _ _
                  refine XL.ren (σ' := [(1, .int .u8 b), (5, s0 0 lh0_1.length), (6, s0 1 lh1_1.length), (7, s0 2 0), (8, ii x8_1), (9, ii (-1)), (31, ii (w64 (x31_1 + 1)))]) (h' := [(2, rc (encI .i64) [] 0 3 1), (1, rc (encI .i64) lh1_1 0 3 1), (0, rc encP lh0_1 0 61 2)]) (c' := 3) [0, 1, 2] (by decide) rfl ⟨by kernel_rfl, by kernel_rfl, by kernel_rfl, by kernel_rfl, by kernel_rfl, by kernel_rfl, by kernel_rfl, trivial⟩ ⟨⟨_, _, rfl, rfl, .inl ⟨rfl, rowC_scal (encI_ok .i64) _⟩⟩, ⟨_, _, rfl, rfl, .inl ⟨rfl, rowC_scal (encI_ok .i64) _⟩⟩, ⟨_, _, rfl, rfl, .inl ⟨rfl, rowC_scal encP_ok _⟩⟩, trivial⟩ rfl ?_
                  refine XL.conv (f14_1_ok m fuel b x8_1 (w64 (x31_1 + 1)) lh0_1 lh1_1 o h Q hQ) (by first | rfl | simp)
            | x0 =>
              dsimp only at h
              refine XL.conv (f14_5_ok m m lh0_1 lh1_1 o2 ((o2.length : Nat) : Int) 0 (.x0) o5_h _ ?_) (by first | rfl | simp)
              show XQ _ _ _ _ _ _ _ _
              refine XQ.seq E0_ok (by kernel_rfl) ?_
              refine XQ.seq E0_ok (by kernel_rfl) ?_
              refine XQ.region (by kernel_rfl) ?_
              refine XR.runS E0_ok 1 5 [(35, .bool (decide (((o2.length : Nat) : Int) < ((lh1_1.length : Nat) : Int))))] rfl (by kernel_rfl) ?_
              refine XR.done (by kernel_rfl) ?_
              show XQ _ _ _ _ _ _ _ _
              cases b15 : (decide (((o2.length : Nat) : Int) < ((lh1_1.length : Nat) : Int)) : Bool) with
              | true =>
                have h := cT b15 h
                refine XQ.cond (s := (.tmp 35)) (b := true) (by kernel_rfl) (by kernel_rfl) (fun _ => ?_) (fun q => by cases q)
                refine XQ.seq E0_ok (by kernel_rfl) ?_
                refine XQ.region (by kernel_rfl) ?_
                refine XR.runS E0_ok 1 1 [(4, ii (-1))] rfl (by kernel_rfl) ?_
                refine XR.done (by kernel_rfl) ?_
                show XQ _ _ _ _ _ _ _ _
                refine XQ.ret (by kernel_rfl) ?_
                refine ⟨fun i q => (by cases q), ii (-1), (by kernel_rfl), ?_⟩
                refine XR.conv (σ' := [(1, .int .u8 b), (5, s0 0 lh0_1.length), (6, s0 1 lh1_1.length), (7, s0 2 0), (8, ii x8_1), (9, ii (-1)), (10, ii x31_1), (11, s0 3 o2.length), (16, ii 0), (31, ii x31_1), (65, .bool false), (70, .bool true), (73, ii (-1))]) (h' := [(3, rc (encI .i64) o2 0 3 1), (2, rc (encI .i64) [] 0 3 1), (1, rc (encI .i64) lh1_1 0 3 1), (0, rc encP lh0_1 0 61 2)]) (c' := 4) ?_ (by kernel_rfl)
                refine XR.runS E0_ok 1 3 [(1, .int .u8 b), (5, s0 0 lh0_1.length), (6, s0 1 lh1_1.length), (7, s0 2 0), (8, ii x8_1), (9, ii (-1)), (10, ii x31_1), (11, s0 3 o2.length), (16, ii 0), (31, ii x31_1), (76, .bool true)] rfl (by kernel_rfl) ?_
                refine XR.done (by kernel_rfl) ?_
                show XQ _ _ _ _ _ _ _ _
                refine XQ.cond (s := (.tmp 76)) (b := true) (by kernel_rfl) (by kernel_rfl) (fun _ => ?_) (fun q => by cases q)
                refine XQ.region (by kernel_rfl) ?_
                refine XR.runS E0_ok 1 5 [(1, .int .u8 b), (5, s0 0 lh0_1.length), (6, s0 3 o2.length), (7, s0 2 0), (8, ii ((o2.length : Nat) : Int)), (9, ii (-1)), (10, ii x31_1), (11, s0 3 o2.length), (16, ii 0), (31, ii x31_1)] rfl (by kernel_rfl) ?_
                refine XR.done (by kernel_rfl) ?_
                show XQ _ _ _ _ _ _ _ _
                refine XQ.seq E0_ok (by kernel_rfl) ?_
                refine XQ.region (by kernel_rfl) ?_
                refine XR.runS E0_ok 1 7 [(1, .int .u8 b), (5, s0 0 lh0_1.length), (6, s0 3 o2.length), (7, s0 2 0), (8, ii ((o2.length : Nat) : Int)), (9, ii (-1)), (11, s0 3 o2.length), (16, ii 0), (31, ii x31_1), (86, .bool ((Int.tmod x31_1 7) == (Int.tmod (w64 b) 7)))] rfl (by kernel_rfl) ?_
                cases b16 : ((Int.tmod x31_1 7) == (Int.tmod (w64 b) 7) : Bool) with
                | true =>
                  have h := cT b16 h
                  refine XR.runS E0_ok 1 2 [(1, .int .u8 b), (5, s0 0 lh0_1.length), (6, s0 3 o2.length), (7, s0 2 0), (8, ii ((o2.length : Nat) : Int)), (9, ii (-1)), (16, ii 0), (31, ii x31_1), (86, .bool true), (87, s0 0 lh0_1.length), (88, s0 3 o2.length)] rfl (by kernel_rfl) ?_
                  obtain ⟨r18, r18_h, h⟩ := bS h
                  refine XR.call E0_ok [1, 5, 6, 7, 8, 9, 16, 31, 86, 89] rfl (K := 39) (args := [s0 0 lh0_1.length, s0 3 o2.length]) (d := (some (path 12 89))) (by kernel_rfl) (KQ.call (KC.quiet E0_ok (args0 := [s0 0 lh0_1.length, s0 1 o2.length]) (h0 := [(1, rc (encI .i64) o2 (0 + ((rowC (encI .i64) o2).length + 1)) 3 1), (0, rc encP lh0_1 (0 + ((rowC encP lh0_1).length + 1)) 61 2)]) (n := 2) (V := ii r18) [0, 3] (f39_ok m (0 + ((rowC encP lh0_1).length + 1)) 61 (0 + ((rowC (encI .i64) o2).length + 1)) 3 lh0_1 o2 r18 r18_h) rfl (by rfl) (by decide) rfl (by kernel_rfl) ⟨⟨_, _, rfl, rfl, .inl ⟨rfl, rowC_scal (encI_ok .i64) _⟩⟩, ⟨_, _, rfl, rfl, .inl ⟨rfl, rowC_scal encP_ok _⟩⟩, trivial⟩) rfl) ?_
                  rintro _ _ _ ⟨rfl, rfl, rfl⟩
                  refine XR.conv (σ' := [(1, .int .u8 b), (5, s0 0 lh0_1.length), (6, s0 3 o2.length), (7, s0 2 0), (8, ii ((o2.length : Nat) : Int)), (9, ii (-1)), (16, ii 0), (31, ii x31_1), (86, .bool true), (89, ii r18)]) (h' := [(3, rc (encI .i64) o2 0 3 1), (2, rc (encI .i64) [] 0 3 1), (1, rc (encI .i64) lh1_1 0 3 1), (0, rc encP lh0_1 0 61 2)]) (c' := 4) ?_ (by kernel_rfl)
                  refine XR.runS E0_ok 1 3 [(1, .int .u8 b), (5, s0 0 lh0_1.length), (6, s0 3 o2.length), (7, s0 2 0), (8, ii ((o2.length : Nat) : Int)), (9, ii (-1)), (31, ii x31_1), (92, .bool (r18 != 0))] rfl (by kernel_rfl) ?_
                  refine XR.done (by kernel_rfl) ?_
                  show XQ _ _ _ _ _ _ _ _
                  cases b17 : (r18 != 0 : Bool) with
                  | true =>
                    have h := cT b17 h
                    refine XQ.cond (s := (.tmp 92)) (b := true) (by kernel_rfl) (by kernel_rfl) (fun _ => ?_) (fun q => by cases q)
                    refine XQ.seq E0_ok (by kernel_rfl) ?_
                    refine XQ.region (by kernel_rfl) ?_
                    refine XR.runS E0_ok 1 1 [(4, .bool false)] rfl (by kernel_rfl) ?_
                    refine XR.done (by kernel_rfl) ?_
                    show XQ _ _ _ _ _ _ _ _
                    refine XQ.ren (σ' := [(4, .bool false)]) (h' := []) (c' := 0) [] (by decide) rfl ⟨by kernel_rfl, trivial⟩ trivial rfl ?_
                    refine XQ.ret (by kernel_rfl) ?_
                    cases h
                    exact hQ
                  | false =>
                    have h := cF b17 h
                    refine XQ.cond (s := (.tmp 92)) (b := false) (by kernel_rfl) (by kernel_rfl) (fun q => by cases q) (fun _ => ?_)
                    refine XQ.skip (by kernel_rfl) ?_
                    show XQ _ _ _ _ _ _ _ _
                    refine XQ.region (by kernel_rfl) ?_
                    refine XR.runS E0_ok 1 2 [(1, .int .u8 b), (5, s0 0 lh0_1.length), (6, s0 3 o2.length), (7, s0 2 0), (8, ii ((o2.length : Nat) : Int)), (9, ii (-1)), (31, ii (w64 (x31_1 + 1)))] rfl (by kernel_rfl) ?_
                    refine XR.done (by kernel_rfl) ?_
                    show XL _ _ _ _ _ _ _ _ _
                    refine XL.ren (σ' := [(1, .int .u8 b), (5, s0 0 lh0_1.length), (6, s0 1 o2.length), (7, s0 2 0), (8, ii ((o2.length : Nat) : Int)), (9, ii (-1)), (31, ii (w64 (x31_1 + 1)))]) (h' := [(2, rc (encI .i64) [] 0 3 1), (1, rc (encI .i64) o2 0 3 1), (0, rc encP lh0_1 0 61 2)]) (c' := 3) [0, 3, 2] (by decide) rfl ⟨by kernel_rfl, by kernel_rfl, by kernel_rfl, by kernel_rfl, by kernel_rfl, by kernel_rfl, by kernel_rfl, trivial⟩ ⟨⟨_, _, rfl, rfl, .inl ⟨rfl, rowC_scal (encI_ok .i64) _⟩⟩, ⟨_, _, rfl, rfl, .inl ⟨rfl, rowC_scal (encI_ok .i64) _⟩⟩, ⟨_, _, rfl, rfl, .inl ⟨rfl, rowC_scal encP_ok _⟩⟩, trivial⟩ rfl ?_
                    refine XL.conv (f14_1_ok m fuel b ((o2.length : Nat) : Int) (w64 (x31_1 + 1)) lh0_1 o2 o h Q hQ) (by first | rfl | simp)
                | false =>
                  have h := cF b16 h
                  refine XR.runS E0_ok 1 6 [(1, .int .u8 b), (5, s0 0 lh0_1.length), (6, s0 3 o2.length), (7, s0 2 0), (8, ii ((o2.length : Nat) : Int)), (9, ii (-1)), (31, ii x31_1), (92, .bool false)] rfl (by kernel_rfl) ?_
                  refine XR.done (by kernel_rfl) ?_
                  show XQ _ _ _ _ _ _ _ _
                  refine XQ.cond (s := (.tmp 92)) (b := false) (by kernel_rfl) (by kernel_rfl) (fun q => by cases q) (fun _ => ?_)
                  refine XQ.skip (by kernel_rfl) ?_
                  show XQ _ _ _ _ _ _ _ _
                  refine XQ.region (by kernel_rfl) ?_
                  refine XR.runS E0_ok 1 2 [(1, .int .u8 b), (5, s0 0 lh0_1.length), (6, s0 3 o2.length), (7, s0 2 0), (8, ii ((o2.length : Nat) : Int)), (9, ii (-1)), (31, ii (w64 (x31_1 + 1)))] rfl (by kernel_rfl) ?_
                  refine XR.done (by kernel_rfl) ?_
                  show XL _ _ _ _ _ _ _ _ _
                  refine XL.ren (σ' := [(1, .int .u8 b), (5, s0 0 lh0_1.length), (6, s0 1 o2.length), (7, s0 2 0), (8, ii ((o2.length : Nat) : Int)), (9, ii (-1)), (31, ii (w64 (x31_1 + 1)))]) (h' := [(2, rc (encI .i64) [] 0 3 1), (1, rc (encI .i64) o2 0 3 1), (0, rc encP lh0_1 0 61 2)]) (c' := 3) [0, 3, 2] (by decide) rfl ⟨by kernel_rfl, by kernel_rfl, by kernel_rfl, by kernel_rfl, by kernel_rfl, by kernel_rfl, by kernel_rfl, trivial⟩ ⟨⟨_, _, rfl, rfl, .inl ⟨rfl, rowC_scal (encI_ok .i64) _⟩⟩, ⟨_, _, rfl, rfl, .inl ⟨rfl, rowC_scal (encI_ok .i64) _⟩⟩, ⟨_, _, rfl, rfl, .inl ⟨rfl, rowC_scal encP_ok _⟩⟩, trivial⟩ rfl ?_
                  refine XL.conv (f14_1_ok m fuel b ((o2.length : Nat) : Int) (w64 (x31_1 + 1)) lh0_1 o2 o h Q hQ) (by first | rfl | simp)
              | false =>
                have h := cF b15 h
                refine XQ.cond (s := (.tmp 35)) (b := false) (by kernel_rfl) (by kernel_rfl) (fun q => by cases q) (fun _ => ?_)
                refine XQ.skip (by kernel_rfl) ?_
                show XQ _ _ _ _ _ _ _ _
                refine XQ.seq E0_ok (by kernel_rfl) ?_
                refine XQ.region (by kernel_rfl) ?_
                refine XR.runS E0_ok 1 1 [(4, ii 0)] rfl (by kernel_rfl) ?_
                refine XR.done (by kernel_rfl) ?_
                show XQ _ _ _ _ _ _ _ _
                refine XQ.ret (by kernel_rfl) ?_
                refine ⟨fun i q => (by cases q), ii 0, (by kernel_rfl), ?_⟩
                refine XR.conv (σ' := [(1, .int .u8 b), (5, s0 0 lh0_1.length), (6, s0 1 lh1_1.length), (7, s0 2 0), (8, ii x8_1), (9, ii (-1)), (10, ii x31_1), (11, s0 3 o2.length), (16, ii 0), (31, ii x31_1), (65, .bool false), (70, .bool true), (73, ii 0)]) (h' := [(3, rc (encI .i64) o2 0 3 1), (2, rc (encI .i64) [] 0 3 1), (1, rc (encI .i64) lh1_1 0 3 1), (0, rc encP lh0_1 0 61 2)]) (c' := 4) ?_ (by kernel_rfl)
                refine XR.runS E0_ok 1 3 [(1, .int .u8 b), (5, s0 0 lh0_1.length), (6, s0 1 lh1_1.length), (7, s0 2 0), (8, ii x8_1), (9, ii (-1)), (10, ii x31_1), (11, s0 3 o2.length), (16, ii 0), (31, ii x31_1), (76, .bool false)] rfl (by kernel_rfl) ?_
                refine XR.done (by kernel_rfl) ?_
                show XQ _ _ _ _ _ _ _ _
                refine XQ.cond (s := (.tmp 76)) (b := false) (by kernel_rfl) (by kernel_rfl) (fun q => by cases q) (fun _ => ?_)
                refine XQ.skip (by kernel_rfl) ?_
                show XQ _ _ _ _ _ _ _ _
                refine XQ.seq E0_ok (by kernel_rfl) ?_
                refine XQ.region (by kernel_rfl) ?_
                refine XR.runS E0_ok 1 7 [(1, .int .u8 b), (5, s0 0 lh0_1.length), (6, s0 1 lh1_1.length), (7, s0 2 0), (8, ii x8_1), (9, ii (-1)), (11, s0 3 o2.length), (16, ii 0), (31, ii x31_1), (86, .bool ((Int.tmod x31_1 7) == (Int.tmod (w64 b) 7)))] rfl (by kernel_rfl) ?_
                cases b18 : ((Int.tmod x31_1 7) == (Int.tmod (w64 b) 7) : Bool) with
                | true =>
                  have h := cT b18 h
                  refine XR.runS E0_ok 1 2 [(1, .int .u8 b), (5, s0 0 lh0_1.length), (6, s0 1 lh1_1.length), (7, s0 2 0), (8, ii x8_1), (9, ii (-1)), (16, ii 0), (31, ii x31_1), (86, .bool true), (87, s0 0 lh0_1.length), (88, s0 3 o2.length)] rfl (by kernel_rfl) ?_
                  obtain ⟨r19, r19_h, h⟩ := bS h
                  refine XR.call E0_ok [1, 5, 6, 7, 8, 9, 16, 31, 86, 89] rfl (K := 39) (args := [s0 0 lh0_1.length, s0 3 o2.length]) (d := (some (path 12 89))) (by kernel_rfl) (KQ.call (KC.quiet E0_ok (args0 := [s0 0 lh0_1.length, s0 1 o2.length]) (h0 := [(1, rc (encI .i64) o2 (0 + ((rowC (encI .i64) o2).length + 1)) 3 1), (0, rc encP lh0_1 (0 + ((rowC encP lh0_1).length + 1)) 61 2)]) (n := 2) (V := ii r19) [0, 3] (f39_ok m (0 + ((rowC encP lh0_1).length + 1)) 61 (0 + ((rowC (encI .i64) o2).length + 1)) 3 lh0_1 o2 r19 r19_h) rfl (by rfl) (by decide) rfl (by kernel_rfl) ⟨⟨_, _, rfl, rfl, .inl ⟨rfl, rowC_scal (encI_ok .i64) _⟩⟩, ⟨_, _, rfl, rfl, .inl ⟨rfl, rowC_scal encP_ok _⟩⟩, trivial⟩) rfl) ?_
                  rintro _ _ _ ⟨rfl, rfl, rfl⟩
                  refine XR.conv (σ' := [(1, .int .u8 b), (5, s0 0 lh0_1.length), (6, s0 1 lh1_1.length), (7, s0 2 0), (8, ii x8_1), (9, ii (-1)), (16, ii 0), (31, ii x31_1), (86, .bool true), (89, ii r19)]) (h' := [(3, rc (encI .i64) o2 0 3 1), (2, rc (encI .i64) [] 0 3 1), (1, rc (encI .i64) lh1_1 0 3 1), (0, rc encP lh0_1 0 61 2)]) (c' := 4) ?_ (by kernel_rfl)
                  refine XR.runS E0_ok 1 3 [(1, .int .u8 b), (5, s0 0 lh0_1.length), (6, s0 1 lh1_1.length), (7, s0 2 0), (8, ii x8_1), (9, ii (-1)), (31, ii x31_1), (92, .bool (r19 != 0))] rfl (by kernel_rfl) ?_
                  refine XR.done (by kernel_rfl) ?_
                  show XQ _ _ _ _ _ _ _ _
                  cases b19 : (r19 != 0 : Bool) with
                  | true =>
                    have h := cT b19 h
                    refine XQ.cond (s := (.tmp 92)) (b := true) (by kernel_rfl) (by kernel_rfl) (fun _ => ?_) (fun q => by cases q)
                    refine XQ.seq E0_ok (by kernel_rfl) ?_
                    refine XQ.region (by kernel_rfl) ?_
                    refine XR.runS E0_ok 1 1 [(4, .bool false)] rfl (by kernel_rfl) ?_
                    refine XR.done (by kernel_rfl) ?_
                    show XQ _ _ _ _ _ _ _ _
                    refine XQ.ren (σ' := [(4, .bool false)]) (h' := []) (c' := 0) [] (by decide) rfl ⟨by kernel_rfl, trivial⟩ trivial rfl ?_
                    refine XQ.ret (by kernel_rfl) ?_
                    cases h
                    exact hQ
                  | false =>
                    have h := cF b19 h
                    refine XQ.cond (s := (.tmp 92)) (b := false) (by kernel_rfl) (by kernel_rfl) (fun q => by cases q) (fun _ => ?_)
                    refine XQ.skip (by kernel_rfl) ?_
                    show XQ _ _ _ _ _ _ _ _
                    refine XQ.region (by kernel_rfl) ?_
                    refine XR.runS E0_ok 1 2 [(1, .int .u8 b), (5, s0 0 lh0_1.length), (6, s0 1 lh1_1.length), (7, s0 2 0), (8, ii x8_1), (9, ii (-1)), (31, ii (w64 (x31_1 + 1)))] rfl (by kernel_rfl) ?_
                    refine XR.done (by kernel_rfl) ?_
                    show XL _ _ _ _ _ _ _ _ _
                    refine XL.ren (σ' := [(1, .int .u8 b), (5, s0 0 lh0_1.length), (6, s0 1 lh1_1.length), (7, s0 2 0), (8, ii x8_1), (9, ii (-1)), (31, ii (w64 (x31_1 + 1)))]) (h' := [(2, rc (encI .i64) [] 0 3 1), (1, rc (encI .i64) lh1_1 0 3 1), (0, rc encP lh0_1 0 61 2)]) (c' := 3) [0, 1, 2] (by decide) rfl ⟨by kernel_rfl, by kernel_rfl, by kernel_rfl, by kernel_rfl, by kernel_rfl, by kernel_rfl, by kernel_rfl, trivial⟩ ⟨⟨_, _, rfl, rfl, .inl ⟨rfl, rowC_scal (encI_ok .i64) _⟩⟩, ⟨_, _, rfl, rfl, .inl ⟨rfl, rowC_scal (encI_ok .i64) _⟩⟩, ⟨_, _, rfl, rfl, .inl ⟨rfl, rowC_scal encP_ok _⟩⟩, trivial⟩ rfl ?_
                    refine XL.conv (f14_1_ok m fuel b x8_1 (w64 (x31_1 + 1)) lh0_1 lh1_1 o h Q hQ) (by first | rfl | simp)
                | false =>
                  have h := cF b18 h
                  refine XR.runS E0_ok 1 6 [(1, .int .u8 b), (5, s0 0 lh0_1.length), (6, s0 1 lh1_1.length), (7, s0 2 0), (8, ii x8_1), (9, ii (-1)), (31, ii x31_1), (92, .bool false)] rfl (by kernel_rfl) ?_
                  refine XR.done (by kernel_rfl) ?_
                  show XQ _ _ _ _ _ _ _ _
                  refine XQ.cond (s := (.tmp 92)) (b := false) (by kernel_rfl) (by kernel_rfl) (fun q => by cases q) (fun _ => ?_)
                  refine XQ.skip (by kernel_rfl) ?_
                  show XQ _ _ _ _ _ _ _ _
                  refine XQ.region (by kernel_rfl) ?_
                  refine XR.runS E0_ok 1 2 [(1, .int .u8 b), (5, s0 0 lh0_1.length), (6, s0 1 lh1_1.length), (7, s0 2 0), (8, ii x8_1), (9, ii (-1)), (31, ii (w64 (x31_1 + 1)))] rfl (by kernel_rfl) ?_
                  refine XR.done (by kernel_rfl) ?_
                  show XL _ _ _ _ _ _ _ _ _
                  refine XL.ren (σ' := [(1, .int .u8 b), (5, s0 0 lh0_1.length), (6, s0 1 lh1_1.length), (7, s0 2 0), (8, ii x8_1), (9, ii (-1)), (31, ii (w64 (x31_1 + 1)))]) (h' := [(2, rc (encI .i64) [] 0 3 1), (1, rc (encI .i64) lh1_1 0 3 1), (0, rc encP lh0_1 0 61 2)]) (c' := 3) [0, 1, 2] (by decide) rfl ⟨by kernel_rfl, by kernel_rfl, by kernel_rfl, by kernel_rfl, by kernel_rfl, by kernel_rfl, by kernel_rfl, trivial⟩ ⟨⟨_, _, rfl, rfl, .inl ⟨rfl, rowC_scal (encI_ok .i64) _⟩⟩, ⟨_, _, rfl, rfl, .inl ⟨rfl, rowC_scal (encI_ok .i64) _⟩⟩, ⟨_, _, rfl, rfl, .inl ⟨rfl, rowC_scal encP_ok _⟩⟩, trivial⟩ rfl ?_
                  refine XL.conv (f14_1_ok m fuel b x8_1 (w64 (x31_1 + 1)) lh0_1 lh1_1 o h Q hQ) (by first | rfl | simp)
          | false =>
            have h := cF b8 h
            refine XR.runS E0_ok 1 6 [(1, .int .u8 b), (5, s0 0 lh0_1.length), (6, s0 1 lh1_1.length), (7, s0 2 0), (8, ii x8_1), (9, ii (-1)), (10, ii x31_1), (11, s0 3 o2.length), (16, ii 0), (31, ii x31_1), (76, .bool false)] rfl (by kernel_rfl) ?_
            refine XR.done (by kernel_rfl) ?_
            show XQ _ _ _ _ _ _ _ _
            refine XQ.cond (s := (.tmp 76)) (b := false) (by kernel_rfl) (by kernel_rfl) (fun q => by cases q) (fun _ => ?_)
            refine XQ.skip (by kernel_rfl) ?_
            show XQ _ _ _ _ _ _ _ _
            refine XQ.seq E0_ok (by kernel_rfl) ?_
            refine XQ.region (by kernel_rfl) ?_
            refine XR.runS E0_ok 1 7 [(1, .int .u8 b), (5, s0 0 lh0_1.length), (6, s0 1 lh1_1.length), (7, s0 2 0), (8, ii x8_1), (9, ii (-1)), (11, s0 3 o2.length), (16, ii 0), (31, ii x31_1), (86, .bool ((Int.tmod x31_1 7) == (Int.tmod (w64 b) 7)))] rfl (by kernel_rfl) ?_
            cases b20 : ((Int.tmod x31_1 7) == (Int.tmod (w64 b) 7) : Bool) with
            | true =>
              have h := cT b20 h
              refine XR.runS E0_ok 1 2 [(1, .int .u8 b), (5, s0 0 lh0_1.length), (6, s0 1 lh1_1.length), (7, s0 2 0), (8, ii x8_1), (9, ii (-1)), (16, ii 0), (31, ii x31_1), (86, .bool true), (87, s0 0 lh0_1.length), (88, s0 3 o2.length)] rfl (by kernel_rfl) ?_
              obtain ⟨r20, r20_h, h⟩ := bS h
              refine XR.call E0_ok [1, 5, 6, 7, 8, 9, 16, 31, 86, 89] rfl (K := 39) (args := [s0 0 lh0_1.length, s0 3 o2.length]) (d := (some (path 12 89))) (by kernel_rfl) (KQ.call (KC.quiet E0_ok (args0 := [s0 0 lh0_1.length, s0 1 o2.length]) (h0 := [(1, rc (encI .i64) o2 (0 + ((rowC (encI .i64) o2).length + 1)) 3 1), (0, rc encP lh0_1 (0 + ((rowC encP lh0_1).length + 1)) 61 2)]) (n := 2) (V := ii r20) [0, 3] (f39_ok m (0 + ((rowC encP lh0_1).length + 1)) 61 (0 + ((rowC (encI .i64) o2).length + 1)) 3 lh0_1 o2 r20 r20_h) rfl (by rfl) (by decide) rfl (by kernel_rfl) ⟨⟨_, _, rfl, rfl, .inl ⟨rfl, rowC_scal (encI_ok .i64) _⟩⟩, ⟨_, _, rfl, rfl, .inl ⟨rfl, rowC_scal encP_ok _⟩⟩, trivial⟩) rfl) ?_
              rintro _ _ _ ⟨rfl, rfl, rfl⟩
              refine XR.conv (σ' := [(1, .int .u8 b), (5, s0 0 lh0_1.length), (6, s0 1 lh1_1.length), (7, s0 2 0), (8, ii x8_1), (9, ii (-1)), (16, ii 0), (31, ii x31_1), (86, .bool true), (89, ii r20)]) (h' := [(3, rc (encI .i64) o2 0 3 1), (2, rc (encI .i64) [] 0 3 1), (1, rc (encI .i64) lh1_1 0 3 1), (0, rc encP lh0_1 0 61 2)]) (c' := 4) ?_ (by kernel_rfl)
              refine XR.runS E0_ok 1 3 [(1, .int .u8 b), (5, s0 0 lh0_1.length), (6, s0 1 lh1_1.length), (7, s0 2 0), (8, ii x8_1), (9, ii (-1)), (31, ii x31_1), (92, .bool (r20 != 0))] rfl (by kernel_rfl) ?_
              refine XR.done (by kernel_rfl) ?_
              show XQ _ _ _ _ _ _ _ _
              cases b21 : (r20 != 0 : Bool) with
              | true =>
                have h := cT b21 h
                refine XQ.cond (s := (.tmp 92)) (b := true) (by kernel_rfl) (by kernel_rfl) (fun _ => ?_) (fun q => by cases q)
                refine XQ.seq E0_ok (by kernel_rfl) ?_
                refine XQ.region (by kernel_rfl) ?_
                refine XR.runS E0_ok 1 1 [(4, .bool false)] rfl (by kernel_rfl) ?_
                refine XR.done (by kernel_rfl) ?_
                show XQ _ _ _ _ _ _ _ _
                refine XQ.ren (σ' := [(4, .bool false)]) (h' := []) (c' := 0) [] (by decide) rfl ⟨by kernel_rfl, trivial⟩ trivial rfl ?_
                refine XQ.ret (by kernel_rfl) ?_
                cases h
                exact hQ
              | false =>
                have h := cF b21 h
                refine XQ.cond (s := (.tmp 92)) (b := false) (by kernel_rfl) (by kernel_rfl) (fun q => by cases q) (fun _ => ?_)
                refine XQ.skip (by kernel_rfl) ?_
                show XQ _ _ _ _ _ _ _ _
                refine XQ.region (by kernel_rfl) ?_
                refine XR.runS E0_ok 1 2 [(1, .int .u8 b), (5, s0 0 lh0_1.length), (6, s0 1 lh1_1.length), (7, s0 2 0), (8, ii x8_1), (9, ii (-1)), (31, ii (w64 (x31_1 + 1)))] rfl (by kernel_rfl) ?_
                refine XR.done (by kernel_rfl) ?_
                show XL _ _ _ _ _ _ _ _ _
                refine XL.ren (σ' := [(1, .int .u8 b), (5, s0 0 lh0_1.length), (6, s0 1 lh1_1.length), (7, s0 2 0), (8, ii x8_1), (9, ii (-1)), (31, ii (w64 (x31_1 + 1)))]) (h' := [(2, rc (encI .i64) [] 0 3 1), (1, rc (encI .i64) lh1_1 0 3 1), (0, rc encP lh0_1 0 61 2)]) (c' := 3) [0, 1, 2] (by decide) rfl ⟨by kernel_rfl, by kernel_rfl, by kernel_rfl, by kernel_rfl, by kernel_rfl, by kernel_rfl, by kernel_rfl, trivial⟩ ⟨⟨_, _, rfl, rfl, .inl ⟨rfl, rowC_scal (encI_ok .i64) _⟩⟩, ⟨_, _, rfl, rfl, .inl ⟨rfl, rowC_scal (encI_ok .i64) _⟩⟩, ⟨_, _, rfl, rfl, .inl ⟨rfl, rowC_scal encP_ok _⟩⟩, trivial⟩ rfl ?_
                refine XL.conv (f14_1_ok m fuel b x8_1 (w64 (x31_1 + 1)) lh0_1 lh1_1 o h Q hQ) (by first | rfl | simp)
            | false =>
              have h := cF b20 h
              refine XR.runS E0_ok 1 6 [(1, .int .u8 b), (5, s0 0 lh0_1.length), (6, s0 1 lh1_1.length), (7, s0 2 0), (8, ii x8_1), (9, ii (-1)), (31, ii x31_1), (92, .bool false)] rfl (by kernel_rfl) ?_
              refine XR.done (by kernel_rfl) ?_
              show XQ _ _ _ _ _ _ _ _
              refine XQ.cond (s := (.tmp 92)) (b := false) (by kernel_rfl) (by kernel_rfl) (fun q => by cases q) (fun _ => ?_)
              refine XQ.skip (by kernel_rfl) ?_
              show XQ _ _ _ _ _ _ _ _
              refine XQ.region (by kernel_rfl) ?_
              refine XR.runS E0_ok 1 2 [(1, .int .u8 b), (5, s0 0 lh0_1.length), (6, s0 1 lh1_1.length), (7, s0 2 0), (8, ii x8_1), (9, ii (-1)), (31, ii (w64 (x31_1 + 1)))] rfl (by kernel_rfl) ?_
              refine XR.done (by kernel_rfl) ?_
              show XL _ _ _ _ _ _ _ _ _
              refine XL.ren (σ' := [(1, .int .u8 b), (5, s0 0 lh0_1.length), (6, s0 1 lh1_1.length), (7, s0 2 0), (8, ii x8_1), (9, ii (-1)), (31, ii (w64 (x31_1 + 1)))]) (h' := [(2, rc (encI .i64) [] 0 3 1), (1, rc (encI .i64) lh1_1 0 3 1), (0, rc encP lh0_1 0 61 2)]) (c' := 3) [0, 1, 2] (by decide) rfl ⟨by kernel_rfl, by kernel_rfl, by kernel_rfl, by kernel_rfl, by kernel_rfl, by kernel_rfl, by kernel_rfl, trivial⟩ ⟨⟨_, _, rfl, rfl, .inl ⟨rfl, rowC_scal (encI_ok .i64) _⟩⟩, ⟨_, _, rfl, rfl, .inl ⟨rfl, rowC_scal (encI_ok .i64) _⟩⟩, ⟨_, _, rfl, rfl, .inl ⟨rfl, rowC_scal encP_ok _⟩⟩, trivial⟩ rfl ?_
              refine XL.conv (f14_1_ok m fuel b x8_1 (w64 (x31_1 + 1)) lh0_1 lh1_1 o h Q hQ) (by first | rfl | simp)
      | false =>
        have h := cF b4 h
        refine XQ.cond (s := (.tmp 60)) (b := false) (by kernel_rfl) (by kernel_rfl) (fun q => by cases q) (fun _ => ?_)
        refine XQ.skip (by kernel_rfl) ?_
        show XQ _ _ _ _ _ _ _ _
        refine XQ.seq E0_ok (by kernel_rfl) ?_
        refine XQ.region (by kernel_rfl) ?_
        refine XR.runS E0_ok 1 7 [(1, .int .u8 b), (5, s0 0 lh0_1.length), (6, s0 1 lh1_1.length), (7, s0 2 0), (8, ii x8_1), (9, ii (-1)), (11, s0 3 o2.length), (16, ii 14), (31, ii x31_1), (86, .bool ((Int.tmod x31_1 7) == (Int.tmod (w64 b) 7)))] rfl (by kernel_rfl) ?_
        cases b22 : ((Int.tmod x31_1 7) == (Int.tmod (w64 b) 7) : Bool) with
        | true =>
          have h := cT b22 h
          refine XR.runS E0_ok 1 2 [(1, .int .u8 b), (5, s0 0 lh0_1.length), (6, s0 1 lh1_1.length), (7, s0 2 0), (8, ii x8_1), (9, ii (-1)), (16, ii 14), (31, ii x31_1), (86, .bool true), (87, s0 0 lh0_1.length), (88, s0 3 o2.length)] rfl (by kernel_rfl) ?_
          obtain ⟨r21, r21_h, h⟩ := bS h
          refine XR.call E0_ok [1, 5, 6, 7, 8, 9, 16, 31, 86, 89] rfl (K := 39) (args := [s0 0 lh0_1.length, s0 3 o2.length]) (d := (some (path 12 89))) (by kernel_rfl) (KQ.call (KC.quiet E0_ok (args0 := [s0 0 lh0_1.length, s0 1 o2.length]) (h0 := [(1, rc (encI .i64) o2 (0 + ((rowC (encI .i64) o2).length + 1)) 3 1), (0, rc encP lh0_1 (0 + ((rowC encP lh0_1).length + 1)) 61 2)]) (n := 2) (V := ii r21) [0, 3] (f39_ok m (0 + ((rowC encP lh0_1).length + 1)) 61 (0 + ((rowC (encI .i64) o2).length + 1)) 3 lh0_1 o2 r21 r21_h) rfl (by rfl) (by decide) rfl (by kernel_rfl) ⟨⟨_, _, rfl, rfl, .inl ⟨rfl, rowC_scal (encI_ok .i64) _⟩⟩, ⟨_, _, rfl, rfl, .inl ⟨rfl, rowC_scal encP_ok _⟩⟩, trivial⟩) rfl) ?_
          rintro _ _ _ ⟨rfl, rfl, rfl⟩
          refine XR.conv (σ' := [(1, .int .u8 b), (5, s0 0 lh0_1.length), (6, s0 1 lh1_1.length), (7, s0 2 0), (8, ii x8_1), (9, ii (-1)), (16, ii 14), (31, ii x31_1), (86, .bool true), (89, ii r21)]) (h' := [(3, rc (encI .i64) o2 0 3 1), (2, rc (encI .i64) [] 0 3 1), (1, rc (encI .i64) lh1_1 0 3 1), (0, rc encP lh0_1 0 61 2)]) (c' := 4) ?_ (by kernel_rfl)
          refine XR.runS E0_ok 1 3 [(1, .int .u8 b), (5, s0 0 lh0_1.length), (6, s0 1 lh1_1.length), (7, s0 2 0), (8, ii x8_1), (9, ii (-1)), (31, ii x31_1), (92, .bool (r21 != 14))] rfl (by kernel_rfl) ?_
          refine XR.done (by kernel_rfl) ?_
          show XQ _ _ _ _ _ _ _ _
          cases b23 : (r21 != 14 : Bool) with
          | true =>
            have h := cT b23 h
            refine XQ.cond (s := (.tmp 92)) (b := true) (by kernel_rfl) (by kernel_rfl) (fun _ => ?_) (fun q => by cases q)
            refine XQ.seq E0_ok (by kernel_rfl) ?_
            refine XQ.region (by kernel_rfl) ?_
            refine XR.runS E0_ok 1 1 [(4, .bool false)] rfl (by kernel_rfl) ?_
            refine XR.done (by kernel_rfl) ?_
            show XQ _ _ _ _ _ _ _ _
            refine XQ.ren (σ' := [(4, .bool false)]) (h' := []) (c' := 0) [] (by decide) rfl ⟨by kernel_rfl, trivial⟩ trivial rfl ?_
            refine XQ.ret (by kernel_rfl) ?_
            cases h
            exact hQ
          | false =>
            have h := cF b23 h
            refine XQ.cond (s := (.tmp 92)) (b := false) (by kernel_rfl) (by kernel_rfl) (fun q => by cases q) (fun _ => ?_)
            refine XQ.skip (by kernel_rfl) ?_
            show XQ _ _ _ _ _ _ _ _
            refine XQ.region (by kernel_rfl) ?_
            refine XR.runS E0_ok 1 2 [(1, .int .u8 b), (5, s0 0 lh0_1.length), (6, s0 1 lh1_1.length), (7, s0 2 0), (8, ii x8_1), (9, ii (-1)), (31, ii (w64 (x31_1 + 1)))] rfl (by kernel_rfl) ?_
            refine XR.done (by kernel_rfl) ?_
            show XL _ _ _ _ _ _ _ _ _
            refine XL.ren (σ' := [(1, .int .u8 b), (5, s0 0 lh0_1.length), (6, s0 1 lh1_1.length), (7, s0 2 0), (8, ii x8_1), (9, ii (-1)), (31, ii (w64 (x31_1 + 1)))]) (h' := [(2, rc (encI .i64) [] 0 3 1), (1, rc (encI .i64) lh1_1 0 3 1), (0, rc encP lh0_1 0 61 2)]) (c' := 3) [0, 1, 2] (by decide) rfl ⟨by kernel_rfl, by kernel_rfl, by kernel_rfl, by kernel_rfl, by kernel_rfl, by kernel_rfl, by kernel_rfl, trivial⟩ ⟨⟨_, _, rfl, rfl, .inl ⟨rfl, rowC_scal (encI_ok .i64) _⟩⟩, ⟨_, _, rfl, rfl, .inl ⟨rfl, rowC_scal (encI_ok .i64) _⟩⟩, ⟨_, _, rfl, rfl, .inl ⟨rfl, rowC_scal encP_ok _⟩⟩, trivial⟩ rfl ?_
            refine XL.conv (f14_1_ok m fuel b x8_1 (w64 (x31_1 + 1)) lh0_1 lh1_1 o h Q hQ) (by first | rfl | simp)
        | false =>
          have h := cF b22 h
          refine XR.runS E0_ok 1 6 [(1, .int .u8 b), (5, s0 0 lh0_1.length), (6, s0 1 lh1_1.length), (7, s0 2 0), (8, ii x8_1), (9, ii (-1)), (31, ii x31_1), (92, .bool false)] rfl (by kernel_rfl) ?_
          refine XR.done (by kernel_rfl) ?_
          show XQ _ _ _ _ _ _ _ _
          refine XQ.cond (s := (.tmp 92)) (b := false) (by kernel_rfl) (by kernel_rfl) (fun q => by cases q) (fun _ => ?_)
          refine XQ.skip (by kernel_rfl) ?_
          show XQ _ _ _ _ _ _ _ _
          refine XQ.region (by kernel_rfl) ?_
          refine XR.runS E0_ok 1 2 [(1, .int .u8 b), (5, s0 0 lh0_1.length), (6, s0 1 lh1_1.length), (7, s0 2 0), (8, ii x8_1), (9, ii (-1)), (31, ii (w64 (x31_1 + 1)))] rfl (by kernel_rfl) ?_
          refine XR.done (by kernel_rfl) ?_
          show XL _ _ _ _ _ _ _ _ _
          refine XL.ren (σ' := [(1, .int .u8 b), (5, s0 0 lh0_1.length), (6, s0 1 lh1_1.length), (7, s0 2 0), (8, ii x8_1), (9, ii (-1)), (31, ii (w64 (x31_1 + 1)))]) (h' := [(2, rc (encI .i64) [] 0 3 1), (1, rc (encI .i64) lh1_1 0 3 1), (0, rc encP lh0_1 0 61 2)]) (c' := 3) [0, 1, 2] (by decide) rfl ⟨by kernel_rfl, by kernel_rfl, by kernel_rfl, by kernel_rfl, by kernel_rfl, by kernel_rfl, by kernel_rfl, trivial⟩ ⟨⟨_, _, rfl, rfl, .inl ⟨rfl, rowC_scal (encI_ok .i64) _⟩⟩, ⟨_, _, rfl, rfl, .inl ⟨rfl, rowC_scal (encI_ok .i64) _⟩⟩, ⟨_, _, rfl, rfl, .inl ⟨rfl, rowC_scal encP_ok _⟩⟩, trivial⟩ rfl ?_
          refine XL.conv (f14_1_ok m fuel b x8_1 (w64 (x31_1 + 1)) lh0_1 lh1_1 o h Q hQ) (by first | rfl | simp)
    | false =>
      have h := cF b1 h
      refine XQ.cond (s := (.tmp 32)) (b := false) (by kernel_rfl) (by kernel_rfl) (fun q => by cases q) (fun _ => ?_)
      refine XQ.ren (σ' := [(5, s0 0 lh0_1.length), (6, s0 1 lh1_1.length), (7, s0 2 0), (8, ii x8_1), (9, ii (-1))]) (h' := [(2, rc (encI .i64) [] 0 3 1), (1, rc (encI .i64) lh1_1 0 3 1), (0, rc encP lh0_1 0 61 2)]) (c' := 3) [0, 1, 2] (by decide) rfl ⟨by kernel_rfl, by kernel_rfl, by kernel_rfl, by kernel_rfl, by kernel_rfl, trivial⟩ ⟨⟨_, _, rfl, rfl, .inl ⟨rfl, rowC_scal (encI_ok .i64) _⟩⟩, ⟨_, _, rfl, rfl, .inl ⟨rfl, rowC_scal (encI_ok .i64) _⟩⟩, ⟨_, _, rfl, rfl, .inl ⟨rfl, rowC_scal encP_ok _⟩⟩, trivial⟩ rfl ?_
      refine XQ.exit (i := 0) (by kernel_rfl) ?_
      cases h
      exact hQ

def f14_8 (m : Nat) : Nat → Int → List (Int × Int) → List Int → Int → Int → Int → List Int → Int → Int → List Int → Bool → Int → Int → Option Bool
  | 0, _, _, _, _, _, _, _, _, _, _, _, _, _ => none
  | fuel + 1, x8_x01, lh0_x01, lh1_x01, x9_6, x96_6, x97_6, lh2_6, x101_7, x102_7, lh3_7, b19_8, x111_8, x112_8 =>
    cond (decide (x112_8 < x111_8)) (
      cond (inRow x112_8 lh3_7.length) (
        cond (b19_8) (
          cond (inRow (List.getD lh3_7 (Int.toNat x112_8) 0) lh0_x01.length) (
            cond (inRow x102_7 lh0_x01.length) (
              cond (decide (((List.getD lh0_x01 (Int.toNat (List.getD lh3_7 (Int.toNat x112_8) 0)) (0, 0)).2) < ((List.getD lh0_x01 (Int.toNat x102_7) (0, 0)).1))) (
                f14_8 m fuel x8_x01 lh0_x01 lh1_x01 x9_6 x96_6 x97_6 lh2_6 x101_7 x102_7 lh3_7 true x111_8 (w64 (x112_8 + 1))
              ) (
                f14_8 m fuel x8_x01 lh0_x01 lh1_x01 x9_6 x96_6 x97_6 lh2_6 x101_7 x102_7 lh3_7 (decide (((List.getD lh0_x01 (Int.toNat x102_7) (0, 0)).2) < ((List.getD lh0_x01 (Int.toNat (List.getD lh3_7 (Int.toNat x112_8) 0)) (0, 0)).1))) x111_8 (w64 (x112_8 + 1))
              )
            ) none
          ) none
        ) (
          f14_8 m fuel x8_x01 lh0_x01 lh1_x01 x9_6 x96_6 x97_6 lh2_6 x101_7 x102_7 lh3_7 false x111_8 (w64 (x112_8 + 1))
        )
      ) none
    ) (
      some (b19_8)
    )

theorem f14_8_ok (m : Nat) : ∀ (fuel : Nat) (x8_x01 : Int) (lh0_x01 : List (Int × Int)) (lh1_x01 : List Int) (x9_6 : Int) (x96_6 : Int) (x97_6 : Int) (lh2_6 : List Int) (x101_7 : Int) (x102_7 : Int) (lh3_7 : List Int) (b19_8 : Bool) (x111_8 : Int) (x112_8 : Int) (o : Bool), f14_8 m fuel x8_x01 lh0_x01 lh1_x01 x9_6 x96_6 x97_6 lh2_6 x101_7 x102_7 lh3_7 b19_8 x111_8 x112_8 = some o → ∀ Q : QP, Q (.exit 10) [(5, s0 0 lh0_x01.length), (6, s0 1 lh1_x01.length), (7, s0 2 lh2_6.length), (8, ii x8_x01), (9, ii x9_6), (17, ii x97_6), (18, s0 3 lh3_7.length), (19, .bool o), (20, ii x102_7), (96, ii x96_6), (97, ii x97_6), (101, ii x101_7), (102, ii x102_7)] [(3, rc (encI .i64) lh3_7 0 3 1), (2, rc (encI .i64) lh2_6 0 3 1), (1, rc (encI .i64) lh1_x01 0 3 1), (0, rc encP lh0_x01 0 61 2)] 4 → XL E0 212 0 fuel f14_L9 [(5, s0 0 lh0_x01.length), (6, s0 1 lh1_x01.length), (7, s0 2 lh2_6.length), (8, ii x8_x01), (9, ii x9_6), (17, ii x97_6), (18, s0 3 lh3_7.length), (19, .bool b19_8), (20, ii x102_7), (96, ii x96_6), (97, ii x97_6), (101, ii x101_7), (102, ii x102_7), (110, s0 3 lh3_7.length), (111, ii x111_8), (112, ii x112_8)] [(3, rc (encI .i64) lh3_7 0 3 1), (2, rc (encI .i64) lh2_6 0 3 1), (1, rc (encI .i64) lh1_x01 0 3 1), (0, rc encP lh0_x01 0 61 2)] 4 Q
  | 0, x8_x01, lh0_x01, lh1_x01, x9_6, x96_6, x97_6, lh2_6, x101_7, x102_7, lh3_7, b19_8, x111_8, x112_8, o, h, Q, hQ => by cases h
  | fuel + 1, x8_x01, lh0_x01, lh1_x01, x9_6, x96_6, x97_6, lh2_6, x101_7, x102_7, lh3_7, b19_8, x111_8, x112_8, o, h, Q, hQ => by
    unfold f14_8 at h
    refine XL.succ E0_ok ?_
    refine XQ.seq E0_ok (by kernel_rfl) ?_
    refine XQ.region (by kernel_rfl) ?_
    refine XR.runS E0_ok 1 1 [(5, s0 0 lh0_x01.length), (6, s0 1 lh1_x01.length), (7, s0 2 lh2_6.length), (8, ii x8_x01), (9, ii x9_6), (17, ii x97_6), (18, s0 3 lh3_7.length), (19, .bool b19_8), (20, ii x102_7), (96, ii x96_6), (97, ii x97_6), (101, ii x101_7), (102, ii x102_7), (110, s0 3 lh3_7.length), (111, ii x111_8), (112, ii x112_8), (113, .bool (decide (x112_8 < x111_8)))] rfl (by kernel_rfl) ?_
    refine XR.done (by kernel_rfl) ?_
    show XQ _ _ _ _ _ _ _ _
    refine XQ.seq E0_ok (by kernel_rfl) ?_
    cases b1 : (decide (x112_8 < x111_8) : Bool) with
    | true =>
      have h := cT b1 h
      refine XQ.cond (s := (.tmp 113)) (b := true) (by kernel_rfl) (by kernel_rfl) (fun _ => ?_) (fun q => by cases q)
      refine XQ.skip (by kernel_rfl) ?_
      show XQ _ _ _ _ _ _ _ _
      refine XQ.seq E0_ok (by kernel_rfl) ?_
      refine XQ.block (id := 11) (by kernel_rfl) ?_
      refine XQ.seq E0_ok (by kernel_rfl) ?_
      refine XQ.region (by kernel_rfl) ?_
      cases b2 : (inRow x112_8 lh3_7.length : Bool) with
      | false => cases (cF b2 h)
      | true =>
        have h := cT b2 h
        refine XR.rd E0_ok [5, 6, 7, 8, 9, 17, 18, 19, 20, 96, 97, 101, 102, 110, 111, 112, 114] rfl (v := pp 3 ((Int.toNat x112_8) * 1)) (v_idx (s := 1) (x := (src 212 (.tmp 110))) (y := (src 212 (.tmp 112))) (b := 3) (o := 0) (len := lh3_7.length) (cap := lh3_7.length) (ik := .i64) (i := x112_8) (off := (Int.toNat x112_8) * 1) (d := (some (path 12 114))) (by kernel_rfl) (by kernel_rfl) (by kernel_rfl) b2 (by omega)) (σ' := [(5, s0 0 lh0_x01.length), (6, s0 1 lh1_x01.length), (7, s0 2 lh2_6.length), (8, ii x8_x01), (9, ii x9_6), (17, ii x97_6), (18, s0 3 lh3_7.length), (19, .bool b19_8), (20, ii x102_7), (96, ii x96_6), (97, ii x97_6), (101, ii x101_7), (102, ii x102_7), (110, s0 3 lh3_7.length), (111, ii x111_8), (112, ii x112_8), (114, pp 3 ((Int.toNat x112_8) * 1))]) (by kernel_rfl) ?_
        refine XR.rd E0_ok [5, 6, 7, 8, 9, 17, 18, 19, 20, 96, 97, 101, 102, 110, 111, 112, 115] rfl (v := ii (List.getD lh3_7 (Int.toNat x112_8) 0)) (v_load1 (encI_ok .i64) (x := (src 212 (.tmp 114))) (b := 3) (off := (Int.toNat x112_8) * 1) (xs := lh3_7) (fz := 0) (e := 3) (es := 1) (d := (some (path 12 115))) (by kernel_rfl) (by kernel_rfl) (by kernel_rfl) (Int.toNat x112_8) 0 0 (by first | rfl | omega) (row_len (inRow_toNat b2) (by simp)) rfl rfl) (σ' := [(5, s0 0 lh0_x01.length), (6, s0 1 lh1_x01.length), (7, s0 2 lh2_6.length), (8, ii x8_x01), (9, ii x9_6), (17, ii x97_6), (18, s0 3 lh3_7.length), (19, .bool b19_8), (20, ii x102_7), (96, ii x96_6), (97, ii x97_6), (101, ii x101_7), (102, ii x102_7), (110, s0 3 lh3_7.length), (111, ii x111_8), (112, ii x112_8), (115, ii (List.getD lh3_7 (Int.toNat x112_8) 0))]) (by kernel_rfl) ?_
        refine XR.runS E0_ok 1 1 [(5, s0 0 lh0_x01.length), (6, s0 1 lh1_x01.length), (7, s0 2 lh2_6.length), (8, ii x8_x01), (9, ii x9_6), (17, ii x97_6), (18, s0 3 lh3_7.length), (19, .bool b19_8), (20, ii x102_7), (22, ii (List.getD lh3_7 (Int.toNat x112_8) 0)), (96, ii x96_6), (97, ii x97_6), (101, ii x101_7), (102, ii x102_7), (110, s0 3 lh3_7.length), (111, ii x111_8), (112, ii x112_8)] rfl (by kernel_rfl) ?_
        refine XR.done (by kernel_rfl) ?_
        show XQ _ _ _ _ _ _ _ _
        refine XQ.quiet E0_ok (by kernel_rfl) (by kernel_rfl) ?_
        refine XU.run E0_ok 1 2 [5, 6, 7, 8, 9, 17, 18, 20, 22, 96, 97, 101, 102, 110, 111, 112, 117] rfl (σ' := [(5, s0 0 lh0_x01.length), (6, s0 1 lh1_x01.length), (7, s0 2 lh2_6.length), (8, ii x8_x01), (9, ii x9_6), (17, ii x97_6), (18, s0 3 lh3_7.length), (20, ii x102_7), (22, ii (List.getD lh3_7 (Int.toNat x112_8) 0)), (96, ii x96_6), (97, ii x97_6), (101, ii x101_7), (102, ii x102_7), (110, s0 3 lh3_7.length), (111, ii x111_8), (112, ii x112_8), (117, .bool b19_8)]) (by kernel_rfl) ?_
        cases b3 : (b19_8 : Bool) with
        | true =>
          have h := cT b3 h
          refine XU.run E0_ok 1 2 [5, 6, 7, 8, 9, 17, 18, 20, 22, 96, 97, 101, 102, 110, 111, 112, 117, 118, 119] rfl (σ' := [(5, s0 0 lh0_x01.length), (6, s0 1 lh1_x01.length), (7, s0 2 lh2_6.length), (8, ii x8_x01), (9, ii x9_6), (17, ii x97_6), (18, s0 3 lh3_7.length), (20, ii x102_7), (22, ii (List.getD lh3_7 (Int.toNat x112_8) 0)), (96, ii x96_6), (97, ii x97_6), (101, ii x101_7), (102, ii x102_7), (110, s0 3 lh3_7.length), (111, ii x111_8), (112, ii x112_8), (117, .bool true), (118, s0 0 lh0_x01.length), (119, ii (List.getD lh3_7 (Int.toNat x112_8) 0))]) (by kernel_rfl) ?_
          cases b4 : (inRow (List.getD lh3_7 (Int.toNat x112_8) 0) lh0_x01.length : Bool) with
          | false => cases (cF b4 h)
          | true =>
            have h := cT b4 h
            refine XU.rd E0_ok [5, 6, 7, 8, 9, 17, 18, 20, 22, 96, 97, 101, 102, 110, 111, 112, 117, 120] rfl (v := pp 0 ((Int.toNat (List.getD lh3_7 (Int.toNat x112_8) 0)) * 2)) (v_idx (s := 2) (x := (src 212 (.tmp 118))) (y := (src 212 (.tmp 119))) (b := 0) (o := 0) (len := lh0_x01.length) (cap := lh0_x01.length) (ik := .i64) (i := List.getD lh3_7 (Int.toNat x112_8) 0) (off := (Int.toNat (List.getD lh3_7 (Int.toNat x112_8) 0)) * 2) (d := (some (path 12 120))) (by kernel_rfl) (by kernel_rfl) (by kernel_rfl) b4 (by omega)) (σ' := [(5, s0 0 lh0_x01.length), (6, s0 1 lh1_x01.length), (7, s0 2 lh2_6.length), (8, ii x8_x01), (9, ii x9_6), (17, ii x97_6), (18, s0 3 lh3_7.length), (20, ii x102_7), (22, ii (List.getD lh3_7 (Int.toNat x112_8) 0)), (96, ii x96_6), (97, ii x97_6), (101, ii x101_7), (102, ii x102_7), (110, s0 3 lh3_7.length), (111, ii x111_8), (112, ii x112_8), (117, .bool true), (120, pp 0 ((Int.toNat (List.getD lh3_7 (Int.toNat x112_8) 0)) * 2))]) (by kernel_rfl) ?_
            refine XU.run E0_ok 1 1 [5, 6, 7, 8, 9, 17, 18, 20, 22, 96, 97, 101, 102, 110, 111, 112, 117, 121] rfl (σ' := [(5, s0 0 lh0_x01.length), (6, s0 1 lh1_x01.length), (7, s0 2 lh2_6.length), (8, ii x8_x01), (9, ii x9_6), (17, ii x97_6), (18, s0 3 lh3_7.length), (20, ii x102_7), (22, ii (List.getD lh3_7 (Int.toNat x112_8) 0)), (96, ii x96_6), (97, ii x97_6), (101, ii x101_7), (102, ii x102_7), (110, s0 3 lh3_7.length), (111, ii x111_8), (112, ii x112_8), (117, .bool true), (121, pp 0 ((Int.toNat (List.getD lh3_7 (Int.toNat x112_8) 0)) * 2 + 1))]) (by kernel_rfl) ?_
            refine XU.rd E0_ok [5, 6, 7, 8, 9, 17, 18, 20, 22, 96, 97, 101, 102, 110, 111, 112, 117, 122] rfl (v := ii ((List.getD lh0_x01 (Int.toNat (List.getD lh3_7 (Int.toNat x112_8) 0)) (0, 0)).2)) (v_load1 encP_ok (x := (src 212 (.tmp 121))) (b := 0) (off := (Int.toNat (List.getD lh3_7 (Int.toNat x112_8) 0)) * 2 + 1) (xs := lh0_x01) (fz := 0) (e := 61) (es := 2) (d := (some (path 12 122))) (by kernel_rfl) (by kernel_rfl) (by kernel_rfl) (Int.toNat (List.getD lh3_7 (Int.toNat x112_8) 0)) 1 (0, 0) (by first | rfl | omega) (row_len (inRow_toNat b4) (by simp)) rfl rfl) (σ' := [(5, s0 0 lh0_x01.length), (6, s0 1 lh1_x01.length), (7, s0 2 lh2_6.length), (8, ii x8_x01), (9, ii x9_6), (17, ii x97_6), (18, s0 3 lh3_7.length), (20, ii x102_7), (22, ii (List.getD lh3_7 (Int.toNat x112_8) 0)), (96, ii x96_6), (97, ii x97_6), (101, ii x101_7), (102, ii x102_7), (110, s0 3 lh3_7.length), (111, ii x111_8), (112, ii x112_8), (117, .bool true), (122, ii ((List.getD lh0_x01 (Int.toNat (List.getD lh3_7 (Int.toNat x112_8) 0)) (0, 0)).2))]) (by kernel_rfl) ?_
            refine XU.run E0_ok 1 2 [5, 6, 7, 8, 9, 17, 18, 20, 22, 96, 97, 101, 102, 110, 111, 112, 117, 122, 123, 124] rfl (σ' := [(5, s0 0 lh0_x01.length), (6, s0 1 lh1_x01.length), (7, s0 2 lh2_6.length), (8, ii x8_x01), (9, ii x9_6), (17, ii x97_6), (18, s0 3 lh3_7.length), (20, ii x102_7), (22, ii (List.getD lh3_7 (Int.toNat x112_8) 0)), (96, ii x96_6), (97, ii x97_6), (101, ii x101_7), (102, ii x102_7), (110, s0 3 lh3_7.length), (111, ii x111_8), (112, ii x112_8), (117, .bool true), (122, ii ((List.getD lh0_x01 (Int.toNat (List.getD lh3_7 (Int.toNat x112_8) 0)) (0, 0)).2)), (123, s0 0 lh0_x01.length), (124, ii x102_7)]) (by kernel_rfl) ?_
            cases b5 : (inRow x102_7 lh0_x01.length : Bool) with
            | false => cases (cF b5 h)
            | true =>
              have h := cT b5 h
              refine XU.rd E0_ok [5, 6, 7, 8, 9, 17, 18, 20, 22, 96, 97, 101, 102, 110, 111, 112, 117, 122, 125] rfl (v := pp 0 ((Int.toNat x102_7) * 2)) (v_idx (s := 2) (x := (src 212 (.tmp 123))) (y := (src 212 (.tmp 124))) (b := 0) (o := 0) (len := lh0_x01.length) (cap := lh0_x01.length) (ik := .i64) (i := x102_7) (off := (Int.toNat x102_7) * 2) (d := (some (path 12 125))) (by kernel_rfl) (by kernel_rfl) (by kernel_rfl) b5 (by omega)) (σ' := [(5, s0 0 lh0_x01.length), (6, s0 1 lh1_x01.length), (7, s0 2 lh2_6.length), (8, ii x8_x01), (9, ii x9_6), (17, ii x97_6), (18, s0 3 lh3_7.length), (20, ii x102_7), (22, ii (List.getD lh3_7 (Int.toNat x112_8) 0)), (96, ii x96_6), (97, ii x97_6), (101, ii x101_7), (102, ii x102_7), (110, s0 3 lh3_7.length), (111, ii x111_8), (112, ii x112_8), (117, .bool true), (122, ii ((List.getD lh0_x01 (Int.toNat (List.getD lh3_7 (Int.toNat x112_8) 0)) (0, 0)).2)), (125, pp 0 ((Int.toNat x102_7) * 2))]) (by kernel_rfl) ?_
              refine XU.run E0_ok 1 1 [5, 6, 7, 8, 9, 17, 18, 20, 22, 96, 97, 101, 102, 110, 111, 112, 117, 122, 126] rfl (σ' := [(5, s0 0 lh0_x01.length), (6, s0 1 lh1_x01.length), (7, s0 2 lh2_6.length), (8, ii x8_x01), (9, ii x9_6), (17, ii x97_6), (18, s0 3 lh3_7.length), (20, ii x102_7), (22, ii (List.getD lh3_7 (Int.toNat x112_8) 0)), (96, ii x96_6), (97, ii x97_6), (101, ii x101_7), (102, ii x102_7), (110, s0 3 lh3_7.length), (111, ii x111_8), (112, ii x112_8), (117, .bool true), (122, ii ((List.getD lh0_x01 (Int.toNat (List.getD lh3_7 (Int.toNat x112_8) 0)) (0, 0)).2)), (126, pp 0 ((Int.toNat x102_7) * 2))]) (by kernel_rfl) ?_
              refine XU.rd E0_ok [5, 6, 7, 8, 9, 17, 18, 20, 22, 96, 97, 101, 102, 110, 111, 112, 117, 122, 127] rfl (v := ii ((List.getD lh0_x01 (Int.toNat x102_7) (0, 0)).1)) (v_load1 encP_ok (x := (src 212 (.tmp 126))) (b := 0) (off := (Int.toNat x102_7) * 2) (xs := lh0_x01) (fz := 0) (e := 61) (es := 2) (d := (some (path 12 127))) (by kernel_rfl) (by kernel_rfl) (by kernel_rfl) (Int.toNat x102_7) 0 (0, 0) (by first | rfl | omega) (row_len (inRow_toNat b5) (by simp)) rfl rfl) (σ' := [(5, s0 0 lh0_x01.length), (6, s0 1 lh1_x01.length), (7, s0 2 lh2_6.length), (8, ii x8_x01), (9, ii x9_6), (17, ii x97_6), (18, s0 3 lh3_7.length), (20, ii x102_7), (22, ii (List.getD lh3_7 (Int.toNat x112_8) 0)), (96, ii x96_6), (97, ii x97_6), (101, ii x101_7), (102, ii x102_7), (110, s0 3 lh3_7.length), (111, ii x111_8), (112, ii x112_8), (117, .bool true), (122, ii ((List.getD lh0_x01 (Int.toNat (List.getD lh3_7 (Int.toNat x112_8) 0)) (0, 0)).2)), (127, ii ((List.getD lh0_x01 (Int.toNat x102_7) (0, 0)).1))]) (by kernel_rfl) ?_
              refine XU.run E0_ok 1 2 [5, 6, 7, 8, 9, 17, 18, 20, 22, 96, 97, 101, 102, 110, 111, 112, 117, 129] rfl (σ' := [(5, s0 0 lh0_x01.length), (6, s0 1 lh1_x01.length), (7, s0 2 lh2_6.length), (8, ii x8_x01), (9, ii x9_6), (17, ii x97_6), (18, s0 3 lh3_7.length), (20, ii x102_7), (22, ii (List.getD lh3_7 (Int.toNat x112_8) 0)), (96, ii x96_6), (97, ii x97_6), (101, ii x101_7), (102, ii x102_7), (110, s0 3 lh3_7.length), (111, ii x111_8), (112, ii x112_8), (117, .bool true), (129, .bool (decide (((List.getD lh0_x01 (Int.toNat (List.getD lh3_7 (Int.toNat x112_8) 0)) (0, 0)).2) < ((List.getD lh0_x01 (Int.toNat x102_7) (0, 0)).1))))]) (by kernel_rfl) ?_
              cases b6 : (decide (((List.getD lh0_x01 (Int.toNat (List.getD lh3_7 (Int.toNat x112_8) 0)) (0, 0)).2) < ((List.getD lh0_x01 (Int.toNat x102_7) (0, 0)).1)) : Bool) with
              | true =>
                have h := cT b6 h
                refine XU.run E0_ok 1 14 [5, 6, 7, 8, 9, 17, 18, 19, 20, 96, 97, 101, 102, 110, 111, 112] rfl (σ' := [(5, s0 0 lh0_x01.length), (6, s0 1 lh1_x01.length), (7, s0 2 lh2_6.length), (8, ii x8_x01), (9, ii x9_6), (17, ii x97_6), (18, s0 3 lh3_7.length), (19, .bool true), (20, ii x102_7), (96, ii x96_6), (97, ii x97_6), (101, ii x101_7), (102, ii x102_7), (110, s0 3 lh3_7.length), (111, ii x111_8), (112, ii x112_8)]) (by kernel_rfl) ?_
                refine XU.done (by kernel_rfl) ?_
                show XQ _ _ _ _ _ _ _ _
                refine XQ.region (by kernel_rfl) ?_
                refine XR.runS E0_ok 1 2 [(5, s0 0 lh0_x01.length), (6, s0 1 lh1_x01.length), (7, s0 2 lh2_6.length), (8, ii x8_x01), (9, ii x9_6), (17, ii x97_6), (18, s0 3 lh3_7.length), (19, .bool true), (20, ii x102_7), (96, ii x96_6), (97, ii x97_6), (101, ii x101_7), (102, ii x102_7), (110, s0 3 lh3_7.length), (111, ii x111_8), (112, ii (w64 (x112_8 + 1)))] rfl (by kernel_rfl) ?_
                refine XR.done (by kernel_rfl) ?_
                show XL _ _ _ _ _ _ _ _ _
                refine XL.ren (σ' := [(5, s0 0 lh0_x01.length), (6, s0 1 lh1_x01.length), (7, s0 2 lh2_6.length), (8, ii x8_x01), (9, ii x9_6), (17, ii x97_6), (18, s0 3 lh3_7.length), (19, .bool true), (20, ii x102_7), (96, ii x96_6), (97, ii x97_6), (101, ii x101_7), (102, ii x102_7), (110, s0 3 lh3_7.length), (111, ii x111_8), (112, ii (w64 (x112_8 + 1)))]) (h' := [(3, rc (encI .i64) lh3_7 0 3 1), (2, rc (encI .i64) lh2_6 0 3 1), (1, rc (encI .i64) lh1_x01 0 3 1), (0, rc encP lh0_x01 0 61 2)]) (c' := 4) [0, 1, 2, 3] (by decide) rfl ⟨by kernel_rfl, by kernel_rfl, by kernel_rfl, by kernel_rfl, by kernel_rfl, by kernel_rfl, by kernel_rfl, by kernel_rfl, by kernel_rfl, by kernel_rfl, by kernel_rfl, by kernel_rfl, by kernel_rfl, by kernel_rfl, by kernel_rfl, by kernel_rfl, trivial⟩ ⟨⟨_, _, rfl, rfl, .inl ⟨rfl, rowC_scal (encI_ok .i64) _⟩⟩, ⟨_, _, rfl, rfl, .inl ⟨rfl, rowC_scal (encI_ok .i64) _⟩⟩, ⟨_, _, rfl, rfl, .inl ⟨rfl, rowC_scal (encI_ok .i64) _⟩⟩, ⟨_, _, rfl, rfl, .inl ⟨rfl, rowC_scal encP_ok _⟩⟩, trivial⟩ rfl ?_
                refine XL.conv (f14_8_ok m fuel x8_x01 lh0_x01 lh1_x01 x9_6 x96_6 x97_6 lh2_6 x101_7 x102_7 lh3_7 true x111_8 (w64 (x112_8 + 1)) o h Q hQ) (by first | rfl | simp)
              | false =>
                have h := cF b6 h
                refine XU.run E0_ok 1 2 [5, 6, 7, 8, 9, 17, 18, 20, 22, 96, 97, 101, 102, 110, 111, 112, 117, 129, 130, 131] rfl (σ' := [(5, s0 0 lh0_x01.length), (6, s0 1 lh1_x01.length), (7, s0 2 lh2_6.length), (8, ii x8_x01), (9, ii x9_6), (17, ii x97_6), (18, s0 3 lh3_7.length), (20, ii x102_7), (22, ii (List.getD lh3_7 (Int.toNat x112_8) 0)), (96, ii x96_6), (97, ii x97_6), (101, ii x101_7), (102, ii x102_7), (110, s0 3 lh3_7.length), (111, ii x111_8), (112, ii x112_8), (117, .bool true), (129, .bool false), (130, s0 0 lh0_x01.length), (131, ii x102_7)]) (by kernel_rfl) ?_
                refine XU.rd E0_ok [5, 6, 7, 8, 9, 17, 18, 20, 22, 96, 97, 101, 102, 110, 111, 112, 117, 129, 132] rfl (v := pp 0 ((Int.toNat x102_7) * 2)) (v_idx (s := 2) (x := (src 212 (.tmp 130))) (y := (src 212 (.tmp 131))) (b := 0) (o := 0) (len := lh0_x01.length) (cap := lh0_x01.length) (ik := .i64) (i := x102_7) (off := (Int.toNat x102_7) * 2) (d := (some (path 12 132))) (by kernel_rfl) (by kernel_rfl) (by kernel_rfl) b5 (by omega)) (σ' := [(5, s0 0 lh0_x01.length), (6, s0 1 lh1_x01.length), (7, s0 2 lh2_6.length), (8, ii x8_x01), (9, ii x9_6), (17, ii x97_6), (18, s0 3 lh3_7.length), (20, ii x102_7), (22, ii (List.getD lh3_7 (Int.toNat x112_8) 0)), (96, ii x96_6), (97, ii x97_6), (101, ii x101_7), (102, ii x102_7), (110, s0 3 lh3_7.length), (111, ii x111_8), (112, ii x112_8), (117, .bool true), (129, .bool false), (132, pp 0 ((Int.toNat x102_7) * 2))]) (by kernel_rfl) ?_
                refine XU.run E0_ok 1 1 [5, 6, 7, 8, 9, 17, 18, 20, 22, 96, 97, 101, 102, 110, 111, 112, 117, 129, 133] rfl (σ' := [(5, s0 0 lh0_x01.length), (6, s0 1 lh1_x01.length), (7, s0 2 lh2_6.length), (8, ii x8_x01), (9, ii x9_6), (17, ii x97_6), (18, s0 3 lh3_7.length), (20, ii x102_7), (22, ii (List.getD lh3_7 (Int.toNat x112_8) 0)), (96, ii x96_6), (97, ii x97_6), (101, ii x101_7), (102, ii x102_7), (110, s0 3 lh3_7.length), (111, ii x111_8), (112, ii x112_8), (117, .bool true), (129, .bool false), (133, pp 0 ((Int.toNat x102_7) * 2 + 1))]) (by kernel_rfl) ?_
                refine XU.rd E0_ok [5, 6, 7, 8, 9, 17, 18, 20, 22, 96, 97, 101, 102, 110, 111, 112, 117, 129, 134] rfl (v := ii ((List.getD lh0_x01 (Int.toNat x102_7) (0, 0)).2)) (v_load1 encP_ok (x := (src 212 (.tmp 133))) (b := 0) (off := (Int.toNat x102_7) * 2 + 1) (xs := lh0_x01) (fz := 0) (e := 61) (es := 2) (d := (some (path 12 134))) (by kernel_rfl) (by kernel_rfl) (by kernel_rfl) (Int.toNat x102_7) 1 (0, 0) (by first | rfl | omega) (row_len (inRow_toNat b5) (by simp)) rfl rfl) (σ' := [(5, s0 0 lh0_x01.length), (6, s0 1 lh1_x01.length), (7, s0 2 lh2_6.length), (8, ii x8_x01), (9, ii x9_6), (17, ii x97_6), (18, s0 3 lh3_7.length), (20, ii x102_7), (22, ii (List.getD lh3_7 (Int.toNat x112_8) 0)), (96, ii x96_6), (97, ii x97_6), (101, ii x101_7), (102, ii x102_7), (110, s0 3 lh3_7.length), (111, ii x111_8), (112, ii x112_8), (117, .bool true), (129, .bool false), (134, ii ((List.getD lh0_x01 (Int.toNat x102_7) (0, 0)).2))]) (by kernel_rfl) ?_
                refine XU.run E0_ok 1 2 [5, 6, 7, 8, 9, 17, 18, 20, 96, 97, 101, 102, 110, 111, 112, 117, 129, 134, 135, 136] rfl (σ' := [(5, s0 0 lh0_x01.length), (6, s0 1 lh1_x01.length), (7, s0 2 lh2_6.length), (8, ii x8_x01), (9, ii x9_6), (17, ii x97_6), (18, s0 3 lh3_7.length), (20, ii x102_7), (96, ii x96_6), (97, ii x97_6), (101, ii x101_7), (102, ii x102_7), (110, s0 3 lh3_7.length), (111, ii x111_8), (112, ii x112_8), (117, .bool true), (129, .bool false), (134, ii ((List.getD lh0_x01 (Int.toNat x102_7) (0, 0)).2)), (135, s0 0 lh0_x01.length), (136, ii (List.getD lh3_7 (Int.toNat x112_8) 0))]) (by kernel_rfl) ?_
                refine XU.rd E0_ok [5, 6, 7, 8, 9, 17, 18, 20, 96, 97, 101, 102, 110, 111, 112, 117, 129, 134, 137] rfl (v := pp 0 ((Int.toNat (List.getD lh3_7 (Int.toNat x112_8) 0)) * 2)) (v_idx (s := 2) (x := (src 212 (.tmp 135))) (y := (src 212 (.tmp 136))) (b := 0) (o := 0) (len := lh0_x01.length) (cap := lh0_x01.length) (ik := .i64) (i := List.getD lh3_7 (Int.toNat x112_8) 0) (off := (Int.toNat (List.getD lh3_7 (Int.toNat x112_8) 0)) * 2) (d := (some (path 12 137))) (by kernel_rfl) (by kernel_rfl) (by kernel_rfl) b4 (by omega)) (σ' := [(5, s0 0 lh0_x01.length), (6, s0 1 lh1_x01.length), (7, s0 2 lh2_6.length), (8, ii x8_x01), (9, ii x9_6), (17, ii x97_6), (18, s0 3 lh3_7.length), (20, ii x102_7), (96, ii x96_6), (97, ii x97_6), (101, ii x101_7), (102, ii x102_7), (110, s0 3 lh3_7.length), (111, ii x111_8), (112, ii x112_8), (117, .bool true), (129, .bool false), (134, ii ((List.getD lh0_x01 (Int.toNat x102_7) (0, 0)).2)), (137, pp 0 ((Int.toNat (List.getD lh3_7 (Int.toNat x112_8) 0)) * 2))]) (by kernel_rfl) ?_
                refine XU.run E0_ok 1 1 [5, 6, 7, 8, 9, 17, 18, 20, 96, 97, 101, 102, 110, 111, 112, 117, 129, 134, 138] rfl (σ' := [(5, s0 0 lh0_x01.length), (6, s0 1 lh1_x01.length), (7, s0 2 lh2_6.length), (8, ii x8_x01), (9, ii x9_6), (17, ii x97_6), (18, s0 3 lh3_7.length), (20, ii x102_7), (96, ii x96_6), (97, ii x97_6), (101, ii x101_7), (102, ii x102_7), (110, s0 3 lh3_7.length), (111, ii x111_8), (112, ii x112_8), (117, .bool true), (129, .bool false), (134, ii ((List.getD lh0_x01 (Int.toNat x102_7) (0, 0)).2)), (138, pp 0 ((Int.toNat (List.getD lh3_7 (Int.toNat x112_8) 0)) * 2))]) (by kernel_rfl) ?_
                refine XU.rd E0_ok [5, 6, 7, 8, 9, 17, 18, 20, 96, 97, 101, 102, 110, 111, 112, 117, 129, 134, 139] rfl (v := ii ((List.getD lh0_x01 (Int.toNat (List.getD lh3_7 (Int.toNat x112_8) 0)) (0, 0)).1)) (v_load1 encP_ok (x := (src 212 (.tmp 138))) (b := 0) (off := (Int.toNat (List.getD lh3_7 (Int.toNat x112_8) 0)) * 2) (xs := lh0_x01) (fz := 0) (e := 61) (es := 2) (d := (some (path 12 139))) (by kernel_rfl) (by kernel_rfl) (by kernel_rfl) (Int.toNat (List.getD lh3_7 (Int.toNat x112_8) 0)) 0 (0, 0) (by first | rfl | omega) (row_len (inRow_toNat b4) (by simp)) rfl rfl) (σ' := [(5, s0 0 lh0_x01.length), (6, s0 1 lh1_x01.length), (7, s0 2 lh2_6.length), (8, ii x8_x01), (9, ii x9_6), (17, ii x97_6), (18, s0 3 lh3_7.length), (20, ii x102_7), (96, ii x96_6), (97, ii x97_6), (101, ii x101_7), (102, ii x102_7), (110, s0 3 lh3_7.length), (111, ii x111_8), (112, ii x112_8), (117, .bool true), (129, .bool false), (134, ii ((List.getD lh0_x01 (Int.toNat x102_7) (0, 0)).2)), (139, ii ((List.getD lh0_x01 (Int.toNat (List.getD lh3_7 (Int.toNat x112_8) 0)) (0, 0)).1))]) (by kernel_rfl) ?_
                refine XU.run E0_ok 1 4 [5, 6, 7, 8, 9, 17, 18, 19, 20, 96, 97, 101, 102, 110, 111, 112] rfl (σ' := [(5, s0 0 lh0_x01.length), (6, s0 1 lh1_x01.length), (7, s0 2 lh2_6.length), (8, ii x8_x01), (9, ii x9_6), (17, ii x97_6), (18, s0 3 lh3_7.length), (19, .bool (decide (((List.getD lh0_x01 (Int.toNat x102_7) (0, 0)).2) < ((List.getD lh0_x01 (Int.toNat (List.getD lh3_7 (Int.toNat x112_8) 0)) (0, 0)).1)))), (20, ii x102_7), (96, ii x96_6), (97, ii x97_6), (101, ii x101_7), (102, ii x102_7), (110, s0 3 lh3_7.length), (111, ii x111_8), (112, ii x112_8)]) (by kernel_rfl) ?_
                refine XU.done (by kernel_rfl) ?_
                show XQ _ _ _ _ _ _ _ _
                refine XQ.region (by kernel_rfl) ?_
                refine XR.runS E0_ok 1 2 [(5, s0 0 lh0_x01.length), (6, s0 1 lh1_x01.length), (7, s0 2 lh2_6.length), (8, ii x8_x01), (9, ii x9_6), (17, ii x97_6), (18, s0 3 lh3_7.length), (19, .bool (decide (((List.getD lh0_x01 (Int.toNat x102_7) (0, 0)).2) < ((List.getD lh0_x01 (Int.toNat (List.getD lh3_7 (Int.toNat x112_8) 0)) (0, 0)).1)))), (20, ii x102_7), (96, ii x96_6), (97, ii x97_6), (101, ii x101_7), (102, ii x102_7), (110, s0 3 lh3_7.length), (111, ii x111_8), (112, ii (w64 (x112_8 + 1)))] rfl (by kernel_rfl) ?_
                refine XR.done (by kernel_rfl) ?_
                show XL _ _ _ _ _ _ _ _ _
                refine XL.ren (σ' := [(5, s0 0 lh0_x01.length), (6, s0 1 lh1_x01.length), (7, s0 2 lh2_6.length), (8, ii x8_x01), (9, ii x9_6), (17, ii x97_6), (18, s0 3 lh3_7.length), (19, .bool (decide (((List.getD lh0_x01 (Int.toNat x102_7) (0, 0)).2) < ((List.getD lh0_x01 (Int.toNat (List.getD lh3_7 (Int.toNat x112_8) 0)) (0, 0)).1)))), (20, ii x102_7), (96, ii x96_6), (97, ii x97_6), (101, ii x101_7), (102, ii x102_7), (110, s0 3 lh3_7.length), (111, ii x111_8), (112, ii (w64 (x112_8 + 1)))]) (h' := [(3, rc (encI .i64) lh3_7 0 3 1), (2, rc (encI .i64) lh2_6 0 3 1), (1, rc (encI .i64) lh1_x01 0 3 1), (0, rc encP lh0_x01 0 61 2)]) (c' := 4) [0, 1, 2, 3] (by decide) rfl ⟨by kernel_rfl, by kernel_rfl, by kernel_rfl, by kernel_rfl, by kernel_rfl, by kernel_rfl, by kernel_rfl, by kernel_rfl, by kernel_rfl, by kernel_rfl, by kernel_rfl, by kernel_rfl, by kernel_rfl, by kernel_rfl, by kernel_rfl, by kernel_rfl, trivial⟩ ⟨⟨_, _, rfl, rfl, .inl ⟨rfl, rowC_scal (encI_ok .i64) _⟩⟩, ⟨_, _, rfl, rfl, .inl ⟨rfl, rowC_scal (encI_ok .i64) _⟩⟩, ⟨_, _, rfl, rfl, .inl ⟨rfl, rowC_scal (encI_ok .i64) _⟩⟩, ⟨_, _, rfl, rfl, .inl ⟨rfl, rowC_scal encP_ok _⟩⟩, trivial⟩ rfl ?_
                refine XL.conv (f14_8_ok m fuel x8_x01 lh0_x01 lh1_x01 x9_6 x96_6 x97_6 lh2_6 x101_7 x102_7 lh3_7 (decide (((List.getD lh0_x01 (Int.toNat x102_7) (0, 0)).2) < ((List.getD lh0_x01 (Int.toNat (List.getD lh3_7 (Int.toNat x112_8) 0)) (0, 0)).1))) x111_8 (w64 (x112_8 + 1)) o h Q hQ) (by first | rfl | simp)
        | false =>
          have h := cF b3 h
          refine XU.run E0_ok 1 26 [5, 6, 7, 8, 9, 17, 18, 19, 20, 96, 97, 101, 102, 110, 111, 112] rfl (σ' := [(5, s0 0 lh0_x01.length), (6, s0 1 lh1_x01.length), (7, s0 2 lh2_6.length), (8, ii x8_x01), (9, ii x9_6), (17, ii x97_6), (18, s0 3 lh3_7.length), (19, .bool false), (20, ii x102_7), (96, ii x96_6), (97, ii x97_6), (101, ii x101_7), (102, ii x102_7), (110, s0 3 lh3_7.length), (111, ii x111_8), (112, ii x112_8)]) (by kernel_rfl) ?_
          refine XU.done (by kernel_rfl) ?_
          show XQ _ _ _ _ _ _ _ _
          refine XQ.region (by kernel_rfl) ?_
          refine XR.runS E0_ok 1 2 [(5, s0 0 lh0_x01.length), (6, s0 1 lh1_x01.length), (7, s0 2 lh2_6.length), (8, ii x8_x01), (9, ii x9_6), (17, ii x97_6), (18, s0 3 lh3_7.length), (19, .bool false), (20, ii x102_7), (96, ii x96_6), (97, ii x97_6), (101, ii x101_7), (102, ii x102_7), (110, s0 3 lh3_7.length), (111, ii x111_8), (112, ii (w64 (x112_8 + 1)))] rfl (by kernel_rfl) ?_
          refine XR.done (by kernel_rfl) ?_
          show XL _ _ _ _ _ _ _ _ _
          refine XL.ren (σ' := [(5, s0 0 lh0_x01.length), (6, s0 1 lh1_x01.length), (7, s0 2 lh2_6.length), (8, ii x8_x01), (9, ii x9_6), (17, ii x97_6), (18, s0 3 lh3_7.length), (19, .bool false), (20, ii x102_7), (96, ii x96_6), (97, ii x97_6), (101, ii x101_7), (102, ii x102_7), (110, s0 3 lh3_7.length), (111, ii x111_8), (112, ii (w64 (x112_8 + 1)))]) (h' := [(3, rc (encI .i64) lh3_7 0 3 1), (2, rc (encI .i64) lh2_6 0 3 1), (1, rc (encI .i64) lh1_x01 0 3 1), (0, rc encP lh0_x01 0 61 2)]) (c' := 4) [0, 1, 2, 3] (by decide) rfl ⟨by kernel_rfl, by kernel_rfl, by kernel_rfl, by kernel_rfl, by kernel_rfl, by kernel_rfl, by kernel_rfl, by kernel_rfl, by kernel_rfl, by kernel_rfl, by kernel_rfl, by kernel_rfl, by kernel_rfl, by kernel_rfl, by kernel_rfl, by kernel_rfl, trivial⟩ ⟨⟨_, _, rfl, rfl, .inl ⟨rfl, rowC_scal (encI_ok .i64) _⟩⟩, ⟨_, _, rfl, rfl, .inl ⟨rfl, rowC_scal (encI_ok .i64) _⟩⟩, ⟨_, _, rfl, rfl, .inl ⟨rfl, rowC_scal (encI_ok .i64) _⟩⟩, ⟨_, _, rfl, rfl, .inl ⟨rfl, rowC_scal encP_ok _⟩⟩, trivial⟩ rfl ?_
          refine XL.conv (f14_8_ok m fuel x8_x01 lh0_x01 lh1_x01 x9_6 x96_6 x97_6 lh2_6 x101_7 x102_7 lh3_7 false x111_8 (w64 (x112_8 + 1)) o h Q hQ) (by first | rfl | simp)
    | false =>
      have h := cF b1 h
      refine XQ.cond (s := (.tmp 113)) (b := false) (by kernel_rfl) (by kernel_rfl) (fun q => by cases q) (fun _ => ?_)
      refine XQ.ren (σ' := [(5, s0 0 lh0_x01.length), (6, s0 1 lh1_x01.length), (7, s0 2 lh2_6.length), (8, ii x8_x01), (9, ii x9_6), (17, ii x97_6), (18, s0 3 lh3_7.length), (19, .bool b19_8), (20, ii x102_7), (96, ii x96_6), (97, ii x97_6), (101, ii x101_7), (102, ii x102_7)]) (h' := [(3, rc (encI .i64) lh3_7 0 3 1), (2, rc (encI .i64) lh2_6 0 3 1), (1, rc (encI .i64) lh1_x01 0 3 1), (0, rc encP lh0_x01 0 61 2)]) (c' := 4) [0, 1, 2, 3] (by decide) rfl ⟨by kernel_rfl, by kernel_rfl, by kernel_rfl, by kernel_rfl, by kernel_rfl, by kernel_rfl, by kernel_rfl, by kernel_rfl, by kernel_rfl, by kernel_rfl, by kernel_rfl, by kernel_rfl, by kernel_rfl, trivial⟩ ⟨⟨_, _, rfl, rfl, .inl ⟨rfl, rowC_scal (encI_ok .i64) _⟩⟩, ⟨_, _, rfl, rfl, .inl ⟨rfl, rowC_scal (encI_ok .i64) _⟩⟩, ⟨_, _, rfl, rfl, .inl ⟨rfl, rowC_scal (encI_ok .i64) _⟩⟩, ⟨_, _, rfl, rfl, .inl ⟨rfl, rowC_scal encP_ok _⟩⟩, trivial⟩ rfl ?_
      refine XQ.exit (i := 10) (by kernel_rfl) ?_
      cases h
      exact hQ

def f14_7 (m : Nat) : Nat → Int → List (Int × Int) → List Int → Int → Int → Int → List Int → Bool → Int → Int → List Int → Option (Bool × (List Int))
  | 0, _, _, _, _, _, _, _, _, _, _, _ => none
  | fuel + 1, x8_x01, lh0_x01, lh1_x01, x9_6, x96_6, x97_6, lh2_6, b19_7, x101_7, x102_7, lh3_7 =>
    cond (decide (x102_7 < x101_7)) (
      cond (decide (0 ≤ x102_7)) (
        cond ((andV .i64 (shV false .i64 x97_6 x102_7) 1) == 0) (
          f14_7 m fuel x8_x01 lh0_x01 lh1_x01 x9_6 x96_6 x97_6 lh2_6 b19_7 x101_7 (w64 (x102_7 + 1)) lh3_7
        ) (
          (f14_8 m m x8_x01 lh0_x01 lh1_x01 x9_6 x96_6 x97_6 lh2_6 x101_7 x102_7 lh3_7 b19_7 ((lh3_7.length : Nat) : Int) 0).bind fun o8 =>
            cond (fitsB (lh3_7.length + 1) 8) (
              f14_7 m fuel x8_x01 lh0_x01 lh1_x01 x9_6 x96_6 x97_6 lh2_6 o8 x101_7 (w64 (x102_7 + 1)) (lh3_7 ++ [x102_7])
            ) none
        )
      ) none
    ) (
      some (b19_7, lh3_7)
    )

theorem f14_7_ok (m : Nat) : ∀ (fuel : Nat) (x8_x01 : Int) (lh0_x01 : List (Int × Int)) (lh1_x01 : List Int) (x9_6 : Int) (x96_6 : Int) (x97_6 : Int) (lh2_6 : List Int) (b19_7 : Bool) (x101_7 : Int) (x102_7 : Int) (lh3_7 : List Int) (o : (Bool × (List Int))), f14_7 m fuel x8_x01 lh0_x01 lh1_x01 x9_6 x96_6 x97_6 lh2_6 b19_7 x101_7 x102_7 lh3_7 = some o → ∀ Q : QP, Q (.exit 8) [(5, s0 0 lh0_x01.length), (6, s0 1 lh1_x01.length), (7, s0 2 lh2_6.length), (8, ii x8_x01), (9, ii x9_6), (18, s0 3 o.2.length), (19, .bool o.1), (96, ii x96_6), (97, ii x97_6)] [(3, rc (encI .i64) o.2 0 3 1), (2, rc (encI .i64) lh2_6 0 3 1), (1, rc (encI .i64) lh1_x01 0 3 1), (0, rc encP lh0_x01 0 61 2)] 4 → XL E0 212 0 fuel f14_L8 [(5, s0 0 lh0_x01.length), (6, s0 1 lh1_x01.length), (7, s0 2 lh2_6.length), (8, ii x8_x01), (9, ii x9_6), (17, ii x97_6), (18, s0 3 lh3_7.length), (19, .bool b19_7), (96, ii x96_6), (97, ii x97_6), (101, ii x101_7), (102, ii x102_7)] [(3, rc (encI .i64) lh3_7 0 3 1), (2, rc (encI .i64) lh2_6 0 3 1), (1, rc (encI .i64) lh1_x01 0 3 1), (0, rc encP lh0_x01 0 61 2)] 4 Q
  | 0, x8_x01, lh0_x01, lh1_x01, x9_6, x96_6, x97_6, lh2_6, b19_7, x101_7, x102_7, lh3_7, o, h, Q, hQ => by cases h
  | fuel + 1, x8_x01, lh0_x01, lh1_x01, x9_6, x96_6, x97_6, lh2_6, b19_7, x101_7, x102_7, lh3_7, o, h, Q, hQ => by
    unfold f14_7 at h
    refine XL.succ E0_ok ?_
    refine XQ.seq E0_ok (by kernel_rfl) ?_
    refine XQ.region (by kernel_rfl) ?_
    refine XR.runS E0_ok 1 1 [(5, s0 0 lh0_x01.length), (6, s0 1 lh1_x01.length), (7, s0 2 lh2_6.length), (8, ii x8_x01), (9, ii x9_6), (17, ii x97_6), (18, s0 3 lh3_7.length), (19, .bool b19_7), (96, ii x96_6), (97, ii x97_6), (101, ii x101_7), (102, ii x102_7), (103, .bool (decide (x102_7 < x101_7)))] rfl (by kernel_rfl) ?_
    refine XR.done (by kernel_rfl) ?_
    show XQ _ _ _ _ _ _ _ _
    refine XQ.seq E0_ok (by kernel_rfl) ?_
    cases b1 : (decide (x102_7 < x101_7) : Bool) with
    | true =>
      have h := cT b1 h
      refine XQ.cond (s := (.tmp 103)) (b := true) (by kernel_rfl) (by kernel_rfl) (fun _ => ?_) (fun q => by cases q)
      refine XQ.skip (by kernel_rfl) ?_
      show XQ _ _ _ _ _ _ _ _
      refine XQ.seq E0_ok (by kernel_rfl) ?_
      refine XQ.block (id := 9) (by kernel_rfl) ?_
      refine XQ.seq E0_ok (by kernel_rfl) ?_
      refine XQ.region (by kernel_rfl) ?_
      refine XR.runS E0_ok 1 2 [(5, s0 0 lh0_x01.length), (6, s0 1 lh1_x01.length), (7, s0 2 lh2_6.length), (8, ii x8_x01), (9, ii x9_6), (17, ii x97_6), (18, s0 3 lh3_7.length), (19, .bool b19_7), (20, ii x102_7), (96, ii x96_6), (97, ii x97_6), (101, ii x101_7), (102, ii x102_7)] rfl (by kernel_rfl) ?_
      refine XR.done (by kernel_rfl) ?_
      show XQ _ _ _ _ _ _ _ _
      refine XQ.seq E0_ok (by kernel_rfl) ?_
      refine XQ.seq E0_ok (by kernel_rfl) ?_
      refine XQ.region (by kernel_rfl) ?_
      refine XR.runS E0_ok 1 2 [(5, s0 0 lh0_x01.length), (6, s0 1 lh1_x01.length), (7, s0 2 lh2_6.length), (8, ii x8_x01), (9, ii x9_6), (17, ii x97_6), (18, s0 3 lh3_7.length), (19, .bool b19_7), (20, ii x102_7), (96, ii x96_6), (97, ii x97_6), (101, ii x101_7), (102, ii x102_7), (105, ii x97_6), (106, ii x102_7)] rfl (by kernel_rfl) ?_
      cases b2 : (decide (0 ≤ x102_7) : Bool) with
      | false => cases (cF b2 h)
      | true =>
        have h := cT b2 h
        have e3 : insV (headI ((gsOf E0 212 (opsOf (lft (lft (rgt (lft (lft (rgt (rgt f14_L8))))))))).drop 2) (trS 212 [(5, s0 0 lh0_x01.length), (6, s0 1 lh1_x01.length), (7, s0 2 lh2_6.length), (8, ii x8_x01), (9, ii x9_6), (17, ii x97_6), (18, s0 3 lh3_7.length), (19, .bool b19_7), (20, ii x102_7), (96, ii x96_6), (97, ii x97_6), (101, ii x101_7), (102, ii x102_7), (105, ii x97_6), (106, ii x102_7)])) (trS 212 [(5, s0 0 lh0_x01.length), (6, s0 1 lh1_x01.length), (7, s0 2 lh2_6.length), (8, ii x8_x01), (9, ii x9_6), (17, ii x97_6), (18, s0 3 lh3_7.length), (19, .bool b19_7), (20, ii x102_7), (96, ii x96_6), (97, ii x97_6), (101, ii x101_7), (102, ii x102_7), (105, ii x97_6), (106, ii x102_7)]) [(3, rc (encI .i64) lh3_7 0 3 1), (2, rc (encI .i64) lh2_6 0 3 1), (1, rc (encI .i64) lh1_x01 0 3 1), (0, rc encP lh0_x01 0 61 2)] = (match (decide (0 ≤ x102_7) : Bool) with | true => some (ii (shV false .i64 x97_6 x102_7)) | false => none) := by kernel_rfl
        refine XR.rd E0_ok [5, 6, 7, 8, 9, 17, 18, 19, 20, 96, 97, 101, 102, 107] rfl (e3.trans (by rw [b2])) (σ' := [(5, s0 0 lh0_x01.length), (6, s0 1 lh1_x01.length), (7, s0 2 lh2_6.length), (8, ii x8_x01), (9, ii x9_6), (17, ii x97_6), (18, s0 3 lh3_7.length), (19, .bool b19_7), (20, ii x102_7), (96, ii x96_6), (97, ii x97_6), (101, ii x101_7), (102, ii x102_7), (107, ii (shV false .i64 x97_6 x102_7))]) (by kernel_rfl) ?_
        refine XR.runS E0_ok 1 2 [(5, s0 0 lh0_x01.length), (6, s0 1 lh1_x01.length), (7, s0 2 lh2_6.length), (8, ii x8_x01), (9, ii x9_6), (17, ii x97_6), (18, s0 3 lh3_7.length), (19, .bool b19_7), (20, ii x102_7), (96, ii x96_6), (97, ii x97_6), (101, ii x101_7), (102, ii x102_7), (109, .bool ((andV .i64 (shV false .i64 x97_6 x102_7) 1) == 0))] rfl (by kernel_rfl) ?_
        refine XR.done (by kernel_rfl) ?_
        show XQ _ _ _ _ _ _ _ _
        cases b4 : ((andV .i64 (shV false .i64 x97_6 x102_7) 1) == 0 : Bool) with
        | true =>
          have h := cT b4 h
          refine XQ.cond (s := (.tmp 109)) (b := true) (by kernel_rfl) (by kernel_rfl) (fun _ => ?_) (fun q => by cases q)
          refine XQ.exit (i := 9) (by kernel_rfl) ?_
          show XQ _ _ _ _ _ _ _ _
          refine XQ.region (by kernel_rfl) ?_
          refine XR.runS E0_ok 1 2 [(5, s0 0 lh0_x01.length), (6, s0 1 lh1_x01.length), (7, s0 2 lh2_6.length), (8, ii x8_x01), (9, ii x9_6), (17, ii x97_6), (18, s0 3 lh3_7.length), (19, .bool b19_7), (96, ii x96_6), (97, ii x97_6), (101, ii x101_7), (102, ii (w64 (x102_7 + 1)))] rfl (by kernel_rfl) ?_
          refine XR.done (by kernel_rfl) ?_
          show XL _ _ _ _ _ _ _ _ _
          refine XL.ren (σ' := [(5, s0 0 lh0_x01.length), (6, s0 1 lh1_x01.length), (7, s0 2 lh2_6.length), (8, ii x8_x01), (9, ii x9_6), (17, ii x97_6), (18, s0 3 lh3_7.length), (19, .bool b19_7), (96, ii x96_6), (97, ii x97_6), (101, ii x101_7), (102, ii (w64 (x102_7 + 1)))]) (h' := [(3, rc (encI .i64) lh3_7 0 3 1), (2, rc (encI .i64) lh2_6 0 3 1), (1, rc (encI .i64) lh1_x01 0 3 1), (0, rc encP lh0_x01 0 61 2)]) (c' := 4) [0, 1, 2, 3] (by decide) rfl ⟨by kernel_rfl, by kernel_rfl, by kernel_rfl, by kernel_rfl, by kernel_rfl, by kernel_rfl, by kernel_rfl, by kernel_rfl, by kernel_rfl, by kernel_rfl, by kernel_rfl, by kernel_rfl, trivial⟩ ⟨⟨_, _, rfl, rfl, .inl ⟨rfl, rowC_scal (encI_ok .i64) _⟩⟩, ⟨_, _, rfl, rfl, .inl ⟨rfl, rowC_scal (encI_ok .i64) _⟩⟩, ⟨_, _, rfl, rfl, .inl ⟨rfl, rowC_scal (encI_ok .i64) _⟩⟩, ⟨_, _, rfl, rfl, .inl ⟨rfl, rowC_scal encP_ok _⟩⟩, trivial⟩ rfl ?_
          refine XL.conv (f14_7_ok m fuel x8_x01 lh0_x01 lh1_x01 x9_6 x96_6 x97_6 lh2_6 b19_7 x101_7 (w64 (x102_7 + 1)) lh3_7 o h Q hQ) (by first | rfl | simp)
        | false =>
          have h := cF b4 h
          refine XQ.cond (s := (.tmp 109)) (b := false) (by kernel_rfl) (by kernel_rfl) (fun q => by cases q) (fun _ => ?_)
          refine XQ.skip (by kernel_rfl) ?_
          show XQ _ _ _ _ _ _ _ _
          refine XQ.seq E0_ok (by kernel_rfl) ?_
          refine XQ.seq E0_ok (by kernel_rfl) ?_
          refine XQ.region (by kernel_rfl) ?_
          refine XR.runS E0_ok 1 3 [(5, s0 0 lh0_x01.length), (6, s0 1 lh1_x01.length), (7, s0 2 lh2_6.length), (8, ii x8_x01), (9, ii x9_6), (17, ii x97_6), (18, s0 3 lh3_7.length), (19, .bool b19_7), (20, ii x102_7), (96, ii x96_6), (97, ii x97_6), (101, ii x101_7), (102, ii x102_7), (110, s0 3 lh3_7.length), (111, ii ((lh3_7.length : Nat) : Int)), (112, ii 0)] rfl (by kernel_rfl) ?_
          refine XR.done (by kernel_rfl) ?_
          show XQ _ _ _ _ _ _ _ _
          refine XQ.block (id := 10) (by kernel_rfl) ?_
          refine XQ.loop m (by kernel_rfl) ?_
          obtain ⟨o8, o8_h, h⟩ := bS h
          refine XL.ren (σ' := [(5, s0 0 lh0_x01.length), (6, s0 1 lh1_x01.length), (7, s0 2 lh2_6.length), (8, ii x8_x01), (9, ii x9_6), (17, ii x97_6), (18, s0 3 lh3_7.length), (19, .bool b19_7), (20, ii x102_7), (96, ii x96_6), (97, ii x97_6), (101, ii x101_7), (102, ii x102_7), (110, s0 3 lh3_7.length), (111, ii ((lh3_7.length : Nat) : Int)), (112, ii 0)]) (h' := [(3, rc (encI .i64) lh3_7 0 3 1), (2, rc (encI .i64) lh2_6 0 3 1), (1, rc (encI .i64) lh1_x01 0 3 1), (0, rc encP lh0_x01 0 61 2)]) (c' := 4) [0, 1, 2, 3] (by decide) rfl ⟨by kernel_rfl, by kernel_rfl, by kernel_rfl, by kernel_rfl, by kernel_rfl, by kernel_rfl, by kernel_rfl, by kernel_rfl, by kernel_rfl, by kernel_rfl, by kernel_rfl, by kernel_rfl, by kernel_rfl, by kernel_rfl, by kernel_rfl, by kernel_rfl, trivial⟩ ⟨⟨_, _, rfl, rfl, .inl ⟨rfl, rowC_scal (encI_ok .i64) _⟩⟩, ⟨_, _, rfl, rfl, .inl ⟨rfl, rowC_scal (encI_ok .i64) _⟩⟩, ⟨_, _, rfl, rfl, .inl ⟨rfl, rowC_scal (encI_ok .i64) _⟩⟩, ⟨_, _, rfl, rfl, .inl ⟨rfl, rowC_scal encP_ok _⟩⟩, trivial⟩ rfl ?_
          refine XL.conv (f14_8_ok m m x8_x01 lh0_x01 lh1_x01 x9_6 x96_6 x97_6 lh2_6 x101_7 x102_7 lh3_7 b19_7 ((lh3_7.length : Nat) : Int) 0 o8 o8_h _ ?_) (by first | rfl | simp)
          show XQ _ _ _ _ _ _ _ _
          refine XQ.region (by kernel_rfl) ?_
          refine XR.runT E0_ok 1 3 [(5, s0 0 lh0_x01.length), (6, s0 1 lh1_x01.length), (7, s0 2 lh2_6.length), (8, ii x8_x01), (9, ii x9_6), (17, ii x97_6), (19, .bool o8), (96, ii x96_6), (97, ii x97_6), (101, ii x101_7), (102, ii x102_7), (144, s0 3 lh3_7.length), (146, s0 4 1)] [(4, .cells [ii x102_7] 0 3 1), (3, rc (encI .i64) lh3_7 0 3 1), (2, rc (encI .i64) lh2_6 0 3 1), (1, rc (encI .i64) lh1_x01 0 3 1), (0, rc encP lh0_x01 0 61 2)] 5 rfl (by kernel_rfl) ?_
          cases b6 : (fitsB (lh3_7.length + 1) 8 : Bool) with
          | false => cases (cF b6 h)
          | true =>
            have h := cT b6 h
            refine XR.ef E0_ok [5, 6, 7, 8, 9, 17, 19, 96, 97, 101, 102, 147] rfl (e_append (encI_ok .i64) (bytes := 8) (e := 3) (x := (src 212 (.tmp 144))) (y := (src 212 (.tmp 146))) (b := 3) (len := lh3_7.length) (cap := lh3_7.length) (xs := lh3_7) (m := 0) (ys := [x102_7]) (d := (some (path 12 147))) (n' := (lh3_7 ++ [x102_7]).length) (h' := [(5, rc (encI .i64) (lh3_7 ++ [x102_7]) 0 3 1), (4, .cells [ii x102_7] 0 3 1), (2, rc (encI .i64) lh2_6 0 3 1), (1, rc (encI .i64) lh1_x01 0 3 1), (0, rc encP lh0_x01 0 61 2)]) (by kernel_rfl) (by kernel_rfl) (by kernel_rfl) (by kernel_rfl) rfl (by simp) (by simp) b6 (by simp) (by kernel_rfl)) (σ' := [(5, s0 0 lh0_x01.length), (6, s0 1 lh1_x01.length), (7, s0 2 lh2_6.length), (8, ii x8_x01), (9, ii x9_6), (17, ii x97_6), (19, .bool o8), (96, ii x96_6), (97, ii x97_6), (101, ii x101_7), (102, ii x102_7), (147, s0 5 ((lh3_7 ++ [x102_7]).length))]) (by kernel_rfl) ?_
            refine XR.runS E0_ok 1 1 [(5, s0 0 lh0_x01.length), (6, s0 1 lh1_x01.length), (7, s0 2 lh2_6.length), (8, ii x8_x01), (9, ii x9_6), (17, ii x97_6), (18, s0 5 ((lh3_7 ++ [x102_7]).length)), (19, .bool o8), (96, ii x96_6), (97, ii x97_6), (101, ii x101_7), (102, ii x102_7)] rfl (by kernel_rfl) ?_
            refine XR.done (by kernel_rfl) ?_
            show XQ _ _ _ _ _ _ _ _
            refine XQ.region (by kernel_rfl) ?_
            refine XR.runS E0_ok 1 2 [(5, s0 0 lh0_x01.length), (6, s0 1 lh1_x01.length), (7, s0 2 lh2_6.length), (8, ii x8_x01), (9, ii x9_6), (17, ii x97_6), (18, s0 5 ((lh3_7 ++ [x102_7]).length)), (19, .bool o8), (96, ii x96_6), (97, ii x97_6), (101, ii x101_7), (102, ii (w64 (x102_7 + 1)))] rfl (by kernel_rfl) ?_
            refine XR.done (by kernel_rfl) ?_
            show XL _ _ _ _ _ _ _ _ _
            refine XL.ren (σ' := [(5, s0 0 lh0_x01.length), (6, s0 1 lh1_x01.length), (7, s0 2 lh2_6.length), (8, ii x8_x01), (9, ii x9_6), (17, ii x97_6), (18, s0 3 ((lh3_7 ++ [x102_7]).length)), (19, .bool o8), (96, ii x96_6), (97, ii x97_6), (101, ii x101_7), (102, ii (w64 (x102_7 + 1)))]) (h' := [(3, rc (encI .i64) (lh3_7 ++ [x102_7]) 0 3 1), (2, rc (encI .i64) lh2_6 0 3 1), (1, rc (encI .i64) lh1_x01 0 3 1), (0, rc encP lh0_x01 0 61 2)]) (c' := 4) [0, 1, 2, 5] (by decide) rfl ⟨by kernel_rfl, by kernel_rfl, by kernel_rfl, by kernel_rfl, by kernel_rfl, by kernel_rfl, by kernel_rfl, by kernel_rfl, by kernel_rfl, by kernel_rfl, by kernel_rfl, by kernel_rfl, trivial⟩ ⟨⟨_, _, rfl, rfl, .inl ⟨rfl, rowC_scal (encI_ok .i64) _⟩⟩, ⟨_, _, rfl, rfl, .inl ⟨rfl, rowC_scal (encI_ok .i64) _⟩⟩, ⟨_, _, rfl, rfl, .inl ⟨rfl, rowC_scal (encI_ok .i64) _⟩⟩, ⟨_, _, rfl, rfl, .inl ⟨rfl, rowC_scal encP_ok _⟩⟩, trivial⟩ rfl ?_
            refine XL.conv (f14_7_ok m fuel x8_x01 lh0_x01 lh1_x01 x9_6 x96_6 x97_6 lh2_6 o8 x101_7 (w64 (x102_7 + 1)) (lh3_7 ++ [x102_7]) o h Q hQ) (by first | rfl | simp)
    | false =>
      have h := cF b1 h
      refine XQ.cond (s := (.tmp 103)) (b := false) (by kernel_rfl) (by kernel_rfl) (fun q => by cases q) (fun _ => ?_)
      refine XQ.ren (σ' := [(5, s0 0 lh0_x01.length), (6, s0 1 lh1_x01.length), (7, s0 2 lh2_6.length), (8, ii x8_x01), (9, ii x9_6), (18, s0 3 lh3_7.length), (19, .bool b19_7), (96, ii x96_6), (97, ii x97_6)]) (h' := [(3, rc (encI .i64) lh3_7 0 3 1), (2, rc (encI .i64) lh2_6 0 3 1), (1, rc (encI .i64) lh1_x01 0 3 1), (0, rc encP lh0_x01 0 61 2)]) (c' := 4) [0, 1, 2, 3] (by decide) rfl ⟨by kernel_rfl, by kernel_rfl, by kernel_rfl, by kernel_rfl, by kernel_rfl, by kernel_rfl, by kernel_rfl, by kernel_rfl, by kernel_rfl, trivial⟩ ⟨⟨_, _, rfl, rfl, .inl ⟨rfl, rowC_scal (encI_ok .i64) _⟩⟩, ⟨_, _, rfl, rfl, .inl ⟨rfl, rowC_scal (encI_ok .i64) _⟩⟩, ⟨_, _, rfl, rfl, .inl ⟨rfl, rowC_scal (encI_ok .i64) _⟩⟩, ⟨_, _, rfl, rfl, .inl ⟨rfl, rowC_scal encP_ok _⟩⟩, trivial⟩ rfl ?_
      refine XQ.exit (i := 8) (by kernel_rfl) ?_
      cases h
      exact hQ

inductive Of14_9 where
  | r (x4_r9 : Int) (lh3_r9 : List Int)
  | x0 (lh3_x09 : List Int)

def f14_9 (m : Nat) : Nat → List (Int × Int) → List Int → List Int → Int → Int → List Int → Option Of14_9
  | 0, _, _, _, _, _, _ => none
  | fuel + 1, lh0_x01, lh1_x01, lh2_6, x10_9, x11_9, lh3_9 =>
    cond (decide (x11_9 < x10_9)) (
      cond (inRow x11_9 lh3_9.length) (
        cond (decide (x11_9 ≥ ((lh2_6.length : Nat) : Int))) (
          some (.r 1 lh3_9)
        ) (
          cond (inRow x11_9 lh2_6.length) (
            cond ((List.getD lh3_9 (Int.toNat x11_9) 0) != (List.getD lh3_9 (Int.toNat x11_9) 0)) (
              cond ((List.getD lh2_6 (Int.toNat x11_9) 0) != (List.getD lh2_6 (Int.toNat x11_9) 0)) (
                f14_9 m fuel lh0_x01 lh1_x01 lh2_6 x10_9 (w64 (x11_9 + 1)) lh3_9
              ) (
                some (.r (-1) lh3_9)
              )
            ) (
              cond ((List.getD lh2_6 (Int.toNat x11_9) 0) != (List.getD lh2_6 (Int.toNat x11_9) 0)) (
                some (.r 1 lh3_9)
              ) (
                cond (decide ((List.getD lh3_9 (Int.toNat x11_9) 0) < (List.getD lh2_6 (Int.toNat x11_9) 0))) (
                  some (.r (-1) lh3_9)
                ) (
                  cond (decide ((List.getD lh3_9 (Int.toNat x11_9) 0) > (List.getD lh2_6 (Int.toNat x11_9) 0))) (
                    some (.r 1 lh3_9)
                  ) (
                    f14_9 m fuel lh0_x01 lh1_x01 lh2_6 x10_9 (w64 (x11_9 + 1)) lh3_9
                  )
                )
              )
            )
          ) none
        )
      ) none
    ) (
      some (.x0 lh3_9)
    )

theorem f14_9_ok (m : Nat) : ∀ (fuel : Nat) (lh0_x01 : List (Int × Int)) (lh1_x01 : List Int) (lh2_6 : List Int) (x10_9 : Int) (x11_9 : Int) (lh3_9 : List Int) (o : Of14_9), f14_9 m fuel lh0_x01 lh1_x01 lh2_6 x10_9 x11_9 lh3_9 = some o → ∀ Q : QP, (match o with | .r x4_r9 lh3_r9 => Q .ret [(4, ii x4_r9)] [(3, rc (encI .i64) lh3_r9 0 3 1), (2, rc (encI .i64) lh2_6 0 3 1), (1, rc (encI .i64) lh1_x01 0 3 1), (0, rc encP lh0_x01 0 61 2)] 4 | .x0 lh3_x09 => Q (.exit 0) [(0, s0 3 lh3_x09.length), (1, s0 2 lh2_6.length)] [(3, rc (encI .i64) lh3_x09 0 3 1), (2, rc (encI .i64) lh2_6 0 3 1), (1, rc (encI .i64) lh1_x01 0 3 1), (0, rc encP lh0_x01 0 61 2)] 4) → XL E0 36 4 fuel f14_L10 [(0, s0 3 lh3_9.length), (1, s0 2 lh2_6.length), (9, s0 3 lh3_9.length), (10, ii x10_9), (11, ii x11_9)] [(3, rc (encI .i64) lh3_9 0 3 1), (2, rc (encI .i64) lh2_6 0 3 1), (1, rc (encI .i64) lh1_x01 0 3 1), (0, rc encP lh0_x01 0 61 2)] 4 Q
  | 0, lh0_x01, lh1_x01, lh2_6, x10_9, x11_9, lh3_9, o, h, Q, hQ => by cases h
  | fuel + 1, lh0_x01, lh1_x01, lh2_6, x10_9, x11_9, lh3_9, o, h, Q, hQ => by
    unfold f14_9 at h
    refine XL.succ E0_ok ?_
    refine XQ.seq E0_ok (by kernel_rfl) ?_
    refine XQ.region (by kernel_rfl) ?_
    refine XR.runS E0_ok 1 1 [(0, s0 3 lh3_9.length), (1, s0 2 lh2_6.length), (9, s0 3 lh3_9.length), (10, ii x10_9), (11, ii x11_9), (12, .bool (decide (x11_9 < x10_9)))] rfl (by kernel_rfl) ?_
    refine XR.done (by kernel_rfl) ?_
    show XQ _ _ _ _ _ _ _ _
    refine XQ.seq E0_ok (by kernel_rfl) ?_
    cases b1 : (decide (x11_9 < x10_9) : Bool) with
    | true =>
      have h := cT b1 h
      refine XQ.cond (s := (.tmp 12)) (b := true) (by kernel_rfl) (by kernel_rfl) (fun _ => ?_) (fun q => by cases q)
      refine XQ.skip (by kernel_rfl) ?_
      show XQ _ _ _ _ _ _ _ _
      refine XQ.seq E0_ok (by kernel_rfl) ?_
      refine XQ.block (id := 1) (by kernel_rfl) ?_
      refine XQ.seq E0_ok (by kernel_rfl) ?_
      refine XQ.region (by kernel_rfl) ?_
      refine XR.runS E0_ok 1 1 [(0, s0 3 lh3_9.length), (1, s0 2 lh2_6.length), (9, s0 3 lh3_9.length), (10, ii x10_9), (11, ii x11_9), (13, ii x11_9)] rfl (by kernel_rfl) ?_
      cases b2 : (inRow x11_9 lh3_9.length : Bool) with
      | false => cases (cF b2 h)
      | true =>
        have h := cT b2 h
        refine XR.rd E0_ok [0, 1, 9, 10, 11, 13, 14] rfl (v := pp 3 ((Int.toNat x11_9) * 1)) (v_idx (s := 1) (x := (src 36 (.tmp 9))) (y := (src 36 (.tmp 11))) (b := 3) (o := 0) (len := lh3_9.length) (cap := lh3_9.length) (ik := .i64) (i := x11_9) (off := (Int.toNat x11_9) * 1) (d := (some (path 12 14))) (by kernel_rfl) (by kernel_rfl) (by kernel_rfl) b2 (by omega)) (σ' := [(0, s0 3 lh3_9.length), (1, s0 2 lh2_6.length), (9, s0 3 lh3_9.length), (10, ii x10_9), (11, ii x11_9), (13, ii x11_9), (14, pp 3 ((Int.toNat x11_9) * 1))]) (by kernel_rfl) ?_
        refine XR.rd E0_ok [0, 1, 9, 10, 11, 13, 15] rfl (v := ii (List.getD lh3_9 (Int.toNat x11_9) 0)) (v_load1 (encI_ok .i64) (x := (src 36 (.tmp 14))) (b := 3) (off := (Int.toNat x11_9) * 1) (xs := lh3_9) (fz := 0) (e := 3) (es := 1) (d := (some (path 12 15))) (by kernel_rfl) (by kernel_rfl) (by kernel_rfl) (Int.toNat x11_9) 0 0 (by first | rfl | omega) (row_len (inRow_toNat b2) (by simp)) rfl rfl) (σ' := [(0, s0 3 lh3_9.length), (1, s0 2 lh2_6.length), (9, s0 3 lh3_9.length), (10, ii x10_9), (11, ii x11_9), (13, ii x11_9), (15, ii (List.getD lh3_9 (Int.toNat x11_9) 0))]) (by kernel_rfl) ?_
        refine XR.runS E0_ok 1 2 [(0, s0 3 lh3_9.length), (1, s0 2 lh2_6.length), (5, ii x11_9), (6, ii (List.getD lh3_9 (Int.toNat x11_9) 0)), (9, s0 3 lh3_9.length), (10, ii x10_9), (11, ii x11_9)] rfl (by kernel_rfl) ?_
        refine XR.done (by kernel_rfl) ?_
        show XQ _ _ _ _ _ _ _ _
        refine XQ.seq E0_ok (by kernel_rfl) ?_
        refine XQ.seq E0_ok (by kernel_rfl) ?_
        refine XQ.region (by kernel_rfl) ?_
        refine XR.runS E0_ok 1 4 [(0, s0 3 lh3_9.length), (1, s0 2 lh2_6.length), (5, ii x11_9), (6, ii (List.getD lh3_9 (Int.toNat x11_9) 0)), (9, s0 3 lh3_9.length), (10, ii x10_9), (11, ii x11_9), (19, .bool (decide (x11_9 ≥ ((lh2_6.length : Nat) : Int))))] rfl (by kernel_rfl) ?_
        refine XR.done (by kernel_rfl) ?_
        show XQ _ _ _ _ _ _ _ _
        cases b3 : (decide (x11_9 ≥ ((lh2_6.length : Nat) : Int)) : Bool) with
        | true =>
          have h := cT b3 h
          refine XQ.cond (s := (.tmp 19)) (b := true) (by kernel_rfl) (by kernel_rfl) (fun _ => ?_) (fun q => by cases q)
          refine XQ.seq E0_ok (by kernel_rfl) ?_
          refine XQ.region (by kernel_rfl) ?_
          refine XR.runS E0_ok 1 1 [(4, ii 1)] rfl (by kernel_rfl) ?_
          refine XR.done (by kernel_rfl) ?_
          show XQ _ _ _ _ _ _ _ _
          refine XQ.ren (σ' := [(4, ii 1)]) (h' := [(3, rc (encI .i64) lh3_9 0 3 1), (2, rc (encI .i64) lh2_6 0 3 1), (1, rc (encI .i64) lh1_x01 0 3 1), (0, rc encP lh0_x01 0 61 2)]) (c' := 4) [0, 1, 2, 3] (by decide) rfl ⟨by kernel_rfl, trivial⟩ ⟨⟨_, _, rfl, rfl, .inl ⟨rfl, rowC_scal (encI_ok .i64) _⟩⟩, ⟨_, _, rfl, rfl, .inl ⟨rfl, rowC_scal (encI_ok .i64) _⟩⟩, ⟨_, _, rfl, rfl, .inl ⟨rfl, rowC_scal (encI_ok .i64) _⟩⟩, ⟨_, _, rfl, rfl, .inl ⟨rfl, rowC_scal encP_ok _⟩⟩, trivial⟩ rfl ?_
          refine XQ.ret (by kernel_rfl) ?_
          cases h
          exact hQ
        | false =>
          have h := cF b3 h
          refine XQ.cond (s := (.tmp 19)) (b := false) (by kernel_rfl) (by kernel_rfl) (fun q => by cases q) (fun _ => ?_)
          refine XQ.skip (by kernel_rfl) ?_
          show XQ _ _ _ _ _ _ _ _
          refine XQ.seq E0_ok (by kernel_rfl) ?_
          refine XQ.region (by kernel_rfl) ?_
          refine XR.runS E0_ok 1 2 [(0, s0 3 lh3_9.length), (1, s0 2 lh2_6.length), (6, ii (List.getD lh3_9 (Int.toNat x11_9) 0)), (9, s0 3 lh3_9.length), (10, ii x10_9), (11, ii x11_9), (20, s0 2 lh2_6.length), (21, ii x11_9)] rfl (by kernel_rfl) ?_
          cases b4 : (inRow x11_9 lh2_6.length : Bool) with
          | false => cases (cF b4 h)
          | true =>
            have h := cT b4 h
            refine XR.rd E0_ok [0, 1, 6, 9, 10, 11, 22] rfl (v := pp 2 ((Int.toNat x11_9) * 1)) (v_idx (s := 1) (x := (src 36 (.tmp 20))) (y := (src 36 (.tmp 21))) (b := 2) (o := 0) (len := lh2_6.length) (cap := lh2_6.length) (ik := .i64) (i := x11_9) (off := (Int.toNat x11_9) * 1) (d := (some (path 12 22))) (by kernel_rfl) (by kernel_rfl) (by kernel_rfl) b4 (by omega)) (σ' := [(0, s0 3 lh3_9.length), (1, s0 2 lh2_6.length), (6, ii (List.getD lh3_9 (Int.toNat x11_9) 0)), (9, s0 3 lh3_9.length), (10, ii x10_9), (11, ii x11_9), (22, pp 2 ((Int.toNat x11_9) * 1))]) (by kernel_rfl) ?_
            refine XR.rd E0_ok [0, 1, 6, 9, 10, 11, 23] rfl (v := ii (List.getD lh2_6 (Int.toNat x11_9) 0)) (v_load1 (encI_ok .i64) (x := (src 36 (.tmp 22))) (b := 2) (off := (Int.toNat x11_9) * 1) (xs := lh2_6) (fz := 0) (e := 3) (es := 1) (d := (some (path 12 23))) (by kernel_rfl) (by kernel_rfl) (by kernel_rfl) (Int.toNat x11_9) 0 0 (by first | rfl | omega) (row_len (inRow_toNat b4) (by simp)) rfl rfl) (σ' := [(0, s0 3 lh3_9.length), (1, s0 2 lh2_6.length), (6, ii (List.getD lh3_9 (Int.toNat x11_9) 0)), (9, s0 3 lh3_9.length), (10, ii x10_9), (11, ii x11_9), (23, ii (List.getD lh2_6 (Int.toNat x11_9) 0))]) (by kernel_rfl) ?_
            refine XR.runS E0_ok 1 1 [(0, s0 3 lh3_9.length), (1, s0 2 lh2_6.length), (6, ii (List.getD lh3_9 (Int.toNat x11_9) 0)), (7, ii (List.getD lh2_6 (Int.toNat x11_9) 0)), (9, s0 3 lh3_9.length), (10, ii x10_9), (11, ii x11_9)] rfl (by kernel_rfl) ?_
            refine XR.done (by kernel_rfl) ?_
            show XQ _ _ _ _ _ _ _ _
            refine XQ.seq E0_ok (by kernel_rfl) ?_
            refine XQ.region (by kernel_rfl) ?_
            refine XR.runS E0_ok 1 2 [(0, s0 3 lh3_9.length), (1, s0 2 lh2_6.length), (9, s0 3 lh3_9.length), (10, ii x10_9), (11, ii x11_9), (24, ii (List.getD lh3_9 (Int.toNat x11_9) 0)), (25, ii (List.getD lh2_6 (Int.toNat x11_9) 0))] rfl (by kernel_rfl) ?_
            refine XR.callK E0_ok [0, 1, 9, 10, 11, 26] rfl (K := 86) (args := [ii (List.getD lh3_9 (Int.toNat x11_9) 0), ii (List.getD lh2_6 (Int.toNat x11_9) 0)]) (d := (some (path 12 26))) (by kernel_rfl) ?_
            refine KC.bodyN E0_ok (F := Proofs.Try.f86) (by kernel_rfl) (code := f14_C86) (by kernel_rfl) (nt := 20) (by kernel_rfl) (rs := [.tmp 4]) (by kernel_rfl) (by kernel_rfl) (σ := [(0, ii (List.getD lh3_9 (Int.toNat x11_9) 0)), (1, ii (List.getD lh2_6 (Int.toNat x11_9) 0))]) (by kernel_rfl) ?_
            refine XQ.seq E0_ok (by kernel_rfl) ?_
            refine XQ.region (by kernel_rfl) ?_
            refine XR.runS E0_ok 1 1 [(0, ii (List.getD lh3_9 (Int.toNat x11_9) 0)), (1, ii (List.getD lh2_6 (Int.toNat x11_9) 0))] rfl (by kernel_rfl) ?_
            refine XR.done (by kernel_rfl) ?_
            show XQ _ _ _ _ _ _ _ _
            refine XQ.seq E0_ok (by kernel_rfl) ?_
            refine XQ.region (by kernel_rfl) ?_
            refine XR.runS E0_ok 1 1 [(0, ii (List.getD lh3_9 (Int.toNat x11_9) 0)), (1, ii (List.getD lh2_6 (Int.toNat x11_9) 0)), (7, ii (List.getD lh3_9 (Int.toNat x11_9) 0))] rfl (by kernel_rfl) ?_
            refine XR.callK E0_ok [0, 1, 8] rfl (K := 96) (args := [ii (List.getD lh3_9 (Int.toNat x11_9) 0)]) (d := (some (path 12 8))) (by kernel_rfl) ?_
            refine KC.bodyN E0_ok (F := Proofs.Try.f96) (by kernel_rfl) (code := f14_C96) (by kernel_rfl) (nt := 6) (by kernel_rfl) (rs := [.tmp 2]) (by kernel_rfl) (by kernel_rfl) (σ := [(0, ii (List.getD lh3_9 (Int.toNat x11_9) 0))]) (by kernel_rfl) ?_
            refine XQ.seq E0_ok (by kernel_rfl) ?_
            refine XQ.region (by kernel_rfl) ?_
            refine XR.runS E0_ok 1 1 [(0, ii (List.getD lh3_9 (Int.toNat x11_9) 0))] rfl (by kernel_rfl) ?_
            refine XR.done (by kernel_rfl) ?_
            show XQ _ _ _ _ _ _ _ _
            refine XQ.seq E0_ok (by kernel_rfl) ?_
            refine XQ.region (by kernel_rfl) ?_
            refine XR.runS E0_ok 1 4 [(2, .bool ((List.getD lh3_9 (Int.toNat x11_9) 0) != (List.getD lh3_9 (Int.toNat x11_9) 0)))] rfl (by kernel_rfl) ?_
            refine XR.done (by kernel_rfl) ?_
            show XQ _ _ _ _ _ _ _ _
            refine XQ.ret (by kernel_rfl) ?_
            refine ⟨fun i q => (by cases q), .bool ((List.getD lh3_9 (Int.toNat x11_9) 0) != (List.getD lh3_9 (Int.toNat x11_9) 0)), (by kernel_rfl), ?_⟩
            refine XR.conv (σ' := [(0, ii (List.getD lh3_9 (Int.toNat x11_9) 0)), (1, ii (List.getD lh2_6 (Int.toNat x11_9) 0)), (8, .bool ((List.getD lh3_9 (Int.toNat x11_9) 0) != (List.getD lh3_9 (Int.toNat x11_9) 0)))]) (h' := [(3, rc (encI .i64) lh3_9 0 3 1), (2, rc (encI .i64) lh2_6 0 3 1), (1, rc (encI .i64) lh1_x01 0 3 1), (0, rc encP lh0_x01 0 61 2)]) (c' := 4) ?_ (by kernel_rfl)
            refine XR.runS E0_ok 1 1 [(0, ii (List.getD lh3_9 (Int.toNat x11_9) 0)), (1, ii (List.getD lh2_6 (Int.toNat x11_9) 0)), (5, .bool ((List.getD lh3_9 (Int.toNat x11_9) 0) != (List.getD lh3_9 (Int.toNat x11_9) 0)))] rfl (by kernel_rfl) ?_
            refine XR.done (by kernel_rfl) ?_
            show XQ _ _ _ _ _ _ _ _
            refine XQ.seq E0_ok (by kernel_rfl) ?_
            refine XQ.region (by kernel_rfl) ?_
            refine XR.runS E0_ok 1 1 [(0, ii (List.getD lh3_9 (Int.toNat x11_9) 0)), (1, ii (List.getD lh2_6 (Int.toNat x11_9) 0)), (5, .bool ((List.getD lh3_9 (Int.toNat x11_9) 0) != (List.getD lh3_9 (Int.toNat x11_9) 0))), (9, ii (List.getD lh2_6 (Int.toNat x11_9) 0))] rfl (by kernel_rfl) ?_
            refine XR.callK E0_ok [0, 1, 5, 10] rfl (K := 96) (args := [ii (List.getD lh2_6 (Int.toNat x11_9) 0)]) (d := (some (path 12 10))) (by kernel_rfl) ?_
            refine KC.bodyN E0_ok (F := Proofs.Try.f96) (by kernel_rfl) (code := f14_C96) (by kernel_rfl) (nt := 6) (by kernel_rfl) (rs := [.tmp 2]) (by kernel_rfl) (by kernel_rfl) (σ := [(0, ii (List.getD lh2_6 (Int.toNat x11_9) 0))]) (by kernel_rfl) ?_
            refine XQ.seq E0_ok (by kernel_rfl) ?_
            refine XQ.region (by kernel_rfl) ?_
            refine XR.runS E0_ok 1 1 [(0, ii (List.getD lh2_6 (Int.toNat x11_9) 0))] rfl (by kernel_rfl) ?_
            refine XR.done (by kernel_rfl) ?_
            show XQ _ _ _ _ _ _ _ _
            refine XQ.seq E0_ok (by kernel_rfl) ?_
            refine XQ.region (by kernel_rfl) ?_
            refine XR.runS E0_ok 1 4 [(2, .bool ((List.getD lh2_6 (Int.toNat x11_9) 0) != (List.getD lh2_6 (Int.toNat x11_9) 0)))] rfl (by kernel_rfl) ?_
            refine XR.done (by kernel_rfl) ?_
            show XQ _ _ _ _ _ _ _ _
            refine XQ.ret (by kernel_rfl) ?_
            refine ⟨fun i q => (by cases q), .bool ((List.getD lh2_6 (Int.toNat x11_9) 0) != (List.getD lh2_6 (Int.toNat x11_9) 0)), (by kernel_rfl), ?_⟩
            refine XR.conv (σ' := [(0, ii (List.getD lh3_9 (Int.toNat x11_9) 0)), (1, ii (List.getD lh2_6 (Int.toNat x11_9) 0)), (5, .bool ((List.getD lh3_9 (Int.toNat x11_9) 0) != (List.getD lh3_9 (Int.toNat x11_9) 0))), (10, .bool ((List.getD lh2_6 (Int.toNat x11_9) 0) != (List.getD lh2_6 (Int.toNat x11_9) 0)))]) (h' := [(3, rc (encI .i64) lh3_9 0 3 1), (2, rc (encI .i64) lh2_6 0 3 1), (1, rc (encI .i64) lh1_x01 0 3 1), (0, rc encP lh0_x01 0 61 2)]) (c' := 4) ?_ (by kernel_rfl)
            refine XR.runS E0_ok 1 1 [(0, ii (List.getD lh3_9 (Int.toNat x11_9) 0)), (1, ii (List.getD lh2_6 (Int.toNat x11_9) 0)), (5, .bool ((List.getD lh3_9 (Int.toNat x11_9) 0) != (List.getD lh3_9 (Int.toNat x11_9) 0))), (6, .bool ((List.getD lh2_6 (Int.toNat x11_9) 0) != (List.getD lh2_6 (Int.toNat x11_9) 0)))] rfl (by kernel_rfl) ?_
            refine XR.done (by kernel_rfl) ?_
            show XQ _ _ _ _ _ _ _ _
            refine XQ.seq E0_ok (by kernel_rfl) ?_
            refine XQ.seq E0_ok (by kernel_rfl) ?_
            refine XQ.region (by kernel_rfl) ?_
            refine XR.runS E0_ok 1 1 [(0, ii (List.getD lh3_9 (Int.toNat x11_9) 0)), (1, ii (List.getD lh2_6 (Int.toNat x11_9) 0)), (6, .bool ((List.getD lh2_6 (Int.toNat x11_9) 0) != (List.getD lh2_6 (Int.toNat x11_9) 0))), (11, .bool ((List.getD lh3_9 (Int.toNat x11_9) 0) != (List.getD lh3_9 (Int.toNat x11_9) 0)))] rfl (by kernel_rfl) ?_
            refine XR.done (by kernel_rfl) ?_
            show XQ _ _ _ _ _ _ _ _
            cases b5 : ((List.getD lh3_9 (Int.toNat x11_9) 0) != (List.getD lh3_9 (Int.toNat x11_9) 0) : Bool) with
            | true =>
              have h := cT b5 h
              refine XQ.cond (s := (.tmp 11)) (b := true) (by kernel_rfl) (by kernel_rfl) (fun _ => ?_) (fun q => by cases q)
              refine XQ.seq E0_ok (by kernel_rfl) ?_
              refine XQ.seq E0_ok (by kernel_rfl) ?_
              refine XQ.region (by kernel_rfl) ?_
              refine XR.runS E0_ok 1 1 [(12, .bool ((List.getD lh2_6 (Int.toNat x11_9) 0) != (List.getD lh2_6 (Int.toNat x11_9) 0)))] rfl (by kernel_rfl) ?_
              refine XR.done (by kernel_rfl) ?_
              show XQ _ _ _ _ _ _ _ _
              cases b6 : ((List.getD lh2_6 (Int.toNat x11_9) 0) != (List.getD lh2_6 (Int.toNat x11_9) 0) : Bool) with
              | true =>
                have h := cT b6 h
                refine XQ.cond (s := (.tmp 12)) (b := true) (by kernel_rfl) (by kernel_rfl) (fun _ => ?_) (fun q => by cases q)
                refine XQ.seq E0_ok (by kernel_rfl) ?_
                refine XQ.region (by kernel_rfl) ?_
                refine XR.runS E0_ok 1 1 [(4, ii 0)] rfl (by kernel_rfl) ?_
                refine XR.done (by kernel_rfl) ?_
                show XQ _ _ _ _ _ _ _ _
                refine XQ.ret (by kernel_rfl) ?_
                refine ⟨fun i q => (by cases q), ii 0, (by kernel_rfl), ?_⟩
                refine XR.conv (σ' := [(0, s0 3 lh3_9.length), (1, s0 2 lh2_6.length), (9, s0 3 lh3_9.length), (10, ii x10_9), (11, ii x11_9), (26, ii 0)]) (h' := [(3, rc (encI .i64) lh3_9 0 3 1), (2, rc (encI .i64) lh2_6 0 3 1), (1, rc (encI .i64) lh1_x01 0 3 1), (0, rc encP lh0_x01 0 61 2)]) (c' := 4) ?_ (by kernel_rfl)
                refine XR.runS E0_ok 1 1 [(0, s0 3 lh3_9.length), (1, s0 2 lh2_6.length), (8, ii 0), (9, s0 3 lh3_9.length), (10, ii x10_9), (11, ii x11_9)] rfl (by kernel_rfl) ?_
                refine XR.done (by kernel_rfl) ?_
                show XQ _ _ _ _ _ _ _ _
                refine XQ.seq E0_ok (by kernel_rfl) ?_
                refine XQ.region (by kernel_rfl) ?_
                refine XR.runS E0_ok 1 2 [(0, s0 3 lh3_9.length), (1, s0 2 lh2_6.length), (8, ii 0), (9, s0 3 lh3_9.length), (10, ii x10_9), (11, ii x11_9), (28, .bool false)] rfl (by kernel_rfl) ?_
                refine XR.done (by kernel_rfl) ?_
                show XQ _ _ _ _ _ _ _ _
                refine XQ.cond (s := (.tmp 28)) (b := false) (by kernel_rfl) (by kernel_rfl) (fun q => by cases q) (fun _ => ?_)
                refine XQ.skip (by kernel_rfl) ?_
                show XQ _ _ _ _ _ _ _ _
                refine XQ.region (by kernel_rfl) ?_
                refine XR.runS E0_ok 1 2 [(0, s0 3 lh3_9.length), (1, s0 2 lh2_6.length), (9, s0 3 lh3_9.length), (10, ii x10_9), (11, ii (w64 (x11_9 + 1)))] rfl (by kernel_rfl) ?_
                refine XR.done (by kernel_rfl) ?_
                show XL _ _ _ _ _ _ _ _ _
                refine XL.ren (σ' := [(0, s0 3 lh3_9.length), (1, s0 2 lh2_6.length), (9, s0 3 lh3_9.length), (10, ii x10_9), (11, ii (w64 (x11_9 + 1)))]) (h' := [(3, rc (encI .i64) lh3_9 0 3 1), (2, rc (encI .i64) lh2_6 0 3 1), (1, rc (encI .i64) lh1_x01 0 3 1), (0, rc encP lh0_x01 0 61 2)]) (c' := 4) [0, 1, 2, 3] (by decide) rfl ⟨by kernel_rfl, by kernel_rfl, by kernel_rfl, by kernel_rfl, by kernel_rfl, trivial⟩ ⟨⟨_, _, rfl, rfl, .inl ⟨rfl, rowC_scal (encI_ok .i64) _⟩⟩, ⟨_, _, rfl, rfl, .inl ⟨rfl, rowC_scal (encI_ok .i64) _⟩⟩, ⟨_, _, rfl, rfl, .inl ⟨rfl, rowC_scal (encI_ok .i64) _⟩⟩, ⟨_, _, rfl, rfl, .inl ⟨rfl, rowC_scal encP_ok _⟩⟩, trivial⟩ rfl ?_
                refine XL.conv (f14_9_ok m fuel lh0_x01 lh1_x01 lh2_6 x10_9 (w64 (x11_9 + 1)) lh3_9 o h Q hQ) (by first | rfl | simp)
              | false =>
                have h := cF b6 h
                refine XQ.cond (s := (.tmp 12)) (b := false) (by kernel_rfl) (by kernel_rfl) (fun q => by cases q) (fun _ => ?_)
                refine XQ.skip (by kernel_rfl) ?_
                show XQ _ _ _ _ _ _ _ _
                refine XQ.seq E0_ok (by kernel_rfl) ?_
                refine XQ.region (by kernel_rfl) ?_
                refine XR.runS E0_ok 1 1 [(4, ii (-1))] rfl (by kernel_rfl) ?_
                refine XR.done (by kernel_rfl) ?_
                show XQ _ _ _ _ _ _ _ _
                refine XQ.ret (by kernel_rfl) ?_
                refine ⟨fun i q => (by cases q), ii (-1), (by kernel_rfl), ?_⟩
                refine XR.conv (σ' := [(0, s0 3 lh3_9.length), (1, s0 2 lh2_6.length), (9, s0 3 lh3_9.length), (10, ii x10_9), (11, ii x11_9), (26, ii (-1))]) (h' := [(3, rc (encI .i64) lh3_9 0 3 1), (2, rc (encI .i64) lh2_6 0 3 1), (1, rc (encI .i64) lh1_x01 0 3 1), (0, rc encP lh0_x01 0 61 2)]) (c' := 4) ?_ (by kernel_rfl)
                refine XR.runS E0_ok 1 1 [(0, s0 3 lh3_9.length), (1, s0 2 lh2_6.length), (8, ii (-1)), (9, s0 3 lh3_9.length), (10, ii x10_9), (11, ii x11_9)] rfl (by kernel_rfl) ?_
                refine XR.done (by kernel_rfl) ?_
                show XQ _ _ _ _ _ _ _ _
                refine XQ.seq E0_ok (by kernel_rfl) ?_
                refine XQ.region (by kernel_rfl) ?_
                refine XR.runS E0_ok 1 2 [(0, s0 3 lh3_9.length), (1, s0 2 lh2_6.length), (8, ii (-1)), (9, s0 3 lh3_9.length), (10, ii x10_9), (11, ii x11_9), (28, .bool true)] rfl (by kernel_rfl) ?_
                refine XR.done (by kernel_rfl) ?_
                show XQ _ _ _ _ _ _ _ _
                refine XQ.cond (s := (.tmp 28)) (b := true) (by kernel_rfl) (by kernel_rfl) (fun _ => ?_) (fun q => by cases q)
                refine XQ.seq E0_ok (by kernel_rfl) ?_
                refine XQ.region (by kernel_rfl) ?_
                refine XR.runS E0_ok 1 2 [(4, ii (-1))] rfl (by kernel_rfl) ?_
                refine XR.done (by kernel_rfl) ?_
                show XQ _ _ _ _ _ _ _ _
                refine XQ.ren (σ' := [(4, ii (-1))]) (h' := [(3, rc (encI .i64) lh3_9 0 3 1), (2, rc (encI .i64) lh2_6 0 3 1), (1, rc (encI .i64) lh1_x01 0 3 1), (0, rc encP lh0_x01 0 61 2)]) (c' := 4) [0, 1, 2, 3] (by decide) rfl ⟨by kernel_rfl, trivial⟩ ⟨⟨_, _, rfl, rfl, .inl ⟨rfl, rowC_scal (encI_ok .i64) _⟩⟩, ⟨_, _, rfl, rfl, .inl ⟨rfl, rowC_scal (encI_ok .i64) _⟩⟩, ⟨_, _, rfl, rfl, .inl ⟨rfl, rowC_scal (encI_ok .i64) _⟩⟩, ⟨_, _, rfl, rfl, .inl ⟨rfl, rowC_scal encP_ok _⟩⟩, trivial⟩ rfl ?_
                refine XQ.ret (by kernel_rfl) ?_
                cases h
                exact hQ
            | false =>
              have h := cF b5 h
              refine XQ.cond (s := (.tmp 11)) (b := false) (by kernel_rfl) (by kernel_rfl) (fun q => by cases q) (fun _ => ?_)
              refine XQ.skip (by kernel_rfl) ?_
              show XQ _ _ _ _ _ _ _ _
              refine XQ.seq E0_ok (by kernel_rfl) ?_
              refine XQ.seq E0_ok (by kernel_rfl) ?_
              refine XQ.region (by kernel_rfl) ?_
              refine XR.runS E0_ok 1 1 [(0, ii (List.getD lh3_9 (Int.toNat x11_9) 0)), (1, ii (List.getD lh2_6 (Int.toNat x11_9) 0)), (13, .bool ((List.getD lh2_6 (Int.toNat x11_9) 0) != (List.getD lh2_6 (Int.toNat x11_9) 0)))] rfl (by kernel_rfl) ?_
              refine XR.done (by kernel_rfl) ?_
              show XQ _ _ _ _ _ _ _ _
              cases b7 : ((List.getD lh2_6 (Int.toNat x11_9) 0) != (List.getD lh2_6 (Int.toNat x11_9) 0) : Bool) with
              | true =>
                have h := cT b7 h
                refine XQ.cond (s := (.tmp 13)) (b := true) (by kernel_rfl) (by kernel_rfl) (fun _ => ?_) (fun q => by cases q)
                refine XQ.seq E0_ok (by kernel_rfl) ?_
                refine XQ.region (by kernel_rfl) ?_
                refine XR.runS E0_ok 1 1 [(4, ii 1)] rfl (by kernel_rfl) ?_
                refine XR.done (by kernel_rfl) ?_
                show XQ _ _ _ _ _ _ _ _
                refine XQ.ret (by kernel_rfl) ?_
                refine ⟨fun i q => (by cases q), ii 1, (by kernel_rfl), ?_⟩
                refine XR.conv (σ' := [(0, s0 3 lh3_9.length), (1, s0 2 lh2_6.length), (9, s0 3 lh3_9.length), (10, ii x10_9), (11, ii x11_9), (26, ii 1)]) (h' := [(3, rc (encI .i64) lh3_9 0 3 1), (2, rc (encI .i64) lh2_6 0 3 1), (1, rc (encI .i64) lh1_x01 0 3 1), (0, rc encP lh0_x01 0 61 2)]) (c' := 4) ?_ (by kernel_rfl)
                refine XR.runS E0_ok 1 1 [(0, s0 3 lh3_9.length), (1, s0 2 lh2_6.length), (8, ii 1), (9, s0 3 lh3_9.length), (10, ii x10_9), (11, ii x11_9)] rfl (by kernel_rfl) ?_
                refine XR.done (by kernel_rfl) ?_
                show XQ _ _ _ _ _ _ _ _
                refine XQ.seq E0_ok (by kernel_rfl) ?_
                refine XQ.region (by kernel_rfl) ?_
                refine XR.runS E0_ok 1 2 [(0, s0 3 lh3_9.length), (1, s0 2 lh2_6.length), (8, ii 1), (9, s0 3 lh3_9.length), (10, ii x10_9), (11, ii x11_9), (28, .bool true)] rfl (by kernel_rfl) ?_
                refine XR.done (by kernel_rfl) ?_
                show XQ _ _ _ _ _ _ _ _
                refine XQ.cond (s := (.tmp 28)) (b := true) (by kernel_rfl) (by kernel_rfl) (fun _ => ?_) (fun q => by cases q)
                refine XQ.seq E0_ok (by kernel_rfl) ?_
                refine XQ.region (by kernel_rfl) ?_
                refine XR.runS E0_ok 1 2 [(4, ii 1)] rfl (by kernel_rfl) ?_
                refine XR.done (by kernel_rfl) ?_
                show XQ _ _ _ _ _ _ _ _
                refine XQ.ren (σ' := [(4, ii 1)]) (h' := [(3, rc (encI .i64) lh3_9 0 3 1), (2, rc (encI .i64) lh2_6 0 3 1), (1, rc (encI .i64) lh1_x01 0 3 1), (0, rc encP lh0_x01 0 61 2)]) (c' := 4) [0, 1, 2, 3] (by decide) rfl ⟨by kernel_rfl, trivial⟩ ⟨⟨_, _, rfl, rfl, .inl ⟨rfl, rowC_scal (encI_ok .i64) _⟩⟩, ⟨_, _, rfl, rfl, .inl ⟨rfl, rowC_scal (encI_ok .i64) _⟩⟩, ⟨_, _, rfl, rfl, .inl ⟨rfl, rowC_scal (encI_ok .i64) _⟩⟩, ⟨_, _, rfl, rfl, .inl ⟨rfl, rowC_scal encP_ok _⟩⟩, trivial⟩ rfl ?_
                refine XQ.ret (by kernel_rfl) ?_
                cases h
                exact hQ
              | false =>
                have h := cF b7 h
                refine XQ.cond (s := (.tmp 13)) (b := false) (by kernel_rfl) (by kernel_rfl) (fun q => by cases q) (fun _ => ?_)
                refine XQ.skip (by kernel_rfl) ?_
                show XQ _ _ _ _ _ _ _ _
                refine XQ.seq E0_ok (by kernel_rfl) ?_
                refine XQ.seq E0_ok (by kernel_rfl) ?_
                refine XQ.region (by kernel_rfl) ?_
                refine XR.runS E0_ok 1 3 [(0, ii (List.getD lh3_9 (Int.toNat x11_9) 0)), (1, ii (List.getD lh2_6 (Int.toNat x11_9) 0)), (16, .bool (decide ((List.getD lh3_9 (Int.toNat x11_9) 0) < (List.getD lh2_6 (Int.toNat x11_9) 0))))] rfl (by kernel_rfl) ?_
                refine XR.done (by kernel_rfl) ?_
                show XQ _ _ _ _ _ _ _ _
                cases b8 : (decide ((List.getD lh3_9 (Int.toNat x11_9) 0) < (List.getD lh2_6 (Int.toNat x11_9) 0)) : Bool) with
                | true =>
                  have h := cT b8 h
                  refine XQ.cond (s := (.tmp 16)) (b := true) (by kernel_rfl) (by kernel_rfl) (fun _ => ?_) (fun q => by cases q)
                  refine XQ.seq E0_ok (by kernel_rfl) ?_
                  refine XQ.region (by kernel_rfl) ?_
                  refine XR.runS E0_ok 1 1 [(4, ii (-1))] rfl (by kernel_rfl) ?_
                  refine XR.done (by kernel_rfl) ?_
                  show XQ _ _ _ _ _ _ _ _
                  refine XQ.ret (by kernel_rfl) ?_
                  refine ⟨fun i q => (by cases q), ii (-1), (by kernel_rfl), ?_⟩
                  refine XR.conv (σ' := [(0, s0 3 lh3_9.length), (1, s0 2 lh2_6.length), (9, s0 3 lh3_9.length), (10, ii x10_9), (11, ii x11_9), (26, ii (-1))]) (h' := [(3, rc (encI .i64) lh3_9 0 3 1), (2, rc (encI .i64) lh2_6 0 3 1), (1, rc (encI .i64) lh1_x01 0 3 1), (0, rc encP lh0_x01 0 61 2)]) (c' := 4) ?_ (by kernel_rfl)
                  refine XR.runS E0_ok 1 1 [(0, s0 3 lh3_9.length), (1, s0 2 lh2_6.length), (8, ii (-1)), (9, s0 3 lh3_9.length), (10, ii x10_9), (11, ii x11_9)] rfl (by kernel_rfl) ?_
                  refine XR.done (by kernel_rfl) ?_
                  show XQ _ _ _ _ _ _ _ _
                  refine XQ.seq E0_ok (by kernel_rfl) ?_
                  refine XQ.region (by kernel_rfl) ?_
                  refine XR.runS E0_ok 1 2 [(0, s0 3 lh3_9.length), (1, s0 2 lh2_6.length), (8, ii (-1)), (9, s0 3 lh3_9.length), (10, ii x10_9), (11, ii x11_9), (28, .bool true)] rfl (by kernel_rfl) ?_
                  refine XR.done (by kernel_rfl) ?_
                  show XQ _ _ _ _ _ _ _ _
                  refine XQ.cond (s := (.tmp 28)) (b := true) (by kernel_rfl) (by kernel_rfl) (fun _ => ?_) (fun q => by cases q)
                  refine XQ.seq E0_ok (by kernel_rfl) ?_
                  refine XQ.region (by kernel_rfl) ?_
                  refine XR.runS E0_ok 1 2 [(4, ii (-1))] rfl (by kernel_rfl) ?_
                  refine XR.done (by kernel_rfl) ?_
                  show XQ _ _ _ _ _ _ _ _
                  refine XQ.ren (σ' := [(4, ii (-1))]) (h' := [(3, rc (encI .i64) lh3_9 0 3 1), (2, rc (encI .i64) lh2_6 0 3 1), (1, rc (encI .i64) lh1_x01 0 3 1), (0, rc encP lh0_x01 0 61 2)]) (c' := 4) [0, 1, 2, 3] (by decide) rfl ⟨by kernel_rfl, trivial⟩ ⟨⟨_, _, rfl, rfl, .inl ⟨rfl, rowC_scal (encI_ok .i64) _⟩⟩, ⟨_, _, rfl, rfl, .inl ⟨rfl, rowC_scal (encI_ok .i64) _⟩⟩, ⟨_, _, rfl, rfl, .inl ⟨rfl, rowC_scal (encI_ok .i64) _⟩⟩, ⟨_, _, rfl, rfl, .inl ⟨rfl, rowC_scal encP_ok _⟩⟩, trivial⟩ rfl ?_
                  refine XQ.ret (by kernel_rfl) ?_
                  cases h
                  exact hQ
                | false =>
                  have h := cF b8 h
                  refine XQ.cond (s := (.tmp 16)) (b := false) (by kernel_rfl) (by kernel_rfl) (fun q => by cases q) (fun _ => ?_)
                  refine XQ.skip (by kernel_rfl) ?_
                  show XQ _ _ _ _ _ _ _ _
                  refine XQ.seq E0_ok (by kernel_rfl) ?_
                  refine XQ.seq E0_ok (by kernel_rfl) ?_
                  refine XQ.region (by kernel_rfl) ?_
                  refine XR.runS E0_ok 1 3 [(19, .bool (decide ((List.getD lh3_9 (Int.toNat x11_9) 0) > (List.getD lh2_6 (Int.toNat x11_9) 0))))] rfl (by kernel_rfl) ?_
                  refine XR.done (by kernel_rfl) ?_
                  show XQ _ _ _ _ _ _ _ _
                  cases b9 : (decide ((List.getD lh3_9 (Int.toNat x11_9) 0) > (List.getD lh2_6 (Int.toNat x11_9) 0)) : Bool) with
                  | true =>
                    have h := cT b9 h
                    refine XQ.cond (s := (.tmp 19)) (b := true) (by kernel_rfl) (by kernel_rfl) (fun _ => ?_) (fun q => by cases q)
                    refine XQ.seq E0_ok (by kernel_rfl) ?_
                    refine XQ.region (by kernel_rfl) ?_
                    refine XR.runS E0_ok 1 1 [(4, ii 1)] rfl (by kernel_rfl) ?_
                    refine XR.done (by kernel_rfl) ?_
                    show XQ _ _ _ _ _ _ _ _
                    refine XQ.ret (by kernel_rfl) ?_
                    refine ⟨fun i q => (by cases q), ii 1, (by kernel_rfl), ?_⟩
                    refine XR.conv (σ' := [(0, s0 3 lh3_9.length), (1, s0 2 lh2_6.length), (9, s0 3 lh3_9.length), (10, ii x10_9), (11, ii x11_9), (26, ii 1)]) (h' := [(3, rc (encI .i64) lh3_9 0 3 1), (2, rc (encI .i64) lh2_6 0 3 1), (1, rc (encI .i64) lh1_x01 0 3 1), (0, rc encP lh0_x01 0 61 2)]) (c' := 4) ?_ (by kernel_rfl)
                    refine XR.runS E0_ok 1 1 [(0, s0 3 lh3_9.length), (1, s0 2 lh2_6.length), (8, ii 1), (9, s0 3 lh3_9.length), (10, ii x10_9), (11, ii x11_9)] rfl (by kernel_rfl) ?_
                    refine XR.done (by kernel_rfl) ?_
                    show XQ _ _ _ _ _ _ _ _
                    refine XQ.seq E0_ok (by kernel_rfl) ?_
                    refine XQ.region (by kernel_rfl) ?_
                    refine XR.runS E0_ok 1 2 [(0, s0 3 lh3_9.length), (1, s0 2 lh2_6.length), (8, ii 1), (9, s0 3 lh3_9.length), (10, ii x10_9), (11, ii x11_9), (28, .bool true)] rfl (by kernel_rfl) ?_
                    refine XR.done (by kernel_rfl) ?_
                    show XQ _ _ _ _ _ _ _ _
                    refine XQ.cond (s := (.tmp 28)) (b := true) (by kernel_rfl) (by kernel_rfl) (fun _ => ?_) (fun q => by cases q)
                    refine XQ.seq E0_ok (by kernel_rfl) ?_
                    refine XQ.region (by kernel_rfl) ?_
                    refine XR.runS E0_ok 1 2 [(4, ii 1)] rfl (by kernel_rfl) ?_
                    refine XR.done (by kernel_rfl) ?_
                    show XQ _ _ _ _ _ _ _ _
                    refine XQ.ren (σ' := [(4, ii 1)]) (h' := [(3, rc (encI .i64) lh3_9 0 3 1), (2, rc (encI .i64) lh2_6 0 3 1), (1, rc (encI .i64) lh1_x01 0 3 1), (0, rc encP lh0_x01 0 61 2)]) (c' := 4) [0, 1, 2, 3] (by decide) rfl ⟨by kernel_rfl, trivial⟩ ⟨⟨_, _, rfl, rfl, .inl ⟨rfl, rowC_scal (encI_ok .i64) _⟩⟩, ⟨_, _, rfl, rfl, .inl ⟨rfl, rowC_scal (encI_ok .i64) _⟩⟩, ⟨_, _, rfl, rfl, .inl ⟨rfl, rowC_scal (encI_ok .i64) _⟩⟩, ⟨_, _, rfl, rfl, .inl ⟨rfl, rowC_scal encP_ok _⟩⟩, trivial⟩ rfl ?_
                    refine XQ.ret (by kernel_rfl) ?_
                    cases h
                    exact hQ
                  | false =>
                    have h := cF b9 h
                    refine XQ.cond (s := (.tmp 19)) (b := false) (by kernel_rfl) (by kernel_rfl) (fun q => by cases q) (fun _ => ?_)
                    refine XQ.skip (by kernel_rfl) ?_
                    show XQ _ _ _ _ _ _ _ _
                    refine XQ.seq E0_ok (by kernel_rfl) ?_
                    refine XQ.region (by kernel_rfl) ?_
                    refine XR.runS E0_ok 1 1 [(4, ii 0)] rfl (by kernel_rfl) ?_
                    refine XR.done (by kernel_rfl) ?_
                    show XQ _ _ _ _ _ _ _ _
                    refine XQ.ret (by kernel_rfl) ?_
                    refine ⟨fun i q => (by cases q), ii 0, (by kernel_rfl), ?_⟩
                    refine XR.conv (σ' := [(0, s0 3 lh3_9.length), (1, s0 2 lh2_6.length), (9, s0 3 lh3_9.length), (10, ii x10_9), (11, ii x11_9), (26, ii 0)]) (h' := [(3, rc (encI .i64) lh3_9 0 3 1), (2, rc (encI .i64) lh2_6 0 3 1), (1, rc (encI .i64) lh1_x01 0 3 1), (0, rc encP lh0_x01 0 61 2)]) (c' := 4) ?_ (by kernel_rfl)
                    refine XR.runS E0_ok 1 1 [(0, s0 3 lh3_9.length), (1, s0 2 lh2_6.length), (8, ii 0), (9, s0 3 lh3_9.length), (10, ii x10_9), (11, ii x11_9)] rfl (by kernel_rfl) ?_
                    refine XR.done (by kernel_rfl) ?_
                    show XQ _ _ _ _ _ _ _ _
                    refine XQ.seq E0_ok (by kernel_rfl) ?_
                    refine XQ.region (by kernel_rfl) ?_
                    refine XR.runS E0_ok 1 2 [(0, s0 3 lh3_9.length), (1, s0 2 lh2_6.length), (8, ii 0), (9, s0 3 lh3_9.length), (10, ii x10_9), (11, ii x11_9), (28, .bool false)] rfl (by kernel_rfl) ?_
                    refine XR.done (by kernel_rfl) ?_
                    show XQ _ _ _ _ _ _ _ _
                    refine XQ.cond (s := (.tmp 28)) (b := false) (by kernel_rfl) (by kernel_rfl) (fun q => by cases q) (fun _ => ?_)
                    refine XQ.skip (by kernel_rfl) ?_
                    show XQ _ _ _ _ _ _ _ _
                    refine XQ.region (by kernel_rfl) ?_
                    refine XR.runS E0_ok 1 2 [(0, s0 3 lh3_9.length), (1, s0 2 lh2_6.length), (9, s0 3 lh3_9.length), (10, ii x10_9), (11, ii (w64 (x11_9 + 1)))] rfl (by kernel_rfl) ?_
                    refine XR.done (by kernel_rfl) ?_
                    show XL _ _ _ _ _ _ _ _ _
                    refine XL.ren (σ' := [(0, s0 3 lh3_9.length), (1, s0 2 lh2_6.length), (9, s0 3 lh3_9.length), (10, ii x10_9), (11, ii (w64 (x11_9 + 1)))]) (h' := [(3, rc (encI .i64) lh3_9 0 3 1), (2, rc (encI .i64) lh2_6 0 3 1), (1, rc (encI .i64) lh1_x01 0 3 1), (0, rc encP lh0_x01 0 61 2)]) (c' := 4) [0, 1, 2, 3] (by decide) rfl ⟨by kernel_rfl, by kernel_rfl, by kernel_rfl, by kernel_rfl, by kernel_rfl, trivial⟩ ⟨⟨_, _, rfl, rfl, .inl ⟨rfl, rowC_scal (encI_ok .i64) _⟩⟩, ⟨_, _, rfl, rfl, .inl ⟨rfl, rowC_scal (encI_ok .i64) _⟩⟩, ⟨_, _, rfl, rfl, .inl ⟨rfl, rowC_scal (encI_ok .i64) _⟩⟩, ⟨_, _, rfl, rfl, .inl ⟨rfl, rowC_scal encP_ok _⟩⟩, trivial⟩ rfl ?_
                    refine XL.conv (f14_9_ok m fuel lh0_x01 lh1_x01 lh2_6 x10_9 (w64 (x11_9 + 1)) lh3_9 o h Q hQ) (by first | rfl | simp)
    | false =>
      have h := cF b1 h
      refine XQ.cond (s := (.tmp 12)) (b := false) (by kernel_rfl) (by kernel_rfl) (fun q => by cases q) (fun _ => ?_)
      refine XQ.ren (σ' := [(0, s0 3 lh3_9.length), (1, s0 2 lh2_6.length)]) (h' := [(3, rc (encI .i64) lh3_9 0 3 1), (2, rc (encI .i64) lh2_6 0 3 1), (1, rc (encI .i64) lh1_x01 0 3 1), (0, rc encP lh0_x01 0 61 2)]) (c' := 4) [0, 1, 2, 3] (by decide) rfl ⟨by kernel_rfl, by kernel_rfl, trivial⟩ ⟨⟨_, _, rfl, rfl, .inl ⟨rfl, rowC_scal (encI_ok .i64) _⟩⟩, ⟨_, _, rfl, rfl, .inl ⟨rfl, rowC_scal (encI_ok .i64) _⟩⟩, ⟨_, _, rfl, rfl, .inl ⟨rfl, rowC_scal (encI_ok .i64) _⟩⟩, ⟨_, _, rfl, rfl, .inl ⟨rfl, rowC_scal encP_ok _⟩⟩, trivial⟩ rfl ?_
      refine XQ.exit (i := 0) (by kernel_rfl) ?_
      cases h
      exact hQ

def f14_6 (m : Nat) : Nat → Int → List (Int × Int) → List Int → Int → Int → Int → List Int → Option (Int × (List Int))
  | 0, _, _, _, _, _, _, _ => none
  | fuel + 1, x8_x01, lh0_x01, lh1_x01, x9_6, x96_6, x97_6, lh2_6 =>
    cond (decide (x97_6 < x96_6)) (
      (f14_7 m m x8_x01 lh0_x01 lh1_x01 x9_6 x96_6 x97_6 lh2_6 true ((lh0_x01.length : Nat) : Int) 0 []).bind fun o7 =>
        cond (o7.1) (
          cond (decide (((o7.2.length : Nat) : Int) > x9_6)) (
            f14_6 m fuel x8_x01 lh0_x01 lh1_x01 ((o7.2.length : Nat) : Int) x96_6 (w64 (x97_6 + 1)) o7.2
          ) (
            cond (((o7.2.length : Nat) : Int) == x9_6) (
              (f14_9 m m lh0_x01 lh1_x01 lh2_6 ((o7.2.length : Nat) : Int) 0 o7.2).bind fun o9 =>
                match o9 with
                | .r x4_r9 lh3_r9 =>
                  cond (decide (o7.2.length = lh3_r9.length)) (
                    cond (decide (x4_r9 < 0)) (
                      f14_6 m fuel x8_x01 lh0_x01 lh1_x01 ((lh3_r9.length : Nat) : Int) x96_6 (w64 (x97_6 + 1)) lh3_r9
                    ) (
                      f14_6 m fuel x8_x01 lh0_x01 lh1_x01 x9_6 x96_6 (w64 (x97_6 + 1)) lh2_6
                    )
                  ) none
                | .x0 lh3_x09 =>
                  cond (decide (((lh3_x09.length : Nat) : Int) < ((lh2_6.length : Nat) : Int))) (
                    cond (decide (o7.2.length = lh3_x09.length)) (
                      f14_6 m fuel x8_x01 lh0_x01 lh1_x01 ((lh3_x09.length : Nat) : Int) x96_6 (w64 (x97_6 + 1)) lh3_x09
                    ) none
                  ) (
                    cond (decide (o7.2.length = lh3_x09.length)) (
                      f14_6 m fuel x8_x01 lh0_x01 lh1_x01 x9_6 x96_6 (w64 (x97_6 + 1)) lh2_6
                    ) none
                  )
            ) (
              f14_6 m fuel x8_x01 lh0_x01 lh1_x01 x9_6 x96_6 (w64 (x97_6 + 1)) lh2_6
            )
          )
        ) (
          f14_6 m fuel x8_x01 lh0_x01 lh1_x01 x9_6 x96_6 (w64 (x97_6 + 1)) lh2_6
        )
    ) (
      some (x9_6, lh2_6)
    )

theorem f14_6_ok (m : Nat) : ∀ (fuel : Nat) (x8_x01 : Int) (lh0_x01 : List (Int × Int)) (lh1_x01 : List Int) (x9_6 : Int) (x96_6 : Int) (x97_6 : Int) (lh2_6 : List Int) (o : (Int × (List Int))), f14_6 m fuel x8_x01 lh0_x01 lh1_x01 x9_6 x96_6 x97_6 lh2_6 = some o → ∀ Q : QP, Q (.exit 6) [(5, s0 0 lh0_x01.length), (6, s0 1 lh1_x01.length), (7, s0 2 o.2.length), (8, ii x8_x01), (9, ii o.1)] [(2, rc (encI .i64) o.2 0 3 1), (1, rc (encI .i64) lh1_x01 0 3 1), (0, rc encP lh0_x01 0 61 2)] 3 → XL E0 212 0 fuel f14_L7 [(5, s0 0 lh0_x01.length), (6, s0 1 lh1_x01.length), (7, s0 2 lh2_6.length), (8, ii x8_x01), (9, ii x9_6), (96, ii x96_6), (97, ii x97_6)] [(2, rc (encI .i64) lh2_6 0 3 1), (1, rc (encI .i64) lh1_x01 0 3 1), (0, rc encP lh0_x01 0 61 2)] 3 Q
  | 0, x8_x01, lh0_x01, lh1_x01, x9_6, x96_6, x97_6, lh2_6, o, h, Q, hQ => by cases h
  | fuel + 1, x8_x01, lh0_x01, lh1_x01, x9_6, x96_6, x97_6, lh2_6, o, h, Q, hQ => by
    unfold f14_6 at h
    refine XL.succ E0_ok ?_
    refine XQ.seq E0_ok (by kernel_rfl) ?_
    refine XQ.region (by kernel_rfl) ?_
    refine XR.runS E0_ok 1 1 [(5, s0 0 lh0_x01.length), (6, s0 1 lh1_x01.length), (7, s0 2 lh2_6.length), (8, ii x8_x01), (9, ii x9_6), (96, ii x96_6), (97, ii x97_6), (98, .bool (decide (x97_6 < x96_6)))] rfl (by kernel_rfl) ?_
    refine XR.done (by kernel_rfl) ?_
    show XQ _ _ _ _ _ _ _ _
    refine XQ.seq E0_ok (by kernel_rfl) ?_
    cases b1 : (decide (x97_6 < x96_6) : Bool) with
    | true =>
      have h := cT b1 h
      refine XQ.cond (s := (.tmp 98)) (b := true) (by kernel_rfl) (by kernel_rfl) (fun _ => ?_) (fun q => by cases q)
      refine XQ.skip (by kernel_rfl) ?_
      show XQ _ _ _ _ _ _ _ _
      refine XQ.seq E0_ok (by kernel_rfl) ?_
      refine XQ.block (id := 7) (by kernel_rfl) ?_
      refine XQ.seq E0_ok (by kernel_rfl) ?_
      refine XQ.region (by kernel_rfl) ?_
      refine XR.runS E0_ok 1 2 [(5, s0 0 lh0_x01.length), (6, s0 1 lh1_x01.length), (7, s0 2 lh2_6.length), (8, ii x8_x01), (9, ii x9_6), (17, ii x97_6), (96, ii x96_6), (97, ii x97_6)] rfl (by kernel_rfl) ?_
      refine XR.done (by kernel_rfl) ?_
      show XQ _ _ _ _ _ _ _ _
      refine XQ.seq E0_ok (by kernel_rfl) ?_
      refine XQ.region (by kernel_rfl) ?_
      refine XR.runS E0_ok 1 1 [(5, s0 0 lh0_x01.length), (6, s0 1 lh1_x01.length), (7, s0 2 lh2_6.length), (8, ii x8_x01), (9, ii x9_6), (17, ii x97_6), (18, .slice none 0 0), (96, ii x96_6), (97, ii x97_6)] rfl (by kernel_rfl) ?_
      refine XR.done (by kernel_rfl) ?_
      show XQ _ _ _ _ _ _ _ _
      refine XQ.ghost 3 1 rfl (σ' := [(5, s0 0 lh0_x01.length), (6, s0 1 lh1_x01.length), (7, s0 2 lh2_6.length), (8, ii x8_x01), (9, ii x9_6), (17, ii x97_6), (18, s0 3 0), (96, ii x96_6), (97, ii x97_6)]) (h' := [(2, rc (encI .i64) lh2_6 0 3 1), (1, rc (encI .i64) lh1_x01 0 3 1), (0, rc encP lh0_x01 0 61 2)]) ⟨by kernel_rfl, by kernel_rfl, by kernel_rfl, by kernel_rfl, by kernel_rfl, by kernel_rfl, by kernel_rfl, by kernel_rfl, by kernel_rfl, trivial⟩ ⟨⟨_, rfl, .inl rfl⟩, ⟨_, rfl, .inl rfl⟩, ⟨_, rfl, .inl rfl⟩, trivial⟩ ?_
      refine XQ.conv (σ' := [(5, s0 0 lh0_x01.length), (6, s0 1 lh1_x01.length), (7, s0 2 lh2_6.length), (8, ii x8_x01), (9, ii x9_6), (17, ii x97_6), (18, s0 3 0), (96, ii x96_6), (97, ii x97_6)]) (h' := [(3, rc (encI .i64) [] 0 3 1), (2, rc (encI .i64) lh2_6 0 3 1), (1, rc (encI .i64) lh1_x01 0 3 1), (0, rc encP lh0_x01 0 61 2)]) (c' := 4) ?_ (by kernel_rfl)
      refine XQ.seq E0_ok (by kernel_rfl) ?_
      refine XQ.region (by kernel_rfl) ?_
      refine XR.runS E0_ok 1 1 [(5, s0 0 lh0_x01.length), (6, s0 1 lh1_x01.length), (7, s0 2 lh2_6.length), (8, ii x8_x01), (9, ii x9_6), (17, ii x97_6), (18, s0 3 0), (19, .bool true), (96, ii x96_6), (97, ii x97_6)] rfl (by kernel_rfl) ?_
      refine XR.done (by kernel_rfl) ?_
      show XQ _ _ _ _ _ _ _ _
      refine XQ.seq E0_ok (by kernel_rfl) ?_
      refine XQ.seq E0_ok (by kernel_rfl) ?_
      refine XQ.region (by kernel_rfl) ?_
      refine XR.runS E0_ok 1 3 [(5, s0 0 lh0_x01.length), (6, s0 1 lh1_x01.length), (7, s0 2 lh2_6.length), (8, ii x8_x01), (9, ii x9_6), (17, ii x97_6), (18, s0 3 0), (19, .bool true), (96, ii x96_6), (97, ii x97_6), (101, ii ((lh0_x01.length : Nat) : Int)), (102, ii 0)] rfl (by kernel_rfl) ?_
      refine XR.done (by kernel_rfl) ?_
      show XQ _ _ _ _ _ _ _ _
      refine XQ.block (id := 8) (by kernel_rfl) ?_
      refine XQ.loop m (by kernel_rfl) ?_
      obtain ⟨o7, o7_h, h⟩ := bS h
      refine XL.ren (σ' := [(5, s0 0 lh0_x01.length), (6, s0 1 lh1_x01.length), (7, s0 2 lh2_6.length), (8, ii x8_x01), (9, ii x9_6), (17, ii x97_6), (18, s0 3 0), (19, .bool true), (96, ii x96_6), (97, ii x97_6), (101, ii ((lh0_x01.length : Nat) : Int)), (102, ii 0)]) (h' := [(3, rc (encI .i64) [] 0 3 1), (2, rc (encI .i64) lh2_6 0 3 1), (1, rc (encI .i64) lh1_x01 0 3 1), (0, rc encP lh0_x01 0 61 2)]) (c' := 4) [0, 1, 2, 3] (by decide) rfl ⟨by kernel_rfl, by kernel_rfl, by kernel_rfl, by kernel_rfl, by kernel_rfl, by kernel_rfl, by kernel_rfl, by kernel_rfl, by kernel_rfl, by kernel_rfl, by kernel_rfl, by kernel_rfl, trivial⟩ ⟨⟨_, _, rfl, rfl, .inl ⟨rfl, rowC_scal (encI_ok .i64) _⟩⟩, ⟨_, _, rfl, rfl, .inl ⟨rfl, rowC_scal (encI_ok .i64) _⟩⟩, ⟨_, _, rfl, rfl, .inl ⟨rfl, rowC_scal (encI_ok .i64) _⟩⟩, ⟨_, _, rfl, rfl, .inl ⟨rfl, rowC_scal encP_ok _⟩⟩, trivial⟩ rfl ?_
      refine XL.conv (f14_7_ok m m x8_x01 lh0_x01 lh1_x01 x9_6 x96_6 x97_6 lh2_6 true ((lh0_x01.length : Nat) : Int) 0 [] o7 o7_h _ ?_) (by first | rfl | simp)
      show XQ _ _ _ _ _ _ _ _
      refine XQ.seq E0_ok (by kernel_rfl) ?_
      refine XQ.region (by kernel_rfl) ?_
      refine XR.runS E0_ok 1 2 [(5, s0 0 lh0_x01.length), (6, s0 1 lh1_x01.length), (7, s0 2 lh2_6.length), (8, ii x8_x01), (9, ii x9_6), (18, s0 3 o7.2.length), (96, ii x96_6), (97, ii x97_6), (150, .bool o7.1)] rfl (by kernel_rfl) ?_
      cases b3 : (o7.1 : Bool) with
      | true =>
        have h := cT b3 h
        refine XR.runS E0_ok 1 5 [(5, s0 0 lh0_x01.length), (6, s0 1 lh1_x01.length), (7, s0 2 lh2_6.length), (8, ii x8_x01), (9, ii x9_6), (18, s0 3 o7.2.length), (96, ii x96_6), (97, ii x97_6), (150, .bool true), (155, .bool (decide (((o7.2.length : Nat) : Int) > x9_6)))] rfl (by kernel_rfl) ?_
        cases b4 : (decide (((o7.2.length : Nat) : Int) > x9_6) : Bool) with
        | true =>
          have h := cT b4 h
          refine XR.runS E0_ok 1 12 [(5, s0 0 lh0_x01.length), (6, s0 1 lh1_x01.length), (7, s0 2 lh2_6.length), (8, ii x8_x01), (9, ii x9_6), (18, s0 3 o7.2.length), (96, ii x96_6), (97, ii x97_6), (167, .bool true)] rfl (by kernel_rfl) ?_
          refine XR.done (by kernel_rfl) ?_
          show XQ _ _ _ _ _ _ _ _
          refine XQ.cond (s := (.tmp 167)) (b := true) (by kernel_rfl) (by kernel_rfl) (fun _ => ?_) (fun q => by cases q)
          refine XQ.region (by kernel_rfl) ?_
          refine XR.runS E0_ok 1 5 [(5, s0 0 lh0_x01.length), (6, s0 1 lh1_x01.length), (7, s0 3 o7.2.length), (8, ii x8_x01), (9, ii ((o7.2.length : Nat) : Int)), (96, ii x96_6), (97, ii x97_6)] rfl (by kernel_rfl) ?_
          refine XR.done (by kernel_rfl) ?_
          show XQ _ _ _ _ _ _ _ _
          refine XQ.region (by kernel_rfl) ?_
          refine XR.runS E0_ok 1 2 [(5, s0 0 lh0_x01.length), (6, s0 1 lh1_x01.length), (7, s0 3 o7.2.length), (8, ii x8_x01), (9, ii ((o7.2.length : Nat) : Int)), (96, ii x96_6), (97, ii (w64 (x97_6 + 1)))] rfl (by kernel_rfl) ?_
          refine XR.done (by kernel_rfl) ?_
          show XL _ _ _ _ _ _ _ _ _
          refine XL.ren (σ' := [(5, s0 0 lh0_x01.length), (6, s0 1 lh1_x01.length), (7, s0 2 o7.2.length), (8, ii x8_x01), (9, ii ((o7.2.length : Nat) : Int)), (96, ii x96_6), (97, ii (w64 (x97_6 + 1)))]) (h' := [(2, rc (encI .i64) o7.2 0 3 1), (1, rc (encI .i64) lh1_x01 0 3 1), (0, rc encP lh0_x01 0 61 2)]) (c' := 3) [0, 1, 3] (by decide) rfl ⟨by kernel_rfl, by kernel_rfl, by kernel_rfl, by kernel_rfl, by kernel_rfl, by kernel_rfl, by kernel_rfl, trivial⟩ ⟨⟨_, _, rfl, rfl, .inl ⟨rfl, rowC_scal (encI_ok .i64) _⟩⟩, ⟨_, _, rfl, rfl, .inl ⟨rfl, rowC_scal (encI_ok .i64) _⟩⟩, ⟨_, _, rfl, rfl, .inl ⟨rfl, rowC_scal encP_ok _⟩⟩, trivial⟩ rfl ?_
          refine XL.conv (f14_6_ok m fuel x8_x01 lh0_x01 lh1_x01 ((o7.2.length : Nat) : Int) x96_6 (w64 (x97_6 + 1)) o7.2 o h Q hQ) (by first | rfl | simp)
        | false =>
          have h := cF b4 h
          refine XR.runS E0_ok 1 5 [(5, s0 0 lh0_x01.length), (6, s0 1 lh1_x01.length), (7, s0 2 lh2_6.length), (8, ii x8_x01), (9, ii x9_6), (18, s0 3 o7.2.length), (96, ii x96_6), (97, ii x97_6), (150, .bool true), (155, .bool false), (160, .bool (((o7.2.length : Nat) : Int) == x9_6))] rfl (by kernel_rfl) ?_
          cases b5 : (((o7.2.length : Nat) : Int) == x9_6 : Bool) with
          | true =>
            have h := cT b5 h
            refine XR.runS E0_ok 1 2 [(5, s0 0 lh0_x01.length), (6, s0 1 lh1_x01.length), (7, s0 2 lh2_6.length), (8, ii x8_x01), (9, ii x9_6), (18, s0 3 o7.2.length), (96, ii x96_6), (97, ii x97_6), (150, .bool true), (155, .bool false), (160, .bool true), (161, s0 3 o7.2.length), (162, s0 2 lh2_6.length)] rfl (by kernel_rfl) ?_
            refine XR.callK E0_ok [5, 6, 7, 8, 9, 18, 96, 97, 150, 155, 160, 163] rfl (K := 54) (args := [s0 3 o7.2.length, s0 2 lh2_6.length]) (d := (some (path 12 163))) (by kernel_rfl) ?_
            refine KC.bodyN E0_ok (F := Proofs.Try.f54) (by kernel_rfl) (code := f14_C54) (by kernel_rfl) (nt := 36) (by kernel_rfl) (rs := [.tmp 4]) (by kernel_rfl) (by kernel_rfl) (σ := [(0, s0 3 o7.2.length), (1, s0 2 lh2_6.length)]) (by kernel_rfl) ?_
            refine XQ.seq E0_ok (by kernel_rfl) ?_
            refine XQ.region (by kernel_rfl) ?_
            refine XR.runS E0_ok 1 1 [(0, s0 3 o7.2.length), (1, s0 2 lh2_6.length)] rfl (by kernel_rfl) ?_
            refine XR.done (by kernel_rfl) ?_
            show XQ _ _ _ _ _ _ _ _
            refine XQ.seq E0_ok (by kernel_rfl) ?_
            refine XQ.seq E0_ok (by kernel_rfl) ?_
            refine XQ.region (by kernel_rfl) ?_
            refine XR.runS E0_ok 1 3 [(0, s0 3 o7.2.length), (1, s0 2 lh2_6.length), (9, s0 3 o7.2.length), (10, ii ((o7.2.length : Nat) : Int)), (11, ii 0)] rfl (by kernel_rfl) ?_
            refine XR.done (by kernel_rfl) ?_
            show XQ _ _ _ _ _ _ _ _
            refine XQ.block (id := 0) (by kernel_rfl) ?_
            refine XQ.loop m (by kernel_rfl) ?_
            obtain ⟨o9, o9_h, h⟩ := bS h
            refine XL.ren (σ' := [(0, s0 3 o7.2.length), (1, s0 2 lh2_6.length), (9, s0 3 o7.2.length), (10, ii ((o7.2.length : Nat) : Int)), (11, ii 0)]) (h' := [(3, rc (encI .i64) o7.2 0 3 1), (2, rc (encI .i64) lh2_6 0 3 1), (1, rc (encI .i64) lh1_x01 0 3 1), (0, rc encP lh0_x01 0 61 2)]) (c' := 4) [0, 1, 2, 3] (by decide) rfl ⟨by kernel_rfl, by kernel_rfl, by kernel_rfl, by kernel_rfl, by kernel_rfl, trivial⟩ ⟨⟨_, _, rfl, rfl, .inl ⟨rfl, rowC_scal (encI_ok .i64) _⟩⟩, ⟨_, _, rfl, rfl, .inl ⟨rfl, rowC_scal (encI_ok .i64) _⟩⟩, ⟨_, _, rfl, rfl, .inl ⟨rfl, rowC_scal (encI_ok .i64) _⟩⟩, ⟨_, _, rfl, rfl, .inl ⟨rfl, rowC_scal encP_ok _⟩⟩, trivial⟩ rfl ?_
            cases o9 with
            | r x4_r9 lh3_r9 =>
              dsimp only at h
              refine XL.conv (f14_9_ok m m lh0_x01 lh1_x01 lh2_6 ((o7.2.length : Nat) : Int) 0 o7.2 (.r x4_r9 lh3_r9) o9_h _ ?_) (by first | rfl | simp)
              refine ⟨fun i q => (by cases q), ii x4_r9, (by kernel_rfl), ?_⟩
              refine XR.conv (σ' := [(5, s0 0 lh0_x01.length), (6, s0 1 lh1_x01.length), (7, s0 2 lh2_6.length), (8, ii x8_x01), (9, ii x9_6), (18, s0 3 o7.2.length), (96, ii x96_6), (97, ii x97_6), (150, .bool true), (155, .bool false), (160, .bool true), (163, ii x4_r9)]) (h' := [(3, rc (encI .i64) lh3_r9 0 3 1), (2, rc (encI .i64) lh2_6 0 3 1), (1, rc (encI .i64) lh1_x01 0 3 1), (0, rc encP lh0_x01 0 61 2)]) (c' := 4) ?_ (by kernel_rfl)
              cases b7 : (decide (o7.2.length = lh3_r9.length) : Bool) with
              | false => cases (cF b7 h)
              | true =>
                have h := cT b7 h
                refine XR.conv (σ' := [(5, s0 0 lh0_x01.length), (6, s0 1 lh1_x01.length), (7, s0 2 lh2_6.length), (8, ii x8_x01), (9, ii x9_6), (18, s0 3 lh3_r9.length), (96, ii x96_6), (97, ii x97_6), (150, .bool true), (155, .bool false), (160, .bool true), (163, ii x4_r9)]) (h' := [(3, rc (encI .i64) lh3_r9 0 3 1), (2, rc (encI .i64) lh2_6 0 3 1), (1, rc (encI .i64) lh1_x01 0 3 1), (0, rc encP lh0_x01 0 61 2)]) (c' := 4) ?_ (by rw [of_decide_eq_true b7])
                refine XR.runS E0_ok 1 4 [(5, s0 0 lh0_x01.length), (6, s0 1 lh1_x01.length), (7, s0 2 lh2_6.length), (8, ii x8_x01), (9, ii x9_6), (18, s0 3 lh3_r9.length), (96, ii x96_6), (97, ii x97_6), (167, .bool (decide (x4_r9 < 0)))] rfl (by kernel_rfl) ?_
                refine XR.done (by kernel_rfl) ?_
                show XQ _ _ _ _ _ _ _ _
                cases b8 : (decide (x4_r9 < 0) : Bool) with
                | true =>
                  have h := cT b8 h
                  refine XQ.cond (s := (.tmp 167)) (b := true) (by kernel_rfl) (by kernel_rfl) (fun _ => ?_) (fun q => by cases q)
                  refine XQ.region (by kernel_rfl) ?_
                  refine XR.runS E0_ok 1 5 [(5, s0 0 lh0_x01.length), (6, s0 1 lh1_x01.length), (7, s0 3 lh3_r9.length), (8, ii x8_x01), (9, ii ((lh3_r9.length : Nat) : Int)), (96, ii x96_6), (97, ii x97_6)] rfl (by kernel_rfl) ?_
                  refine XR.done (by kernel_rfl) ?_
                  show XQ _ _ _ _ _ _ _ _
                  refine XQ.region (by kernel_rfl) ?_
                  refine XR.runS E0_ok 1 2 [(5, s0 0 lh0_x01.length), (6, s0 1 lh1_x01.length), (7, s0 3 lh3_r9.length), (8, ii x8_x01), (9, ii ((lh3_r9.length : Nat) : Int)), (96, ii x96_6), (97, ii (w64 (x97_6 + 1)))] rfl (by kernel_rfl) ?_
                  refine XR.done (by kernel_rfl) ?_
                  show XL _ _ _ _ _ _ _ _ _
                  refine XL.ren (σ' := [(5, s0 0 lh0_x01.length), (6, s0 1 lh1_x01.length), (7, s0 2 lh3_r9.length), (8, ii x8_x01), (9, ii ((lh3_r9.length : Nat) : Int)), (96, ii x96_6), (97, ii (w64 (x97_6 + 1)))]) (h' := [(2, rc (encI .i64) lh3_r9 0 3 1), (1, rc (encI .i64) lh1_x01 0 3 1), (0, rc encP lh0_x01 0 61 2)]) (c' := 3) [0, 1, 3] (by decide) rfl ⟨by kernel_rfl, by kernel_rfl, by kernel_rfl, by kernel_rfl, by kernel_rfl, by kernel_rfl, by kernel_rfl, trivial⟩ ⟨⟨_, _, rfl, rfl, .inl ⟨rfl, rowC_scal (encI_ok .i64) _⟩⟩, ⟨_, _, rfl, rfl, .inl ⟨rfl, rowC_scal (encI_ok .i64) _⟩⟩, ⟨_, _, rfl, rfl, .inl ⟨rfl, rowC_scal encP_ok _⟩⟩, trivial⟩ rfl ?_
                  refine XL.conv (f14_6_ok m fuel x8_x01 lh0_x01 lh1_x01 ((lh3_r9.length : Nat) : Int) x96_6 (w64 (x97_6 + 1)) lh3_r9 o h Q hQ) (by first | rfl | simp)
                | false =>
                  have h := cF b8 h
                  refine XQ.cond (s := (.tmp 167)) (b := false) (by kernel_rfl) (by kernel_rfl) (fun q => by cases q) (fun _ => ?_)
                  refine XQ.skip (by kernel_rfl) ?_
                  show XQ _ _ _ _ _ _ _ _
                  refine XQ.region (by kernel_rfl) ?_
                  refine XR.runS E0_ok 1 2 [(5, s0 0 lh0_x01.length), (6, s0 1 lh1_x01.length), (7, s0 2 lh2_6.length), (8, ii x8_x01), (9, ii x9_6), (96, ii x96_6), (97, ii (w64 (x97_6 + 1)))] rfl (by kernel_rfl) ?_
                  refine XR.done (by kernel_rfl) ?_
                  show XL _ _ _ _ _ _ _ _ _
                  refine XL.ren (σ' := [(5, s0 0 lh0_x01.length), (6, s0 1 lh1_x01.length), (7, s0 2 lh2_6.length), (8, ii x8_x01), (9, ii x9_6), (96, ii x96_6), (97, ii (w64 (x97_6 + 1)))]) (h' := [(2, rc (encI .i64) lh2_6 0 3 1), (1, rc (encI .i64) lh1_x01 0 3 1), (0, rc encP lh0_x01 0 61 2)]) (c' := 3) [0, 1, 2] (by decide) rfl ⟨by kernel_rfl, by kernel_rfl, by kernel_rfl, by kernel_rfl, by kernel_rfl, by kernel_rfl, by kernel_rfl, trivial⟩ ⟨⟨_, _, rfl, rfl, .inl ⟨rfl, rowC_scal (encI_ok .i64) _⟩⟩, ⟨_, _, rfl, rfl, .inl ⟨rfl, rowC_scal (encI_ok .i64) _⟩⟩, ⟨_, _, rfl, rfl, .inl ⟨rfl, rowC_scal encP_ok _⟩⟩, trivial⟩ rfl ?_
                  refine XL.conv (f14_6_ok m fuel x8_x01 lh0_x01 lh1_x01 x9_6 x96_6 (w64 (x97_6 + 1)) lh2_6 o h Q hQ) (by first | rfl | simp)
            | x0 lh3_x09 =>
              dsimp only at h
              refine XL.conv (f14_9_ok m m lh0_x01 lh1_x01 lh2_6 ((o7.2.length : Nat) : Int) 0 o7.2 (.x0 lh3_x09) o9_h _ ?_) (by first | rfl | simp)
              show XQ _ _ _ _ _ _ _ _
              refine XQ.seq E0_ok (by kernel_rfl) ?_
              refine XQ.seq E0_ok (by kernel_rfl) ?_
              refine XQ.region (by kernel_rfl) ?_
              refine XR.runS E0_ok 1 5 [(35, .bool (decide (((lh3_x09.length : Nat) : Int) < ((lh2_6.length : Nat) : Int))))] rfl (by kernel_rfl) ?_
              refine XR.done (by kernel_rfl) ?_
              show XQ _ _ _ _ _ _ _ _
              cases b9 : (decide (((lh3_x09.length : Nat) : Int) < ((lh2_6.length : Nat) : Int)) : Bool) with
              | true =>
                have h := cT b9 h
                refine XQ.cond (s := (.tmp 35)) (b := true) (by kernel_rfl) (by kernel_rfl) (fun _ => ?_) (fun q => by cases q)
                refine XQ.seq E0_ok (by kernel_rfl) ?_
                refine XQ.region (by kernel_rfl) ?_
                refine XR.runS E0_ok 1 1 [(4, ii (-1))] rfl (by kernel_rfl) ?_
                refine XR.done (by kernel_rfl) ?_
                show XQ _ _ _ _ _ _ _ _
                refine XQ.ret (by kernel_rfl) ?_
                refine ⟨fun i q => (by cases q), ii (-1), (by kernel_rfl), ?_⟩
                refine XR.conv (σ' := [(5, s0 0 lh0_x01.length), (6, s0 1 lh1_x01.length), (7, s0 2 lh2_6.length), (8, ii x8_x01), (9, ii x9_6), (18, s0 3 o7.2.length), (96, ii x96_6), (97, ii x97_6), (150, .bool true), (155, .bool false), (160, .bool true), (163, ii (-1))]) (h' := [(3, rc (encI .i64) lh3_x09 0 3 1), (2, rc (encI .i64) lh2_6 0 3 1), (1, rc (encI .i64) lh1_x01 0 3 1), (0, rc encP lh0_x01 0 61 2)]) (c' := 4) ?_ (by kernel_rfl)
                cases b10 : (decide (o7.2.length = lh3_x09.length) : Bool) with
                | false => cases (cF b10 h)
                | true =>
                  have h := cT b10 h
                  refine XR.conv (σ' := [(5, s0 0 lh0_x01.length), (6, s0 1 lh1_x01.length), (7, s0 2 lh2_6.length), (8, ii x8_x01), (9, ii x9_6), (18, s0 3 lh3_x09.length), (96, ii x96_6), (97, ii x97_6), (150, .bool true), (155, .bool false), (160, .bool true), (163, ii (-1))]) (h' := [(3, rc (encI .i64) lh3_x09 0 3 1), (2, rc (encI .i64) lh2_6 0 3 1), (1, rc (encI .i64) lh1_x01 0 3 1), (0, rc encP lh0_x01 0 61 2)]) (c' := 4) ?_ (by rw [of_decide_eq_true b10])
                  refine XR.runS E0_ok 1 4 [(5, s0 0 lh0_x01.length), (6, s0 1 lh1_x01.length), (7, s0 2 lh2_6.length), (8, ii x8_x01), (9, ii x9_6), (18, s0 3 lh3_x09.length), (96, ii x96_6), (97, ii x97_6), (167, .bool true)] rfl (by kernel_rfl) ?_
                  refine XR.done (by kernel_rfl) ?_
                  show XQ _ _ _ _ _ _ _ _
                  refine XQ.cond (s := (.tmp 167)) (b := true) (by kernel_rfl) (by kernel_rfl) (fun _ => ?_) (fun q => by cases q)
                  refine XQ.region (by kernel_rfl) ?_
                  refine XR.runS E0_ok 1 5 [(5, s0 0 lh0_x01.length), (6, s0 1 lh1_x01.length), (7, s0 3 lh3_x09.length), (8, ii x8_x01), (9, ii ((lh3_x09.length : Nat) : Int)), (96, ii x96_6), (97, ii x97_6)] rfl (by kernel_rfl) ?_
                  refine XR.done (by kernel_rfl) ?_
                  show XQ _ _ _ _ _ _ _ _
                  refine XQ.region (by kernel_rfl) ?_
                  refine XR.runS E0_ok 1 2 [(5, s0 0 lh0_x01.length), (6, s0 1 lh1_x01.length), (7, s0 3 lh3_x09.length), (8, ii x8_x01), (9, ii ((lh3_x09.length : Nat) : Int)), (96, ii x96_6), (97, ii (w64 (x97_6 + 1)))] rfl (by kernel_rfl) ?_
                  refine XR.done (by kernel_rfl) ?_
                  show XL _ _ _ _ _ _ _ _ _
                  refine XL.ren (σ' := [(5, s0 0 lh0_x01.length), (6, s0 1 lh1_x01.length), (7, s0 2 lh3_x09.length), (8, ii x8_x01), (9, ii ((lh3_x09.length : Nat) : Int)), (96, ii x96_6), (97, ii (w64 (x97_6 + 1)))]) (h' := [(2, rc (encI .i64) lh3_x09 0 3 1), (1, rc (encI .i64) lh1_x01 0 3 1), (0, rc encP lh0_x01 0 61 2)]) (c' := 3) [0, 1, 3] (by decide) rfl ⟨by kernel_rfl, by kernel_rfl, by kernel_rfl, by kernel_rfl, by kernel_rfl, by kernel_rfl, by kernel_rfl, trivial⟩ ⟨⟨_, _, rfl, rfl, .inl ⟨rfl, rowC_scal (encI_ok .i64) _⟩⟩, ⟨_, _, rfl, rfl, .inl ⟨rfl, rowC_scal (encI_ok .i64) _⟩⟩, ⟨_, _, rfl, rfl, .inl ⟨rfl, rowC_scal encP_ok _⟩⟩, trivial⟩ rfl ?_
                  refine XL.conv (f14_6_ok m fuel x8_x01 lh0_x01 lh1_x01 ((lh3_x09.length : Nat) : Int) x96_6 (w64 (x97_6 + 1)) lh3_x09 o h Q hQ) (by first | rfl | simp)
              | false =>
                have h := cF b9 h
                refine XQ.cond (s := (.tmp 35)) (b := false) (by kernel_rfl) (by kernel_rfl) (fun q => by cases q) (fun _ => ?_)
                refine XQ.skip (by kernel_rfl) ?_
                show XQ _ _ _ _ _ _ _ _
                refine XQ.seq E0_ok (by kernel_rfl) ?_
                refine XQ.region (by kernel_rfl) ?_
                refine XR.runS E0_ok 1 1 [(4, ii 0)] rfl (by kernel_rfl) ?_
                refine XR.done (by kernel_rfl) ?_
                show XQ _ _ _ _ _ _ _ _
                refine XQ.ret (by kernel_rfl) ?_
                refine ⟨fun i q => (by cases q), ii 0, (by kernel_rfl), ?_⟩
                refine XR.conv (σ' := [(5, s0 0 lh0_x01.length), (6, s0 1 lh1_x01.length), (7, s0 2 lh2_6.length), (8, ii x8_x01), (9, ii x9_6), (18, s0 3 o7.2.length), (96, ii x96_6), (97, ii x97_6), (150, .bool true), (155, .bool false), (160, .bool true), (163, ii 0)]) (h' := [(3, rc (encI .i64) lh3_x09 0 3 1), (2, rc (encI .i64) lh2_6 0 3 1), (1, rc (encI .i64) lh1_x01 0 3 1), (0, rc encP lh0_x01 0 61 2)]) (c' := 4) ?_ (by kernel_rfl)
                cases b11 : (decide (o7.2.length = lh3_x09.length) : Bool) with
                | false => cases (cF b11 h)
                | true =>
                  have h := cT b11 h
                  refine XR.conv (σ' := [(5, s0 0 lh0_x01.length), (6, s0 1 lh1_x01.length), (7, s0 2 lh2_6.length), (8, ii x8_x01), (9, ii x9_6), (18, s0 3 lh3_x09.length), (96, ii x96_6), (97, ii x97_6), (150, .bool true), (155, .bool false), (160, .bool true), (163, ii 0)]) (h' := [(3, rc (encI .i64) lh3_x09 0 3 1), (2, rc (encI .i64) lh2_6 0 3 1), (1, rc (encI .i64) lh1_x01 0 3 1), (0, rc encP lh0_x01 0 61 2)]) (c' := 4) ?_ (by rw [of_decide_eq_true b11])
                  refine XR.runS E0_ok 1 4 [(5, s0 0 lh0_x01.length), (6, s0 1 lh1_x01.length), (7, s0 2 lh2_6.length), (8, ii x8_x01), (9, ii x9_6), (18, s0 3 lh3_x09.length), (96, ii x96_6), (97, ii x97_6), (167, .bool false)] rfl (by kernel_rfl) ?_
                  refine XR.done (by kernel_rfl) ?_
                  show XQ _ _ _ _ _ _ _ _
                  refine XQ.cond (s := (.tmp 167)) (b := false) (by kernel_rfl) (by kernel_rfl) (fun q => by cases q) (fun _ => ?_)
                  refine XQ.skip (by kernel_rfl) ?_
                  show XQ _ _ _ _ _ _ _ _
                  refine XQ.region (by kernel_rfl) ?_
                  refine XR.runS E0_ok 1 2 [(5, s0 0 lh0_x01.length), (6, s0 1 lh1_x01.length), (7, s0 2 lh2_6.length), (8, ii x8_x01), (9, ii x9_6), (96, ii x96_6), (97, ii (w64 (x97_6 + 1)))] rfl (by kernel_rfl) ?_
                  refine XR.done (by kernel_rfl) ?_
                  show XL _ _ _ _ _ _ _ _ _
                  refine XL.ren (σ' := [(5, s0 0 lh0_x01.length), (6, s0 1 lh1_x01.length), (7, s0 2 lh2_6.length), (8, ii x8_x01), (9, ii x9_6), (96, ii x96_6), (97, ii (w64 (x97_6 + 1)))]) (h' := [(2, rc (encI .i64) lh2_6 0 3 1), (1, rc (encI .i64) lh1_x01 0 3 1), (0, rc encP lh0_x01 0 61 2)]) (c' := 3) [0, 1, 2] (by decide) rfl ⟨by kernel_rfl, by kernel_rfl, by kernel_rfl, by kernel_rfl, by kernel_rfl, by kernel_rfl, by kernel_rfl, trivial⟩ ⟨⟨_, _, rfl, rfl, .inl ⟨rfl, rowC_scal (encI_ok .i64) _⟩⟩, ⟨_, _, rfl, rfl, .inl ⟨rfl, rowC_scal (encI_ok .i64) _⟩⟩, ⟨_, _, rfl, rfl, .inl ⟨rfl, rowC_scal encP_ok _⟩⟩, trivial⟩ rfl ?_
                  refine XL.conv (f14_6_ok m fuel x8_x01 lh0_x01 lh1_x01 x9_6 x96_6 (w64 (x97_6 + 1)) lh2_6 o h Q hQ) (by first | rfl | simp)
          | false =>
            have h := cF b5 h
            refine XR.runS E0_ok 1 7 [(5, s0 0 lh0_x01.length), (6, s0 1 lh1_x01.length), (7, s0 2 lh2_6.length), (8, ii x8_x01), (9, ii x9_6), (18, s0 3 o7.2.length), (96, ii x96_6), (97, ii x97_6), (167, .bool false)] rfl (by kernel_rfl) ?_
            refine XR.done (by kernel_rfl) ?_
            show XQ _ _ _ _ _ _ _ _
            refine XQ.cond (s := (.tmp 167)) (b := false) (by kernel_rfl) (by kernel_rfl) (fun q => by cases q) (fun _ => ?_)
            refine XQ.skip (by kernel_rfl) ?_
            show XQ _ _ _ _ _ _ _ _
            refine XQ.region (by kernel_rfl) ?_
            refine XR.runS E0_ok 1 2 [(5, s0 0 lh0_x01.length), (6, s0 1 lh1_x01.length), (7, s0 2 lh2_6.length), (8, ii x8_x01), (9, ii x9_6), (96, ii x96_6), (97, ii (w64 (x97_6 + 1)))] rfl (by kernel_rfl) ?_
            refine XR.done (by kernel_rfl) ?_
            show XL _ _ _ _ _ _ _ _ _
            refine XL.ren (σ' := [(5, s0 0 lh0_x01.length), (6, s0 1 lh1_x01.length), (7, s0 2 lh2_6.length), (8, ii x8_x01), (9, ii x9_6), (96, ii x96_6), (97, ii (w64 (x97_6 + 1)))]) (h' := [(2, rc (encI .i64) lh2_6 0 3 1), (1, rc (encI .i64) lh1_x01 0 3 1), (0, rc encP lh0_x01 0 61 2)]) (c' := 3) [0, 1, 2] (by decide) rfl ⟨by kernel_rfl, by kernel_rfl, by kernel_rfl, by kernel_rfl, by kernel_rfl, by kernel_rfl, by kernel_rfl, trivial⟩ ⟨⟨_, _, rfl, rfl, .inl ⟨rfl, rowC_scal (encI_ok .i64) _⟩⟩, ⟨_, _, rfl, rfl, .inl ⟨rfl, rowC_scal (encI_ok .i64) _⟩⟩, ⟨_, _, rfl, rfl, .inl ⟨rfl, rowC_scal encP_ok _⟩⟩, trivial⟩ rfl ?_
            refine XL.conv (f14_6_ok m fuel x8_x01 lh0_x01 lh1_x01 x9_6 x96_6 (w64 (x97_6 + 1)) lh2_6 o h Q hQ) (by first | rfl | simp)
      | false =>
        have h := cF b3 h
        refine XR.runS E0_ok 1 17 [(5, s0 0 lh0_x01.length), (6, s0 1 lh1_x01.length), (7, s0 2 lh2_6.length), (8, ii x8_x01), (9, ii x9_6), (18, s0 3 o7.2.length), (96, ii x96_6), (97, ii x97_6), (167, .bool false)] rfl (by kernel_rfl) ?_
        refine XR.done (by kernel_rfl) ?_
        show XQ _ _ _ _ _ _ _ _
        refine XQ.cond (s := (.tmp 167)) (b := false) (by kernel_rfl) (by kernel_rfl) (fun q => by cases q) (fun _ => ?_)
        refine XQ.skip (by kernel_rfl) ?_
        show XQ _ _ _ _ _ _ _ _
        refine XQ.region (by kernel_rfl) ?_
        refine XR.runS E0_ok 1 2 [(5, s0 0 lh0_x01.length), (6, s0 1 lh1_x01.length), (7, s0 2 lh2_6.length), (8, ii x8_x01), (9, ii x9_6), (96, ii x96_6), (97, ii (w64 (x97_6 + 1)))] rfl (by kernel_rfl) ?_
        refine XR.done (by kernel_rfl) ?_
        show XL _ _ _ _ _ _ _ _ _
        refine XL.ren (σ' := [(5, s0 0 lh0_x01.length), (6, s0 1 lh1_x01.length), (7, s0 2 lh2_6.length), (8, ii x8_x01), (9, ii x9_6), (96, ii x96_6), (97, ii (w64 (x97_6 + 1)))]) (h' := [(2, rc (encI .i64) lh2_6 0 3 1), (1, rc (encI .i64) lh1_x01 0 3 1), (0, rc encP lh0_x01 0 61 2)]) (c' := 3) [0, 1, 2] (by decide) rfl ⟨by kernel_rfl, by kernel_rfl, by kernel_rfl, by kernel_rfl, by kernel_rfl, by kernel_rfl, by kernel_rfl, trivial⟩ ⟨⟨_, _, rfl, rfl, .inl ⟨rfl, rowC_scal (encI_ok .i64) _⟩⟩, ⟨_, _, rfl, rfl, .inl ⟨rfl, rowC_scal (encI_ok .i64) _⟩⟩, ⟨_, _, rfl, rfl, .inl ⟨rfl, rowC_scal encP_ok _⟩⟩, trivial⟩ rfl ?_
        refine XL.conv (f14_6_ok m fuel x8_x01 lh0_x01 lh1_x01 x9_6 x96_6 (w64 (x97_6 + 1)) lh2_6 o h Q hQ) (by first | rfl | simp)
    | false =>
      have h := cF b1 h
      refine XQ.cond (s := (.tmp 98)) (b := false) (by kernel_rfl) (by kernel_rfl) (fun q => by cases q) (fun _ => ?_)
      refine XQ.ren (σ' := [(5, s0 0 lh0_x01.length), (6, s0 1 lh1_x01.length), (7, s0 2 lh2_6.length), (8, ii x8_x01), (9, ii x9_6)]) (h' := [(2, rc (encI .i64) lh2_6 0 3 1), (1, rc (encI .i64) lh1_x01 0 3 1), (0, rc encP lh0_x01 0 61 2)]) (c' := 3) [0, 1, 2] (by decide) rfl ⟨by kernel_rfl, by kernel_rfl, by kernel_rfl, by kernel_rfl, by kernel_rfl, trivial⟩ ⟨⟨_, _, rfl, rfl, .inl ⟨rfl, rowC_scal (encI_ok .i64) _⟩⟩, ⟨_, _, rfl, rfl, .inl ⟨rfl, rowC_scal (encI_ok .i64) _⟩⟩, ⟨_, _, rfl, rfl, .inl ⟨rfl, rowC_scal encP_ok _⟩⟩, trivial⟩ rfl ?_
      refine XQ.exit (i := 6) (by kernel_rfl) ?_
      cases h
      exact hQ

def f14 (m : Nat) (a_0_0 : Int) (a_0_1 : Int) (a_1_0 : Int) (a_1_1 : Int) (a_2_0 : Int) (a_2_1 : Int) (a_3_0 : Int) (a_3_1 : Int) (a_4_0 : Int) (a_4_1 : Int) (a_5_0 : Int) (a_5_1 : Int) (a_6_0 : Int) (a_6_1 : Int) (a_7_0 : Int) (a_7_1 : Int) (b : Int) : Option (Bool) :=
  (f41 m a_0_0 a_0_1 a_1_0 a_1_1 a_2_0 a_2_1 a_3_0 a_3_1 a_4_0 a_4_1 a_5_0 a_5_1 a_6_0 a_6_1 a_7_0 a_7_1 (w64 b) 8 9 0).bind fun r1 =>
    (f14_1 m m b 100 0 r1 []).bind fun o1 =>
      match o1 with
      | .r =>
        some (false)
      | .x0 x8_x01 lh0_x01 lh1_x01 =>
        cond (decide (0 ≤ ((lh0_x01.length : Nat) : Int))) (
          (f14_6 m m x8_x01 lh0_x01 lh1_x01 (-1) (shV true .i64 1 ((lh0_x01.length : Nat) : Int)) 0 []).bind fun o6 =>
            (f35 m lh0_x01).bind fun r22 =>
              (f37 m lh0_x01).bind fun r23 =>
                cond (r22.2 == 0) (
                  cond (r23.2 == 0) (
                    cond (x8_x01 == o6.1) (
                      (f20 m r22.1 lh1_x01).bind fun r24 =>
                        cond (r24) (
                          (f20 m r23.1 o6.2).bind fun r25 =>
                            cond (r25) (
                              (f39 m lh0_x01 r22.1).bind fun r26 =>
                                cond (r26 == 0) (
                                  some (true)
                                ) (
                                  some (false)
                                )
                            ) (
                              some (false)
                            )
                        ) (
                          some (false)
                        )
                    ) (
                      some (false)
                    )
                  ) (
                    some (false)
                  )
                ) (
                  some (false)
                )
        ) none

theorem f14_ok (m : Nat) (a_0_0 : Int) (a_0_1 : Int) (a_1_0 : Int) (a_1_1 : Int) (a_2_0 : Int) (a_2_1 : Int) (a_3_0 : Int) (a_3_1 : Int) (a_4_0 : Int) (a_4_1 : Int) (a_5_0 : Int) (a_5_1 : Int) (a_6_0 : Int) (a_6_1 : Int) (a_7_0 : Int) (a_7_1 : Int) (b : Int) (o : Bool) (h : f14 m a_0_0 a_0_1 a_1_0 a_1_1 a_2_0 a_2_1 a_3_0 a_3_1 a_4_0 a_4_1 a_5_0 a_5_1 a_6_0 a_6_1 a_7_0 a_7_1 b = some o) (w : World) (hI : anyInv w) : Calls Proofs.Try.prog 14 #[.agg #[.int .u8 a_0_0, .int .u8 a_0_1, .int .u8 a_1_0, .int .u8 a_1_1, .int .u8 a_2_0, .int .u8 a_2_1, .int .u8 a_3_0, .int .u8 a_3_1, .int .u8 a_4_0, .int .u8 a_4_1, .int .u8 a_5_0, .int .u8 a_5_1, .int .u8 a_6_0, .int .u8 a_6_1, .int .u8 a_7_0, .int .u8 a_7_1], .int .u8 b] w fun e w' => e = .returned (.bool o) ∧ Below w.heap.size w w' := by
  refine KC.calls (E := E0) (args := [.agg #[.int .u8 a_0_0, .int .u8 a_0_1, .int .u8 a_1_0, .int .u8 a_1_1, .int .u8 a_2_0, .int .u8 a_2_1, .int .u8 a_3_0, .int .u8 a_3_1, .int .u8 a_4_0, .int .u8 a_4_1, .int .u8 a_5_0, .int .u8 a_5_1, .int .u8 a_6_0, .int .u8 a_6_1, .int .u8 a_7_0, .int .u8 a_7_1], .int .u8 b]) (v := .bool o) rfl rfl (KC.bodyN E0_ok (F := Proofs.Try.f14) (by kernel_rfl) (code := f14_C14) (by kernel_rfl) (nt := 212) (by kernel_rfl) (rs := [.tmp 4]) (by kernel_rfl) (by kernel_rfl) (σ := [(0, .agg #[.int .u8 a_0_0, .int .u8 a_0_1, .int .u8 a_1_0, .int .u8 a_1_1, .int .u8 a_2_0, .int .u8 a_2_1, .int .u8 a_3_0, .int .u8 a_3_1, .int .u8 a_4_0, .int .u8 a_4_1, .int .u8 a_5_0, .int .u8 a_5_1, .int .u8 a_6_0, .int .u8 a_6_1, .int .u8 a_7_0, .int .u8 a_7_1]), (1, .int .u8 b)]) (by kernel_rfl) ?_) w (anyInv_size hI) hI
  unfold f14 at h
  refine XQ.seq E0_ok (by kernel_rfl) ?_
  refine XQ.region (by kernel_rfl) ?_
  refine XR.runT E0_ok 1 2 [(1, .int .u8 b), (2, pp 0 0)] [(0, .cells [.int .u8 a_0_0, .int .u8 a_0_1, .int .u8 a_1_0, .int .u8 a_1_1, .int .u8 a_2_0, .int .u8 a_2_1, .int .u8 a_3_0, .int .u8 a_3_1, .int .u8 a_4_0, .int .u8 a_4_1, .int .u8 a_5_0, .int .u8 a_5_1, .int .u8 a_6_0, .int .u8 a_6_1, .int .u8 a_7_0, .int .u8 a_7_1] 0 56 0)] 1 rfl (by kernel_rfl) ?_
  refine XR.done (by kernel_rfl) ?_
  show XQ _ _ _ _ _ _ _ _
  refine XQ.seq E0_ok (by kernel_rfl) ?_
  refine XQ.region (by kernel_rfl) ?_
  refine XR.runS E0_ok 1 3 [(1, .int .u8 b), (27, .agg #[.int .u8 a_0_0, .int .u8 a_0_1, .int .u8 a_1_0, .int .u8 a_1_1, .int .u8 a_2_0, .int .u8 a_2_1, .int .u8 a_3_0, .int .u8 a_3_1, .int .u8 a_4_0, .int .u8 a_4_1, .int .u8 a_5_0, .int .u8 a_5_1, .int .u8 a_6_0, .int .u8 a_6_1, .int .u8 a_7_0, .int .u8 a_7_1]), (29, ii (w64 b))] rfl (by kernel_rfl) ?_
  obtain ⟨r1, r1_h, h⟩ := bS h
  refine XR.call E0_ok [1, 30] rfl (K := 41) (args := [.agg #[.int .u8 a_0_0, .int .u8 a_0_1, .int .u8 a_1_0, .int .u8 a_1_1, .int .u8 a_2_0, .int .u8 a_2_1, .int .u8 a_3_0, .int .u8 a_3_1, .int .u8 a_4_0, .int .u8 a_4_1, .int .u8 a_5_0, .int .u8 a_5_1, .int .u8 a_6_0, .int .u8 a_6_1, .int .u8 a_7_0, .int .u8 a_7_1], ii (w64 b), ii 8, ii 9, ii 0]) (d := (some (path 12 30))) (by kernel_rfl) (KC.lift (V2 := s0 1 r1.length) (H2 := [(1, rc encP r1 0 61 2)]) [1, 0] (f41_ok m a_0_0 a_0_1 a_1_0 a_1_1 a_2_0 a_2_1 a_3_0 a_3_1 a_4_0 a_4_1 a_5_0 a_5_1 a_6_0 a_6_1 a_7_0 a_7_1 (w64 b) 8 9 0 r1 r1_h) rfl (by decide) (by decide) (by kernel_rfl) ⟨⟨_, _, rfl, rfl, .inl ⟨rfl, rowC_scal encP_ok _⟩⟩, trivial⟩ (by rfl)) ?_
  rintro _ _ _ ⟨rfl, rfl, rfl⟩
  refine XR.conv (σ' := [(1, .int .u8 b), (30, s0 1 r1.length)]) (h' := [(1, rc encP r1 0 61 2), (0, .cells [.int .u8 a_0_0, .int .u8 a_0_1, .int .u8 a_1_0, .int .u8 a_1_1, .int .u8 a_2_0, .int .u8 a_2_1, .int .u8 a_3_0, .int .u8 a_3_1, .int .u8 a_4_0, .int .u8 a_4_1, .int .u8 a_5_0, .int .u8 a_5_1, .int .u8 a_6_0, .int .u8 a_6_1, .int .u8 a_7_0, .int .u8 a_7_1] 0 56 0)]) (c' := 2) ?_ (by kernel_rfl)
  refine XR.runS E0_ok 1 1 [(1, .int .u8 b), (5, s0 1 r1.length)] rfl (by kernel_rfl) ?_
  refine XR.done (by kernel_rfl) ?_
  show XQ _ _ _ _ _ _ _ _
  refine XQ.seq E0_ok (by kernel_rfl) ?_
  refine XQ.region (by kernel_rfl) ?_
  refine XR.runS E0_ok 1 2 [(1, .int .u8 b), (5, s0 1 r1.length), (6, .slice none 0 0), (7, .slice none 0 0)] rfl (by kernel_rfl) ?_
  refine XR.done (by kernel_rfl) ?_
  show XQ _ _ _ _ _ _ _ _
  refine XQ.ghost 3 1 rfl (σ' := [(1, .int .u8 b), (5, s0 1 r1.length), (6, s0 2 0), (7, .slice none 0 0)]) (h' := [(1, rc encP r1 0 61 2), (0, .cells [.int .u8 a_0_0, .int .u8 a_0_1, .int .u8 a_1_0, .int .u8 a_1_1, .int .u8 a_2_0, .int .u8 a_2_1, .int .u8 a_3_0, .int .u8 a_3_1, .int .u8 a_4_0, .int .u8 a_4_1, .int .u8 a_5_0, .int .u8 a_5_1, .int .u8 a_6_0, .int .u8 a_6_1, .int .u8 a_7_0, .int .u8 a_7_1] 0 56 0)]) ⟨by kernel_rfl, by kernel_rfl, by kernel_rfl, by kernel_rfl, trivial⟩ ⟨⟨_, rfl, .inl rfl⟩, ⟨_, rfl, .inl rfl⟩, trivial⟩ ?_
  refine XQ.conv (σ' := [(1, .int .u8 b), (5, s0 1 r1.length), (6, s0 2 0), (7, .slice none 0 0)]) (h' := [(2, rc (encI .i64) [] 0 3 1), (1, rc encP r1 0 61 2), (0, .cells [.int .u8 a_0_0, .int .u8 a_0_1, .int .u8 a_1_0, .int .u8 a_1_1, .int .u8 a_2_0, .int .u8 a_2_1, .int .u8 a_3_0, .int .u8 a_3_1, .int .u8 a_4_0, .int .u8 a_4_1, .int .u8 a_5_0, .int .u8 a_5_1, .int .u8 a_6_0, .int .u8 a_6_1, .int .u8 a_7_0, .int .u8 a_7_1] 0 56 0)]) (c' := 3) ?_ (by kernel_rfl)
  refine XQ.ghost 3 1 rfl (σ' := [(1, .int .u8 b), (5, s0 1 r1.length), (6, s0 2 0), (7, s0 3 0)]) (h' := [(2, rc (encI .i64) [] 0 3 1), (1, rc encP r1 0 61 2), (0, .cells [.int .u8 a_0_0, .int .u8 a_0_1, .int .u8 a_1_0, .int .u8 a_1_1, .int .u8 a_2_0, .int .u8 a_2_1, .int .u8 a_3_0, .int .u8 a_3_1, .int .u8 a_4_0, .int .u8 a_4_1, .int .u8 a_5_0, .int .u8 a_5_1, .int .u8 a_6_0, .int .u8 a_6_1, .int .u8 a_7_0, .int .u8 a_7_1] 0 56 0)]) ⟨by kernel_rfl, by kernel_rfl, by kernel_rfl, by kernel_rfl, trivial⟩ ⟨⟨_, rfl, .inl rfl⟩, ⟨_, rfl, .inl rfl⟩, ⟨_, rfl, .inl rfl⟩, trivial⟩ ?_
  refine XQ.conv (σ' := [(1, .int .u8 b), (5, s0 1 r1.length), (6, s0 2 0), (7, s0 3 0)]) (h' := [(3, rc (encI .i64) [] 0 3 1), (2, rc (encI .i64) [] 0 3 1), (1, rc encP r1 0 61 2), (0, .cells [.int .u8 a_0_0, .int .u8 a_0_1, .int .u8 a_1_0, .int .u8 a_1_1, .int .u8 a_2_0, .int .u8 a_2_1, .int .u8 a_3_0, .int .u8 a_3_1, .int .u8 a_4_0, .int .u8 a_4_1, .int .u8 a_5_0, .int .u8 a_5_1, .int .u8 a_6_0, .int .u8 a_6_1, .int .u8 a_7_0, .int .u8 a_7_1] 0 56 0)]) (c' := 4) ?_ (by kernel_rfl)
  refine XQ.seq E0_ok (by kernel_rfl) ?_
  refine XQ.region (by kernel_rfl) ?_
  refine XR.runS E0_ok 1 2 [(1, .int .u8 b), (5, s0 1 r1.length), (6, s0 2 0), (7, s0 3 0), (8, ii 100), (9, ii (-1))] rfl (by kernel_rfl) ?_
  refine XR.done (by kernel_rfl) ?_
  show XQ _ _ _ _ _ _ _ _
  refine XQ.seq E0_ok (by kernel_rfl) ?_
  refine XQ.seq E0_ok (by kernel_rfl) ?_
  refine XQ.region (by kernel_rfl) ?_
  refine XR.runS E0_ok 1 1 [(1, .int .u8 b), (5, s0 1 r1.length), (6, s0 2 0), (7, s0 3 0), (8, ii 100), (9, ii (-1)), (31, ii 0)] rfl (by kernel_rfl) ?_
  refine XR.done (by kernel_rfl) ?_
  show XQ _ _ _ _ _ _ _ _
  refine XQ.block (id := 0) (by kernel_rfl) ?_
  refine XQ.loop m (by kernel_rfl) ?_
  obtain ⟨o1, o1_h, h⟩ := bS h
  refine XL.ren (σ' := [(1, .int .u8 b), (5, s0 0 r1.length), (6, s0 1 0), (7, s0 2 0), (8, ii 100), (9, ii (-1)), (31, ii 0)]) (h' := [(2, rc (encI .i64) [] 0 3 1), (1, rc (encI .i64) [] 0 3 1), (0, rc encP r1 0 61 2)]) (c' := 3) [1, 2, 3] (by decide) rfl ⟨by kernel_rfl, by kernel_rfl, by kernel_rfl, by kernel_rfl, by kernel_rfl, by kernel_rfl, by kernel_rfl, trivial⟩ ⟨⟨_, _, rfl, rfl, .inl ⟨rfl, rowC_scal (encI_ok .i64) _⟩⟩, ⟨_, _, rfl, rfl, .inl ⟨rfl, rowC_scal (encI_ok .i64) _⟩⟩, ⟨_, _, rfl, rfl, .inl ⟨rfl, rowC_scal encP_ok _⟩⟩, trivial⟩ rfl ?_
  cases o1 with
  | r =>
    dsimp only at h
    refine XL.conv (f14_1_ok m m b 100 0 r1 [] (.r) o1_h _ ?_) (by first | rfl | simp)
    have h := Option.some.inj h
    subst h
    exact ⟨fun i q => (by cases q), .bool false, (by kernel_rfl), rfl⟩
  | x0 x8_x01 lh0_x01 lh1_x01 =>
    dsimp only at h
    refine XL.conv (f14_1_ok m m b 100 0 r1 [] (.x0 x8_x01 lh0_x01 lh1_x01) o1_h _ ?_) (by first | rfl | simp)
    show XQ _ _ _ _ _ _ _ _
    refine XQ.seq E0_ok (by kernel_rfl) ?_
    refine XQ.seq E0_ok (by kernel_rfl) ?_
    refine XQ.region (by kernel_rfl) ?_
    refine XR.runS E0_ok 1 2 [(5, s0 0 lh0_x01.length), (6, s0 1 lh1_x01.length), (7, s0 2 0), (8, ii x8_x01), (9, ii (-1)), (95, ii ((lh0_x01.length : Nat) : Int))] rfl (by kernel_rfl) ?_
    cases b2 : (decide (0 ≤ ((lh0_x01.length : Nat) : Int)) : Bool) with
    | false => cases (cF b2 h)
    | true =>
      have h := cT b2 h
      have e3 : insV (headI ((gsOf E0 212 (opsOf (lft (lft (rgt (rgt (rgt (rgt (rgt f14_C14))))))))).drop 2) (trS 212 [(5, s0 0 lh0_x01.length), (6, s0 1 lh1_x01.length), (7, s0 2 0), (8, ii x8_x01), (9, ii (-1)), (95, ii ((lh0_x01.length : Nat) : Int))])) (trS 212 [(5, s0 0 lh0_x01.length), (6, s0 1 lh1_x01.length), (7, s0 2 0), (8, ii x8_x01), (9, ii (-1)), (95, ii ((lh0_x01.length : Nat) : Int))]) [(2, rc (encI .i64) [] 0 3 1), (1, rc (encI .i64) lh1_x01 0 3 1), (0, rc encP lh0_x01 0 61 2)] = (match (decide (0 ≤ ((lh0_x01.length : Nat) : Int)) : Bool) with | true => some (ii (shV true .i64 1 ((lh0_x01.length : Nat) : Int))) | false => none) := by kernel_rfl
      refine XR.rd E0_ok [5, 6, 7, 8, 9, 96] rfl (e3.trans (by rw [b2])) (σ' := [(5, s0 0 lh0_x01.length), (6, s0 1 lh1_x01.length), (7, s0 2 0), (8, ii x8_x01), (9, ii (-1)), (96, ii (shV true .i64 1 ((lh0_x01.length : Nat) : Int)))]) (by kernel_rfl) ?_
      refine XR.runS E0_ok 1 1 [(5, s0 0 lh0_x01.length), (6, s0 1 lh1_x01.length), (7, s0 2 0), (8, ii x8_x01), (9, ii (-1)), (96, ii (shV true .i64 1 ((lh0_x01.length : Nat) : Int))), (97, ii 0)] rfl (by kernel_rfl) ?_
      refine XR.done (by kernel_rfl) ?_
      show XQ _ _ _ _ _ _ _ _
      refine XQ.block (id := 6) (by kernel_rfl) ?_
      refine XQ.loop m (by kernel_rfl) ?_
      obtain ⟨o6, o6_h, h⟩ := bS h
      refine XL.ren (σ' := [(5, s0 0 lh0_x01.length), (6, s0 1 lh1_x01.length), (7, s0 2 0), (8, ii x8_x01), (9, ii (-1)), (96, ii (shV true .i64 1 ((lh0_x01.length : Nat) : Int))), (97, ii 0)]) (h' := [(2, rc (encI .i64) [] 0 3 1), (1, rc (encI .i64) lh1_x01 0 3 1), (0, rc encP lh0_x01 0 61 2)]) (c' := 3) [0, 1, 2] (by decide) rfl ⟨by kernel_rfl, by kernel_rfl, by kernel_rfl, by kernel_rfl, by kernel_rfl, by kernel_rfl, by kernel_rfl, trivial⟩ ⟨⟨_, _, rfl, rfl, .inl ⟨rfl, rowC_scal (encI_ok .i64) _⟩⟩, ⟨_, _, rfl, rfl, .inl ⟨rfl, rowC_scal (encI_ok .i64) _⟩⟩, ⟨_, _, rfl, rfl, .inl ⟨rfl, rowC_scal encP_ok _⟩⟩, trivial⟩ rfl ?_
      refine XL.conv (f14_6_ok m m x8_x01 lh0_x01 lh1_x01 (-1) (shV true .i64 1 ((lh0_x01.length : Nat) : Int)) 0 [] o6 o6_h _ ?_) (by first | rfl | simp)
      show XQ _ _ _ _ _ _ _ _
      refine XQ.seq E0_ok (by kernel_rfl) ?_
      refine XQ.region (by kernel_rfl) ?_
      refine XR.runS E0_ok 1 1 [(5, s0 0 lh0_x01.length), (6, s0 1 lh1_x01.length), (7, s0 2 o6.2.length), (8, ii x8_x01), (9, ii o6.1), (173, s0 0 lh0_x01.length)] rfl (by kernel_rfl) ?_
      obtain ⟨r22, r22_h, h⟩ := bS h
      refine XR.call E0_ok [5, 6, 7, 8, 9, 174] rfl (K := 35) (args := [s0 0 lh0_x01.length]) (d := (some (path 12 174))) (by kernel_rfl) (KC.liftH (n0 := 1) (m := 1) (args0 := [s0 0 lh0_x01.length]) (h0 := [(0, rc encP lh0_x01 (0 + ((rowC encP lh0_x01).length + 1)) 61 2)]) (V := .tuple #[s0 1 r22.1.length, ii r22.2]) (V2 := .tuple #[s0 3 r22.1.length, ii r22.2]) (H := [(1, rc (encI .i64) r22.1 0 3 1)]) (H2 := [(3, rc (encI .i64) r22.1 0 3 1)]) [0] [2, 3, 4, 1] (f35_ok m (0 + ((rowC encP lh0_x01).length + 1)) 61 lh0_x01 r22 r22_h) (by rfl) (by decide) rfl (by kernel_rfl) ⟨⟨_, _, rfl, rfl, .inl ⟨rfl, rowC_scal encP_ok _⟩⟩, trivial⟩ (by decide) (by decide) (by kernel_rfl) ⟨⟨_, _, rfl, rfl, .inl ⟨rfl, rowC_scal (encI_ok .i64) _⟩⟩, trivial⟩ (by rfl)) ?_
      rintro _ _ _ ⟨rfl, rfl, rfl⟩
      refine XR.conv (σ' := [(5, s0 0 lh0_x01.length), (6, s0 1 lh1_x01.length), (7, s0 2 o6.2.length), (8, ii x8_x01), (9, ii o6.1), (174, .tuple #[s0 3 r22.1.length, ii r22.2])]) (h' := [(3, rc (encI .i64) r22.1 0 3 1), (2, rc (encI .i64) o6.2 0 3 1), (1, rc (encI .i64) lh1_x01 0 3 1), (0, rc encP lh0_x01 0 61 2)]) (c' := 4) ?_ (by kernel_rfl)
      refine XR.runS E0_ok 1 5 [(5, s0 0 lh0_x01.length), (6, s0 1 lh1_x01.length), (7, s0 2 o6.2.length), (8, ii x8_x01), (9, ii o6.1), (23, s0 3 r22.1.length), (24, ii r22.2)] rfl (by kernel_rfl) ?_
      refine XR.done (by kernel_rfl) ?_
      show XQ _ _ _ _ _ _ _ _
      refine XQ.seq E0_ok (by kernel_rfl) ?_
      refine XQ.region (by kernel_rfl) ?_
      refine XR.runS E0_ok 1 1 [(5, s0 0 lh0_x01.length), (6, s0 1 lh1_x01.length), (7, s0 2 o6.2.length), (8, ii x8_x01), (9, ii o6.1), (23, s0 3 r22.1.length), (24, ii r22.2), (178, s0 0 lh0_x01.length)] rfl (by kernel_rfl) ?_
      obtain ⟨r23, r23_h, h⟩ := bS h
      refine XR.call E0_ok [5, 6, 7, 8, 9, 23, 24, 179] rfl (K := 37) (args := [s0 0 lh0_x01.length]) (d := (some (path 12 179))) (by kernel_rfl) (KC.liftH (n0 := 1) (m := 1) (args0 := [s0 0 lh0_x01.length]) (h0 := [(0, rc encP lh0_x01 (0 + ((rowC encP lh0_x01).length + 1)) 61 2)]) (V := .tuple #[s0 1 r23.1.length, ii r23.2]) (V2 := .tuple #[s0 4 r23.1.length, ii r23.2]) (H := [(1, rc (encI .i64) r23.1 0 3 1)]) (H2 := [(4, rc (encI .i64) r23.1 0 3 1)]) [0] [2, 3, 4, 5, 1] (f37_ok m (0 + ((rowC encP lh0_x01).length + 1)) 61 lh0_x01 r23 r23_h) (by rfl) (by decide) rfl (by kernel_rfl) ⟨⟨_, _, rfl, rfl, .inl ⟨rfl, rowC_scal encP_ok _⟩⟩, trivial⟩ (by decide) (by decide) (by kernel_rfl) ⟨⟨_, _, rfl, rfl, .inl ⟨rfl, rowC_scal (encI_ok .i64) _⟩⟩, trivial⟩ (by rfl)) ?_
      rintro _ _ _ ⟨rfl, rfl, rfl⟩
      refine XR.conv (σ' := [(5, s0 0 lh0_x01.length), (6, s0 1 lh1_x01.length), (7, s0 2 o6.2.length), (8, ii x8_x01), (9, ii o6.1), (23, s0 3 r22.1.length), (24, ii r22.2), (179, .tuple #[s0 4 r23.1.length, ii r23.2])]) (h' := [(4, rc (encI .i64) r23.1 0 3 1), (3, rc (encI .i64) r22.1 0 3 1), (2, rc (encI .i64) o6.2 0 3 1), (1, rc (encI .i64) lh1_x01 0 3 1), (0, rc encP lh0_x01 0 61 2)]) (c' := 5) ?_ (by kernel_rfl)
      refine XR.runS E0_ok 1 5 [(5, s0 0 lh0_x01.length), (6, s0 1 lh1_x01.length), (7, s0 2 o6.2.length), (8, ii x8_x01), (9, ii o6.1), (23, s0 3 r22.1.length), (24, ii r22.2), (25, s0 4 r23.1.length), (26, ii r23.2)] rfl (by kernel_rfl) ?_
      refine XR.done (by kernel_rfl) ?_
      show XQ _ _ _ _ _ _ _ _
      refine XQ.seq E0_ok (by kernel_rfl) ?_
      refine XQ.region (by kernel_rfl) ?_
      refine XR.runS E0_ok 1 3 [(5, s0 0 lh0_x01.length), (6, s0 1 lh1_x01.length), (7, s0 2 o6.2.length), (8, ii x8_x01), (9, ii o6.1), (23, s0 3 r22.1.length), (25, s0 4 r23.1.length), (26, ii r23.2), (184, .bool (r22.2 == 0))] rfl (by kernel_rfl) ?_
      cases b5 : (r22.2 == 0 : Bool) with
      | true =>
        have h := cT b5 h
        refine XR.runS E0_ok 1 4 [(5, s0 0 lh0_x01.length), (6, s0 1 lh1_x01.length), (7, s0 2 o6.2.length), (8, ii x8_x01), (9, ii o6.1), (23, s0 3 r22.1.length), (25, s0 4 r23.1.length), (188, .bool (r23.2 == 0))] rfl (by kernel_rfl) ?_
        cases b6 : (r23.2 == 0 : Bool) with
        | true =>
          have h := cT b6 h
          refine XR.runS E0_ok 1 5 [(5, s0 0 lh0_x01.length), (6, s0 1 lh1_x01.length), (7, s0 2 o6.2.length), (23, s0 3 r22.1.length), (25, s0 4 r23.1.length), (193, .bool (x8_x01 == o6.1))] rfl (by kernel_rfl) ?_
          cases b7 : (x8_x01 == o6.1 : Bool) with
          | true =>
            have h := cT b7 h
            refine XR.runS E0_ok 1 2 [(5, s0 0 lh0_x01.length), (7, s0 2 o6.2.length), (23, s0 3 r22.1.length), (25, s0 4 r23.1.length), (193, .bool true), (194, s0 3 r22.1.length), (195, s0 1 lh1_x01.length)] rfl (by kernel_rfl) ?_
            obtain ⟨r24, r24_h, h⟩ := bS h
            refine XR.call E0_ok [5, 7, 23, 25, 193, 196] rfl (K := 20) (args := [s0 3 r22.1.length, s0 1 lh1_x01.length]) (d := (some (path 12 196))) (by kernel_rfl) (KQ.call (KC.quiet E0_ok (args0 := [s0 0 r22.1.length, s0 1 lh1_x01.length]) (h0 := [(1, rc (encI .i64) lh1_x01 (0 + ((rowC (encI .i64) lh1_x01).length + 1)) 3 1), (0, rc (encI .i64) r22.1 (0 + ((rowC (encI .i64) r22.1).length + 1)) 3 1)]) (n := 2) (V := .bool r24) [3, 1] (f20_ok m (0 + ((rowC (encI .i64) r22.1).length + 1)) 3 (0 + ((rowC (encI .i64) lh1_x01).length + 1)) 3 r22.1 lh1_x01 r24 r24_h) rfl (by rfl) (by decide) rfl (by kernel_rfl) ⟨⟨_, _, rfl, rfl, .inl ⟨rfl, rowC_scal (encI_ok .i64) _⟩⟩, ⟨_, _, rfl, rfl, .inl ⟨rfl, rowC_scal (encI_ok .i64) _⟩⟩, trivial⟩) rfl) ?_
            rintro _ _ _ ⟨rfl, rfl, rfl⟩
            refine XR.conv (σ' := [(5, s0 0 lh0_x01.length), (7, s0 2 o6.2.length), (23, s0 3 r22.1.length), (25, s0 4 r23.1.length), (193, .bool true), (196, .bool r24)]) (h' := [(4, rc (encI .i64) r23.1 0 3 1), (3, rc (encI .i64) r22.1 0 3 1), (2, rc (encI .i64) o6.2 0 3 1), (1, rc (encI .i64) lh1_x01 0 3 1), (0, rc encP lh0_x01 0 61 2)]) (c' := 5) ?_ (by kernel_rfl)
            refine XR.runS E0_ok 1 2 [(5, s0 0 lh0_x01.length), (7, s0 2 o6.2.length), (23, s0 3 r22.1.length), (25, s0 4 r23.1.length), (198, .bool r24)] rfl (by kernel_rfl) ?_
            cases b8 : (r24 : Bool) with
            | true =>
              have h := cT b8 h
              refine XR.runS E0_ok 1 2 [(5, s0 0 lh0_x01.length), (23, s0 3 r22.1.length), (198, .bool true), (199, s0 4 r23.1.length), (200, s0 2 o6.2.length)] rfl (by kernel_rfl) ?_
              obtain ⟨r25, r25_h, h⟩ := bS h
              refine XR.call E0_ok [5, 23, 198, 201] rfl (K := 20) (args := [s0 4 r23.1.length, s0 2 o6.2.length]) (d := (some (path 12 201))) (by kernel_rfl) (KQ.call (KC.quiet E0_ok (args0 := [s0 0 r23.1.length, s0 1 o6.2.length]) (h0 := [(1, rc (encI .i64) o6.2 (0 + ((rowC (encI .i64) o6.2).length + 1)) 3 1), (0, rc (encI .i64) r23.1 (0 + ((rowC (encI .i64) r23.1).length + 1)) 3 1)]) (n := 2) (V := .bool r25) [4, 2] (f20_ok m (0 + ((rowC (encI .i64) r23.1).length + 1)) 3 (0 + ((rowC (encI .i64) o6.2).length + 1)) 3 r23.1 o6.2 r25 r25_h) rfl (by rfl) (by decide) rfl (by kernel_rfl) ⟨⟨_, _, rfl, rfl, .inl ⟨rfl, rowC_scal (encI_ok .i64) _⟩⟩, ⟨_, _, rfl, rfl, .inl ⟨rfl, rowC_scal (encI_ok .i64) _⟩⟩, trivial⟩) rfl) ?_
              rintro _ _ _ ⟨rfl, rfl, rfl⟩
              refine XR.conv (σ' := [(5, s0 0 lh0_x01.length), (23, s0 3 r22.1.length), (198, .bool true), (201, .bool r25)]) (h' := [(4, rc (encI .i64) r23.1 0 3 1), (3, rc (encI .i64) r22.1 0 3 1), (2, rc (encI .i64) o6.2 0 3 1), (1, rc (encI .i64) lh1_x01 0 3 1), (0, rc encP lh0_x01 0 61 2)]) (c' := 5) ?_ (by kernel_rfl)
              refine XR.runS E0_ok 1 2 [(5, s0 0 lh0_x01.length), (23, s0 3 r22.1.length), (203, .bool r25)] rfl (by kernel_rfl) ?_
              cases b9 : (r25 : Bool) with
              | true =>
                have h := cT b9 h
                refine XR.runS E0_ok 1 2 [(203, .bool true), (204, s0 0 lh0_x01.length), (205, s0 3 r22.1.length)] rfl (by kernel_rfl) ?_
                obtain ⟨r26, r26_h, h⟩ := bS h
                refine XR.call E0_ok [203, 206] rfl (K := 39) (args := [s0 0 lh0_x01.length, s0 3 r22.1.length]) (d := (some (path 12 206))) (by kernel_rfl) (KQ.call (KC.quiet E0_ok (args0 := [s0 0 lh0_x01.length, s0 1 r22.1.length]) (h0 := [(1, rc (encI .i64) r22.1 (0 + ((rowC (encI .i64) r22.1).length + 1)) 3 1), (0, rc encP lh0_x01 (0 + ((rowC encP lh0_x01).length + 1)) 61 2)]) (n := 2) (V := ii r26) [0, 3] (f39_ok m (0 + ((rowC encP lh0_x01).length + 1)) 61 (0 + ((rowC (encI .i64) r22.1).length + 1)) 3 lh0_x01 r22.1 r26 r26_h) rfl (by rfl) (by decide) rfl (by kernel_rfl) ⟨⟨_, _, rfl, rfl, .inl ⟨rfl, rowC_scal (encI_ok .i64) _⟩⟩, ⟨_, _, rfl, rfl, .inl ⟨rfl, rowC_scal encP_ok _⟩⟩, trivial⟩) rfl) ?_
                rintro _ _ _ ⟨rfl, rfl, rfl⟩
                refine XR.conv (σ' := [(203, .bool true), (206, ii r26)]) (h' := [(4, rc (encI .i64) r23.1 0 3 1), (3, rc (encI .i64) r22.1 0 3 1), (2, rc (encI .i64) o6.2 0 3 1), (1, rc (encI .i64) lh1_x01 0 3 1), (0, rc encP lh0_x01 0 61 2)]) (c' := 5) ?_ (by kernel_rfl)
                refine XR.runS E0_ok 1 3 [(209, .bool (r26 == 0))] rfl (by kernel_rfl) ?_
                cases b10 : (r26 == 0 : Bool) with
                | true =>
                  have h := cT b10 h
                  refine XR.call E0_ok [209, 210] rfl (K := 16) (args := []) (d := (some (path 12 210))) (by kernel_rfl) (KC.of_calls E0_ok (F := Proofs.Try.f16) (v := .bool true) (by kernel_rfl) rfl rfl (works_ok)) ?_
                  rintro _ _ _ ⟨rfl, rfl, rfl⟩
                  refine XR.conv (σ' := [(209, .bool true), (210, .bool true)]) (h' := [(4, rc (encI .i64) r23.1 0 3 1), (3, rc (encI .i64) r22.1 0 3 1), (2, rc (encI .i64) o6.2 0 3 1), (1, rc (encI .i64) lh1_x01 0 3 1), (0, rc encP lh0_x01 0 61 2)]) (c' := 5) ?_ (by kernel_rfl)
                  refine XR.runS E0_ok 1 2 [(4, .bool true)] rfl (by kernel_rfl) ?_
                  refine XR.done (by kernel_rfl) ?_
                  show XQ _ _ _ _ _ _ _ _
                  refine XQ.ret (by kernel_rfl) ?_
                  have h := Option.some.inj h
                  subst h
                  exact ⟨fun i q => (by cases q), .bool true, (by kernel_rfl), rfl⟩
                | false =>
                  have h := cF b10 h
                  refine XR.runS E0_ok 1 3 [(4, .bool false)] rfl (by kernel_rfl) ?_
                  refine XR.done (by kernel_rfl) ?_
                  show XQ _ _ _ _ _ _ _ _
                  refine XQ.ret (by kernel_rfl) ?_
                  have h := Option.some.inj h
                  subst h
                  exact ⟨fun i q => (by cases q), .bool false, (by kernel_rfl), rfl⟩
              | false =>
                have h := cF b9 h
                refine XR.runS E0_ok 1 9 [(4, .bool false)] rfl (by kernel_rfl) ?_
                refine XR.done (by kernel_rfl) ?_
                show XQ _ _ _ _ _ _ _ _
                refine XQ.ret (by kernel_rfl) ?_
                have h := Option.some.inj h
                subst h
                exact ⟨fun i q => (by cases q), .bool false, (by kernel_rfl), rfl⟩
            | false =>
              have h := cF b8 h
              refine XR.runS E0_ok 1 14 [(4, .bool false)] rfl (by kernel_rfl) ?_
              refine XR.done (by kernel_rfl) ?_
              show XQ _ _ _ _ _ _ _ _
              refine XQ.ret (by kernel_rfl) ?_
              have h := Option.some.inj h
              subst h
              exact ⟨fun i q => (by cases q), .bool false, (by kernel_rfl), rfl⟩
          | false =>
            have h := cF b7 h
            refine XR.runS E0_ok 1 19 [(4, .bool false)] rfl (by kernel_rfl) ?_
            refine XR.done (by kernel_rfl) ?_
            show XQ _ _ _ _ _ _ _ _
            refine XQ.ret (by kernel_rfl) ?_
            have h := Option.some.inj h
            subst h
            exact ⟨fun i q => (by cases q), .bool false, (by kernel_rfl), rfl⟩
        | false =>
          have h := cF b6 h
          refine XR.runS E0_ok 1 24 [(4, .bool false)] rfl (by kernel_rfl) ?_
          refine XR.done (by kernel_rfl) ?_
          show XQ _ _ _ _ _ _ _ _
          refine XQ.ret (by kernel_rfl) ?_
          have h := Option.some.inj h
          subst h
          exact ⟨fun i q => (by cases q), .bool false, (by kernel_rfl), rfl⟩
      | false =>
        have h := cF b5 h
        refine XR.runS E0_ok 1 28 [(4, .bool false)] rfl (by kernel_rfl) ?_
        refine XR.done (by kernel_rfl) ?_
        show XQ _ _ _ _ _ _ _ _
        refine XQ.ret (by kernel_rfl) ?_
        have h := Option.some.inj h
        subst h
        exact ⟨fun i q => (by cases q), .bool false, (by kernel_rfl), rfl⟩

end Go.Xm
