/- What these functions of the program compute, as functions in Lean, and the proofs that they do: vitolalaw05.WrapThree. Conditions: none. -/
import Derived.Test.YtagagpkjlkoieaaPd
import Derived.Test.YtagagpkjlkoieaaPj
import Derived.Test.YtagagpkjlkoieaaPm
import Derived.Test.YtagagpkjlkoieaaPn
import Derived.Test.YtagagpkjlkoieaaQb
import Derived.Test.YtagagpkjlkoieaaQd
import Derived.Test.YtagagpkjlkoieaaQf
import Derived.Test.YtagagpkjlkoieaaQg
namespace Go.Xm
open Go.RowKit
set_option linter.unusedVariables false
set_option linter.unusedSimpArgs false
set_option maxRecDepth 20000

/-! vitola/vitolalaw05.WrapThree -/
noncomputable def f15_C15 : Code := Proofs.Try.f15.body.getD .skip
noncomputable def f15_L1 : Code := lft (lft (rgt (lft (rgt (rgt (rgt (rgt (rgt (rgt (rgt (rgt (rgt f15_C15))))))))))))
noncomputable def f15_L2 : Code := lft (lft (rgt (lft (rgt (rgt (lft (lft (rgt (rgt f15_L1)))))))))
noncomputable def f15_L3 : Code := lft (lft (rgt (lft (rgt (rgt (rgt (rgt (rgt (rgt (rgt (rgt (rgt (rgt f15_C15)))))))))))))
noncomputable def f15_L4 : Code := lft (lft (rgt (lft (rgt (rgt (rgt (rgt (rgt (rgt (rgt (rgt (rgt f15_C15))))))))))))
noncomputable def f15_L5 : Code := lft (lft (rgt (lft (rgt (rgt (lft (lft (rgt (rgt f15_L4)))))))))
noncomputable def f15_L6 : Code := lft (lft (rgt (lft (rgt (rgt (rgt (rgt (rgt (rgt (rgt (rgt (rgt (rgt f15_C15)))))))))))))

def f15_2 (m : Nat) : Nat → Int → Int → Int → Int → Int → List Int → List Int → List Int → List (Int × Int) → Int → Int → Int → Int → Int → Option (Int × Int × Int)
 | 0, _, _, _, _, _, _, _, _, _, _, _, _, _, _ => none
 | fuel + 1, x98_1, x99_1, xh0_0_1, xh0_1_1, xh0_2_1, lh1_1, lh2_1, lh3_1, lh4_1, x14_2, x105_2, x106_2, xh4_0_2, xh4_1_2 =>
  cond (decide (x106_2 < x105_2)) (
   cond (inRow x106_2 lh1_1.length) (
    cond (inRow x99_1 lh2_1.length) (
     f15_2 m fuel x98_1 x99_1 xh0_0_1 xh0_1_1 xh0_2_1 lh1_1 lh2_1 lh3_1 lh4_1 (cond ((List.getD lh1_1 (Int.toNat x106_2) 0) == (List.getD lh2_1 (Int.toNat x99_1) 0)) (w64 (x14_2 + 1)) x14_2) x105_2 (w64 (x106_2 + 1)) xh4_0_2 xh4_1_2
    ) none
   ) none
  ) (
   some (x14_2, xh4_0_2, xh4_1_2)
  )

theorem f15_2_ok (m : Nat) : ∀ (fuel : Nat) (x98_1 : Int) (x99_1 : Int) (xh0_0_1 : Int) (xh0_1_1 : Int) (xh0_2_1 : Int) (lh1_1 : List Int) (lh2_1 : List Int) (lh3_1 : List Int) (lh4_1 : List (Int × Int)) (x14_2 : Int) (x105_2 : Int) (x106_2 : Int) (xh4_0_2 : Int) (xh4_1_2 : Int) (o : (Int × Int × Int)), f15_2 m fuel x98_1 x99_1 xh0_0_1 xh0_1_1 xh0_2_1 lh1_1 lh2_1 lh3_1 lh4_1 x14_2 x105_2 x106_2 xh4_0_2 xh4_1_2 = some o → ∀ Q : QP, Q (.exit 2) [(3, pp 0 0), (4, s0 1 lh1_1.length), (5, s0 2 lh2_1.length), (10, s0 3 lh3_1.length), (12, ii x99_1), (13, pp 4 0), (14, ii o.1), (97, s0 5 lh4_1.length), (98, ii x98_1), (99, ii x99_1)] [(5, rc encP lh4_1 0 63 2), (4, .cells [ii o.2.1, ii o.2.2] 0 63 0), (3, rc (encI .i64) lh3_1 0 3 1), (2, rc (encI .i64) lh2_1 0 3 1), (1, rc (encI .i64) lh1_1 0 3 1), (0, .cells [ii xh0_0_1, ii xh0_1_1, ii xh0_2_1] 0 23 0)] 6 → XL E0 161 0 fuel f15_L2 [(3, pp 0 0), (4, s0 1 lh1_1.length), (5, s0 2 lh2_1.length), (10, s0 3 lh3_1.length), (12, ii x99_1), (13, pp 4 0), (14, ii x14_2), (97, s0 5 lh4_1.length), (98, ii x98_1), (99, ii x99_1), (104, s0 1 lh1_1.length), (105, ii x105_2), (106, ii x106_2)] [(5, rc encP lh4_1 0 63 2), (4, .cells [ii xh4_0_2, ii xh4_1_2] 0 63 0), (3, rc (encI .i64) lh3_1 0 3 1), (2, rc (encI .i64) lh2_1 0 3 1), (1, rc (encI .i64) lh1_1 0 3 1), (0, .cells [ii xh0_0_1, ii xh0_1_1, ii xh0_2_1] 0 23 0)] 6 Q
 | 0, x98_1, x99_1, xh0_0_1, xh0_1_1, xh0_2_1, lh1_1, lh2_1, lh3_1, lh4_1, x14_2, x105_2, x106_2, xh4_0_2, xh4_1_2, o, h, Q, hQ => by cases h
 | fuel + 1, x98_1, x99_1, xh0_0_1, xh0_1_1, xh0_2_1, lh1_1, lh2_1, lh3_1, lh4_1, x14_2, x105_2, x106_2, xh4_0_2, xh4_1_2, o, h, Q, hQ => by
  unfold f15_2 at h
  refine XL.succ E0_ok ?_
  refine XQ.seq E0_ok (by kernel_rfl) ?_
  refine XQ.region (by kernel_rfl) ?_
  refine XR.runS E0_ok 1 1 [(3, pp 0 0), (4, s0 1 lh1_1.length), (5, s0 2 lh2_1.length), (10, s0 3 lh3_1.length), (12, ii x99_1), (13, pp 4 0), (14, ii x14_2), (97, s0 5 lh4_1.length), (98, ii x98_1), (99, ii x99_1), (104, s0 1 lh1_1.length), (105, ii x105_2), (106, ii x106_2), (107, .bool (decide (x106_2 < x105_2)))] rfl (by kernel_rfl) ?_
  refine XR.done (by kernel_rfl) ?_
  show XQ _ _ _ _ _ _ _ _
  refine XQ.seq E0_ok (by kernel_rfl) ?_
  cases b1 : (decide (x106_2 < x105_2) : Bool) with
  | true =>
   have h := cT b1 h
   refine XQ.cond (s := (.tmp 107)) (b := true) (by kernel_rfl) (by kernel_rfl) (fun _ => ?_) (fun q => by cases q)
   refine XQ.skip (by kernel_rfl) ?_
   show XQ _ _ _ _ _ _ _ _
   refine XQ.seq E0_ok (by kernel_rfl) ?_
   refine XQ.block (id := 3) (by kernel_rfl) ?_
   refine XQ.seq E0_ok (by kernel_rfl) ?_
   refine XQ.region (by kernel_rfl) ?_
   cases b2 : (inRow x106_2 lh1_1.length : Bool) with
   | false => cases (cF b2 h)
   | true =>
    have h := cT b2 h
    refine XR.rd E0_ok [3, 4, 5, 10, 12, 13, 14, 97, 98, 99, 104, 105, 106, 108] rfl (v := pp 1 ((Int.toNat x106_2) * 1)) (v_idx (s := 1) (x := (src 161 (.tmp 104))) (y := (src 161 (.tmp 106))) (b := 1) (o := 0) (len := lh1_1.length) (cap := lh1_1.length) (ik := .i64) (i := x106_2) (off := (Int.toNat x106_2) * 1) (d := (some (path 12 108))) (by kernel_rfl) (by kernel_rfl) (by kernel_rfl) b2 (by omega)) (σ' := [(3, pp 0 0), (4, s0 1 lh1_1.length), (5, s0 2 lh2_1.length), (10, s0 3 lh3_1.length), (12, ii x99_1), (13, pp 4 0), (14, ii x14_2), (97, s0 5 lh4_1.length), (98, ii x98_1), (99, ii x99_1), (104, s0 1 lh1_1.length), (105, ii x105_2), (106, ii x106_2), (108, pp 1 ((Int.toNat x106_2) * 1))]) (by kernel_rfl) ?_
    refine XR.rd E0_ok [3, 4, 5, 10, 12, 13, 14, 97, 98, 99, 104, 105, 106, 109] rfl (v := ii (List.getD lh1_1 (Int.toNat x106_2) 0)) (v_load1 (encI_ok .i64) (x := (src 161 (.tmp 108))) (b := 1) (off := (Int.toNat x106_2) * 1) (xs := lh1_1) (fz := 0) (e := 3) (es := 1) (d := (some (path 12 109))) (by kernel_rfl) (by kernel_rfl) (by kernel_rfl) (Int.toNat x106_2) 0 0 (by first | rfl | omega) (row_len (inRow_toNat b2) (by simp)) rfl rfl) (σ' := [(3, pp 0 0), (4, s0 1 lh1_1.length), (5, s0 2 lh2_1.length), (10, s0 3 lh3_1.length), (12, ii x99_1), (13, pp 4 0), (14, ii x14_2), (97, s0 5 lh4_1.length), (98, ii x98_1), (99, ii x99_1), (104, s0 1 lh1_1.length), (105, ii x105_2), (106, ii x106_2), (109, ii (List.getD lh1_1 (Int.toNat x106_2) 0))]) (by kernel_rfl) ?_
    refine XR.runS E0_ok 1 1 [(3, pp 0 0), (4, s0 1 lh1_1.length), (5, s0 2 lh2_1.length), (10, s0 3 lh3_1.length), (12, ii x99_1), (13, pp 4 0), (14, ii x14_2), (16, ii (List.getD lh1_1 (Int.toNat x106_2) 0)), (97, s0 5 lh4_1.length), (98, ii x98_1), (99, ii x99_1), (104, s0 1 lh1_1.length), (105, ii x105_2), (106, ii x106_2)] rfl (by kernel_rfl) ?_
    refine XR.done (by kernel_rfl) ?_
    show XQ _ _ _ _ _ _ _ _
    refine XQ.seq E0_ok (by kernel_rfl) ?_
    refine XQ.region (by kernel_rfl) ?_
    refine XR.runS E0_ok 1 3 [(3, pp 0 0), (4, s0 1 lh1_1.length), (5, s0 2 lh2_1.length), (10, s0 3 lh3_1.length), (12, ii x99_1), (13, pp 4 0), (14, ii x14_2), (97, s0 5 lh4_1.length), (98, ii x98_1), (99, ii x99_1), (104, s0 1 lh1_1.length), (105, ii x105_2), (106, ii x106_2), (110, ii (List.getD lh1_1 (Int.toNat x106_2) 0)), (111, s0 2 lh2_1.length), (112, ii x99_1)] rfl (by kernel_rfl) ?_
    cases b3 : (inRow x99_1 lh2_1.length : Bool) with
    | false => cases (cF b3 h)
    | true =>
     have h := cT b3 h
     refine XR.rd E0_ok [3, 4, 5, 10, 12, 13, 14, 97, 98, 99, 104, 105, 106, 110, 113] rfl (v := pp 2 ((Int.toNat x99_1) * 1)) (v_idx (s := 1) (x := (src 161 (.tmp 111))) (y := (src 161 (.tmp 112))) (b := 2) (o := 0) (len := lh2_1.length) (cap := lh2_1.length) (ik := .i64) (i := x99_1) (off := (Int.toNat x99_1) * 1) (d := (some (path 12 113))) (by kernel_rfl) (by kernel_rfl) (by kernel_rfl) b3 (by omega)) (σ' := [(3, pp 0 0), (4, s0 1 lh1_1.length), (5, s0 2 lh2_1.length), (10, s0 3 lh3_1.length), (12, ii x99_1), (13, pp 4 0), (14, ii x14_2), (97, s0 5 lh4_1.length), (98, ii x98_1), (99, ii x99_1), (104, s0 1 lh1_1.length), (105, ii x105_2), (106, ii x106_2), (110, ii (List.getD lh1_1 (Int.toNat x106_2) 0)), (113, pp 2 ((Int.toNat x99_1) * 1))]) (by kernel_rfl) ?_
     refine XR.rd E0_ok [3, 4, 5, 10, 12, 13, 14, 97, 98, 99, 104, 105, 106, 110, 114] rfl (v := ii (List.getD lh2_1 (Int.toNat x99_1) 0)) (v_load1 (encI_ok .i64) (x := (src 161 (.tmp 113))) (b := 2) (off := (Int.toNat x99_1) * 1) (xs := lh2_1) (fz := 0) (e := 3) (es := 1) (d := (some (path 12 114))) (by kernel_rfl) (by kernel_rfl) (by kernel_rfl) (Int.toNat x99_1) 0 0 (by first | rfl | omega) (row_len (inRow_toNat b3) (by simp)) rfl rfl) (σ' := [(3, pp 0 0), (4, s0 1 lh1_1.length), (5, s0 2 lh2_1.length), (10, s0 3 lh3_1.length), (12, ii x99_1), (13, pp 4 0), (14, ii x14_2), (97, s0 5 lh4_1.length), (98, ii x98_1), (99, ii x99_1), (104, s0 1 lh1_1.length), (105, ii x105_2), (106, ii x106_2), (110, ii (List.getD lh1_1 (Int.toNat x106_2) 0)), (114, ii (List.getD lh2_1 (Int.toNat x99_1) 0))]) (by kernel_rfl) ?_
     refine XR.runS E0_ok 1 1 [(3, pp 0 0), (4, s0 1 lh1_1.length), (5, s0 2 lh2_1.length), (10, s0 3 lh3_1.length), (12, ii x99_1), (13, pp 4 0), (14, ii x14_2), (97, s0 5 lh4_1.length), (98, ii x98_1), (99, ii x99_1), (104, s0 1 lh1_1.length), (105, ii x105_2), (106, ii x106_2), (115, .bool ((List.getD lh1_1 (Int.toNat x106_2) 0) == (List.getD lh2_1 (Int.toNat x99_1) 0)))] rfl (by kernel_rfl) ?_
     refine XR.done (by kernel_rfl) ?_
     show XQ _ _ _ _ _ _ _ _
     refine XQ.meetC (σ' := [(3, pp 0 0), (4, s0 1 lh1_1.length), (5, s0 2 lh2_1.length), (10, s0 3 lh3_1.length), (12, ii x99_1), (13, pp 4 0), (14, ii (cond ((List.getD lh1_1 (Int.toNat x106_2) 0) == (List.getD lh2_1 (Int.toNat x99_1) 0)) (w64 (x14_2 + 1)) x14_2)), (97, s0 5 lh4_1.length), (98, ii x98_1), (99, ii x99_1), (104, s0 1 lh1_1.length), (105, ii x105_2), (106, ii x106_2)]) (h' := [(5, rc encP lh4_1 0 63 2), (4, .cells [ii xh4_0_2, ii xh4_1_2] 0 63 0), (3, rc (encI .i64) lh3_1 0 3 1), (2, rc (encI .i64) lh2_1 0 3 1), (1, rc (encI .i64) lh1_1 0 3 1), (0, .cells [ii xh0_0_1, ii xh0_1_1, ii xh0_2_1] 0 23 0)]) (c' := 6) ?_ ?_
     rotate_left
     ·refine XQ.cond (s := (.tmp 115)) (b := (List.getD lh1_1 (Int.toNat x106_2) 0) == (List.getD lh2_1 (Int.toNat x99_1) 0)) (by kernel_rfl) (by kernel_rfl) (fun b4 => ?_) (fun b4 => ?_)
      ·refine XQ.region (by kernel_rfl) ?_
       refine XR.runS E0_ok 1 3 [(3, pp 0 0), (4, s0 1 lh1_1.length), (5, s0 2 lh2_1.length), (10, s0 3 lh3_1.length), (12, ii x99_1), (13, pp 4 0), (14, ii (w64 (x14_2 + 1))), (97, s0 5 lh4_1.length), (98, ii x98_1), (99, ii x99_1), (104, s0 1 lh1_1.length), (105, ii x105_2), (106, ii x106_2)] rfl (by kernel_rfl) ?_
       refine XR.done (by kernel_rfl) ?_
       refine ⟨rfl, ?_, ?_⟩
       ·try rw [b4]
        exact ⟨by kernel_rfl, by kernel_rfl, by kernel_rfl, by kernel_rfl, by kernel_rfl, by kernel_rfl, by kernel_rfl, by kernel_rfl, by kernel_rfl, by kernel_rfl, by kernel_rfl, by kernel_rfl, by kernel_rfl, trivial⟩
       ·try rw [b4]
        kernel_rfl
      ·refine XQ.skip (by kernel_rfl) ?_
       refine ⟨rfl, ?_, ?_⟩
       ·try rw [b4]
        exact ⟨by kernel_rfl, by kernel_rfl, by kernel_rfl, by kernel_rfl, by kernel_rfl, by kernel_rfl, by kernel_rfl, by kernel_rfl, by kernel_rfl, by kernel_rfl, by kernel_rfl, by kernel_rfl, by kernel_rfl, trivial⟩
       ·try rw [b4]
        kernel_rfl
     show XQ _ _ _ _ _ _ _ _
     refine XQ.region (by kernel_rfl) ?_
     refine XR.runS E0_ok 1 2 [(3, pp 0 0), (4, s0 1 lh1_1.length), (5, s0 2 lh2_1.length), (10, s0 3 lh3_1.length), (12, ii x99_1), (13, pp 4 0), (14, ii (cond ((List.getD lh1_1 (Int.toNat x106_2) 0) == (List.getD lh2_1 (Int.toNat x99_1) 0)) (w64 (x14_2 + 1)) x14_2)), (97, s0 5 lh4_1.length), (98, ii x98_1), (99, ii x99_1), (104, s0 1 lh1_1.length), (105, ii x105_2), (106, ii (w64 (x106_2 + 1)))] rfl (by kernel_rfl) ?_
     refine XR.done (by kernel_rfl) ?_
     show XL _ _ _ _ _ _ _ _ _
     refine XL.ren (σ' := [(3, pp 0 0), (4, s0 1 lh1_1.length), (5, s0 2 lh2_1.length), (10, s0 3 lh3_1.length), (12, ii x99_1), (13, pp 4 0), (14, ii (cond ((List.getD lh1_1 (Int.toNat x106_2) 0) == (List.getD lh2_1 (Int.toNat x99_1) 0)) (w64 (x14_2 + 1)) x14_2)), (97, s0 5 lh4_1.length), (98, ii x98_1), (99, ii x99_1), (104, s0 1 lh1_1.length), (105, ii x105_2), (106, ii (w64 (x106_2 + 1)))]) (h' := [(5, rc encP lh4_1 0 63 2), (4, .cells [ii xh4_0_2, ii xh4_1_2] 0 63 0), (3, rc (encI .i64) lh3_1 0 3 1), (2, rc (encI .i64) lh2_1 0 3 1), (1, rc (encI .i64) lh1_1 0 3 1), (0, .cells [ii xh0_0_1, ii xh0_1_1, ii xh0_2_1] 0 23 0)]) (c' := 6) [0, 1, 2, 3, 4, 5] (by decide) rfl ⟨by kernel_rfl, by kernel_rfl, by kernel_rfl, by kernel_rfl, by kernel_rfl, by kernel_rfl, by kernel_rfl, by kernel_rfl, by kernel_rfl, by kernel_rfl, by kernel_rfl, by kernel_rfl, by kernel_rfl, trivial⟩ ⟨⟨_, _, rfl, rfl, .inl ⟨rfl, rowC_scal encP_ok _⟩⟩, ⟨_, _, rfl, rfl, .inr ⟨_, _, _, _, rfl, rfl⟩⟩, ⟨_, _, rfl, rfl, .inl ⟨rfl, rowC_scal (encI_ok .i64) _⟩⟩, ⟨_, _, rfl, rfl, .inl ⟨rfl, rowC_scal (encI_ok .i64) _⟩⟩, ⟨_, _, rfl, rfl, .inl ⟨rfl, rowC_scal (encI_ok .i64) _⟩⟩, ⟨_, _, rfl, rfl, .inr ⟨_, _, _, _, rfl, rfl⟩⟩, trivial⟩ rfl ?_
     refine XL.conv (f15_2_ok m fuel x98_1 x99_1 xh0_0_1 xh0_1_1 xh0_2_1 lh1_1 lh2_1 lh3_1 lh4_1 (cond ((List.getD lh1_1 (Int.toNat x106_2) 0) == (List.getD lh2_1 (Int.toNat x99_1) 0)) (w64 (x14_2 + 1)) x14_2) x105_2 (w64 (x106_2 + 1)) xh4_0_2 xh4_1_2 o h Q hQ) (by first | rfl | simp)
  | false =>
   have h := cF b1 h
   refine XQ.cond (s := (.tmp 107)) (b := false) (by kernel_rfl) (by kernel_rfl) (fun q => by cases q) (fun _ => ?_)
   refine XQ.ren (σ' := [(3, pp 0 0), (4, s0 1 lh1_1.length), (5, s0 2 lh2_1.length), (10, s0 3 lh3_1.length), (12, ii x99_1), (13, pp 4 0), (14, ii x14_2), (97, s0 5 lh4_1.length), (98, ii x98_1), (99, ii x99_1)]) (h' := [(5, rc encP lh4_1 0 63 2), (4, .cells [ii xh4_0_2, ii xh4_1_2] 0 63 0), (3, rc (encI .i64) lh3_1 0 3 1), (2, rc (encI .i64) lh2_1 0 3 1), (1, rc (encI .i64) lh1_1 0 3 1), (0, .cells [ii xh0_0_1, ii xh0_1_1, ii xh0_2_1] 0 23 0)]) (c' := 6) [0, 1, 2, 3, 4, 5] (by decide) rfl ⟨by kernel_rfl, by kernel_rfl, by kernel_rfl, by kernel_rfl, by kernel_rfl, by kernel_rfl, by kernel_rfl, by kernel_rfl, by kernel_rfl, by kernel_rfl, trivial⟩ ⟨⟨_, _, rfl, rfl, .inl ⟨rfl, rowC_scal encP_ok _⟩⟩, ⟨_, _, rfl, rfl, .inr ⟨_, _, _, _, rfl, rfl⟩⟩, ⟨_, _, rfl, rfl, .inl ⟨rfl, rowC_scal (encI_ok .i64) _⟩⟩, ⟨_, _, rfl, rfl, .inl ⟨rfl, rowC_scal (encI_ok .i64) _⟩⟩, ⟨_, _, rfl, rfl, .inl ⟨rfl, rowC_scal (encI_ok .i64) _⟩⟩, ⟨_, _, rfl, rfl, .inr ⟨_, _, _, _, rfl, rfl⟩⟩, trivial⟩ rfl ?_
   refine XQ.exit (i := 2) (by kernel_rfl) ?_
   cases h
   exact hQ

inductive Of15_1 where
 | r
 | x0 (xh0_0_x01 : Int) (xh0_1_x01 : Int) (xh0_2_x01 : Int) (lh1_x01 : List Int)

def f15_1 (m : Nat) : Nat → Int → Int → Int → Int → Int → List Int → List Int → List Int → List (Int × Int) → Option Of15_1
 | 0, _, _, _, _, _, _, _, _, _ => none
 | fuel + 1, x98_1, x99_1, xh0_0_1, xh0_1_1, xh0_2_1, lh1_1, lh2_1, lh3_1, lh4_1 =>
  cond (decide (x99_1 < x98_1)) (
   cond (inRow x99_1 lh4_1.length) (
    (f15_2 m m x98_1 x99_1 xh0_0_1 xh0_1_1 xh0_2_1 lh1_1 lh2_1 lh3_1 lh4_1 0 ((lh1_1.length : Nat) : Int) 0 ((List.getD lh4_1 (Int.toNat x99_1) (0, 0)).1) ((List.getD lh4_1 (Int.toNat x99_1) (0, 0)).2)).bind fun o2 =>
     cond (inRow x99_1 lh2_1.length) (
      cond (!(o2.2.1 == (List.getD lh2_1 (Int.toNat x99_1) 0) && o2.2.2 == o2.1)) (
       some (.r)
      ) (
       f15_1 m fuel x98_1 (w64 (x99_1 + 1)) xh0_0_1 xh0_1_1 xh0_2_1 lh1_1 lh2_1 lh3_1 lh4_1
      )
     ) none
   ) none
  ) (
   some (.x0 xh0_0_1 xh0_1_1 xh0_2_1 lh3_1)
  )

theorem f15_1_ok (m : Nat) : ∀ (fuel : Nat) (x98_1 : Int) (x99_1 : Int) (xh0_0_1 : Int) (xh0_1_1 : Int) (xh0_2_1 : Int) (lh1_1 : List Int) (lh2_1 : List Int) (lh3_1 : List Int) (lh4_1 : List (Int × Int)) (o : Of15_1), f15_1 m fuel x98_1 x99_1 xh0_0_1 xh0_1_1 xh0_2_1 lh1_1 lh2_1 lh3_1 lh4_1 = some o → ∀ Q : QP, (match o with | .r => Q .ret [(2, .bool false)] [] 0 | .x0 xh0_0_x01 xh0_1_x01 xh0_2_x01 lh1_x01 => Q (.exit 0) [(3, pp 0 0), (10, s0 1 lh1_x01.length)] [(1, rc (encI .i64) lh1_x01 0 3 1), (0, .cells [ii xh0_0_x01, ii xh0_1_x01, ii xh0_2_x01] 0 23 0)] 2) → XL E0 161 0 fuel f15_L1 [(3, pp 0 0), (4, s0 1 lh1_1.length), (5, s0 2 lh2_1.length), (10, s0 3 lh3_1.length), (97, s0 4 lh4_1.length), (98, ii x98_1), (99, ii x99_1)] [(4, rc encP lh4_1 0 63 2), (3, rc (encI .i64) lh3_1 0 3 1), (2, rc (encI .i64) lh2_1 0 3 1), (1, rc (encI .i64) lh1_1 0 3 1), (0, .cells [ii xh0_0_1, ii xh0_1_1, ii xh0_2_1] 0 23 0)] 5 Q
 | 0, x98_1, x99_1, xh0_0_1, xh0_1_1, xh0_2_1, lh1_1, lh2_1, lh3_1, lh4_1, o, h, Q, hQ => by cases h
 | fuel + 1, x98_1, x99_1, xh0_0_1, xh0_1_1, xh0_2_1, lh1_1, lh2_1, lh3_1, lh4_1, o, h, Q, hQ => by
  unfold f15_1 at h
  refine XL.succ E0_ok ?_
  refine XQ.seq E0_ok (by kernel_rfl) ?_
  refine XQ.region (by kernel_rfl) ?_
  refine XR.runS E0_ok 1 1 [(3, pp 0 0), (4, s0 1 lh1_1.length), (5, s0 2 lh2_1.length), (10, s0 3 lh3_1.length), (97, s0 4 lh4_1.length), (98, ii x98_1), (99, ii x99_1), (100, .bool (decide (x99_1 < x98_1)))] rfl (by kernel_rfl) ?_
  refine XR.done (by kernel_rfl) ?_
  show XQ _ _ _ _ _ _ _ _
  refine XQ.seq E0_ok (by kernel_rfl) ?_
  cases b1 : (decide (x99_1 < x98_1) : Bool) with
  | true =>
   have h := cT b1 h
   refine XQ.cond (s := (.tmp 100)) (b := true) (by kernel_rfl) (by kernel_rfl) (fun _ => ?_) (fun q => by cases q)
   refine XQ.skip (by kernel_rfl) ?_
   show XQ _ _ _ _ _ _ _ _
   refine XQ.seq E0_ok (by kernel_rfl) ?_
   refine XQ.block (id := 1) (by kernel_rfl) ?_
   refine XQ.seq E0_ok (by kernel_rfl) ?_
   refine XQ.region (by kernel_rfl) ?_
   refine XR.runS E0_ok 1 1 [(3, pp 0 0), (4, s0 1 lh1_1.length), (5, s0 2 lh2_1.length), (10, s0 3 lh3_1.length), (97, s0 4 lh4_1.length), (98, ii x98_1), (99, ii x99_1), (101, ii x99_1)] rfl (by kernel_rfl) ?_
   cases b2 : (inRow x99_1 lh4_1.length : Bool) with
   | false => cases (cF b2 h)
   | true =>
    have h := cT b2 h
    refine XR.rd E0_ok [3, 4, 5, 10, 97, 98, 99, 101, 102] rfl (v := pp 4 ((Int.toNat x99_1) * 2)) (v_idx (s := 2) (x := (src 161 (.tmp 97))) (y := (src 161 (.tmp 99))) (b := 4) (o := 0) (len := lh4_1.length) (cap := lh4_1.length) (ik := .i64) (i := x99_1) (off := (Int.toNat x99_1) * 2) (d := (some (path 12 102))) (by kernel_rfl) (by kernel_rfl) (by kernel_rfl) b2 (by omega)) (σ' := [(3, pp 0 0), (4, s0 1 lh1_1.length), (5, s0 2 lh2_1.length), (10, s0 3 lh3_1.length), (97, s0 4 lh4_1.length), (98, ii x98_1), (99, ii x99_1), (101, ii x99_1), (102, pp 4 ((Int.toNat x99_1) * 2))]) (by kernel_rfl) ?_
    refine XR.rd E0_ok [3, 4, 5, 10, 97, 98, 99, 101, 103] rfl (v := .agg #[ii ((List.getD lh4_1 (Int.toNat x99_1) (0, 0)).1), ii ((List.getD lh4_1 (Int.toNat x99_1) (0, 0)).2)]) (v_loadN encP_ok (x := (src 161 (.tmp 102))) (b := 4) (off := (Int.toNat x99_1) * 2) (xs := lh4_1) (fz := 0) (e := 63) (es := 2) (d := (some (path 12 103))) (by kernel_rfl) (by kernel_rfl) (by kernel_rfl) (Int.toNat x99_1) (0, 0) (by first | rfl | omega) (row_len (inRow_toNat b2) (by simp)) rfl) (σ' := [(3, pp 0 0), (4, s0 1 lh1_1.length), (5, s0 2 lh2_1.length), (10, s0 3 lh3_1.length), (97, s0 4 lh4_1.length), (98, ii x98_1), (99, ii x99_1), (101, ii x99_1), (103, .agg #[ii ((List.getD lh4_1 (Int.toNat x99_1) (0, 0)).1), ii ((List.getD lh4_1 (Int.toNat x99_1) (0, 0)).2)])]) (by kernel_rfl) ?_
    refine XR.runT E0_ok 1 3 [(3, pp 0 0), (4, s0 1 lh1_1.length), (5, s0 2 lh2_1.length), (10, s0 3 lh3_1.length), (12, ii x99_1), (13, pp 5 0), (97, s0 4 lh4_1.length), (98, ii x98_1), (99, ii x99_1)] [(5, .cells [ii ((List.getD lh4_1 (Int.toNat x99_1) (0, 0)).1), ii ((List.getD lh4_1 (Int.toNat x99_1) (0, 0)).2)] 0 63 0), (4, rc encP lh4_1 0 63 2), (3, rc (encI .i64) lh3_1 0 3 1), (2, rc (encI .i64) lh2_1 0 3 1), (1, rc (encI .i64) lh1_1 0 3 1), (0, .cells [ii xh0_0_1, ii xh0_1_1, ii xh0_2_1] 0 23 0)] 6 rfl (by kernel_rfl) ?_
    refine XR.done (by kernel_rfl) ?_
    show XQ _ _ _ _ _ _ _ _
    refine XQ.seq E0_ok (by kernel_rfl) ?_
    refine XQ.region (by kernel_rfl) ?_
    refine XR.runS E0_ok 1 1 [(3, pp 0 0), (4, s0 1 lh1_1.length), (5, s0 2 lh2_1.length), (10, s0 3 lh3_1.length), (12, ii x99_1), (13, pp 5 0), (14, ii 0), (97, s0 4 lh4_1.length), (98, ii x98_1), (99, ii x99_1)] rfl (by kernel_rfl) ?_
    refine XR.done (by kernel_rfl) ?_
    show XQ _ _ _ _ _ _ _ _
    refine XQ.seq E0_ok (by kernel_rfl) ?_
    refine XQ.seq E0_ok (by kernel_rfl) ?_
    refine XQ.region (by kernel_rfl) ?_
    refine XR.runS E0_ok 1 3 [(3, pp 0 0), (4, s0 1 lh1_1.length), (5, s0 2 lh2_1.length), (10, s0 3 lh3_1.length), (12, ii x99_1), (13, pp 5 0), (14, ii 0), (97, s0 4 lh4_1.length), (98, ii x98_1), (99, ii x99_1), (104, s0 1 lh1_1.length), (105, ii ((lh1_1.length : Nat) : Int)), (106, ii 0)] rfl (by kernel_rfl) ?_
    refine XR.done (by kernel_rfl) ?_
    show XQ _ _ _ _ _ _ _ _
    refine XQ.block (id := 2) (by kernel_rfl) ?_
    refine XQ.loop m (by kernel_rfl) ?_
    obtain ⟨o2, o2_h, h⟩ := bS h
    refine XL.ren (σ' := [(3, pp 0 0), (4, s0 1 lh1_1.length), (5, s0 2 lh2_1.length), (10, s0 3 lh3_1.length), (12, ii x99_1), (13, pp 4 0), (14, ii 0), (97, s0 5 lh4_1.length), (98, ii x98_1), (99, ii x99_1), (104, s0 1 lh1_1.length), (105, ii ((lh1_1.length : Nat) : Int)), (106, ii 0)]) (h' := [(5, rc encP lh4_1 0 63 2), (4, .cells [ii ((List.getD lh4_1 (Int.toNat x99_1) (0, 0)).1), ii ((List.getD lh4_1 (Int.toNat x99_1) (0, 0)).2)] 0 63 0), (3, rc (encI .i64) lh3_1 0 3 1), (2, rc (encI .i64) lh2_1 0 3 1), (1, rc (encI .i64) lh1_1 0 3 1), (0, .cells [ii xh0_0_1, ii xh0_1_1, ii xh0_2_1] 0 23 0)]) (c' := 6) [0, 1, 2, 3, 5, 4] (by decide) rfl ⟨by kernel_rfl, by kernel_rfl, by kernel_rfl, by kernel_rfl, by kernel_rfl, by kernel_rfl, by kernel_rfl, by kernel_rfl, by kernel_rfl, by kernel_rfl, by kernel_rfl, by kernel_rfl, by kernel_rfl, trivial⟩ ⟨⟨_, _, rfl, rfl, .inl ⟨rfl, rowC_scal encP_ok _⟩⟩, ⟨_, _, rfl, rfl, .inr ⟨_, _, _, _, rfl, rfl⟩⟩, ⟨_, _, rfl, rfl, .inl ⟨rfl, rowC_scal (encI_ok .i64) _⟩⟩, ⟨_, _, rfl, rfl, .inl ⟨rfl, rowC_scal (encI_ok .i64) _⟩⟩, ⟨_, _, rfl, rfl, .inl ⟨rfl, rowC_scal (encI_ok .i64) _⟩⟩, ⟨_, _, rfl, rfl, .inr ⟨_, _, _, _, rfl, rfl⟩⟩, trivial⟩ rfl ?_
    refine XL.conv (f15_2_ok m m x98_1 x99_1 xh0_0_1 xh0_1_1 xh0_2_1 lh1_1 lh2_1 lh3_1 lh4_1 0 ((lh1_1.length : Nat) : Int) 0 ((List.getD lh4_1 (Int.toNat x99_1) (0, 0)).1) ((List.getD lh4_1 (Int.toNat x99_1) (0, 0)).2) o2 o2_h _ ?_) (by first | rfl | simp)
    show XQ _ _ _ _ _ _ _ _
    refine XQ.seq E0_ok (by kernel_rfl) ?_
    refine XQ.quiet E0_ok (by kernel_rfl) (by kernel_rfl) ?_
    refine XU.run E0_ok 1 3 [3, 4, 5, 10, 14, 97, 98, 99, 119, 120, 121] rfl (σ' := [(3, pp 0 0), (4, s0 1 lh1_1.length), (5, s0 2 lh2_1.length), (10, s0 3 lh3_1.length), (14, ii o2.1), (97, s0 5 lh4_1.length), (98, ii x98_1), (99, ii x99_1), (119, .agg #[ii o2.2.1, ii o2.2.2]), (120, s0 2 lh2_1.length), (121, ii x99_1)]) (by kernel_rfl) ?_
    cases b4 : (inRow x99_1 lh2_1.length : Bool) with
    | false => cases (cF b4 h)
    | true =>
     have h := cT b4 h
     refine XU.rd E0_ok [3, 4, 5, 10, 14, 97, 98, 99, 119, 122] rfl (v := pp 2 ((Int.toNat x99_1) * 1)) (v_idx (s := 1) (x := (src 161 (.tmp 120))) (y := (src 161 (.tmp 121))) (b := 2) (o := 0) (len := lh2_1.length) (cap := lh2_1.length) (ik := .i64) (i := x99_1) (off := (Int.toNat x99_1) * 1) (d := (some (path 12 122))) (by kernel_rfl) (by kernel_rfl) (by kernel_rfl) b4 (by omega)) (σ' := [(3, pp 0 0), (4, s0 1 lh1_1.length), (5, s0 2 lh2_1.length), (10, s0 3 lh3_1.length), (14, ii o2.1), (97, s0 5 lh4_1.length), (98, ii x98_1), (99, ii x99_1), (119, .agg #[ii o2.2.1, ii o2.2.2]), (122, pp 2 ((Int.toNat x99_1) * 1))]) (by kernel_rfl) ?_
     refine XU.rd E0_ok [3, 4, 5, 10, 14, 97, 98, 99, 119, 123] rfl (v := ii (List.getD lh2_1 (Int.toNat x99_1) 0)) (v_load1 (encI_ok .i64) (x := (src 161 (.tmp 122))) (b := 2) (off := (Int.toNat x99_1) * 1) (xs := lh2_1) (fz := 0) (e := 3) (es := 1) (d := (some (path 12 123))) (by kernel_rfl) (by kernel_rfl) (by kernel_rfl) (Int.toNat x99_1) 0 0 (by first | rfl | omega) (row_len (inRow_toNat b4) (by simp)) rfl rfl) (σ' := [(3, pp 0 0), (4, s0 1 lh1_1.length), (5, s0 2 lh2_1.length), (10, s0 3 lh3_1.length), (14, ii o2.1), (97, s0 5 lh4_1.length), (98, ii x98_1), (99, ii x99_1), (119, .agg #[ii o2.2.1, ii o2.2.2]), (123, ii (List.getD lh2_1 (Int.toNat x99_1) 0))]) (by kernel_rfl) ?_
     refine XU.run E0_ok 1 3 [3, 4, 5, 10, 97, 98, 99, 126] rfl (σ' := [(3, pp 0 0), (4, s0 1 lh1_1.length), (5, s0 2 lh2_1.length), (10, s0 3 lh3_1.length), (97, s0 5 lh4_1.length), (98, ii x98_1), (99, ii x99_1), (126, .bool (!(o2.2.1 == (List.getD lh2_1 (Int.toNat x99_1) 0) && o2.2.2 == o2.1)))]) (by kernel_rfl) ?_
     refine XU.done (by kernel_rfl) ?_
     show XQ _ _ _ _ _ _ _ _
     cases b5 : (!(o2.2.1 == (List.getD lh2_1 (Int.toNat x99_1) 0) && o2.2.2 == o2.1) : Bool) with
     | true =>
      have h := cT b5 h
      refine XQ.cond (s := (.tmp 126)) (b := true) (by kernel_rfl) (by kernel_rfl) (fun _ => ?_) (fun q => by cases q)
      refine XQ.seq E0_ok (by kernel_rfl) ?_
      refine XQ.region (by kernel_rfl) ?_
      refine XR.runS E0_ok 1 1 [(2, .bool false)] rfl (by kernel_rfl) ?_
      refine XR.done (by kernel_rfl) ?_
      show XQ _ _ _ _ _ _ _ _
      refine XQ.ren (σ' := [(2, .bool false)]) (h' := []) (c' := 0) [] (by decide) rfl ⟨by kernel_rfl, trivial⟩ trivial rfl ?_
      refine XQ.ret (by kernel_rfl) ?_
      cases h
      exact hQ
     | false =>
      have h := cF b5 h
      refine XQ.cond (s := (.tmp 126)) (b := false) (by kernel_rfl) (by kernel_rfl) (fun q => by cases q) (fun _ => ?_)
      refine XQ.skip (by kernel_rfl) ?_
      show XQ _ _ _ _ _ _ _ _
      refine XQ.region (by kernel_rfl) ?_
      refine XR.runS E0_ok 1 2 [(3, pp 0 0), (4, s0 1 lh1_1.length), (5, s0 2 lh2_1.length), (10, s0 3 lh3_1.length), (97, s0 5 lh4_1.length), (98, ii x98_1), (99, ii (w64 (x99_1 + 1)))] rfl (by kernel_rfl) ?_
      refine XR.done (by kernel_rfl) ?_
      show XL _ _ _ _ _ _ _ _ _
      refine XL.ren (σ' := [(3, pp 0 0), (4, s0 1 lh1_1.length), (5, s0 2 lh2_1.length), (10, s0 3 lh3_1.length), (97, s0 4 lh4_1.length), (98, ii x98_1), (99, ii (w64 (x99_1 + 1)))]) (h' := [(4, rc encP lh4_1 0 63 2), (3, rc (encI .i64) lh3_1 0 3 1), (2, rc (encI .i64) lh2_1 0 3 1), (1, rc (encI .i64) lh1_1 0 3 1), (0, .cells [ii xh0_0_1, ii xh0_1_1, ii xh0_2_1] 0 23 0)]) (c' := 5) [0, 1, 2, 3, 5] (by decide) rfl ⟨by kernel_rfl, by kernel_rfl, by kernel_rfl, by kernel_rfl, by kernel_rfl, by kernel_rfl, by kernel_rfl, trivial⟩ ⟨⟨_, _, rfl, rfl, .inl ⟨rfl, rowC_scal encP_ok _⟩⟩, ⟨_, _, rfl, rfl, .inl ⟨rfl, rowC_scal (encI_ok .i64) _⟩⟩, ⟨_, _, rfl, rfl, .inl ⟨rfl, rowC_scal (encI_ok .i64) _⟩⟩, ⟨_, _, rfl, rfl, .inl ⟨rfl, rowC_scal (encI_ok .i64) _⟩⟩, ⟨_, _, rfl, rfl, .inr ⟨_, _, _, _, rfl, rfl⟩⟩, trivial⟩ rfl ?_
      refine XL.conv (f15_1_ok m fuel x98_1 (w64 (x99_1 + 1)) xh0_0_1 xh0_1_1 xh0_2_1 lh1_1 lh2_1 lh3_1 lh4_1 o h Q hQ) (by first | rfl | simp)
  | false =>
   have h := cF b1 h
   refine XQ.cond (s := (.tmp 100)) (b := false) (by kernel_rfl) (by kernel_rfl) (fun q => by cases q) (fun _ => ?_)
   refine XQ.ren (σ' := [(3, pp 0 0), (10, s0 1 lh3_1.length)]) (h' := [(1, rc (encI .i64) lh3_1 0 3 1), (0, .cells [ii xh0_0_1, ii xh0_1_1, ii xh0_2_1] 0 23 0)]) (c' := 2) [0, 3] (by decide) rfl ⟨by kernel_rfl, by kernel_rfl, trivial⟩ ⟨⟨_, _, rfl, rfl, .inl ⟨rfl, rowC_scal (encI_ok .i64) _⟩⟩, ⟨_, _, rfl, rfl, .inr ⟨_, _, _, _, rfl, rfl⟩⟩, trivial⟩ rfl ?_
   refine XQ.exit (i := 0) (by kernel_rfl) ?_
   cases h
   exact hQ

inductive Of15_3 where
 | r
 | x4

def f15_3 (m : Nat) : Nat → Int → Int → Int → List Int → Int → Int → Option Of15_3
 | 0, _, _, _, _, _, _ => none
 | fuel + 1, xh0_0_x01, xh0_1_x01, xh0_2_x01, lh1_x01, x129_3, x130_3 =>
  cond (decide (x130_3 < x129_3)) (
   cond (inRow x130_3 lh1_x01.length) (
    cond (decide ((List.getD lh1_x01 (Int.toNat x130_3) 0) < 1)) (
     some (.r)
    ) (
     (f47 m xh0_0_x01 xh0_1_x01).bind fun r11 =>
      cond (decide ((List.getD lh1_x01 (Int.toNat x130_3) 0) > r11)) (
       some (.r)
      ) (
       cond (decide (x130_3 > 0)) (
        cond (inRow (w64 (x130_3 - 1)) lh1_x01.length) (
         cond (decide ((List.getD lh1_x01 (Int.toNat x130_3) 0) ≤ (List.getD lh1_x01 (Int.toNat (w64 (x130_3 - 1))) 0))) (
          some (.r)
         ) (
          f15_3 m fuel xh0_0_x01 xh0_1_x01 xh0_2_x01 lh1_x01 x129_3 (w64 (x130_3 + 1))
         )
        ) none
       ) (
        f15_3 m fuel xh0_0_x01 xh0_1_x01 xh0_2_x01 lh1_x01 x129_3 (w64 (x130_3 + 1))
       )
      )
    )
   ) none
  ) (
   some (.x4)
  )

theorem f15_3_ok (m : Nat) : ∀ (fuel : Nat) (xh0_0_x01 : Int) (xh0_1_x01 : Int) (xh0_2_x01 : Int) (lh1_x01 : List Int) (x129_3 : Int) (x130_3 : Int) (o : Of15_3), f15_3 m fuel xh0_0_x01 xh0_1_x01 xh0_2_x01 lh1_x01 x129_3 x130_3 = some o → ∀ Q : QP, (match o with | .r => Q .ret [(2, .bool false)] [] 0 | .x4 => Q (.exit 4) [] [] 0) → XL E0 161 0 fuel f15_L3 [(3, pp 0 0), (10, s0 1 lh1_x01.length), (128, s0 1 lh1_x01.length), (129, ii x129_3), (130, ii x130_3)] [(1, rc (encI .i64) lh1_x01 0 3 1), (0, .cells [ii xh0_0_x01, ii xh0_1_x01, ii xh0_2_x01] 0 23 0)] 2 Q
 | 0, xh0_0_x01, xh0_1_x01, xh0_2_x01, lh1_x01, x129_3, x130_3, o, h, Q, hQ => by cases h
 | fuel + 1, xh0_0_x01, xh0_1_x01, xh0_2_x01, lh1_x01, x129_3, x130_3, o, h, Q, hQ => by
  unfold f15_3 at h
  refine XL.succ E0_ok ?_
  refine XQ.seq E0_ok (by kernel_rfl) ?_
  refine XQ.region (by kernel_rfl) ?_
  refine XR.runS E0_ok 1 1 [(3, pp 0 0), (10, s0 1 lh1_x01.length), (128, s0 1 lh1_x01.length), (129, ii x129_3), (130, ii x130_3), (131, .bool (decide (x130_3 < x129_3)))] rfl (by kernel_rfl) ?_
  refine XR.done (by kernel_rfl) ?_
  show XQ _ _ _ _ _ _ _ _
  refine XQ.seq E0_ok (by kernel_rfl) ?_
  cases b1 : (decide (x130_3 < x129_3) : Bool) with
  | true =>
   have h := cT b1 h
   refine XQ.cond (s := (.tmp 131)) (b := true) (by kernel_rfl) (by kernel_rfl) (fun _ => ?_) (fun q => by cases q)
   refine XQ.skip (by kernel_rfl) ?_
   show XQ _ _ _ _ _ _ _ _
   refine XQ.seq E0_ok (by kernel_rfl) ?_
   refine XQ.block (id := 5) (by kernel_rfl) ?_
   refine XQ.seq E0_ok (by kernel_rfl) ?_
   refine XQ.region (by kernel_rfl) ?_
   refine XR.runS E0_ok 1 1 [(3, pp 0 0), (10, s0 1 lh1_x01.length), (128, s0 1 lh1_x01.length), (129, ii x129_3), (130, ii x130_3), (132, ii x130_3)] rfl (by kernel_rfl) ?_
   cases b2 : (inRow x130_3 lh1_x01.length : Bool) with
   | false => cases (cF b2 h)
   | true =>
    have h := cT b2 h
    refine XR.rd E0_ok [3, 10, 128, 129, 130, 132, 133] rfl (v := pp 1 ((Int.toNat x130_3) * 1)) (v_idx (s := 1) (x := (src 161 (.tmp 128))) (y := (src 161 (.tmp 130))) (b := 1) (o := 0) (len := lh1_x01.length) (cap := lh1_x01.length) (ik := .i64) (i := x130_3) (off := (Int.toNat x130_3) * 1) (d := (some (path 12 133))) (by kernel_rfl) (by kernel_rfl) (by kernel_rfl) b2 (by omega)) (σ' := [(3, pp 0 0), (10, s0 1 lh1_x01.length), (128, s0 1 lh1_x01.length), (129, ii x129_3), (130, ii x130_3), (132, ii x130_3), (133, pp 1 ((Int.toNat x130_3) * 1))]) (by kernel_rfl) ?_
    refine XR.rd E0_ok [3, 10, 128, 129, 130, 132, 134] rfl (v := ii (List.getD lh1_x01 (Int.toNat x130_3) 0)) (v_load1 (encI_ok .i64) (x := (src 161 (.tmp 133))) (b := 1) (off := (Int.toNat x130_3) * 1) (xs := lh1_x01) (fz := 0) (e := 3) (es := 1) (d := (some (path 12 134))) (by kernel_rfl) (by kernel_rfl) (by kernel_rfl) (Int.toNat x130_3) 0 0 (by first | rfl | omega) (row_len (inRow_toNat b2) (by simp)) rfl rfl) (σ' := [(3, pp 0 0), (10, s0 1 lh1_x01.length), (128, s0 1 lh1_x01.length), (129, ii x129_3), (130, ii x130_3), (132, ii x130_3), (134, ii (List.getD lh1_x01 (Int.toNat x130_3) 0))]) (by kernel_rfl) ?_
    refine XR.runS E0_ok 1 2 [(3, pp 0 0), (10, s0 1 lh1_x01.length), (17, ii x130_3), (18, ii (List.getD lh1_x01 (Int.toNat x130_3) 0)), (128, s0 1 lh1_x01.length), (129, ii x129_3), (130, ii x130_3)] rfl (by kernel_rfl) ?_
    refine XR.done (by kernel_rfl) ?_
    show XQ _ _ _ _ _ _ _ _
    refine XQ.seq E0_ok (by kernel_rfl) ?_
    refine XQ.region (by kernel_rfl) ?_
    refine XR.runS E0_ok 1 3 [(3, pp 0 0), (10, s0 1 lh1_x01.length), (17, ii x130_3), (18, ii (List.getD lh1_x01 (Int.toNat x130_3) 0)), (128, s0 1 lh1_x01.length), (129, ii x129_3), (130, ii x130_3), (137, .bool (decide ((List.getD lh1_x01 (Int.toNat x130_3) 0) < 1)))] rfl (by kernel_rfl) ?_
    cases b3 : (decide ((List.getD lh1_x01 (Int.toNat x130_3) 0) < 1) : Bool) with
    | true =>
     have h := cT b3 h
     refine XR.runS E0_ok 1 21 [(3, pp 0 0), (10, s0 1 lh1_x01.length), (128, s0 1 lh1_x01.length), (129, ii x129_3), (130, ii x130_3), (158, .bool true)] rfl (by kernel_rfl) ?_
     refine XR.done (by kernel_rfl) ?_
     show XQ _ _ _ _ _ _ _ _
     refine XQ.cond (s := (.tmp 158)) (b := true) (by kernel_rfl) (by kernel_rfl) (fun _ => ?_) (fun q => by cases q)
     refine XQ.seq E0_ok (by kernel_rfl) ?_
     refine XQ.region (by kernel_rfl) ?_
     refine XR.runS E0_ok 1 1 [(2, .bool false)] rfl (by kernel_rfl) ?_
     refine XR.done (by kernel_rfl) ?_
     show XQ _ _ _ _ _ _ _ _
     refine XQ.ren (σ' := [(2, .bool false)]) (h' := []) (c' := 0) [] (by decide) rfl ⟨by kernel_rfl, trivial⟩ trivial rfl ?_
     refine XQ.ret (by kernel_rfl) ?_
     cases h
     exact hQ
    | false =>
     have h := cF b3 h
     refine XR.runS E0_ok 1 5 [(3, pp 0 0), (10, s0 1 lh1_x01.length), (17, ii x130_3), (18, ii (List.getD lh1_x01 (Int.toNat x130_3) 0)), (128, s0 1 lh1_x01.length), (129, ii x129_3), (130, ii x130_3), (137, .bool false), (138, ii (List.getD lh1_x01 (Int.toNat x130_3) 0)), (140, ii xh0_0_x01), (142, ii xh0_1_x01)] rfl (by kernel_rfl) ?_
     obtain ⟨r11, r11_h, h⟩ := bS h
     refine XR.call E0_ok [3, 10, 17, 18, 128, 129, 130, 137, 138, 143] rfl (K := 47) (args := [ii xh0_0_x01, ii xh0_1_x01]) (d := (some (path 12 143))) (by kernel_rfl) (KC.of_calls E0_ok (F := Proofs.Try.f47) (v := ii r11) (by kernel_rfl) rfl rfl (fun w hI => f47_ok m xh0_0_x01 xh0_1_x01 r11 r11_h w hI)) ?_
     rintro _ _ _ ⟨rfl, rfl, rfl⟩
     refine XR.conv (σ' := [(3, pp 0 0), (10, s0 1 lh1_x01.length), (17, ii x130_3), (18, ii (List.getD lh1_x01 (Int.toNat x130_3) 0)), (128, s0 1 lh1_x01.length), (129, ii x129_3), (130, ii x130_3), (137, .bool false), (138, ii (List.getD lh1_x01 (Int.toNat x130_3) 0)), (143, ii r11)]) (h' := [(1, rc (encI .i64) lh1_x01 0 3 1), (0, .cells [ii xh0_0_x01, ii xh0_1_x01, ii xh0_2_x01] 0 23 0)]) (c' := 2) ?_ (by kernel_rfl)
     refine XR.runS E0_ok 1 3 [(3, pp 0 0), (10, s0 1 lh1_x01.length), (17, ii x130_3), (18, ii (List.getD lh1_x01 (Int.toNat x130_3) 0)), (128, s0 1 lh1_x01.length), (129, ii x129_3), (130, ii x130_3), (146, .bool (decide ((List.getD lh1_x01 (Int.toNat x130_3) 0) > r11)))] rfl (by kernel_rfl) ?_
     cases b4 : (decide ((List.getD lh1_x01 (Int.toNat x130_3) 0) > r11) : Bool) with
     | true =>
      have h := cT b4 h
      refine XR.runS E0_ok 1 12 [(3, pp 0 0), (10, s0 1 lh1_x01.length), (128, s0 1 lh1_x01.length), (129, ii x129_3), (130, ii x130_3), (158, .bool true)] rfl (by kernel_rfl) ?_
      refine XR.done (by kernel_rfl) ?_
      show XQ _ _ _ _ _ _ _ _
      refine XQ.cond (s := (.tmp 158)) (b := true) (by kernel_rfl) (by kernel_rfl) (fun _ => ?_) (fun q => by cases q)
      refine XQ.seq E0_ok (by kernel_rfl) ?_
      refine XQ.region (by kernel_rfl) ?_
      refine XR.runS E0_ok 1 1 [(2, .bool false)] rfl (by kernel_rfl) ?_
      refine XR.done (by kernel_rfl) ?_
      show XQ _ _ _ _ _ _ _ _
      refine XQ.ren (σ' := [(2, .bool false)]) (h' := []) (c' := 0) [] (by decide) rfl ⟨by kernel_rfl, trivial⟩ trivial rfl ?_
      refine XQ.ret (by kernel_rfl) ?_
      cases h
      exact hQ
     | false =>
      have h := cF b4 h
      refine XR.runS E0_ok 1 3 [(3, pp 0 0), (10, s0 1 lh1_x01.length), (17, ii x130_3), (18, ii (List.getD lh1_x01 (Int.toNat x130_3) 0)), (128, s0 1 lh1_x01.length), (129, ii x129_3), (130, ii x130_3), (146, .bool false), (149, .bool (decide (x130_3 > 0)))] rfl (by kernel_rfl) ?_
      cases b5 : (decide (x130_3 > 0) : Bool) with
      | true =>
       have h := cT b5 h
       refine XR.runS E0_ok 1 4 [(3, pp 0 0), (10, s0 1 lh1_x01.length), (128, s0 1 lh1_x01.length), (129, ii x129_3), (130, ii x130_3), (146, .bool false), (149, .bool true), (150, ii (List.getD lh1_x01 (Int.toNat x130_3) 0)), (151, s0 1 lh1_x01.length), (153, ii (w64 (x130_3 - 1)))] rfl (by kernel_rfl) ?_
       cases b6 : (inRow (w64 (x130_3 - 1)) lh1_x01.length : Bool) with
       | false => cases (cF b6 h)
       | true =>
        have h := cT b6 h
        refine XR.rd E0_ok [3, 10, 128, 129, 130, 146, 149, 150, 154] rfl (v := pp 1 ((Int.toNat (w64 (x130_3 - 1))) * 1)) (v_idx (s := 1) (x := (src 161 (.tmp 151))) (y := (src 161 (.tmp 153))) (b := 1) (o := 0) (len := lh1_x01.length) (cap := lh1_x01.length) (ik := .i64) (i := w64 (x130_3 - 1)) (off := (Int.toNat (w64 (x130_3 - 1))) * 1) (d := (some (path 12 154))) (by kernel_rfl) (by kernel_rfl) (by kernel_rfl) b6 (by omega)) (σ' := [(3, pp 0 0), (10, s0 1 lh1_x01.length), (128, s0 1 lh1_x01.length), (129, ii x129_3), (130, ii x130_3), (146, .bool false), (149, .bool true), (150, ii (List.getD lh1_x01 (Int.toNat x130_3) 0)), (154, pp 1 ((Int.toNat (w64 (x130_3 - 1))) * 1))]) (by kernel_rfl) ?_
        refine XR.rd E0_ok [3, 10, 128, 129, 130, 146, 149, 150, 155] rfl (v := ii (List.getD lh1_x01 (Int.toNat (w64 (x130_3 - 1))) 0)) (v_load1 (encI_ok .i64) (x := (src 161 (.tmp 154))) (b := 1) (off := (Int.toNat (w64 (x130_3 - 1))) * 1) (xs := lh1_x01) (fz := 0) (e := 3) (es := 1) (d := (some (path 12 155))) (by kernel_rfl) (by kernel_rfl) (by kernel_rfl) (Int.toNat (w64 (x130_3 - 1))) 0 0 (by first | rfl | omega) (row_len (inRow_toNat b6) (by simp)) rfl rfl) (σ' := [(3, pp 0 0), (10, s0 1 lh1_x01.length), (128, s0 1 lh1_x01.length), (129, ii x129_3), (130, ii x130_3), (146, .bool false), (149, .bool true), (150, ii (List.getD lh1_x01 (Int.toNat x130_3) 0)), (155, ii (List.getD lh1_x01 (Int.toNat (w64 (x130_3 - 1))) 0))]) (by kernel_rfl) ?_
        refine XR.runS E0_ok 1 3 [(3, pp 0 0), (10, s0 1 lh1_x01.length), (128, s0 1 lh1_x01.length), (129, ii x129_3), (130, ii x130_3), (158, .bool (decide ((List.getD lh1_x01 (Int.toNat x130_3) 0) ≤ (List.getD lh1_x01 (Int.toNat (w64 (x130_3 - 1))) 0))))] rfl (by kernel_rfl) ?_
        refine XR.done (by kernel_rfl) ?_
        show XQ _ _ _ _ _ _ _ _
        cases b7 : (decide ((List.getD lh1_x01 (Int.toNat x130_3) 0) ≤ (List.getD lh1_x01 (Int.toNat (w64 (x130_3 - 1))) 0)) : Bool) with
        | true =>
         have h := cT b7 h
         refine XQ.cond (s := (.tmp 158)) (b := true) (by kernel_rfl) (by kernel_rfl) (fun _ => ?_) (fun q => by cases q)
         refine XQ.seq E0_ok (by kernel_rfl) ?_
         refine XQ.region (by kernel_rfl) ?_
         refine XR.runS E0_ok 1 1 [(2, .bool false)] rfl (by kernel_rfl) ?_
         refine XR.done (by kernel_rfl) ?_
         show XQ _ _ _ _ _ _ _ _
         refine XQ.ren (σ' := [(2, .bool false)]) (h' := []) (c' := 0) [] (by decide) rfl ⟨by kernel_rfl, trivial⟩ trivial rfl ?_
         refine XQ.ret (by kernel_rfl) ?_
         cases h
         exact hQ
        | false =>
         have h := cF b7 h
         refine XQ.cond (s := (.tmp 158)) (b := false) (by kernel_rfl) (by kernel_rfl) (fun q => by cases q) (fun _ => ?_)
         refine XQ.skip (by kernel_rfl) ?_
         show XQ _ _ _ _ _ _ _ _
         refine XQ.region (by kernel_rfl) ?_
         refine XR.runS E0_ok 1 2 [(3, pp 0 0), (10, s0 1 lh1_x01.length), (128, s0 1 lh1_x01.length), (129, ii x129_3), (130, ii (w64 (x130_3 + 1)))] rfl (by kernel_rfl) ?_
         refine XR.done (by kernel_rfl) ?_
         show XL _ _ _ _ _ _ _ _ _
         refine XL.ren (σ' := [(3, pp 0 0), (10, s0 1 lh1_x01.length), (128, s0 1 lh1_x01.length), (129, ii x129_3), (130, ii (w64 (x130_3 + 1)))]) (h' := [(1, rc (encI .i64) lh1_x01 0 3 1), (0, .cells [ii xh0_0_x01, ii xh0_1_x01, ii xh0_2_x01] 0 23 0)]) (c' := 2) [0, 1] (by decide) rfl ⟨by kernel_rfl, by kernel_rfl, by kernel_rfl, by kernel_rfl, by kernel_rfl, trivial⟩ ⟨⟨_, _, rfl, rfl, .inl ⟨rfl, rowC_scal (encI_ok .i64) _⟩⟩, ⟨_, _, rfl, rfl, .inr ⟨_, _, _, _, rfl, rfl⟩⟩, trivial⟩ rfl ?_
         refine XL.conv (f15_3_ok m fuel xh0_0_x01 xh0_1_x01 xh0_2_x01 lh1_x01 x129_3 (w64 (x130_3 + 1)) o h Q hQ) (by first | rfl | simp)
      | false =>
       have h := cF b5 h
       refine XR.runS E0_ok 1 9 [(3, pp 0 0), (10, s0 1 lh1_x01.length), (128, s0 1 lh1_x01.length), (129, ii x129_3), (130, ii x130_3), (158, .bool false)] rfl (by kernel_rfl) ?_
       refine XR.done (by kernel_rfl) ?_
       show XQ _ _ _ _ _ _ _ _
       refine XQ.cond (s := (.tmp 158)) (b := false) (by kernel_rfl) (by kernel_rfl) (fun q => by cases q) (fun _ => ?_)
       refine XQ.skip (by kernel_rfl) ?_
       show XQ _ _ _ _ _ _ _ _
       refine XQ.region (by kernel_rfl) ?_
       refine XR.runS E0_ok 1 2 [(3, pp 0 0), (10, s0 1 lh1_x01.length), (128, s0 1 lh1_x01.length), (129, ii x129_3), (130, ii (w64 (x130_3 + 1)))] rfl (by kernel_rfl) ?_
       refine XR.done (by kernel_rfl) ?_
       show XL _ _ _ _ _ _ _ _ _
       refine XL.ren (σ' := [(3, pp 0 0), (10, s0 1 lh1_x01.length), (128, s0 1 lh1_x01.length), (129, ii x129_3), (130, ii (w64 (x130_3 + 1)))]) (h' := [(1, rc (encI .i64) lh1_x01 0 3 1), (0, .cells [ii xh0_0_x01, ii xh0_1_x01, ii xh0_2_x01] 0 23 0)]) (c' := 2) [0, 1] (by decide) rfl ⟨by kernel_rfl, by kernel_rfl, by kernel_rfl, by kernel_rfl, by kernel_rfl, trivial⟩ ⟨⟨_, _, rfl, rfl, .inl ⟨rfl, rowC_scal (encI_ok .i64) _⟩⟩, ⟨_, _, rfl, rfl, .inr ⟨_, _, _, _, rfl, rfl⟩⟩, trivial⟩ rfl ?_
       refine XL.conv (f15_3_ok m fuel xh0_0_x01 xh0_1_x01 xh0_2_x01 lh1_x01 x129_3 (w64 (x130_3 + 1)) o h Q hQ) (by first | rfl | simp)
  | false =>
   have h := cF b1 h
   refine XQ.cond (s := (.tmp 131)) (b := false) (by kernel_rfl) (by kernel_rfl) (fun q => by cases q) (fun _ => ?_)
   refine XQ.ren (σ' := []) (h' := []) (c' := 0) [] (by decide) rfl trivial trivial rfl ?_
   refine XQ.exit (i := 4) (by kernel_rfl) ?_
   cases h
   exact hQ

def f15_5 (m : Nat) : Nat → Int → Int → Int → Int → Int → List Int → List Int → List Int → List (Int × Int) → Int → Int → Int → Int → Int → Option (Int × Int × Int)
 | 0, _, _, _, _, _, _, _, _, _, _, _, _, _, _ => none
 | fuel + 1, x98_4, x99_4, xh0_0_4, xh0_1_4, xh0_2_4, lh1_4, lh2_4, lh3_4, lh4_4, x14_5, x105_5, x106_5, xh4_0_5, xh4_1_5 =>
  cond (decide (x106_5 < x105_5)) (
   cond (inRow x106_5 lh1_4.length) (
    cond (inRow x99_4 lh2_4.length) (
     f15_5 m fuel x98_4 x99_4 xh0_0_4 xh0_1_4 xh0_2_4 lh1_4 lh2_4 lh3_4 lh4_4 (cond ((List.getD lh1_4 (Int.toNat x106_5) 0) == (List.getD lh2_4 (Int.toNat x99_4) 0)) (w64 (x14_5 + 1)) x14_5) x105_5 (w64 (x106_5 + 1)) xh4_0_5 xh4_1_5
    ) none
   ) none
  ) (
   some (x14_5, xh4_0_5, xh4_1_5)
  )

theorem f15_5_ok (m : Nat) : ∀ (fuel : Nat) (x98_4 : Int) (x99_4 : Int) (xh0_0_4 : Int) (xh0_1_4 : Int) (xh0_2_4 : Int) (lh1_4 : List Int) (lh2_4 : List Int) (lh3_4 : List Int) (lh4_4 : List (Int × Int)) (x14_5 : Int) (x105_5 : Int) (x106_5 : Int) (xh4_0_5 : Int) (xh4_1_5 : Int) (o : (Int × Int × Int)), f15_5 m fuel x98_4 x99_4 xh0_0_4 xh0_1_4 xh0_2_4 lh1_4 lh2_4 lh3_4 lh4_4 x14_5 x105_5 x106_5 xh4_0_5 xh4_1_5 = some o → ∀ Q : QP, Q (.exit 2) [(3, pp 0 0), (4, s0 1 lh1_4.length), (5, s0 2 lh2_4.length), (10, s0 3 lh3_4.length), (12, ii x99_4), (13, pp 4 0), (14, ii o.1), (97, s0 5 lh4_4.length), (98, ii x98_4), (99, ii x99_4)] [(5, rc encP lh4_4 0 63 2), (4, .cells [ii o.2.1, ii o.2.2] 0 63 0), (3, rc (encI .i64) lh3_4 0 3 1), (2, rc (encI .i64) lh2_4 0 3 1), (1, rc (encI .i64) lh1_4 0 3 1), (0, .cells [ii xh0_0_4, ii xh0_1_4, ii xh0_2_4] 0 23 0)] 6 → XL E0 161 0 fuel f15_L5 [(3, pp 0 0), (4, s0 1 lh1_4.length), (5, s0 2 lh2_4.length), (10, s0 3 lh3_4.length), (12, ii x99_4), (13, pp 4 0), (14, ii x14_5), (97, s0 5 lh4_4.length), (98, ii x98_4), (99, ii x99_4), (104, s0 1 lh1_4.length), (105, ii x105_5), (106, ii x106_5)] [(5, rc encP lh4_4 0 63 2), (4, .cells [ii xh4_0_5, ii xh4_1_5] 0 63 0), (3, rc (encI .i64) lh3_4 0 3 1), (2, rc (encI .i64) lh2_4 0 3 1), (1, rc (encI .i64) lh1_4 0 3 1), (0, .cells [ii xh0_0_4, ii xh0_1_4, ii xh0_2_4] 0 23 0)] 6 Q
 | 0, x98_4, x99_4, xh0_0_4, xh0_1_4, xh0_2_4, lh1_4, lh2_4, lh3_4, lh4_4, x14_5, x105_5, x106_5, xh4_0_5, xh4_1_5, o, h, Q, hQ => by cases h
 | fuel + 1, x98_4, x99_4, xh0_0_4, xh0_1_4, xh0_2_4, lh1_4, lh2_4, lh3_4, lh4_4, x14_5, x105_5, x106_5, xh4_0_5, xh4_1_5, o, h, Q, hQ => by
  unfold f15_5 at h
  refine XL.succ E0_ok ?_
  refine XQ.seq E0_ok (by kernel_rfl) ?_
  refine XQ.region (by kernel_rfl) ?_
  refine XR.runS E0_ok 1 1 [(3, pp 0 0), (4, s0 1 lh1_4.length), (5, s0 2 lh2_4.length), (10, s0 3 lh3_4.length), (12, ii x99_4), (13, pp 4 0), (14, ii x14_5), (97, s0 5 lh4_4.length), (98, ii x98_4), (99, ii x99_4), (104, s0 1 lh1_4.length), (105, ii x105_5), (106, ii x106_5), (107, .bool (decide (x106_5 < x105_5)))] rfl (by kernel_rfl) ?_
  refine XR.done (by kernel_rfl) ?_
  show XQ _ _ _ _ _ _ _ _
  refine XQ.seq E0_ok (by kernel_rfl) ?_
  cases b1 : (decide (x106_5 < x105_5) : Bool) with
  | true =>
   have h := cT b1 h
   refine XQ.cond (s := (.tmp 107)) (b := true) (by kernel_rfl) (by kernel_rfl) (fun _ => ?_) (fun q => by cases q)
   refine XQ.skip (by kernel_rfl) ?_
   show XQ _ _ _ _ _ _ _ _
   refine XQ.seq E0_ok (by kernel_rfl) ?_
   refine XQ.block (id := 3) (by kernel_rfl) ?_
   refine XQ.seq E0_ok (by kernel_rfl) ?_
   refine XQ.region (by kernel_rfl) ?_
   cases b2 : (inRow x106_5 lh1_4.length : Bool) with
   | false => cases (cF b2 h)
   | true =>
    have h := cT b2 h
    refine XR.rd E0_ok [3, 4, 5, 10, 12, 13, 14, 97, 98, 99, 104, 105, 106, 108] rfl (v := pp 1 ((Int.toNat x106_5) * 1)) (v_idx (s := 1) (x := (src 161 (.tmp 104))) (y := (src 161 (.tmp 106))) (b := 1) (o := 0) (len := lh1_4.length) (cap := lh1_4.length) (ik := .i64) (i := x106_5) (off := (Int.toNat x106_5) * 1) (d := (some (path 12 108))) (by kernel_rfl) (by kernel_rfl) (by kernel_rfl) b2 (by omega)) (σ' := [(3, pp 0 0), (4, s0 1 lh1_4.length), (5, s0 2 lh2_4.length), (10, s0 3 lh3_4.length), (12, ii x99_4), (13, pp 4 0), (14, ii x14_5), (97, s0 5 lh4_4.length), (98, ii x98_4), (99, ii x99_4), (104, s0 1 lh1_4.length), (105, ii x105_5), (106, ii x106_5), (108, pp 1 ((Int.toNat x106_5) * 1))]) (by kernel_rfl) ?_
    refine XR.rd E0_ok [3, 4, 5, 10, 12, 13, 14, 97, 98, 99, 104, 105, 106, 109] rfl (v := ii (List.getD lh1_4 (Int.toNat x106_5) 0)) (v_load1 (encI_ok .i64) (x := (src 161 (.tmp 108))) (b := 1) (off := (Int.toNat x106_5) * 1) (xs := lh1_4) (fz := 0) (e := 3) (es := 1) (d := (some (path 12 109))) (by kernel_rfl) (by kernel_rfl) (by kernel_rfl) (Int.toNat x106_5) 0 0 (by first | rfl | omega) (row_len (inRow_toNat b2) (by simp)) rfl rfl) (σ' := [(3, pp 0 0), (4, s0 1 lh1_4.length), (5, s0 2 lh2_4.length), (10, s0 3 lh3_4.length), (12, ii x99_4), (13, pp 4 0), (14, ii x14_5), (97, s0 5 lh4_4.length), (98, ii x98_4), (99, ii x99_4), (104, s0 1 lh1_4.length), (105, ii x105_5), (106, ii x106_5), (109, ii (List.getD lh1_4 (Int.toNat x106_5) 0))]) (by kernel_rfl) ?_
    refine XR.runS E0_ok 1 1 [(3, pp 0 0), (4, s0 1 lh1_4.length), (5, s0 2 lh2_4.length), (10, s0 3 lh3_4.length), (12, ii x99_4), (13, pp 4 0), (14, ii x14_5), (16, ii (List.getD lh1_4 (Int.toNat x106_5) 0)), (97, s0 5 lh4_4.length), (98, ii x98_4), (99, ii x99_4), (104, s0 1 lh1_4.length), (105, ii x105_5), (106, ii x106_5)] rfl (by kernel_rfl) ?_
    refine XR.done (by kernel_rfl) ?_
    show XQ _ _ _ _ _ _ _ _
    refine XQ.seq E0_ok (by kernel_rfl) ?_
    refine XQ.region (by kernel_rfl) ?_
    refine XR.runS E0_ok 1 3 [(3, pp 0 0), (4, s0 1 lh1_4.length), (5, s0 2 lh2_4.length), (10, s0 3 lh3_4.length), (12, ii x99_4), (13, pp 4 0), (14, ii x14_5), (97, s0 5 lh4_4.length), (98, ii x98_4), (99, ii x99_4), (104, s0 1 lh1_4.length), (105, ii x105_5), (106, ii x106_5), (110, ii (List.getD lh1_4 (Int.toNat x106_5) 0)), (111, s0 2 lh2_4.length), (112, ii x99_4)] rfl (by kernel_rfl) ?_
    cases b3 : (inRow x99_4 lh2_4.length : Bool) with
    | false => cases (cF b3 h)
    | true =>
     have h := cT b3 h
     refine XR.rd E0_ok [3, 4, 5, 10, 12, 13, 14, 97, 98, 99, 104, 105, 106, 110, 113] rfl (v := pp 2 ((Int.toNat x99_4) * 1)) (v_idx (s := 1) (x := (src 161 (.tmp 111))) (y := (src 161 (.tmp 112))) (b := 2) (o := 0) (len := lh2_4.length) (cap := lh2_4.length) (ik := .i64) (i := x99_4) (off := (Int.toNat x99_4) * 1) (d := (some (path 12 113))) (by kernel_rfl) (by kernel_rfl) (by kernel_rfl) b3 (by omega)) (σ' := [(3, pp 0 0), (4, s0 1 lh1_4.length), (5, s0 2 lh2_4.length), (10, s0 3 lh3_4.length), (12, ii x99_4), (13, pp 4 0), (14, ii x14_5), (97, s0 5 lh4_4.length), (98, ii x98_4), (99, ii x99_4), (104, s0 1 lh1_4.length), (105, ii x105_5), (106, ii x106_5), (110, ii (List.getD lh1_4 (Int.toNat x106_5) 0)), (113, pp 2 ((Int.toNat x99_4) * 1))]) (by kernel_rfl) ?_
     refine XR.rd E0_ok [3, 4, 5, 10, 12, 13, 14, 97, 98, 99, 104, 105, 106, 110, 114] rfl (v := ii (List.getD lh2_4 (Int.toNat x99_4) 0)) (v_load1 (encI_ok .i64) (x := (src 161 (.tmp 113))) (b := 2) (off := (Int.toNat x99_4) * 1) (xs := lh2_4) (fz := 0) (e := 3) (es := 1) (d := (some (path 12 114))) (by kernel_rfl) (by kernel_rfl) (by kernel_rfl) (Int.toNat x99_4) 0 0 (by first | rfl | omega) (row_len (inRow_toNat b3) (by simp)) rfl rfl) (σ' := [(3, pp 0 0), (4, s0 1 lh1_4.length), (5, s0 2 lh2_4.length), (10, s0 3 lh3_4.length), (12, ii x99_4), (13, pp 4 0), (14, ii x14_5), (97, s0 5 lh4_4.length), (98, ii x98_4), (99, ii x99_4), (104, s0 1 lh1_4.length), (105, ii x105_5), (106, ii x106_5), (110, ii (List.getD lh1_4 (Int.toNat x106_5) 0)), (114, ii (List.getD lh2_4 (Int.toNat x99_4) 0))]) (by kernel_rfl) ?_
     refine XR.runS E0_ok 1 1 [(3, pp 0 0), (4, s0 1 lh1_4.length), (5, s0 2 lh2_4.length), (10, s0 3 lh3_4.length), (12, ii x99_4), (13, pp 4 0), (14, ii x14_5), (97, s0 5 lh4_4.length), (98, ii x98_4), (99, ii x99_4), (104, s0 1 lh1_4.length), (105, ii x105_5), (106, ii x106_5), (115, .bool ((List.getD lh1_4 (Int.toNat x106_5) 0) == (List.getD lh2_4 (Int.toNat x99_4) 0)))] rfl (by kernel_rfl) ?_
     refine XR.done (by kernel_rfl) ?_
     show XQ _ _ _ _ _ _ _ _
     refine XQ.meetC (σ' := [(3, pp 0 0), (4, s0 1 lh1_4.length), (5, s0 2 lh2_4.length), (10, s0 3 lh3_4.length), (12, ii x99_4), (13, pp 4 0), (14, ii (cond ((List.getD lh1_4 (Int.toNat x106_5) 0) == (List.getD lh2_4 (Int.toNat x99_4) 0)) (w64 (x14_5 + 1)) x14_5)), (97, s0 5 lh4_4.length), (98, ii x98_4), (99, ii x99_4), (104, s0 1 lh1_4.length), (105, ii x105_5), (106, ii x106_5)]) (h' := [(5, rc encP lh4_4 0 63 2), (4, .cells [ii xh4_0_5, ii xh4_1_5] 0 63 0), (3, rc (encI .i64) lh3_4 0 3 1), (2, rc (encI .i64) lh2_4 0 3 1), (1, rc (encI .i64) lh1_4 0 3 1), (0, .cells [ii xh0_0_4, ii xh0_1_4, ii xh0_2_4] 0 23 0)]) (c' := 6) ?_ ?_
     rotate_left
     ·refine XQ.cond (s := (.tmp 115)) (b := (List.getD lh1_4 (Int.toNat x106_5) 0) == (List.getD lh2_4 (Int.toNat x99_4) 0)) (by kernel_rfl) (by kernel_rfl) (fun b4 => ?_) (fun b4 => ?_)
      ·refine XQ.region (by kernel_rfl) ?_
       refine XR.runS E0_ok 1 3 [(3, pp 0 0), (4, s0 1 lh1_4.length), (5, s0 2 lh2_4.length), (10, s0 3 lh3_4.length), (12, ii x99_4), (13, pp 4 0), (14, ii (w64 (x14_5 + 1))), (97, s0 5 lh4_4.length), (98, ii x98_4), (99, ii x99_4), (104, s0 1 lh1_4.length), (105, ii x105_5), (106, ii x106_5)] rfl (by kernel_rfl) ?_
       refine XR.done (by kernel_rfl) ?_
       refine ⟨rfl, ?_, ?_⟩
       ·try rw [b4]
        exact ⟨by kernel_rfl, by kernel_rfl, by kernel_rfl, by kernel_rfl, by kernel_rfl, by kernel_rfl, by kernel_rfl, by kernel_rfl, by kernel_rfl, by kernel_rfl, by kernel_rfl, by kernel_rfl, by kernel_rfl, trivial⟩
       ·try rw [b4]
        kernel_rfl
      ·refine XQ.skip (by kernel_rfl) ?_
       refine ⟨rfl, ?_, ?_⟩
       ·try rw [b4]
        exact ⟨by kernel_rfl, by kernel_rfl, by kernel_rfl, by kernel_rfl, by kernel_rfl, by kernel_rfl, by kernel_rfl, by kernel_rfl, by kernel_rfl, by kernel_rfl, by kernel_rfl, by kernel_rfl, by kernel_rfl, trivial⟩
       ·try rw [b4]
        kernel_rfl
     show XQ _ _ _ _ _ _ _ _
     refine XQ.region (by kernel_rfl) ?_
     refine XR.runS E0_ok 1 2 [(3, pp 0 0), (4, s0 1 lh1_4.length), (5, s0 2 lh2_4.length), (10, s0 3 lh3_4.length), (12, ii x99_4), (13, pp 4 0), (14, ii (cond ((List.getD lh1_4 (Int.toNat x106_5) 0) == (List.getD lh2_4 (Int.toNat x99_4) 0)) (w64 (x14_5 + 1)) x14_5)), (97, s0 5 lh4_4.length), (98, ii x98_4), (99, ii x99_4), (104, s0 1 lh1_4.length), (105, ii x105_5), (106, ii (w64 (x106_5 + 1)))] rfl (by kernel_rfl) ?_
     refine XR.done (by kernel_rfl) ?_
     show XL _ _ _ _ _ _ _ _ _
     refine XL.ren (σ' := [(3, pp 0 0), (4, s0 1 lh1_4.length), (5, s0 2 lh2_4.length), (10, s0 3 lh3_4.length), (12, ii x99_4), (13, pp 4 0), (14, ii (cond ((List.getD lh1_4 (Int.toNat x106_5) 0) == (List.getD lh2_4 (Int.toNat x99_4) 0)) (w64 (x14_5 + 1)) x14_5)), (97, s0 5 lh4_4.length), (98, ii x98_4), (99, ii x99_4), (104, s0 1 lh1_4.length), (105, ii x105_5), (106, ii (w64 (x106_5 + 1)))]) (h' := [(5, rc encP lh4_4 0 63 2), (4, .cells [ii xh4_0_5, ii xh4_1_5] 0 63 0), (3, rc (encI .i64) lh3_4 0 3 1), (2, rc (encI .i64) lh2_4 0 3 1), (1, rc (encI .i64) lh1_4 0 3 1), (0, .cells [ii xh0_0_4, ii xh0_1_4, ii xh0_2_4] 0 23 0)]) (c' := 6) [0, 1, 2, 3, 4, 5] (by decide) rfl ⟨by kernel_rfl, by kernel_rfl, by kernel_rfl, by kernel_rfl, by kernel_rfl, by kernel_rfl, by kernel_rfl, by kernel_rfl, by kernel_rfl, by kernel_rfl, by kernel_rfl, by kernel_rfl, by kernel_rfl, trivial⟩ ⟨⟨_, _, rfl, rfl, .inl ⟨rfl, rowC_scal encP_ok _⟩⟩, ⟨_, _, rfl, rfl, .inr ⟨_, _, _, _, rfl, rfl⟩⟩, ⟨_, _, rfl, rfl, .inl ⟨rfl, rowC_scal (encI_ok .i64) _⟩⟩, ⟨_, _, rfl, rfl, .inl ⟨rfl, rowC_scal (encI_ok .i64) _⟩⟩, ⟨_, _, rfl, rfl, .inl ⟨rfl, rowC_scal (encI_ok .i64) _⟩⟩, ⟨_, _, rfl, rfl, .inr ⟨_, _, _, _, rfl, rfl⟩⟩, trivial⟩ rfl ?_
     refine XL.conv (f15_5_ok m fuel x98_4 x99_4 xh0_0_4 xh0_1_4 xh0_2_4 lh1_4 lh2_4 lh3_4 lh4_4 (cond ((List.getD lh1_4 (Int.toNat x106_5) 0) == (List.getD lh2_4 (Int.toNat x99_4) 0)) (w64 (x14_5 + 1)) x14_5) x105_5 (w64 (x106_5 + 1)) xh4_0_5 xh4_1_5 o h Q hQ) (by first | rfl | simp)
  | false =>
   have h := cF b1 h
   refine XQ.cond (s := (.tmp 107)) (b := false) (by kernel_rfl) (by kernel_rfl) (fun q => by cases q) (fun _ => ?_)
   refine XQ.ren (σ' := [(3, pp 0 0), (4, s0 1 lh1_4.length), (5, s0 2 lh2_4.length), (10, s0 3 lh3_4.length), (12, ii x99_4), (13, pp 4 0), (14, ii x14_5), (97, s0 5 lh4_4.length), (98, ii x98_4), (99, ii x99_4)]) (h' := [(5, rc encP lh4_4 0 63 2), (4, .cells [ii xh4_0_5, ii xh4_1_5] 0 63 0), (3, rc (encI .i64) lh3_4 0 3 1), (2, rc (encI .i64) lh2_4 0 3 1), (1, rc (encI .i64) lh1_4 0 3 1), (0, .cells [ii xh0_0_4, ii xh0_1_4, ii xh0_2_4] 0 23 0)]) (c' := 6) [0, 1, 2, 3, 4, 5] (by decide) rfl ⟨by kernel_rfl, by kernel_rfl, by kernel_rfl, by kernel_rfl, by kernel_rfl, by kernel_rfl, by kernel_rfl, by kernel_rfl, by kernel_rfl, by kernel_rfl, trivial⟩ ⟨⟨_, _, rfl, rfl, .inl ⟨rfl, rowC_scal encP_ok _⟩⟩, ⟨_, _, rfl, rfl, .inr ⟨_, _, _, _, rfl, rfl⟩⟩, ⟨_, _, rfl, rfl, .inl ⟨rfl, rowC_scal (encI_ok .i64) _⟩⟩, ⟨_, _, rfl, rfl, .inl ⟨rfl, rowC_scal (encI_ok .i64) _⟩⟩, ⟨_, _, rfl, rfl, .inl ⟨rfl, rowC_scal (encI_ok .i64) _⟩⟩, ⟨_, _, rfl, rfl, .inr ⟨_, _, _, _, rfl, rfl⟩⟩, trivial⟩ rfl ?_
   refine XQ.exit (i := 2) (by kernel_rfl) ?_
   cases h
   exact hQ

inductive Of15_4 where
 | r
 | x0 (xh0_0_x04 : Int) (xh0_1_x04 : Int) (xh0_2_x04 : Int) (lh1_x04 : List Int)

def f15_4 (m : Nat) : Nat → Int → Int → Int → Int → Int → List Int → List Int → List Int → List (Int × Int) → Option Of15_4
 | 0, _, _, _, _, _, _, _, _, _ => none
 | fuel + 1, x98_4, x99_4, xh0_0_4, xh0_1_4, xh0_2_4, lh1_4, lh2_4, lh3_4, lh4_4 =>
  cond (decide (x99_4 < x98_4)) (
   cond (inRow x99_4 lh4_4.length) (
    (f15_5 m m x98_4 x99_4 xh0_0_4 xh0_1_4 xh0_2_4 lh1_4 lh2_4 lh3_4 lh4_4 0 ((lh1_4.length : Nat) : Int) 0 ((List.getD lh4_4 (Int.toNat x99_4) (0, 0)).1) ((List.getD lh4_4 (Int.toNat x99_4) (0, 0)).2)).bind fun o5 =>
     cond (inRow x99_4 lh2_4.length) (
      cond (!(o5.2.1 == (List.getD lh2_4 (Int.toNat x99_4) 0) && o5.2.2 == o5.1)) (
       some (.r)
      ) (
       f15_4 m fuel x98_4 (w64 (x99_4 + 1)) xh0_0_4 xh0_1_4 xh0_2_4 lh1_4 lh2_4 lh3_4 lh4_4
      )
     ) none
   ) none
  ) (
   some (.x0 xh0_0_4 xh0_1_4 xh0_2_4 lh3_4)
  )

theorem f15_4_ok (m : Nat) : ∀ (fuel : Nat) (x98_4 : Int) (x99_4 : Int) (xh0_0_4 : Int) (xh0_1_4 : Int) (xh0_2_4 : Int) (lh1_4 : List Int) (lh2_4 : List Int) (lh3_4 : List Int) (lh4_4 : List (Int × Int)) (o : Of15_4), f15_4 m fuel x98_4 x99_4 xh0_0_4 xh0_1_4 xh0_2_4 lh1_4 lh2_4 lh3_4 lh4_4 = some o → ∀ Q : QP, (match o with | .r => Q .ret [(2, .bool false)] [] 0 | .x0 xh0_0_x04 xh0_1_x04 xh0_2_x04 lh1_x04 => Q (.exit 0) [(3, pp 0 0), (10, s0 1 lh1_x04.length)] [(1, rc (encI .i64) lh1_x04 0 3 1), (0, .cells [ii xh0_0_x04, ii xh0_1_x04, ii xh0_2_x04] 0 23 0)] 2) → XL E0 161 0 fuel f15_L4 [(3, pp 0 0), (4, s0 1 lh1_4.length), (5, s0 2 lh2_4.length), (10, s0 3 lh3_4.length), (97, s0 4 lh4_4.length), (98, ii x98_4), (99, ii x99_4)] [(4, rc encP lh4_4 0 63 2), (3, rc (encI .i64) lh3_4 0 3 1), (2, rc (encI .i64) lh2_4 0 3 1), (1, rc (encI .i64) lh1_4 0 3 1), (0, .cells [ii xh0_0_4, ii xh0_1_4, ii xh0_2_4] 0 23 0)] 5 Q
 | 0, x98_4, x99_4, xh0_0_4, xh0_1_4, xh0_2_4, lh1_4, lh2_4, lh3_4, lh4_4, o, h, Q, hQ => by cases h
 | fuel + 1, x98_4, x99_4, xh0_0_4, xh0_1_4, xh0_2_4, lh1_4, lh2_4, lh3_4, lh4_4, o, h, Q, hQ => by
  unfold f15_4 at h
  refine XL.succ E0_ok ?_
  refine XQ.seq E0_ok (by kernel_rfl) ?_
  refine XQ.region (by kernel_rfl) ?_
  refine XR.runS E0_ok 1 1 [(3, pp 0 0), (4, s0 1 lh1_4.length), (5, s0 2 lh2_4.length), (10, s0 3 lh3_4.length), (97, s0 4 lh4_4.length), (98, ii x98_4), (99, ii x99_4), (100, .bool (decide (x99_4 < x98_4)))] rfl (by kernel_rfl) ?_
  refine XR.done (by kernel_rfl) ?_
  show XQ _ _ _ _ _ _ _ _
  refine XQ.seq E0_ok (by kernel_rfl) ?_
  cases b1 : (decide (x99_4 < x98_4) : Bool) with
  | true =>
   have h := cT b1 h
   refine XQ.cond (s := (.tmp 100)) (b := true) (by kernel_rfl) (by kernel_rfl) (fun _ => ?_) (fun q => by cases q)
   refine XQ.skip (by kernel_rfl) ?_
   show XQ _ _ _ _ _ _ _ _
   refine XQ.seq E0_ok (by kernel_rfl) ?_
   refine XQ.block (id := 1) (by kernel_rfl) ?_
   refine XQ.seq E0_ok (by kernel_rfl) ?_
   refine XQ.region (by kernel_rfl) ?_
   refine XR.runS E0_ok 1 1 [(3, pp 0 0), (4, s0 1 lh1_4.length), (5, s0 2 lh2_4.length), (10, s0 3 lh3_4.length), (97, s0 4 lh4_4.length), (98, ii x98_4), (99, ii x99_4), (101, ii x99_4)] rfl (by kernel_rfl) ?_
   cases b2 : (inRow x99_4 lh4_4.length : Bool) with
   | false => cases (cF b2 h)
   | true =>
    have h := cT b2 h
    refine XR.rd E0_ok [3, 4, 5, 10, 97, 98, 99, 101, 102] rfl (v := pp 4 ((Int.toNat x99_4) * 2)) (v_idx (s := 2) (x := (src 161 (.tmp 97))) (y := (src 161 (.tmp 99))) (b := 4) (o := 0) (len := lh4_4.length) (cap := lh4_4.length) (ik := .i64) (i := x99_4) (off := (Int.toNat x99_4) * 2) (d := (some (path 12 102))) (by kernel_rfl) (by kernel_rfl) (by kernel_rfl) b2 (by omega)) (σ' := [(3, pp 0 0), (4, s0 1 lh1_4.length), (5, s0 2 lh2_4.length), (10, s0 3 lh3_4.length), (97, s0 4 lh4_4.length), (98, ii x98_4), (99, ii x99_4), (101, ii x99_4), (102, pp 4 ((Int.toNat x99_4) * 2))]) (by kernel_rfl) ?_
    refine XR.rd E0_ok [3, 4, 5, 10, 97, 98, 99, 101, 103] rfl (v := .agg #[ii ((List.getD lh4_4 (Int.toNat x99_4) (0, 0)).1), ii ((List.getD lh4_4 (Int.toNat x99_4) (0, 0)).2)]) (v_loadN encP_ok (x := (src 161 (.tmp 102))) (b := 4) (off := (Int.toNat x99_4) * 2) (xs := lh4_4) (fz := 0) (e := 63) (es := 2) (d := (some (path 12 103))) (by kernel_rfl) (by kernel_rfl) (by kernel_rfl) (Int.toNat x99_4) (0, 0) (by first | rfl | omega) (row_len (inRow_toNat b2) (by simp)) rfl) (σ' := [(3, pp 0 0), (4, s0 1 lh1_4.length), (5, s0 2 lh2_4.length), (10, s0 3 lh3_4.length), (97, s0 4 lh4_4.length), (98, ii x98_4), (99, ii x99_4), (101, ii x99_4), (103, .agg #[ii ((List.getD lh4_4 (Int.toNat x99_4) (0, 0)).1), ii ((List.getD lh4_4 (Int.toNat x99_4) (0, 0)).2)])]) (by kernel_rfl) ?_
    refine XR.runT E0_ok 1 3 [(3, pp 0 0), (4, s0 1 lh1_4.length), (5, s0 2 lh2_4.length), (10, s0 3 lh3_4.length), (12, ii x99_4), (13, pp 5 0), (97, s0 4 lh4_4.length), (98, ii x98_4), (99, ii x99_4)] [(5, .cells [ii ((List.getD lh4_4 (Int.toNat x99_4) (0, 0)).1), ii ((List.getD lh4_4 (Int.toNat x99_4) (0, 0)).2)] 0 63 0), (4, rc encP lh4_4 0 63 2), (3, rc (encI .i64) lh3_4 0 3 1), (2, rc (encI .i64) lh2_4 0 3 1), (1, rc (encI .i64) lh1_4 0 3 1), (0, .cells [ii xh0_0_4, ii xh0_1_4, ii xh0_2_4] 0 23 0)] 6 rfl (by kernel_rfl) ?_
    refine XR.done (by kernel_rfl) ?_
    show XQ _ _ _ _ _ _ _ _
    refine XQ.seq E0_ok (by kernel_rfl) ?_
    refine XQ.region (by kernel_rfl) ?_
    refine XR.runS E0_ok 1 1 [(3, pp 0 0), (4, s0 1 lh1_4.length), (5, s0 2 lh2_4.length), (10, s0 3 lh3_4.length), (12, ii x99_4), (13, pp 5 0), (14, ii 0), (97, s0 4 lh4_4.length), (98, ii x98_4), (99, ii x99_4)] rfl (by kernel_rfl) ?_
    refine XR.done (by kernel_rfl) ?_
    show XQ _ _ _ _ _ _ _ _
    refine XQ.seq E0_ok (by kernel_rfl) ?_
    refine XQ.seq E0_ok (by kernel_rfl) ?_
    refine XQ.region (by kernel_rfl) ?_
    refine XR.runS E0_ok 1 3 [(3, pp 0 0), (4, s0 1 lh1_4.length), (5, s0 2 lh2_4.length), (10, s0 3 lh3_4.length), (12, ii x99_4), (13, pp 5 0), (14, ii 0), (97, s0 4 lh4_4.length), (98, ii x98_4), (99, ii x99_4), (104, s0 1 lh1_4.length), (105, ii ((lh1_4.length : Nat) : Int)), (106, ii 0)] rfl (by kernel_rfl) ?_
    refine XR.done (by kernel_rfl) ?_
    show XQ _ _ _ _ _ _ _ _
    refine XQ.block (id := 2) (by kernel_rfl) ?_
    refine XQ.loop m (by kernel_rfl) ?_
    obtain ⟨o5, o5_h, h⟩ := bS h
    refine XL.ren (σ' := [(3, pp 0 0), (4, s0 1 lh1_4.length), (5, s0 2 lh2_4.length), (10, s0 3 lh3_4.length), (12, ii x99_4), (13, pp 4 0), (14, ii 0), (97, s0 5 lh4_4.length), (98, ii x98_4), (99, ii x99_4), (104, s0 1 lh1_4.length), (105, ii ((lh1_4.length : Nat) : Int)), (106, ii 0)]) (h' := [(5, rc encP lh4_4 0 63 2), (4, .cells [ii ((List.getD lh4_4 (Int.toNat x99_4) (0, 0)).1), ii ((List.getD lh4_4 (Int.toNat x99_4) (0, 0)).2)] 0 63 0), (3, rc (encI .i64) lh3_4 0 3 1), (2, rc (encI .i64) lh2_4 0 3 1), (1, rc (encI .i64) lh1_4 0 3 1), (0, .cells [ii xh0_0_4, ii xh0_1_4, ii xh0_2_4] 0 23 0)]) (c' := 6) [0, 1, 2, 3, 5, 4] (by decide) rfl ⟨by kernel_rfl, by kernel_rfl, by kernel_rfl, by kernel_rfl, by kernel_rfl, by kernel_rfl, by kernel_rfl, by kernel_rfl, by kernel_rfl, by kernel_rfl, by kernel_rfl, by kernel_rfl, by kernel_rfl, trivial⟩ ⟨⟨_, _, rfl, rfl, .inl ⟨rfl, rowC_scal encP_ok _⟩⟩, ⟨_, _, rfl, rfl, .inr ⟨_, _, _, _, rfl, rfl⟩⟩, ⟨_, _, rfl, rfl, .inl ⟨rfl, rowC_scal (encI_ok .i64) _⟩⟩, ⟨_, _, rfl, rfl, .inl ⟨rfl, rowC_scal (encI_ok .i64) _⟩⟩, ⟨_, _, rfl, rfl, .inl ⟨rfl, rowC_scal (encI_ok .i64) _⟩⟩, ⟨_, _, rfl, rfl, .inr ⟨_, _, _, _, rfl, rfl⟩⟩, trivial⟩ rfl ?_
    refine XL.conv (f15_5_ok m m x98_4 x99_4 xh0_0_4 xh0_1_4 xh0_2_4 lh1_4 lh2_4 lh3_4 lh4_4 0 ((lh1_4.length : Nat) : Int) 0 ((List.getD lh4_4 (Int.toNat x99_4) (0, 0)).1) ((List.getD lh4_4 (Int.toNat x99_4) (0, 0)).2) o5 o5_h _ ?_) (by first | rfl | simp)
    show XQ _ _ _ _ _ _ _ _
    refine XQ.seq E0_ok (by kernel_rfl) ?_
    refine XQ.quiet E0_ok (by kernel_rfl) (by kernel_rfl) ?_
    refine XU.run E0_ok 1 3 [3, 4, 5, 10, 14, 97, 98, 99, 119, 120, 121] rfl (σ' := [(3, pp 0 0), (4, s0 1 lh1_4.length), (5, s0 2 lh2_4.length), (10, s0 3 lh3_4.length), (14, ii o5.1), (97, s0 5 lh4_4.length), (98, ii x98_4), (99, ii x99_4), (119, .agg #[ii o5.2.1, ii o5.2.2]), (120, s0 2 lh2_4.length), (121, ii x99_4)]) (by kernel_rfl) ?_
    cases b4 : (inRow x99_4 lh2_4.length : Bool) with
    | false => cases (cF b4 h)
    | true =>
     have h := cT b4 h
     refine XU.rd E0_ok [3, 4, 5, 10, 14, 97, 98, 99, 119, 122] rfl (v := pp 2 ((Int.toNat x99_4) * 1)) (v_idx (s := 1) (x := (src 161 (.tmp 120))) (y := (src 161 (.tmp 121))) (b := 2) (o := 0) (len := lh2_4.length) (cap := lh2_4.length) (ik := .i64) (i := x99_4) (off := (Int.toNat x99_4) * 1) (d := (some (path 12 122))) (by kernel_rfl) (by kernel_rfl) (by kernel_rfl) b4 (by omega)) (σ' := [(3, pp 0 0), (4, s0 1 lh1_4.length), (5, s0 2 lh2_4.length), (10, s0 3 lh3_4.length), (14, ii o5.1), (97, s0 5 lh4_4.length), (98, ii x98_4), (99, ii x99_4), (119, .agg #[ii o5.2.1, ii o5.2.2]), (122, pp 2 ((Int.toNat x99_4) * 1))]) (by kernel_rfl) ?_
     refine XU.rd E0_ok [3, 4, 5, 10, 14, 97, 98, 99, 119, 123] rfl (v := ii (List.getD lh2_4 (Int.toNat x99_4) 0)) (v_load1 (encI_ok .i64) (x := (src 161 (.tmp 122))) (b := 2) (off := (Int.toNat x99_4) * 1) (xs := lh2_4) (fz := 0) (e := 3) (es := 1) (d := (some (path 12 123))) (by kernel_rfl) (by kernel_rfl) (by kernel_rfl) (Int.toNat x99_4) 0 0 (by first | rfl | omega) (row_len (inRow_toNat b4) (by simp)) rfl rfl) (σ' := [(3, pp 0 0), (4, s0 1 lh1_4.length), (5, s0 2 lh2_4.length), (10, s0 3 lh3_4.length), (14, ii o5.1), (97, s0 5 lh4_4.length), (98, ii x98_4), (99, ii x99_4), (119, .agg #[ii o5.2.1, ii o5.2.2]), (123, ii (List.getD lh2_4 (Int.toNat x99_4) 0))]) (by kernel_rfl) ?_
     refine XU.run E0_ok 1 3 [3, 4, 5, 10, 97, 98, 99, 126] rfl (σ' := [(3, pp 0 0), (4, s0 1 lh1_4.length), (5, s0 2 lh2_4.length), (10, s0 3 lh3_4.length), (97, s0 5 lh4_4.length), (98, ii x98_4), (99, ii x99_4), (126, .bool (!(o5.2.1 == (List.getD lh2_4 (Int.toNat x99_4) 0) && o5.2.2 == o5.1)))]) (by kernel_rfl) ?_
     refine XU.done (by kernel_rfl) ?_
     show XQ _ _ _ _ _ _ _ _
     cases b5 : (!(o5.2.1 == (List.getD lh2_4 (Int.toNat x99_4) 0) && o5.2.2 == o5.1) : Bool) with
     | true =>
      have h := cT b5 h
      refine XQ.cond (s := (.tmp 126)) (b := true) (by kernel_rfl) (by kernel_rfl) (fun _ => ?_) (fun q => by cases q)
      refine XQ.seq E0_ok (by kernel_rfl) ?_
      refine XQ.region (by kernel_rfl) ?_
      refine XR.runS E0_ok 1 1 [(2, .bool false)] rfl (by kernel_rfl) ?_
      refine XR.done (by kernel_rfl) ?_
      show XQ _ _ _ _ _ _ _ _
      refine XQ.ren (σ' := [(2, .bool false)]) (h' := []) (c' := 0) [] (by decide) rfl ⟨by kernel_rfl, trivial⟩ trivial rfl ?_
      refine XQ.ret (by kernel_rfl) ?_
      cases h
      exact hQ
     | false =>
      have h := cF b5 h
      refine XQ.cond (s := (.tmp 126)) (b := false) (by kernel_rfl) (by kernel_rfl) (fun q => by cases q) (fun _ => ?_)
      refine XQ.skip (by kernel_rfl) ?_
      show XQ _ _ _ _ _ _ _ _
      refine XQ.region (by kernel_rfl) ?_
      refine XR.runS E0_ok 1 2 [(3, pp 0 0), (4, s0 1 lh1_4.length), (5, s0 2 lh2_4.length), (10, s0 3 lh3_4.length), (97, s0 5 lh4_4.length), (98, ii x98_4), (99, ii (w64 (x99_4 + 1)))] rfl (by kernel_rfl) ?_
      refine XR.done (by kernel_rfl) ?_
      show XL _ _ _ _ _ _ _ _ _
      refine XL.ren (σ' := [(3, pp 0 0), (4, s0 1 lh1_4.length), (5, s0 2 lh2_4.length), (10, s0 3 lh3_4.length), (97, s0 4 lh4_4.length), (98, ii x98_4), (99, ii (w64 (x99_4 + 1)))]) (h' := [(4, rc encP lh4_4 0 63 2), (3, rc (encI .i64) lh3_4 0 3 1), (2, rc (encI .i64) lh2_4 0 3 1), (1, rc (encI .i64) lh1_4 0 3 1), (0, .cells [ii xh0_0_4, ii xh0_1_4, ii xh0_2_4] 0 23 0)]) (c' := 5) [0, 1, 2, 3, 5] (by decide) rfl ⟨by kernel_rfl, by kernel_rfl, by kernel_rfl, by kernel_rfl, by kernel_rfl, by kernel_rfl, by kernel_rfl, trivial⟩ ⟨⟨_, _, rfl, rfl, .inl ⟨rfl, rowC_scal encP_ok _⟩⟩, ⟨_, _, rfl, rfl, .inl ⟨rfl, rowC_scal (encI_ok .i64) _⟩⟩, ⟨_, _, rfl, rfl, .inl ⟨rfl, rowC_scal (encI_ok .i64) _⟩⟩, ⟨_, _, rfl, rfl, .inl ⟨rfl, rowC_scal (encI_ok .i64) _⟩⟩, ⟨_, _, rfl, rfl, .inr ⟨_, _, _, _, rfl, rfl⟩⟩, trivial⟩ rfl ?_
      refine XL.conv (f15_4_ok m fuel x98_4 (w64 (x99_4 + 1)) xh0_0_4 xh0_1_4 xh0_2_4 lh1_4 lh2_4 lh3_4 lh4_4 o h Q hQ) (by first | rfl | simp)
  | false =>
   have h := cF b1 h
   refine XQ.cond (s := (.tmp 100)) (b := false) (by kernel_rfl) (by kernel_rfl) (fun q => by cases q) (fun _ => ?_)
   refine XQ.ren (σ' := [(3, pp 0 0), (10, s0 1 lh3_4.length)]) (h' := [(1, rc (encI .i64) lh3_4 0 3 1), (0, .cells [ii xh0_0_4, ii xh0_1_4, ii xh0_2_4] 0 23 0)]) (c' := 2) [0, 3] (by decide) rfl ⟨by kernel_rfl, by kernel_rfl, trivial⟩ ⟨⟨_, _, rfl, rfl, .inl ⟨rfl, rowC_scal (encI_ok .i64) _⟩⟩, ⟨_, _, rfl, rfl, .inr ⟨_, _, _, _, rfl, rfl⟩⟩, trivial⟩ rfl ?_
   refine XQ.exit (i := 0) (by kernel_rfl) ?_
   cases h
   exact hQ

inductive Of15_6 where
 | r
 | x4

def f15_6 (m : Nat) : Nat → Int → Int → Int → List Int → Int → Int → Option Of15_6
 | 0, _, _, _, _, _, _ => none
 | fuel + 1, xh0_0_x04, xh0_1_x04, xh0_2_x04, lh1_x04, x129_6, x130_6 =>
  cond (decide (x130_6 < x129_6)) (
   cond (inRow x130_6 lh1_x04.length) (
    cond (decide ((List.getD lh1_x04 (Int.toNat x130_6) 0) < 1)) (
     some (.r)
    ) (
     (f47 m xh0_0_x04 xh0_1_x04).bind fun r19 =>
      cond (decide ((List.getD lh1_x04 (Int.toNat x130_6) 0) > r19)) (
       some (.r)
      ) (
       cond (decide (x130_6 > 0)) (
        cond (inRow (w64 (x130_6 - 1)) lh1_x04.length) (
         cond (decide ((List.getD lh1_x04 (Int.toNat x130_6) 0) ≤ (List.getD lh1_x04 (Int.toNat (w64 (x130_6 - 1))) 0))) (
          some (.r)
         ) (
          f15_6 m fuel xh0_0_x04 xh0_1_x04 xh0_2_x04 lh1_x04 x129_6 (w64 (x130_6 + 1))
         )
        ) none
       ) (
        f15_6 m fuel xh0_0_x04 xh0_1_x04 xh0_2_x04 lh1_x04 x129_6 (w64 (x130_6 + 1))
       )
      )
    )
   ) none
  ) (
   some (.x4)
  )

theorem f15_6_ok (m : Nat) : ∀ (fuel : Nat) (xh0_0_x04 : Int) (xh0_1_x04 : Int) (xh0_2_x04 : Int) (lh1_x04 : List Int) (x129_6 : Int) (x130_6 : Int) (o : Of15_6), f15_6 m fuel xh0_0_x04 xh0_1_x04 xh0_2_x04 lh1_x04 x129_6 x130_6 = some o → ∀ Q : QP, (match o with | .r => Q .ret [(2, .bool false)] [] 0 | .x4 => Q (.exit 4) [] [] 0) → XL E0 161 0 fuel f15_L6 [(3, pp 0 0), (10, s0 1 lh1_x04.length), (128, s0 1 lh1_x04.length), (129, ii x129_6), (130, ii x130_6)] [(1, rc (encI .i64) lh1_x04 0 3 1), (0, .cells [ii xh0_0_x04, ii xh0_1_x04, ii xh0_2_x04] 0 23 0)] 2 Q
 | 0, xh0_0_x04, xh0_1_x04, xh0_2_x04, lh1_x04, x129_6, x130_6, o, h, Q, hQ => by cases h
 | fuel + 1, xh0_0_x04, xh0_1_x04, xh0_2_x04, lh1_x04, x129_6, x130_6, o, h, Q, hQ => by
  unfold f15_6 at h
  refine XL.succ E0_ok ?_
  refine XQ.seq E0_ok (by kernel_rfl) ?_
  refine XQ.region (by kernel_rfl) ?_
  refine XR.runS E0_ok 1 1 [(3, pp 0 0), (10, s0 1 lh1_x04.length), (128, s0 1 lh1_x04.length), (129, ii x129_6), (130, ii x130_6), (131, .bool (decide (x130_6 < x129_6)))] rfl (by kernel_rfl) ?_
  refine XR.done (by kernel_rfl) ?_
  show XQ _ _ _ _ _ _ _ _
  refine XQ.seq E0_ok (by kernel_rfl) ?_
  cases b1 : (decide (x130_6 < x129_6) : Bool) with
  | true =>
   have h := cT b1 h
   refine XQ.cond (s := (.tmp 131)) (b := true) (by kernel_rfl) (by kernel_rfl) (fun _ => ?_) (fun q => by cases q)
   refine XQ.skip (by kernel_rfl) ?_
   show XQ _ _ _ _ _ _ _ _
   refine XQ.seq E0_ok (by kernel_rfl) ?_
   refine XQ.block (id := 5) (by kernel_rfl) ?_
   refine XQ.seq E0_ok (by kernel_rfl) ?_
   refine XQ.region (by kernel_rfl) ?_
   refine XR.runS E0_ok 1 1 [(3, pp 0 0), (10, s0 1 lh1_x04.length), (128, s0 1 lh1_x04.length), (129, ii x129_6), (130, ii x130_6), (132, ii x130_6)] rfl (by kernel_rfl) ?_
   cases b2 : (inRow x130_6 lh1_x04.length : Bool) with
   | false => cases (cF b2 h)
   | true =>
    have h := cT b2 h
    refine XR.rd E0_ok [3, 10, 128, 129, 130, 132, 133] rfl (v := pp 1 ((Int.toNat x130_6) * 1)) (v_idx (s := 1) (x := (src 161 (.tmp 128))) (y := (src 161 (.tmp 130))) (b := 1) (o := 0) (len := lh1_x04.length) (cap := lh1_x04.length) (ik := .i64) (i := x130_6) (off := (Int.toNat x130_6) * 1) (d := (some (path 12 133))) (by kernel_rfl) (by kernel_rfl) (by kernel_rfl) b2 (by omega)) (σ' := [(3, pp 0 0), (10, s0 1 lh1_x04.length), (128, s0 1 lh1_x04.length), (129, ii x129_6), (130, ii x130_6), (132, ii x130_6), (133, pp 1 ((Int.toNat x130_6) * 1))]) (by kernel_rfl) ?_
    refine XR.rd E0_ok [3, 10, 128, 129, 130, 132, 134] rfl (v := ii (List.getD lh1_x04 (Int.toNat x130_6) 0)) (v_load1 (encI_ok .i64) (x := (src 161 (.tmp 133))) (b := 1) (off := (Int.toNat x130_6) * 1) (xs := lh1_x04) (fz := 0) (e := 3) (es := 1) (d := (some (path 12 134))) (by kernel_rfl) (by kernel_rfl) (by kernel_rfl) (Int.toNat x130_6) 0 0 (by first | rfl | omega) (row_len (inRow_toNat b2) (by simp)) rfl rfl) (σ' := [(3, pp 0 0), (10, s0 1 lh1_x04.length), (128, s0 1 lh1_x04.length), (129, ii x129_6), (130, ii x130_6), (132, ii x130_6), (134, ii (List.getD lh1_x04 (Int.toNat x130_6) 0))]) (by kernel_rfl) ?_
    refine XR.runS E0_ok 1 2 [(3, pp 0 0), (10, s0 1 lh1_x04.length), (17, ii x130_6), (18, ii (List.getD lh1_x04 (Int.toNat x130_6) 0)), (128, s0 1 lh1_x04.length), (129, ii x129_6), (130, ii x130_6)] rfl (by kernel_rfl) ?_
    refine XR.done (by kernel_rfl) ?_
    show XQ _ _ _ _ _ _ _ _
    refine XQ.seq E0_ok (by kernel_rfl) ?_
    refine XQ.region (by kernel_rfl) ?_
    refine XR.runS E0_ok 1 3 [(3, pp 0 0), (10, s0 1 lh1_x04.length), (17, ii x130_6), (18, ii (List.getD lh1_x04 (Int.toNat x130_6) 0)), (128, s0 1 lh1_x04.length), (129, ii x129_6), (130, ii x130_6), (137, .bool (decide ((List.getD lh1_x04 (Int.toNat x130_6) 0) < 1)))] rfl (by kernel_rfl) ?_
    cases b3 : (decide ((List.getD lh1_x04 (Int.toNat x130_6) 0) < 1) : Bool) with
    | true =>
     have h := cT b3 h
     refine XR.runS E0_ok 1 21 [(3, pp 0 0), (10, s0 1 lh1_x04.length), (128, s0 1 lh1_x04.length), (129, ii x129_6), (130, ii x130_6), (158, .bool true)] rfl (by kernel_rfl) ?_
     refine XR.done (by kernel_rfl) ?_
     show XQ _ _ _ _ _ _ _ _
     refine XQ.cond (s := (.tmp 158)) (b := true) (by kernel_rfl) (by kernel_rfl) (fun _ => ?_) (fun q => by cases q)
     refine XQ.seq E0_ok (by kernel_rfl) ?_
     refine XQ.region (by kernel_rfl) ?_
     refine XR.runS E0_ok 1 1 [(2, .bool false)] rfl (by kernel_rfl) ?_
     refine XR.done (by kernel_rfl) ?_
     show XQ _ _ _ _ _ _ _ _
     refine XQ.ren (σ' := [(2, .bool false)]) (h' := []) (c' := 0) [] (by decide) rfl ⟨by kernel_rfl, trivial⟩ trivial rfl ?_
     refine XQ.ret (by kernel_rfl) ?_
     cases h
     exact hQ
    | false =>
     have h := cF b3 h
     refine XR.runS E0_ok 1 5 [(3, pp 0 0), (10, s0 1 lh1_x04.length), (17, ii x130_6), (18, ii (List.getD lh1_x04 (Int.toNat x130_6) 0)), (128, s0 1 lh1_x04.length), (129, ii x129_6), (130, ii x130_6), (137, .bool false), (138, ii (List.getD lh1_x04 (Int.toNat x130_6) 0)), (140, ii xh0_0_x04), (142, ii xh0_1_x04)] rfl (by kernel_rfl) ?_
     obtain ⟨r19, r19_h, h⟩ := bS h
     refine XR.call E0_ok [3, 10, 17, 18, 128, 129, 130, 137, 138, 143] rfl (K := 47) (args := [ii xh0_0_x04, ii xh0_1_x04]) (d := (some (path 12 143))) (by kernel_rfl) (KC.of_calls E0_ok (F := Proofs.Try.f47) (v := ii r19) (by kernel_rfl) rfl rfl (fun w hI => f47_ok m xh0_0_x04 xh0_1_x04 r19 r19_h w hI)) ?_
     rintro _ _ _ ⟨rfl, rfl, rfl⟩
     refine XR.conv (σ' := [(3, pp 0 0), (10, s0 1 lh1_x04.length), (17, ii x130_6), (18, ii (List.getD lh1_x04 (Int.toNat x130_6) 0)), (128, s0 1 lh1_x04.length), (129, ii x129_6), (130, ii x130_6), (137, .bool false), (138, ii (List.getD lh1_x04 (Int.toNat x130_6) 0)), (143, ii r19)]) (h' := [(1, rc (encI .i64) lh1_x04 0 3 1), (0, .cells [ii xh0_0_x04, ii xh0_1_x04, ii xh0_2_x04] 0 23 0)]) (c' := 2) ?_ (by kernel_rfl)
     refine XR.runS E0_ok 1 3 [(3, pp 0 0), (10, s0 1 lh1_x04.length), (17, ii x130_6), (18, ii (List.getD lh1_x04 (Int.toNat x130_6) 0)), (128, s0 1 lh1_x04.length), (129, ii x129_6), (130, ii x130_6), (146, .bool (decide ((List.getD lh1_x04 (Int.toNat x130_6) 0) > r19)))] rfl (by kernel_rfl) ?_
     cases b4 : (decide ((List.getD lh1_x04 (Int.toNat x130_6) 0) > r19) : Bool) with
     | true =>
      have h := cT b4 h
      refine XR.runS E0_ok 1 12 [(3, pp 0 0), (10, s0 1 lh1_x04.length), (128, s0 1 lh1_x04.length), (129, ii x129_6), (130, ii x130_6), (158, .bool true)] rfl (by kernel_rfl) ?_
      refine XR.done (by kernel_rfl) ?_
      show XQ _ _ _ _ _ _ _ _
      refine XQ.cond (s := (.tmp 158)) (b := true) (by kernel_rfl) (by kernel_rfl) (fun _ => ?_) (fun q => by cases q)
      refine XQ.seq E0_ok (by kernel_rfl) ?_
      refine XQ.region (by kernel_rfl) ?_
      refine XR.runS E0_ok 1 1 [(2, .bool false)] rfl (by kernel_rfl) ?_
      refine XR.done (by kernel_rfl) ?_
      show XQ _ _ _ _ _ _ _ _
      refine XQ.ren (σ' := [(2, .bool false)]) (h' := []) (c' := 0) [] (by decide) rfl ⟨by kernel_rfl, trivial⟩ trivial rfl ?_
      refine XQ.ret (by kernel_rfl) ?_
      cases h
      exact hQ
     | false =>
      have h := cF b4 h
      refine XR.runS E0_ok 1 3 [(3, pp 0 0), (10, s0 1 lh1_x04.length), (17, ii x130_6), (18, ii (List.getD lh1_x04 (Int.toNat x130_6) 0)), (128, s0 1 lh1_x04.length), (129, ii x129_6), (130, ii x130_6), (146, .bool false), (149, .bool (decide (x130_6 > 0)))] rfl (by kernel_rfl) ?_
      cases b5 : (decide (x130_6 > 0) : Bool) with
      | true =>
       have h := cT b5 h
       refine XR.runS E0_ok 1 4 [(3, pp 0 0), (10, s0 1 lh1_x04.length), (128, s0 1 lh1_x04.length), (129, ii x129_6), (130, ii x130_6), (146, .bool false), (149, .bool true), (150, ii (List.getD lh1_x04 (Int.toNat x130_6) 0)), (151, s0 1 lh1_x04.length), (153, ii (w64 (x130_6 - 1)))] rfl (by kernel_rfl) ?_
       cases b6 : (inRow (w64 (x130_6 - 1)) lh1_x04.length : Bool) with
       | false => cases (cF b6 h)
       | true =>
        have h := cT b6 h
        refine XR.rd E0_ok [3, 10, 128, 129, 130, 146, 149, 150, 154] rfl (v := pp 1 ((Int.toNat (w64 (x130_6 - 1))) * 1)) (v_idx (s := 1) (x := (src 161 (.tmp 151))) (y := (src 161 (.tmp 153))) (b := 1) (o := 0) (len := lh1_x04.length) (cap := lh1_x04.length) (ik := .i64) (i := w64 (x130_6 - 1)) (off := (Int.toNat (w64 (x130_6 - 1))) * 1) (d := (some (path 12 154))) (by kernel_rfl) (by kernel_rfl) (by kernel_rfl) b6 (by omega)) (σ' := [(3, pp 0 0), (10, s0 1 lh1_x04.length), (128, s0 1 lh1_x04.length), (129, ii x129_6), (130, ii x130_6), (146, .bool false), (149, .bool true), (150, ii (List.getD lh1_x04 (Int.toNat x130_6) 0)), (154, pp 1 ((Int.toNat (w64 (x130_6 - 1))) * 1))]) (by kernel_rfl) ?_
        refine XR.rd E0_ok [3, 10, 128, 129, 130, 146, 149, 150, 155] rfl (v := ii (List.getD lh1_x04 (Int.toNat (w64 (x130_6 - 1))) 0)) (v_load1 (encI_ok .i64) (x := (src 161 (.tmp 154))) (b := 1) (off := (Int.toNat (w64 (x130_6 - 1))) * 1) (xs := lh1_x04) (fz := 0) (e := 3) (es := 1) (d := (some (path 12 155))) (by kernel_rfl) (by kernel_rfl) (by kernel_rfl) (Int.toNat (w64 (x130_6 - 1))) 0 0 (by first | rfl | omega) (row_len (inRow_toNat b6) (by simp)) rfl rfl) (σ' := [(3, pp 0 0), (10, s0 1 lh1_x04.length), (128, s0 1 lh1_x04.length), (129, ii x129_6), (130, ii x130_6), (146, .bool false), (149, .bool true), (150, ii (List.getD lh1_x04 (Int.toNat x130_6) 0)), (155, ii (List.getD lh1_x04 (Int.toNat (w64 (x130_6 - 1))) 0))]) (by kernel_rfl) ?_
        refine XR.runS E0_ok 1 3 [(3, pp 0 0), (10, s0 1 lh1_x04.length), (128, s0 1 lh1_x04.length), (129, ii x129_6), (130, ii x130_6), (158, .bool (decide ((List.getD lh1_x04 (Int.toNat x130_6) 0) ≤ (List.getD lh1_x04 (Int.toNat (w64 (x130_6 - 1))) 0))))] rfl (by kernel_rfl) ?_
        refine XR.done (by kernel_rfl) ?_
        show XQ _ _ _ _ _ _ _ _
        cases b7 : (decide ((List.getD lh1_x04 (Int.toNat x130_6) 0) ≤ (List.getD lh1_x04 (Int.toNat (w64 (x130_6 - 1))) 0)) : Bool) with
        | true =>
         have h := cT b7 h
         refine XQ.cond (s := (.tmp 158)) (b := true) (by kernel_rfl) (by kernel_rfl) (fun _ => ?_) (fun q => by cases q)
         refine XQ.seq E0_ok (by kernel_rfl) ?_
         refine XQ.region (by kernel_rfl) ?_
         refine XR.runS E0_ok 1 1 [(2, .bool false)] rfl (by kernel_rfl) ?_
         refine XR.done (by kernel_rfl) ?_
         show XQ _ _ _ _ _ _ _ _
         refine XQ.ren (σ' := [(2, .bool false)]) (h' := []) (c' := 0) [] (by decide) rfl ⟨by kernel_rfl, trivial⟩ trivial rfl ?_
         refine XQ.ret (by kernel_rfl) ?_
         cases h
         exact hQ
        | false =>
         have h := cF b7 h
         refine XQ.cond (s := (.tmp 158)) (b := false) (by kernel_rfl) (by kernel_rfl) (fun q => by cases q) (fun _ => ?_)
         refine XQ.skip (by kernel_rfl) ?_
         show XQ _ _ _ _ _ _ _ _
         refine XQ.region (by kernel_rfl) ?_
         refine XR.runS E0_ok 1 2 [(3, pp 0 0), (10, s0 1 lh1_x04.length), (128, s0 1 lh1_x04.length), (129, ii x129_6), (130, ii (w64 (x130_6 + 1)))] rfl (by kernel_rfl) ?_
         refine XR.done (by kernel_rfl) ?_
         show XL _ _ _ _ _ _ _ _ _
         refine XL.ren (σ' := [(3, pp 0 0), (10, s0 1 lh1_x04.length), (128, s0 1 lh1_x04.length), (129, ii x129_6), (130, ii (w64 (x130_6 + 1)))]) (h' := [(1, rc (encI .i64) lh1_x04 0 3 1), (0, .cells [ii xh0_0_x04, ii xh0_1_x04, ii xh0_2_x04] 0 23 0)]) (c' := 2) [0, 1] (by decide) rfl ⟨by kernel_rfl, by kernel_rfl, by kernel_rfl, by kernel_rfl, by kernel_rfl, trivial⟩ ⟨⟨_, _, rfl, rfl, .inl ⟨rfl, rowC_scal (encI_ok .i64) _⟩⟩, ⟨_, _, rfl, rfl, .inr ⟨_, _, _, _, rfl, rfl⟩⟩, trivial⟩ rfl ?_
         refine XL.conv (f15_6_ok m fuel xh0_0_x04 xh0_1_x04 xh0_2_x04 lh1_x04 x129_6 (w64 (x130_6 + 1)) o h Q hQ) (by first | rfl | simp)
      | false =>
       have h := cF b5 h
       refine XR.runS E0_ok 1 9 [(3, pp 0 0), (10, s0 1 lh1_x04.length), (128, s0 1 lh1_x04.length), (129, ii x129_6), (130, ii x130_6), (158, .bool false)] rfl (by kernel_rfl) ?_
       refine XR.done (by kernel_rfl) ?_
       show XQ _ _ _ _ _ _ _ _
       refine XQ.cond (s := (.tmp 158)) (b := false) (by kernel_rfl) (by kernel_rfl) (fun q => by cases q) (fun _ => ?_)
       refine XQ.skip (by kernel_rfl) ?_
       show XQ _ _ _ _ _ _ _ _
       refine XQ.region (by kernel_rfl) ?_
       refine XR.runS E0_ok 1 2 [(3, pp 0 0), (10, s0 1 lh1_x04.length), (128, s0 1 lh1_x04.length), (129, ii x129_6), (130, ii (w64 (x130_6 + 1)))] rfl (by kernel_rfl) ?_
       refine XR.done (by kernel_rfl) ?_
       show XL _ _ _ _ _ _ _ _ _
       refine XL.ren (σ' := [(3, pp 0 0), (10, s0 1 lh1_x04.length), (128, s0 1 lh1_x04.length), (129, ii x129_6), (130, ii (w64 (x130_6 + 1)))]) (h' := [(1, rc (encI .i64) lh1_x04 0 3 1), (0, .cells [ii xh0_0_x04, ii xh0_1_x04, ii xh0_2_x04] 0 23 0)]) (c' := 2) [0, 1] (by decide) rfl ⟨by kernel_rfl, by kernel_rfl, by kernel_rfl, by kernel_rfl, by kernel_rfl, trivial⟩ ⟨⟨_, _, rfl, rfl, .inl ⟨rfl, rowC_scal (encI_ok .i64) _⟩⟩, ⟨_, _, rfl, rfl, .inr ⟨_, _, _, _, rfl, rfl⟩⟩, trivial⟩ rfl ?_
       refine XL.conv (f15_6_ok m fuel xh0_0_x04 xh0_1_x04 xh0_2_x04 lh1_x04 x129_6 (w64 (x130_6 + 1)) o h Q hQ) (by first | rfl | simp)
  | false =>
   have h := cF b1 h
   refine XQ.cond (s := (.tmp 131)) (b := false) (by kernel_rfl) (by kernel_rfl) (fun q => by cases q) (fun _ => ?_)
   refine XQ.ren (σ' := []) (h' := []) (c' := 0) [] (by decide) rfl trivial trivial rfl ?_
   refine XQ.exit (i := 4) (by kernel_rfl) ?_
   cases h
   exact hQ

def f15 (m : Nat) (a_Marks : Int) (a_Step : Int) (a_Turns : Int) : Option (Bool) :=
 (f45 m a_Marks a_Step a_Turns 100).bind fun r1 =>
  (f56 m r1.1 r1.2.1 r1.2.2).bind fun r2 =>
   (f57 m r2).bind fun r3 =>
    cond (decide (((r3.length : Nat) : Int) > 3)) (
     some (false)
    ) (
     cond (((r3.length : Nat) : Int) == 3) (
      cond (inRow 2 r3.length) (
       cond (inRow 0 r3.length) (
        cond (inRow 1 r3.length) (
         cond ((List.getD r3 2 0) != (w64 ((List.getD r3 0 0) + (List.getD r3 1 0)))) (
          some (false)
         ) (
          (f31 m r1.1 r1.2.1 r1.2.2).bind fun r4 =>
           (f33 m r1.1 r1.2.1 r1.2.2).bind fun r5 =>
            (f37 m r1.1 r1.2.1).bind fun r6 =>
             cond (r4.2 != 0) (
              some (false)
             ) (
              cond (r5.2 != 0) (
               some (false)
              ) (
               cond (r6.2 != 0) (
                some (false)
               ) (
                (f35 m r4.1 r2).bind fun r7 =>
                 cond (!r7) (
                  some (false)
                 ) (
                  cond (((r5.1.length : Nat) : Int) != ((r3.length : Nat) : Int)) (
                   some (false)
                  ) (
                   (f58 m r6.1 r1.2.2).bind fun r8 =>
                    cond (!(r8 == (decide (((r3.length : Nat) : Int) < 3)))) (
                     some (false)
                    ) (
                     (f15_1 m m ((r5.1.length : Nat) : Int) 0 r1.1 r1.2.1 r1.2.2 r2 r3 r6.1 r5.1).bind fun o1 =>
                      match o1 with
                      | .r =>
                       some (false)
                      | .x0 xh0_0_x01 xh0_1_x01 xh0_2_x01 lh1_x01 =>
                       (f15_3 m m xh0_0_x01 xh0_1_x01 xh0_2_x01 lh1_x01 ((lh1_x01.length : Nat) : Int) 0).bind fun o3 =>
                        match o3 with
                        | .r =>
                         some (false)
                        | .x4 =>
                         some (true)
                    )
                  )
                 )
               )
              )
             )
         )
        ) none
       ) none
      ) none
     ) (
      (f31 m r1.1 r1.2.1 r1.2.2).bind fun r12 =>
       (f33 m r1.1 r1.2.1 r1.2.2).bind fun r13 =>
        (f37 m r1.1 r1.2.1).bind fun r14 =>
         cond (r12.2 != 0) (
          some (false)
         ) (
          cond (r13.2 != 0) (
           some (false)
          ) (
           cond (r14.2 != 0) (
            some (false)
           ) (
            (f35 m r12.1 r2).bind fun r15 =>
             cond (!r15) (
              some (false)
             ) (
              cond (((r13.1.length : Nat) : Int) != ((r3.length : Nat) : Int)) (
               some (false)
              ) (
               (f58 m r14.1 r1.2.2).bind fun r16 =>
                cond (!(r16 == (decide (((r3.length : Nat) : Int) < 3)))) (
                 some (false)
                ) (
                 (f15_4 m m ((r13.1.length : Nat) : Int) 0 r1.1 r1.2.1 r1.2.2 r2 r3 r14.1 r13.1).bind fun o4 =>
                  match o4 with
                  | .r =>
                   some (false)
                  | .x0 xh0_0_x04 xh0_1_x04 xh0_2_x04 lh1_x04 =>
                   (f15_6 m m xh0_0_x04 xh0_1_x04 xh0_2_x04 lh1_x04 ((lh1_x04.length : Nat) : Int) 0).bind fun o6 =>
                    match o6 with
                    | .r =>
                     some (false)
                    | .x4 =>
                     some (true)
                )
              )
             )
           )
          )
         )
     )
    )

theorem f15_ok (m : Nat) (a_Marks : Int) (a_Step : Int) (a_Turns : Int) (o : Bool) (h : f15 m a_Marks a_Step a_Turns = some o) (w : World) (hI : anyInv w) : Calls Proofs.Try.prog 15 #[.agg #[.int .u8 a_Marks, .int .u8 a_Step, .int .u8 a_Turns]] w fun e w' => e = .returned (.bool o) ∧ Below w.heap.size w w' := by
 refine KC.calls (E := E0) (args := [.agg #[.int .u8 a_Marks, .int .u8 a_Step, .int .u8 a_Turns]]) (v := .bool o) rfl rfl (KC.bodyN E0_ok (F := Proofs.Try.f15) (by kernel_rfl) (code := f15_C15) (by kernel_rfl) (nt := 161) (by kernel_rfl) (rs := [.tmp 2]) (by kernel_rfl) (by kernel_rfl) (σ := [(0, .agg #[.int .u8 a_Marks, .int .u8 a_Step, .int .u8 a_Turns])]) (by kernel_rfl) ?_) w (anyInv_size hI) hI
 unfold f15 at h
 refine XQ.seq E0_ok (by kernel_rfl) ?_
 refine XQ.region (by kernel_rfl) ?_
 refine XR.runT E0_ok 1 2 [(1, pp 0 0)] [(0, .cells [.int .u8 a_Marks, .int .u8 a_Step, .int .u8 a_Turns] 0 52 0)] 1 rfl (by kernel_rfl) ?_
 refine XR.done (by kernel_rfl) ?_
 show XQ _ _ _ _ _ _ _ _
 refine XQ.seq E0_ok (by kernel_rfl) ?_
 refine XQ.region (by kernel_rfl) ?_
 refine XR.runS E0_ok 1 1 [(19, .agg #[.int .u8 a_Marks, .int .u8 a_Step, .int .u8 a_Turns])] rfl (by kernel_rfl) ?_
 obtain ⟨r1, r1_h, h⟩ := bS h
 refine XR.call E0_ok [20] rfl (K := 45) (args := [.agg #[.int .u8 a_Marks, .int .u8 a_Step, .int .u8 a_Turns], ii 100]) (d := (some (path 12 20))) (by kernel_rfl) (KC.of_calls E0_ok (F := Proofs.Try.f45) (v := .agg #[ii r1.1, ii r1.2.1, ii r1.2.2]) (by kernel_rfl) rfl rfl (fun w hI => f45_ok m a_Marks a_Step a_Turns 100 r1 r1_h w hI)) ?_
 rintro _ _ _ ⟨rfl, rfl, rfl⟩
 refine XR.conv (σ' := [(20, .agg #[ii r1.1, ii r1.2.1, ii r1.2.2])]) (h' := [(0, .cells [.int .u8 a_Marks, .int .u8 a_Step, .int .u8 a_Turns] 0 52 0)]) (c' := 1) ?_ (by kernel_rfl)
 refine XR.runT E0_ok 1 2 [(3, pp 1 0)] [(1, .cells [ii r1.1, ii r1.2.1, ii r1.2.2] 0 23 0), (0, .cells [.int .u8 a_Marks, .int .u8 a_Step, .int .u8 a_Turns] 0 52 0)] 2 rfl (by kernel_rfl) ?_
 refine XR.done (by kernel_rfl) ?_
 show XQ _ _ _ _ _ _ _ _
 refine XQ.seq E0_ok (by kernel_rfl) ?_
 refine XQ.region (by kernel_rfl) ?_
 refine XR.runS E0_ok 1 1 [(3, pp 1 0), (21, .agg #[ii r1.1, ii r1.2.1, ii r1.2.2])] rfl (by kernel_rfl) ?_
 obtain ⟨r2, r2_h, h⟩ := bS h
 refine XR.call E0_ok [3, 22] rfl (K := 56) (args := [.agg #[ii r1.1, ii r1.2.1, ii r1.2.2]]) (d := (some (path 12 22))) (by kernel_rfl) (KC.lift (V2 := s0 2 r2.length) (H2 := [(2, rc (encI .i64) r2 0 3 1)]) [1, 2, 0] (f56_ok m r1.1 r1.2.1 r1.2.2 r2 r2_h) rfl (by decide) (by decide) (by kernel_rfl) ⟨⟨_, _, rfl, rfl, .inl ⟨rfl, rowC_scal (encI_ok .i64) _⟩⟩, trivial⟩ (by rfl)) ?_
 rintro _ _ _ ⟨rfl, rfl, rfl⟩
 refine XR.conv (σ' := [(3, pp 1 0), (22, s0 2 r2.length)]) (h' := [(2, rc (encI .i64) r2 0 3 1), (1, .cells [ii r1.1, ii r1.2.1, ii r1.2.2] 0 23 0), (0, .cells [.int .u8 a_Marks, .int .u8 a_Step, .int .u8 a_Turns] 0 52 0)]) (c' := 3) ?_ (by kernel_rfl)
 refine XR.runS E0_ok 1 1 [(3, pp 1 0), (4, s0 2 r2.length)] rfl (by kernel_rfl) ?_
 refine XR.done (by kernel_rfl) ?_
 show XQ _ _ _ _ _ _ _ _
 refine XQ.seq E0_ok (by kernel_rfl) ?_
 refine XQ.region (by kernel_rfl) ?_
 refine XR.runS E0_ok 1 1 [(3, pp 1 0), (4, s0 2 r2.length), (23, s0 2 r2.length)] rfl (by kernel_rfl) ?_
 obtain ⟨r3, r3_h, h⟩ := bS h
 refine XR.call E0_ok [3, 4, 24] rfl (K := 57) (args := [s0 2 r2.length]) (d := (some (path 12 24))) (by kernel_rfl) (KC.liftH (n0 := 1) (m := 1) (args0 := [s0 0 r2.length]) (h0 := [(0, rc (encI .i64) r2 (0 + ((rowC (encI .i64) r2).length + 1)) 3 1)]) (V := s0 1 r3.length) (V2 := s0 3 r3.length) (H := [(1, rc (encI .i64) r3 0 3 1)]) (H2 := [(3, rc (encI .i64) r3 0 3 1)]) [2] [2, 3, 4, 1] (f57_ok m (0 + ((rowC (encI .i64) r2).length + 1)) 3 r2 r3 r3_h) (by rfl) (by decide) rfl (by kernel_rfl) ⟨⟨_, _, rfl, rfl, .inl ⟨rfl, rowC_scal (encI_ok .i64) _⟩⟩, trivial⟩ (by decide) (by decide) (by kernel_rfl) ⟨⟨_, _, rfl, rfl, .inl ⟨rfl, rowC_scal (encI_ok .i64) _⟩⟩, trivial⟩ (by rfl)) ?_
 rintro _ _ _ ⟨rfl, rfl, rfl⟩
 refine XR.conv (σ' := [(3, pp 1 0), (4, s0 2 r2.length), (24, s0 3 r3.length)]) (h' := [(3, rc (encI .i64) r3 0 3 1), (2, rc (encI .i64) r2 0 3 1), (1, .cells [ii r1.1, ii r1.2.1, ii r1.2.2] 0 23 0), (0, .cells [.int .u8 a_Marks, .int .u8 a_Step, .int .u8 a_Turns] 0 52 0)]) (c' := 4) ?_ (by kernel_rfl)
 refine XR.runS E0_ok 1 1 [(3, pp 1 0), (4, s0 2 r2.length), (5, s0 3 r3.length)] rfl (by kernel_rfl) ?_
 refine XR.done (by kernel_rfl) ?_
 show XQ _ _ _ _ _ _ _ _
 refine XQ.seq E0_ok (by kernel_rfl) ?_
 refine XQ.seq E0_ok (by kernel_rfl) ?_
 refine XQ.quiet E0_ok (by kernel_rfl) (by kernel_rfl) ?_
 refine XU.run E0_ok 1 4 [3, 4, 5, 28] rfl (σ' := [(3, pp 1 0), (4, s0 2 r2.length), (5, s0 3 r3.length), (28, .bool (decide (((r3.length : Nat) : Int) > 3)))]) (by kernel_rfl) ?_
 cases b1 : (decide (((r3.length : Nat) : Int) > 3) : Bool) with
 | true =>
  have h := cT b1 h
  refine XU.run E0_ok 1 17 [3, 4, 5, 45] rfl (σ' := [(3, pp 1 0), (4, s0 2 r2.length), (5, s0 3 r3.length), (45, .bool true)]) (by kernel_rfl) ?_
  refine XU.done (by kernel_rfl) ?_
  show XQ _ _ _ _ _ _ _ _
  refine XQ.cond (s := (.tmp 45)) (b := true) (by kernel_rfl) (by kernel_rfl) (fun _ => ?_) (fun q => by cases q)
  refine XQ.seq E0_ok (by kernel_rfl) ?_
  refine XQ.region (by kernel_rfl) ?_
  refine XR.runS E0_ok 1 1 [(2, .bool false)] rfl (by kernel_rfl) ?_
  refine XR.done (by kernel_rfl) ?_
  show XQ _ _ _ _ _ _ _ _
  refine XQ.ret (by kernel_rfl) ?_
  have h := Option.some.inj h
  subst h
  exact ⟨fun i q => (by cases q), .bool false, (by kernel_rfl), rfl⟩
 | false =>
  have h := cF b1 h
  refine XU.run E0_ok 1 4 [3, 4, 5, 28, 32] rfl (σ' := [(3, pp 1 0), (4, s0 2 r2.length), (5, s0 3 r3.length), (28, .bool false), (32, .bool (((r3.length : Nat) : Int) == 3))]) (by kernel_rfl) ?_
  cases b2 : (((r3.length : Nat) : Int) == 3 : Bool) with
  | true =>
   have h := cT b2 h
   refine XU.run E0_ok 1 1 [3, 4, 5, 28, 32, 33] rfl (σ' := [(3, pp 1 0), (4, s0 2 r2.length), (5, s0 3 r3.length), (28, .bool false), (32, .bool true), (33, s0 3 r3.length)]) (by kernel_rfl) ?_
   cases b3 : (inRow 2 r3.length : Bool) with
   | false => cases (cF b3 h)
   | true =>
    have h := cT b3 h
    refine XU.rd E0_ok [3, 4, 5, 28, 32, 34] rfl (v := pp 3 (2 * 1)) (v_idx (s := 1) (x := (src 161 (.tmp 33))) (y := (src 161 (.const (ii 2)))) (b := 3) (o := 0) (len := r3.length) (cap := r3.length) (ik := .i64) (i := 2) (off := 2 * 1) (d := (some (path 12 34))) (by kernel_rfl) (by kernel_rfl) (by kernel_rfl) b3 (by omega)) (σ' := [(3, pp 1 0), (4, s0 2 r2.length), (5, s0 3 r3.length), (28, .bool false), (32, .bool true), (34, pp 3 (2 * 1))]) (by kernel_rfl) ?_
    refine XU.rd E0_ok [3, 4, 5, 28, 32, 35] rfl (v := ii (List.getD r3 2 0)) (v_load1 (encI_ok .i64) (x := (src 161 (.tmp 34))) (b := 3) (off := 2 * 1) (xs := r3) (fz := 0) (e := 3) (es := 1) (d := (some (path 12 35))) (by kernel_rfl) (by kernel_rfl) (by kernel_rfl) 2 0 0 (by first | rfl | omega) (row_len (inRow_toNat b3) (by simp)) rfl rfl) (σ' := [(3, pp 1 0), (4, s0 2 r2.length), (5, s0 3 r3.length), (28, .bool false), (32, .bool true), (35, ii (List.getD r3 2 0))]) (by kernel_rfl) ?_
    refine XU.run E0_ok 1 1 [3, 4, 5, 28, 32, 35, 36] rfl (σ' := [(3, pp 1 0), (4, s0 2 r2.length), (5, s0 3 r3.length), (28, .bool false), (32, .bool true), (35, ii (List.getD r3 2 0)), (36, s0 3 r3.length)]) (by kernel_rfl) ?_
    cases b4 : (inRow 0 r3.length : Bool) with
    | false => cases (cF b4 h)
    | true =>
     have h := cT b4 h
     refine XU.rd E0_ok [3, 4, 5, 28, 32, 35, 37] rfl (v := pp 3 (0 * 1)) (v_idx (s := 1) (x := (src 161 (.tmp 36))) (y := (src 161 (.const (ii 0)))) (b := 3) (o := 0) (len := r3.length) (cap := r3.length) (ik := .i64) (i := 0) (off := 0 * 1) (d := (some (path 12 37))) (by kernel_rfl) (by kernel_rfl) (by kernel_rfl) b4 (by omega)) (σ' := [(3, pp 1 0), (4, s0 2 r2.length), (5, s0 3 r3.length), (28, .bool false), (32, .bool true), (35, ii (List.getD r3 2 0)), (37, pp 3 (0 * 1))]) (by kernel_rfl) ?_
     refine XU.rd E0_ok [3, 4, 5, 28, 32, 35, 38] rfl (v := ii (List.getD r3 0 0)) (v_load1 (encI_ok .i64) (x := (src 161 (.tmp 37))) (b := 3) (off := 0 * 1) (xs := r3) (fz := 0) (e := 3) (es := 1) (d := (some (path 12 38))) (by kernel_rfl) (by kernel_rfl) (by kernel_rfl) 0 0 0 (by first | rfl | omega) (row_len (inRow_toNat b4) (by simp)) rfl rfl) (σ' := [(3, pp 1 0), (4, s0 2 r2.length), (5, s0 3 r3.length), (28, .bool false), (32, .bool true), (35, ii (List.getD r3 2 0)), (38, ii (List.getD r3 0 0))]) (by kernel_rfl) ?_
     refine XU.run E0_ok 1 1 [3, 4, 5, 28, 32, 35, 38, 39] rfl (σ' := [(3, pp 1 0), (4, s0 2 r2.length), (5, s0 3 r3.length), (28, .bool false), (32, .bool true), (35, ii (List.getD r3 2 0)), (38, ii (List.getD r3 0 0)), (39, s0 3 r3.length)]) (by kernel_rfl) ?_
     cases b5 : (inRow 1 r3.length : Bool) with
     | false => cases (cF b5 h)
     | true =>
      have h := cT b5 h
      refine XU.rd E0_ok [3, 4, 5, 28, 32, 35, 38, 40] rfl (v := pp 3 (1 * 1)) (v_idx (s := 1) (x := (src 161 (.tmp 39))) (y := (src 161 (.const (ii 1)))) (b := 3) (o := 0) (len := r3.length) (cap := r3.length) (ik := .i64) (i := 1) (off := 1 * 1) (d := (some (path 12 40))) (by kernel_rfl) (by kernel_rfl) (by kernel_rfl) b5 (by omega)) (σ' := [(3, pp 1 0), (4, s0 2 r2.length), (5, s0 3 r3.length), (28, .bool false), (32, .bool true), (35, ii (List.getD r3 2 0)), (38, ii (List.getD r3 0 0)), (40, pp 3 (1 * 1))]) (by kernel_rfl) ?_
      refine XU.rd E0_ok [3, 4, 5, 28, 32, 35, 38, 41] rfl (v := ii (List.getD r3 1 0)) (v_load1 (encI_ok .i64) (x := (src 161 (.tmp 40))) (b := 3) (off := 1 * 1) (xs := r3) (fz := 0) (e := 3) (es := 1) (d := (some (path 12 41))) (by kernel_rfl) (by kernel_rfl) (by kernel_rfl) 1 0 0 (by first | rfl | omega) (row_len (inRow_toNat b5) (by simp)) rfl rfl) (σ' := [(3, pp 1 0), (4, s0 2 r2.length), (5, s0 3 r3.length), (28, .bool false), (32, .bool true), (35, ii (List.getD r3 2 0)), (38, ii (List.getD r3 0 0)), (41, ii (List.getD r3 1 0))]) (by kernel_rfl) ?_
      refine XU.run E0_ok 1 4 [3, 4, 5, 45] rfl (σ' := [(3, pp 1 0), (4, s0 2 r2.length), (5, s0 3 r3.length), (45, .bool ((List.getD r3 2 0) != (w64 ((List.getD r3 0 0) + (List.getD r3 1 0)))))]) (by kernel_rfl) ?_
      refine XU.done (by kernel_rfl) ?_
      show XQ _ _ _ _ _ _ _ _
      cases b6 : ((List.getD r3 2 0) != (w64 ((List.getD r3 0 0) + (List.getD r3 1 0))) : Bool) with
      | true =>
       have h := cT b6 h
       refine XQ.cond (s := (.tmp 45)) (b := true) (by kernel_rfl) (by kernel_rfl) (fun _ => ?_) (fun q => by cases q)
       refine XQ.seq E0_ok (by kernel_rfl) ?_
       refine XQ.region (by kernel_rfl) ?_
       refine XR.runS E0_ok 1 1 [(2, .bool false)] rfl (by kernel_rfl) ?_
       refine XR.done (by kernel_rfl) ?_
       show XQ _ _ _ _ _ _ _ _
       refine XQ.ret (by kernel_rfl) ?_
       have h := Option.some.inj h
       subst h
       exact ⟨fun i q => (by cases q), .bool false, (by kernel_rfl), rfl⟩
      | false =>
       have h := cF b6 h
       refine XQ.cond (s := (.tmp 45)) (b := false) (by kernel_rfl) (by kernel_rfl) (fun q => by cases q) (fun _ => ?_)
       refine XQ.skip (by kernel_rfl) ?_
       show XQ _ _ _ _ _ _ _ _
       refine XQ.seq E0_ok (by kernel_rfl) ?_
       refine XQ.region (by kernel_rfl) ?_
       refine XR.runS E0_ok 1 1 [(3, pp 1 0), (4, s0 2 r2.length), (5, s0 3 r3.length), (47, .agg #[ii r1.1, ii r1.2.1, ii r1.2.2])] rfl (by kernel_rfl) ?_
       obtain ⟨r4, r4_h, h⟩ := bS h
       refine XR.call E0_ok [3, 4, 5, 48] rfl (K := 31) (args := [.agg #[ii r1.1, ii r1.2.1, ii r1.2.2]]) (d := (some (path 12 48))) (by kernel_rfl) (KC.lift (V2 := .tuple #[s0 4 r4.1.length, ii r4.2]) (H2 := [(4, rc (encI .i64) r4.1 0 3 1)]) [1, 2, 3, 4, 0] (f31_ok m r1.1 r1.2.1 r1.2.2 r4 r4_h) rfl (by decide) (by decide) (by kernel_rfl) ⟨⟨_, _, rfl, rfl, .inl ⟨rfl, rowC_scal (encI_ok .i64) _⟩⟩, trivial⟩ (by rfl)) ?_
       rintro _ _ _ ⟨rfl, rfl, rfl⟩
       refine XR.conv (σ' := [(3, pp 1 0), (4, s0 2 r2.length), (5, s0 3 r3.length), (48, .tuple #[s0 4 r4.1.length, ii r4.2])]) (h' := [(4, rc (encI .i64) r4.1 0 3 1), (3, rc (encI .i64) r3 0 3 1), (2, rc (encI .i64) r2 0 3 1), (1, .cells [ii r1.1, ii r1.2.1, ii r1.2.2] 0 23 0), (0, .cells [.int .u8 a_Marks, .int .u8 a_Step, .int .u8 a_Turns] 0 52 0)]) (c' := 5) ?_ (by kernel_rfl)
       refine XR.runS E0_ok 1 5 [(3, pp 1 0), (4, s0 2 r2.length), (5, s0 3 r3.length), (6, s0 4 r4.1.length), (7, ii r4.2)] rfl (by kernel_rfl) ?_
       refine XR.done (by kernel_rfl) ?_
       show XQ _ _ _ _ _ _ _ _
       refine XQ.seq E0_ok (by kernel_rfl) ?_
       refine XQ.region (by kernel_rfl) ?_
       refine XR.runS E0_ok 1 1 [(3, pp 1 0), (4, s0 2 r2.length), (5, s0 3 r3.length), (6, s0 4 r4.1.length), (7, ii r4.2), (52, .agg #[ii r1.1, ii r1.2.1, ii r1.2.2])] rfl (by kernel_rfl) ?_
       obtain ⟨r5, r5_h, h⟩ := bS h
       refine XR.call E0_ok [3, 4, 5, 6, 7, 53] rfl (K := 33) (args := [.agg #[ii r1.1, ii r1.2.1, ii r1.2.2]]) (d := (some (path 12 53))) (by kernel_rfl) (KC.lift (V2 := .tuple #[s0 5 r5.1.length, ii r5.2]) (H2 := [(5, rc encP r5.1 0 63 2)]) [1, 2, 3, 4, 5, 0] (f33_ok m r1.1 r1.2.1 r1.2.2 r5 r5_h) rfl (by decide) (by decide) (by kernel_rfl) ⟨⟨_, _, rfl, rfl, .inl ⟨rfl, rowC_scal encP_ok _⟩⟩, trivial⟩ (by rfl)) ?_
       rintro _ _ _ ⟨rfl, rfl, rfl⟩
       refine XR.conv (σ' := [(3, pp 1 0), (4, s0 2 r2.length), (5, s0 3 r3.length), (6, s0 4 r4.1.length), (7, ii r4.2), (53, .tuple #[s0 5 r5.1.length, ii r5.2])]) (h' := [(5, rc encP r5.1 0 63 2), (4, rc (encI .i64) r4.1 0 3 1), (3, rc (encI .i64) r3 0 3 1), (2, rc (encI .i64) r2 0 3 1), (1, .cells [ii r1.1, ii r1.2.1, ii r1.2.2] 0 23 0), (0, .cells [.int .u8 a_Marks, .int .u8 a_Step, .int .u8 a_Turns] 0 52 0)]) (c' := 6) ?_ (by kernel_rfl)
       refine XR.runS E0_ok 1 5 [(3, pp 1 0), (4, s0 2 r2.length), (5, s0 3 r3.length), (6, s0 4 r4.1.length), (7, ii r4.2), (8, s0 5 r5.1.length), (9, ii r5.2)] rfl (by kernel_rfl) ?_
       refine XR.done (by kernel_rfl) ?_
       show XQ _ _ _ _ _ _ _ _
       refine XQ.seq E0_ok (by kernel_rfl) ?_
       refine XQ.region (by kernel_rfl) ?_
       refine XR.runS E0_ok 1 4 [(3, pp 1 0), (4, s0 2 r2.length), (5, s0 3 r3.length), (6, s0 4 r4.1.length), (7, ii r4.2), (8, s0 5 r5.1.length), (9, ii r5.2), (58, ii r1.1), (60, ii r1.2.1)] rfl (by kernel_rfl) ?_
       obtain ⟨r6, r6_h, h⟩ := bS h
       refine XR.call E0_ok [3, 4, 5, 6, 7, 8, 9, 61] rfl (K := 37) (args := [ii r1.1, ii r1.2.1]) (d := (some (path 12 61))) (by kernel_rfl) (KC.lift (V2 := .tuple #[s0 6 r6.1.length, ii r6.2]) (H2 := [(6, rc (encI .i64) r6.1 0 3 1)]) [1, 2, 3, 4, 5, 6, 0] (f37_ok m r1.1 r1.2.1 r6 r6_h) rfl (by decide) (by decide) (by kernel_rfl) ⟨⟨_, _, rfl, rfl, .inl ⟨rfl, rowC_scal (encI_ok .i64) _⟩⟩, trivial⟩ (by rfl)) ?_
       rintro _ _ _ ⟨rfl, rfl, rfl⟩
       refine XR.conv (σ' := [(3, pp 1 0), (4, s0 2 r2.length), (5, s0 3 r3.length), (6, s0 4 r4.1.length), (7, ii r4.2), (8, s0 5 r5.1.length), (9, ii r5.2), (61, .tuple #[s0 6 r6.1.length, ii r6.2])]) (h' := [(6, rc (encI .i64) r6.1 0 3 1), (5, rc encP r5.1 0 63 2), (4, rc (encI .i64) r4.1 0 3 1), (3, rc (encI .i64) r3 0 3 1), (2, rc (encI .i64) r2 0 3 1), (1, .cells [ii r1.1, ii r1.2.1, ii r1.2.2] 0 23 0), (0, .cells [.int .u8 a_Marks, .int .u8 a_Step, .int .u8 a_Turns] 0 52 0)]) (c' := 7) ?_ (by kernel_rfl)
       refine XR.runS E0_ok 1 5 [(3, pp 1 0), (4, s0 2 r2.length), (5, s0 3 r3.length), (6, s0 4 r4.1.length), (7, ii r4.2), (8, s0 5 r5.1.length), (9, ii r5.2), (10, s0 6 r6.1.length), (11, ii r6.2)] rfl (by kernel_rfl) ?_
       refine XR.done (by kernel_rfl) ?_
       show XQ _ _ _ _ _ _ _ _
       refine XQ.seq E0_ok (by kernel_rfl) ?_
       refine XQ.seq E0_ok (by kernel_rfl) ?_
       refine XQ.region (by kernel_rfl) ?_
       refine XR.runS E0_ok 1 3 [(3, pp 1 0), (4, s0 2 r2.length), (5, s0 3 r3.length), (6, s0 4 r4.1.length), (8, s0 5 r5.1.length), (9, ii r5.2), (10, s0 6 r6.1.length), (11, ii r6.2), (66, .bool (r4.2 != 0))] rfl (by kernel_rfl) ?_
       cases b7 : (r4.2 != 0 : Bool) with
       | true =>
        have h := cT b7 h
        refine XR.runS E0_ok 1 30 [(3, pp 1 0), (4, s0 2 r2.length), (5, s0 3 r3.length), (8, s0 5 r5.1.length), (10, s0 6 r6.1.length), (96, .bool true)] rfl (by kernel_rfl) ?_
        refine XR.done (by kernel_rfl) ?_
        show XQ _ _ _ _ _ _ _ _
        refine XQ.cond (s := (.tmp 96)) (b := true) (by kernel_rfl) (by kernel_rfl) (fun _ => ?_) (fun q => by cases q)
        refine XQ.seq E0_ok (by kernel_rfl) ?_
        refine XQ.region (by kernel_rfl) ?_
        refine XR.runS E0_ok 1 1 [(2, .bool false)] rfl (by kernel_rfl) ?_
        refine XR.done (by kernel_rfl) ?_
        show XQ _ _ _ _ _ _ _ _
        refine XQ.ret (by kernel_rfl) ?_
        have h := Option.some.inj h
        subst h
        exact ⟨fun i q => (by cases q), .bool false, (by kernel_rfl), rfl⟩
       | false =>
        have h := cF b7 h
        refine XR.runS E0_ok 1 4 [(3, pp 1 0), (4, s0 2 r2.length), (5, s0 3 r3.length), (6, s0 4 r4.1.length), (8, s0 5 r5.1.length), (10, s0 6 r6.1.length), (11, ii r6.2), (70, .bool (r5.2 != 0))] rfl (by kernel_rfl) ?_
        cases b8 : (r5.2 != 0 : Bool) with
        | true =>
         have h := cT b8 h
         refine XR.runS E0_ok 1 26 [(3, pp 1 0), (4, s0 2 r2.length), (5, s0 3 r3.length), (8, s0 5 r5.1.length), (10, s0 6 r6.1.length), (96, .bool true)] rfl (by kernel_rfl) ?_
         refine XR.done (by kernel_rfl) ?_
         show XQ _ _ _ _ _ _ _ _
         refine XQ.cond (s := (.tmp 96)) (b := true) (by kernel_rfl) (by kernel_rfl) (fun _ => ?_) (fun q => by cases q)
         refine XQ.seq E0_ok (by kernel_rfl) ?_
         refine XQ.region (by kernel_rfl) ?_
         refine XR.runS E0_ok 1 1 [(2, .bool false)] rfl (by kernel_rfl) ?_
         refine XR.done (by kernel_rfl) ?_
         show XQ _ _ _ _ _ _ _ _
         refine XQ.ret (by kernel_rfl) ?_
         have h := Option.some.inj h
         subst h
         exact ⟨fun i q => (by cases q), .bool false, (by kernel_rfl), rfl⟩
        | false =>
         have h := cF b8 h
         refine XR.runS E0_ok 1 4 [(3, pp 1 0), (4, s0 2 r2.length), (5, s0 3 r3.length), (6, s0 4 r4.1.length), (8, s0 5 r5.1.length), (10, s0 6 r6.1.length), (74, .bool (r6.2 != 0))] rfl (by kernel_rfl) ?_
         cases b9 : (r6.2 != 0 : Bool) with
         | true =>
          have h := cT b9 h
          refine XR.runS E0_ok 1 22 [(3, pp 1 0), (4, s0 2 r2.length), (5, s0 3 r3.length), (8, s0 5 r5.1.length), (10, s0 6 r6.1.length), (96, .bool true)] rfl (by kernel_rfl) ?_
          refine XR.done (by kernel_rfl) ?_
          show XQ _ _ _ _ _ _ _ _
          refine XQ.cond (s := (.tmp 96)) (b := true) (by kernel_rfl) (by kernel_rfl) (fun _ => ?_) (fun q => by cases q)
          refine XQ.seq E0_ok (by kernel_rfl) ?_
          refine XQ.region (by kernel_rfl) ?_
          refine XR.runS E0_ok 1 1 [(2, .bool false)] rfl (by kernel_rfl) ?_
          refine XR.done (by kernel_rfl) ?_
          show XQ _ _ _ _ _ _ _ _
          refine XQ.ret (by kernel_rfl) ?_
          have h := Option.some.inj h
          subst h
          exact ⟨fun i q => (by cases q), .bool false, (by kernel_rfl), rfl⟩
         | false =>
          have h := cF b9 h
          refine XR.runS E0_ok 1 2 [(3, pp 1 0), (4, s0 2 r2.length), (5, s0 3 r3.length), (8, s0 5 r5.1.length), (10, s0 6 r6.1.length), (74, .bool false), (75, s0 4 r4.1.length), (76, s0 2 r2.length)] rfl (by kernel_rfl) ?_
          obtain ⟨r7, r7_h, h⟩ := bS h
          refine XR.call E0_ok [3, 4, 5, 8, 10, 74, 77] rfl (K := 35) (args := [s0 4 r4.1.length, s0 2 r2.length]) (d := (some (path 12 77))) (by kernel_rfl) (KQ.call (KC.quiet E0_ok (args0 := [s0 0 r4.1.length, s0 1 r2.length]) (h0 := [(1, rc (encI .i64) r2 (0 + ((rowC (encI .i64) r2).length + 1)) 3 1), (0, rc (encI .i64) r4.1 (0 + ((rowC (encI .i64) r4.1).length + 1)) 3 1)]) (n := 2) (V := .bool r7) [4, 2] (f35_ok m (0 + ((rowC (encI .i64) r4.1).length + 1)) 3 (0 + ((rowC (encI .i64) r2).length + 1)) 3 r4.1 r2 r7 r7_h) rfl (by rfl) (by decide) rfl (by kernel_rfl) ⟨⟨_, _, rfl, rfl, .inl ⟨rfl, rowC_scal (encI_ok .i64) _⟩⟩, ⟨_, _, rfl, rfl, .inl ⟨rfl, rowC_scal (encI_ok .i64) _⟩⟩, trivial⟩) rfl) ?_
          rintro _ _ _ ⟨rfl, rfl, rfl⟩
          refine XR.conv (σ' := [(3, pp 1 0), (4, s0 2 r2.length), (5, s0 3 r3.length), (8, s0 5 r5.1.length), (10, s0 6 r6.1.length), (74, .bool false), (77, .bool r7)]) (h' := [(6, rc (encI .i64) r6.1 0 3 1), (5, rc encP r5.1 0 63 2), (4, rc (encI .i64) r4.1 0 3 1), (3, rc (encI .i64) r3 0 3 1), (2, rc (encI .i64) r2 0 3 1), (1, .cells [ii r1.1, ii r1.2.1, ii r1.2.2] 0 23 0), (0, .cells [.int .u8 a_Marks, .int .u8 a_Step, .int .u8 a_Turns] 0 52 0)]) (c' := 7) ?_ (by kernel_rfl)
          refine XR.runS E0_ok 1 3 [(3, pp 1 0), (4, s0 2 r2.length), (5, s0 3 r3.length), (8, s0 5 r5.1.length), (10, s0 6 r6.1.length), (80, .bool (!r7))] rfl (by kernel_rfl) ?_
          cases b10 : (!r7 : Bool) with
          | true =>
           have h := cT b10 h
           refine XR.runS E0_ok 1 16 [(3, pp 1 0), (4, s0 2 r2.length), (5, s0 3 r3.length), (8, s0 5 r5.1.length), (10, s0 6 r6.1.length), (96, .bool true)] rfl (by kernel_rfl) ?_
           refine XR.done (by kernel_rfl) ?_
           show XQ _ _ _ _ _ _ _ _
           refine XQ.cond (s := (.tmp 96)) (b := true) (by kernel_rfl) (by kernel_rfl) (fun _ => ?_) (fun q => by cases q)
           refine XQ.seq E0_ok (by kernel_rfl) ?_
           refine XQ.region (by kernel_rfl) ?_
           refine XR.runS E0_ok 1 1 [(2, .bool false)] rfl (by kernel_rfl) ?_
           refine XR.done (by kernel_rfl) ?_
           show XQ _ _ _ _ _ _ _ _
           refine XQ.ret (by kernel_rfl) ?_
           have h := Option.some.inj h
           subst h
           exact ⟨fun i q => (by cases q), .bool false, (by kernel_rfl), rfl⟩
          | false =>
           have h := cF b10 h
           refine XR.runS E0_ok 1 7 [(3, pp 1 0), (4, s0 2 r2.length), (5, s0 3 r3.length), (8, s0 5 r5.1.length), (10, s0 6 r6.1.length), (87, .bool (((r5.1.length : Nat) : Int) != ((r3.length : Nat) : Int)))] rfl (by kernel_rfl) ?_
           cases b11 : (((r5.1.length : Nat) : Int) != ((r3.length : Nat) : Int) : Bool) with
           | true =>
            have h := cT b11 h
            refine XR.runS E0_ok 1 9 [(3, pp 1 0), (4, s0 2 r2.length), (5, s0 3 r3.length), (8, s0 5 r5.1.length), (10, s0 6 r6.1.length), (96, .bool true)] rfl (by kernel_rfl) ?_
            refine XR.done (by kernel_rfl) ?_
            show XQ _ _ _ _ _ _ _ _
            refine XQ.cond (s := (.tmp 96)) (b := true) (by kernel_rfl) (by kernel_rfl) (fun _ => ?_) (fun q => by cases q)
            refine XQ.seq E0_ok (by kernel_rfl) ?_
            refine XQ.region (by kernel_rfl) ?_
            refine XR.runS E0_ok 1 1 [(2, .bool false)] rfl (by kernel_rfl) ?_
            refine XR.done (by kernel_rfl) ?_
            show XQ _ _ _ _ _ _ _ _
            refine XQ.ret (by kernel_rfl) ?_
            have h := Option.some.inj h
            subst h
            exact ⟨fun i q => (by cases q), .bool false, (by kernel_rfl), rfl⟩
           | false =>
            have h := cF b11 h
            refine XR.runS E0_ok 1 3 [(3, pp 1 0), (4, s0 2 r2.length), (5, s0 3 r3.length), (8, s0 5 r5.1.length), (10, s0 6 r6.1.length), (87, .bool false), (88, s0 6 r6.1.length), (90, ii r1.2.2)] rfl (by kernel_rfl) ?_
            obtain ⟨r8, r8_h, h⟩ := bS h
            refine XR.call E0_ok [3, 4, 5, 8, 10, 87, 91] rfl (K := 58) (args := [s0 6 r6.1.length, ii r1.2.2]) (d := (some (path 12 91))) (by kernel_rfl) (KQ.call (KC.quiet E0_ok (args0 := [s0 0 r6.1.length, ii r1.2.2]) (h0 := [(0, rc (encI .i64) r6.1 (0 + ((rowC (encI .i64) r6.1).length + 1)) 3 1)]) (n := 1) (V := .bool r8) [6] (f58_ok m (0 + ((rowC (encI .i64) r6.1).length + 1)) 3 r6.1 r1.2.2 r8 r8_h) rfl (by rfl) (by decide) rfl (by kernel_rfl) ⟨⟨_, _, rfl, rfl, .inl ⟨rfl, rowC_scal (encI_ok .i64) _⟩⟩, trivial⟩) rfl) ?_
            rintro _ _ _ ⟨rfl, rfl, rfl⟩
            refine XR.conv (σ' := [(3, pp 1 0), (4, s0 2 r2.length), (5, s0 3 r3.length), (8, s0 5 r5.1.length), (10, s0 6 r6.1.length), (87, .bool false), (91, .bool r8)]) (h' := [(6, rc (encI .i64) r6.1 0 3 1), (5, rc encP r5.1 0 63 2), (4, rc (encI .i64) r4.1 0 3 1), (3, rc (encI .i64) r3 0 3 1), (2, rc (encI .i64) r2 0 3 1), (1, .cells [ii r1.1, ii r1.2.1, ii r1.2.2] 0 23 0), (0, .cells [.int .u8 a_Marks, .int .u8 a_Step, .int .u8 a_Turns] 0 52 0)]) (c' := 7) ?_ (by kernel_rfl)
            refine XR.runS E0_ok 1 5 [(3, pp 1 0), (4, s0 2 r2.length), (5, s0 3 r3.length), (8, s0 5 r5.1.length), (10, s0 6 r6.1.length), (96, .bool (!(r8 == (decide (((r3.length : Nat) : Int) < 3)))))] rfl (by kernel_rfl) ?_
            refine XR.done (by kernel_rfl) ?_
            show XQ _ _ _ _ _ _ _ _
            cases b12 : (!(r8 == (decide (((r3.length : Nat) : Int) < 3))) : Bool) with
            | true =>
             have h := cT b12 h
             refine XQ.cond (s := (.tmp 96)) (b := true) (by kernel_rfl) (by kernel_rfl) (fun _ => ?_) (fun q => by cases q)
             refine XQ.seq E0_ok (by kernel_rfl) ?_
             refine XQ.region (by kernel_rfl) ?_
             refine XR.runS E0_ok 1 1 [(2, .bool false)] rfl (by kernel_rfl) ?_
             refine XR.done (by kernel_rfl) ?_
             show XQ _ _ _ _ _ _ _ _
             refine XQ.ret (by kernel_rfl) ?_
             have h := Option.some.inj h
             subst h
             exact ⟨fun i q => (by cases q), .bool false, (by kernel_rfl), rfl⟩
            | false =>
             have h := cF b12 h
             refine XQ.cond (s := (.tmp 96)) (b := false) (by kernel_rfl) (by kernel_rfl) (fun q => by cases q) (fun _ => ?_)
             refine XQ.skip (by kernel_rfl) ?_
             show XQ _ _ _ _ _ _ _ _
             refine XQ.seq E0_ok (by kernel_rfl) ?_
             refine XQ.seq E0_ok (by kernel_rfl) ?_
             refine XQ.region (by kernel_rfl) ?_
             refine XR.runS E0_ok 1 3 [(3, pp 1 0), (4, s0 2 r2.length), (5, s0 3 r3.length), (10, s0 6 r6.1.length), (97, s0 5 r5.1.length), (98, ii ((r5.1.length : Nat) : Int)), (99, ii 0)] rfl (by kernel_rfl) ?_
             refine XR.done (by kernel_rfl) ?_
             show XQ _ _ _ _ _ _ _ _
             refine XQ.block (id := 0) (by kernel_rfl) ?_
             refine XQ.loop m (by kernel_rfl) ?_
             obtain ⟨o1, o1_h, h⟩ := bS h
             refine XL.ren (σ' := [(3, pp 0 0), (4, s0 1 r2.length), (5, s0 2 r3.length), (10, s0 3 r6.1.length), (97, s0 4 r5.1.length), (98, ii ((r5.1.length : Nat) : Int)), (99, ii 0)]) (h' := [(4, rc encP r5.1 0 63 2), (3, rc (encI .i64) r6.1 0 3 1), (2, rc (encI .i64) r3 0 3 1), (1, rc (encI .i64) r2 0 3 1), (0, .cells [ii r1.1, ii r1.2.1, ii r1.2.2] 0 23 0)]) (c' := 5) [1, 2, 3, 6, 5] (by decide) rfl ⟨by kernel_rfl, by kernel_rfl, by kernel_rfl, by kernel_rfl, by kernel_rfl, by kernel_rfl, by kernel_rfl, trivial⟩ ⟨⟨_, _, rfl, rfl, .inl ⟨rfl, rowC_scal encP_ok _⟩⟩, ⟨_, _, rfl, rfl, .inl ⟨rfl, rowC_scal (encI_ok .i64) _⟩⟩, ⟨_, _, rfl, rfl, .inl ⟨rfl, rowC_scal (encI_ok .i64) _⟩⟩, ⟨_, _, rfl, rfl, .inl ⟨rfl, rowC_scal (encI_ok .i64) _⟩⟩, ⟨_, _, rfl, rfl, .inr ⟨_, _, _, _, rfl, rfl⟩⟩, trivial⟩ rfl ?_
             cases o1 with
             | r =>
              dsimp only at h
              refine XL.conv (f15_1_ok m m ((r5.1.length : Nat) : Int) 0 r1.1 r1.2.1 r1.2.2 r2 r3 r6.1 r5.1 (.r) o1_h _ ?_) (by first | rfl | simp)
              have h := Option.some.inj h
              subst h
              exact ⟨fun i q => (by cases q), .bool false, (by kernel_rfl), rfl⟩
             | x0 xh0_0_x01 xh0_1_x01 xh0_2_x01 lh1_x01 =>
              dsimp only at h
              refine XL.conv (f15_1_ok m m ((r5.1.length : Nat) : Int) 0 r1.1 r1.2.1 r1.2.2 r2 r3 r6.1 r5.1 (.x0 xh0_0_x01 xh0_1_x01 xh0_2_x01 lh1_x01) o1_h _ ?_) (by first | rfl | simp)
              show XQ _ _ _ _ _ _ _ _
              refine XQ.seq E0_ok (by kernel_rfl) ?_
              refine XQ.seq E0_ok (by kernel_rfl) ?_
              refine XQ.region (by kernel_rfl) ?_
              refine XR.runS E0_ok 1 3 [(3, pp 0 0), (10, s0 1 lh1_x01.length), (128, s0 1 lh1_x01.length), (129, ii ((lh1_x01.length : Nat) : Int)), (130, ii 0)] rfl (by kernel_rfl) ?_
              refine XR.done (by kernel_rfl) ?_
              show XQ _ _ _ _ _ _ _ _
              refine XQ.block (id := 4) (by kernel_rfl) ?_
              refine XQ.loop m (by kernel_rfl) ?_
              obtain ⟨o3, o3_h, h⟩ := bS h
              refine XL.ren (σ' := [(3, pp 0 0), (10, s0 1 lh1_x01.length), (128, s0 1 lh1_x01.length), (129, ii ((lh1_x01.length : Nat) : Int)), (130, ii 0)]) (h' := [(1, rc (encI .i64) lh1_x01 0 3 1), (0, .cells [ii xh0_0_x01, ii xh0_1_x01, ii xh0_2_x01] 0 23 0)]) (c' := 2) [0, 1] (by decide) rfl ⟨by kernel_rfl, by kernel_rfl, by kernel_rfl, by kernel_rfl, by kernel_rfl, trivial⟩ ⟨⟨_, _, rfl, rfl, .inl ⟨rfl, rowC_scal (encI_ok .i64) _⟩⟩, ⟨_, _, rfl, rfl, .inr ⟨_, _, _, _, rfl, rfl⟩⟩, trivial⟩ rfl ?_
              cases o3 with
              | r =>
               dsimp only at h
               refine XL.conv (f15_3_ok m m xh0_0_x01 xh0_1_x01 xh0_2_x01 lh1_x01 ((lh1_x01.length : Nat) : Int) 0 (.r) o3_h _ ?_) (by first | rfl | simp)
               have h := Option.some.inj h
               subst h
               exact ⟨fun i q => (by cases q), .bool false, (by kernel_rfl), rfl⟩
              | x4 =>
               dsimp only at h
               refine XL.conv (f15_3_ok m m xh0_0_x01 xh0_1_x01 xh0_2_x01 lh1_x01 ((lh1_x01.length : Nat) : Int) 0 (.x4) o3_h _ ?_) (by first | rfl | simp)
               show XQ _ _ _ _ _ _ _ _
               refine XQ.seq E0_ok (by kernel_rfl) ?_
               refine XQ.region (by kernel_rfl) ?_
               refine XR.call E0_ok [160] rfl (K := 28) (args := []) (d := (some (path 12 160))) (by kernel_rfl) (KC.of_calls E0_ok (F := Proofs.Try.f28) (v := .bool true) (by kernel_rfl) rfl rfl (works_ok)) ?_
               rintro _ _ _ ⟨rfl, rfl, rfl⟩
               refine XR.conv (σ' := [(160, .bool true)]) (h' := []) (c' := 0) ?_ (by kernel_rfl)
               refine XR.runS E0_ok 1 1 [(2, .bool true)] rfl (by kernel_rfl) ?_
               refine XR.done (by kernel_rfl) ?_
               show XQ _ _ _ _ _ _ _ _
               refine XQ.ret (by kernel_rfl) ?_
               have h := Option.some.inj h
               subst h
               exact ⟨fun i q => (by cases q), .bool true, (by kernel_rfl), rfl⟩
  | false =>
   have h := cF b2 h
   refine XU.run E0_ok 1 13 [3, 4, 5, 45] rfl (σ' := [(3, pp 1 0), (4, s0 2 r2.length), (5, s0 3 r3.length), (45, .bool false)]) (by kernel_rfl) ?_
   refine XU.done (by kernel_rfl) ?_
   show XQ _ _ _ _ _ _ _ _
   refine XQ.cond (s := (.tmp 45)) (b := false) (by kernel_rfl) (by kernel_rfl) (fun q => by cases q) (fun _ => ?_)
   refine XQ.skip (by kernel_rfl) ?_
   show XQ _ _ _ _ _ _ _ _
   refine XQ.seq E0_ok (by kernel_rfl) ?_
   refine XQ.region (by kernel_rfl) ?_
   refine XR.runS E0_ok 1 1 [(3, pp 1 0), (4, s0 2 r2.length), (5, s0 3 r3.length), (47, .agg #[ii r1.1, ii r1.2.1, ii r1.2.2])] rfl (by kernel_rfl) ?_
   obtain ⟨r12, r12_h, h⟩ := bS h
   refine XR.call E0_ok [3, 4, 5, 48] rfl (K := 31) (args := [.agg #[ii r1.1, ii r1.2.1, ii r1.2.2]]) (d := (some (path 12 48))) (by kernel_rfl) (KC.lift (V2 := .tuple #[s0 4 r12.1.length, ii r12.2]) (H2 := [(4, rc (encI .i64) r12.1 0 3 1)]) [1, 2, 3, 4, 0] (f31_ok m r1.1 r1.2.1 r1.2.2 r12 r12_h) rfl (by decide) (by decide) (by kernel_rfl) ⟨⟨_, _, rfl, rfl, .inl ⟨rfl, rowC_scal (encI_ok .i64) _⟩⟩, trivial⟩ (by rfl)) ?_
   rintro _ _ _ ⟨rfl, rfl, rfl⟩
   refine XR.conv (σ' := [(3, pp 1 0), (4, s0 2 r2.length), (5, s0 3 r3.length), (48, .tuple #[s0 4 r12.1.length, ii r12.2])]) (h' := [(4, rc (encI .i64) r12.1 0 3 1), (3, rc (encI .i64) r3 0 3 1), (2, rc (encI .i64) r2 0 3 1), (1, .cells [ii r1.1, ii r1.2.1, ii r1.2.2] 0 23 0), (0, .cells [.int .u8 a_Marks, .int .u8 a_Step, .int .u8 a_Turns] 0 52 0)]) (c' := 5) ?_ (by kernel_rfl)
   refine XR.runS E0_ok 1 5 [(3, pp 1 0), (4, s0 2 r2.length), (5, s0 3 r3.length), (6, s0 4 r12.1.length), (7, ii r12.2)] rfl (by kernel_rfl) ?_
   refine XR.done (by kernel_rfl) ?_
   show XQ _ _ _ _ _ _ _ _
   refine XQ.seq E0_ok (by kernel_rfl) ?_
   refine XQ.region (by kernel_rfl) ?_
   refine XR.runS E0_ok 1 1 [(3, pp 1 0), (4, s0 2 r2.length), (5, s0 3 r3.length), (6, s0 4 r12.1.length), (7, ii r12.2), (52, .agg #[ii r1.1, ii r1.2.1, ii r1.2.2])] rfl (by kernel_rfl) ?_
   obtain ⟨r13, r13_h, h⟩ := bS h
   refine XR.call E0_ok [3, 4, 5, 6, 7, 53] rfl (K := 33) (args := [.agg #[ii r1.1, ii r1.2.1, ii r1.2.2]]) (d := (some (path 12 53))) (by kernel_rfl) (KC.lift (V2 := .tuple #[s0 5 r13.1.length, ii r13.2]) (H2 := [(5, rc encP r13.1 0 63 2)]) [1, 2, 3, 4, 5, 0] (f33_ok m r1.1 r1.2.1 r1.2.2 r13 r13_h) rfl (by decide) (by decide) (by kernel_rfl) ⟨⟨_, _, rfl, rfl, .inl ⟨rfl, rowC_scal encP_ok _⟩⟩, trivial⟩ (by rfl)) ?_
   rintro _ _ _ ⟨rfl, rfl, rfl⟩
   refine XR.conv (σ' := [(3, pp 1 0), (4, s0 2 r2.length), (5, s0 3 r3.length), (6, s0 4 r12.1.length), (7, ii r12.2), (53, .tuple #[s0 5 r13.1.length, ii r13.2])]) (h' := [(5, rc encP r13.1 0 63 2), (4, rc (encI .i64) r12.1 0 3 1), (3, rc (encI .i64) r3 0 3 1), (2, rc (encI .i64) r2 0 3 1), (1, .cells [ii r1.1, ii r1.2.1, ii r1.2.2] 0 23 0), (0, .cells [.int .u8 a_Marks, .int .u8 a_Step, .int .u8 a_Turns] 0 52 0)]) (c' := 6) ?_ (by kernel_rfl)
   refine XR.runS E0_ok 1 5 [(3, pp 1 0), (4, s0 2 r2.length), (5, s0 3 r3.length), (6, s0 4 r12.1.length), (7, ii r12.2), (8, s0 5 r13.1.length), (9, ii r13.2)] rfl (by kernel_rfl) ?_
   refine XR.done (by kernel_rfl) ?_
   show XQ _ _ _ _ _ _ _ _
   refine XQ.seq E0_ok (by kernel_rfl) ?_
   refine XQ.region (by kernel_rfl) ?_
   refine XR.runS E0_ok 1 4 [(3, pp 1 0), (4, s0 2 r2.length), (5, s0 3 r3.length), (6, s0 4 r12.1.length), (7, ii r12.2), (8, s0 5 r13.1.length), (9, ii r13.2), (58, ii r1.1), (60, ii r1.2.1)] rfl (by kernel_rfl) ?_
   obtain ⟨r14, r14_h, h⟩ := bS h
   refine XR.call E0_ok [3, 4, 5, 6, 7, 8, 9, 61] rfl (K := 37) (args := [ii r1.1, ii r1.2.1]) (d := (some (path 12 61))) (by kernel_rfl) (KC.lift (V2 := .tuple #[s0 6 r14.1.length, ii r14.2]) (H2 := [(6, rc (encI .i64) r14.1 0 3 1)]) [1, 2, 3, 4, 5, 6, 0] (f37_ok m r1.1 r1.2.1 r14 r14_h) rfl (by decide) (by decide) (by kernel_rfl) ⟨⟨_, _, rfl, rfl, .inl ⟨rfl, rowC_scal (encI_ok .i64) _⟩⟩, trivial⟩ (by rfl)) ?_
   rintro _ _ _ ⟨rfl, rfl, rfl⟩
   refine XR.conv (σ' := [(3, pp 1 0), (4, s0 2 r2.length), (5, s0 3 r3.length), (6, s0 4 r12.1.length), (7, ii r12.2), (8, s0 5 r13.1.length), (9, ii r13.2), (61, .tuple #[s0 6 r14.1.length, ii r14.2])]) (h' := [(6, rc (encI .i64) r14.1 0 3 1), (5, rc encP r13.1 0 63 2), (4, rc (encI .i64) r12.1 0 3 1), (3, rc (encI .i64) r3 0 3 1), (2, rc (encI .i64) r2 0 3 1), (1, .cells [ii r1.1, ii r1.2.1, ii r1.2.2] 0 23 0), (0, .cells [.int .u8 a_Marks, .int .u8 a_Step, .int .u8 a_Turns] 0 52 0)]) (c' := 7) ?_ (by kernel_rfl)
   refine XR.runS E0_ok 1 5 [(3, pp 1 0), (4, s0 2 r2.length), (5, s0 3 r3.length), (6, s0 4 r12.1.length), (7, ii r12.2), (8, s0 5 r13.1.length), (9, ii r13.2), (10, s0 6 r14.1.length), (11, ii r14.2)] rfl (by kernel_rfl) ?_
   refine XR.done (by kernel_rfl) ?_
   show XQ _ _ _ _ _ _ _ _
   refine XQ.seq E0_ok (by kernel_rfl) ?_
   refine XQ.seq E0_ok (by kernel_rfl) ?_
   refine XQ.region (by kernel_rfl) ?_
   refine XR.runS E0_ok 1 3 [(3, pp 1 0), (4, s0 2 r2.length), (5, s0 3 r3.length), (6, s0 4 r12.1.length), (8, s0 5 r13.1.length), (9, ii r13.2), (10, s0 6 r14.1.length), (11, ii r14.2), (66, .bool (r12.2 != 0))] rfl (by kernel_rfl) ?_
   cases b15 : (r12.2 != 0 : Bool) with
   | true =>
    have h := cT b15 h
    refine XR.runS E0_ok 1 30 [(3, pp 1 0), (4, s0 2 r2.length), (5, s0 3 r3.length), (8, s0 5 r13.1.length), (10, s0 6 r14.1.length), (96, .bool true)] rfl (by kernel_rfl) ?_
    refine XR.done (by kernel_rfl) ?_
    show XQ _ _ _ _ _ _ _ _
    refine XQ.cond (s := (.tmp 96)) (b := true) (by kernel_rfl) (by kernel_rfl) (fun _ => ?_) (fun q => by cases q)
    refine XQ.seq E0_ok (by kernel_rfl) ?_
    refine XQ.region (by kernel_rfl) ?_
    refine XR.runS E0_ok 1 1 [(2, .bool false)] rfl (by kernel_rfl) ?_
    refine XR.done (by kernel_rfl) ?_
    show XQ _ _ _ _ _ _ _ _
    refine XQ.ret (by kernel_rfl) ?_
    have h := Option.some.inj h
    subst h
    exact ⟨fun i q => (by cases q), .bool false, (by kernel_rfl), rfl⟩
   | false =>
    have h := cF b15 h
    refine XR.runS E0_ok 1 4 [(3, pp 1 0), (4, s0 2 r2.length), (5, s0 3 r3.length), (6, s0 4 r12.1.length), (8, s0 5 r13.1.length), (10, s0 6 r14.1.length), (11, ii r14.2), (70, .bool (r13.2 != 0))] rfl (by kernel_rfl) ?_
    cases b16 : (r13.2 != 0 : Bool) with
    | true =>
     have h := cT b16 h
     refine XR.runS E0_ok 1 26 [(3, pp 1 0), (4, s0 2 r2.length), (5, s0 3 r3.length), (8, s0 5 r13.1.length), (10, s0 6 r14.1.length), (96, .bool true)] rfl (by kernel_rfl) ?_
     refine XR.done (by kernel_rfl) ?_
     show XQ _ _ _ _ _ _ _ _
     refine XQ.cond (s := (.tmp 96)) (b := true) (by kernel_rfl) (by kernel_rfl) (fun _ => ?_) (fun q => by cases q)
     refine XQ.seq E0_ok (by kernel_rfl) ?_
     refine XQ.region (by kernel_rfl) ?_
     refine XR.runS E0_ok 1 1 [(2, .bool false)] rfl (by kernel_rfl) ?_
     refine XR.done (by kernel_rfl) ?_
     show XQ _ _ _ _ _ _ _ _
     refine XQ.ret (by kernel_rfl) ?_
     have h := Option.some.inj h
     subst h
     exact ⟨fun i q => (by cases q), .bool false, (by kernel_rfl), rfl⟩
    | false =>
     have h := cF b16 h
     refine XR.runS E0_ok 1 4 [(3, pp 1 0), (4, s0 2 r2.length), (5, s0 3 r3.length), (6, s0 4 r12.1.length), (8, s0 5 r13.1.length), (10, s0 6 r14.1.length), (74, .bool (r14.2 != 0))] rfl (by kernel_rfl) ?_
     cases b17 : (r14.2 != 0 : Bool) with
     | true =>
      have h := cT b17 h
      refine XR.runS E0_ok 1 22 [(3, pp 1 0), (4, s0 2 r2.length), (5, s0 3 r3.length), (8, s0 5 r13.1.length), (10, s0 6 r14.1.length), (96, .bool true)] rfl (by kernel_rfl) ?_
      refine XR.done (by kernel_rfl) ?_
      show XQ _ _ _ _ _ _ _ _
      refine XQ.cond (s := (.tmp 96)) (b := true) (by kernel_rfl) (by kernel_rfl) (fun _ => ?_) (fun q => by cases q)
      refine XQ.seq E0_ok (by kernel_rfl) ?_
      refine XQ.region (by kernel_rfl) ?_
      refine XR.runS E0_ok 1 1 [(2, .bool false)] rfl (by kernel_rfl) ?_
      refine XR.done (by kernel_rfl) ?_
      show XQ _ _ _ _ _ _ _ _
      refine XQ.ret (by kernel_rfl) ?_
      have h := Option.some.inj h
      subst h
      exact ⟨fun i q => (by cases q), .bool false, (by kernel_rfl), rfl⟩
     | false =>
      have h := cF b17 h
      refine XR.runS E0_ok 1 2 [(3, pp 1 0), (4, s0 2 r2.length), (5, s0 3 r3.length), (8, s0 5 r13.1.length), (10, s0 6 r14.1.length), (74, .bool false), (75, s0 4 r12.1.length), (76, s0 2 r2.length)] rfl (by kernel_rfl) ?_
      obtain ⟨r15, r15_h, h⟩ := bS h
      refine XR.call E0_ok [3, 4, 5, 8, 10, 74, 77] rfl (K := 35) (args := [s0 4 r12.1.length, s0 2 r2.length]) (d := (some (path 12 77))) (by kernel_rfl) (KQ.call (KC.quiet E0_ok (args0 := [s0 0 r12.1.length, s0 1 r2.length]) (h0 := [(1, rc (encI .i64) r2 (0 + ((rowC (encI .i64) r2).length + 1)) 3 1), (0, rc (encI .i64) r12.1 (0 + ((rowC (encI .i64) r12.1).length + 1)) 3 1)]) (n := 2) (V := .bool r15) [4, 2] (f35_ok m (0 + ((rowC (encI .i64) r12.1).length + 1)) 3 (0 + ((rowC (encI .i64) r2).length + 1)) 3 r12.1 r2 r15 r15_h) rfl (by rfl) (by decide) rfl (by kernel_rfl) ⟨⟨_, _, rfl, rfl, .inl ⟨rfl, rowC_scal (encI_ok .i64) _⟩⟩, ⟨_, _, rfl, rfl, .inl ⟨rfl, rowC_scal (encI_ok .i64) _⟩⟩, trivial⟩) rfl) ?_
      rintro _ _ _ ⟨rfl, rfl, rfl⟩
      refine XR.conv (σ' := [(3, pp 1 0), (4, s0 2 r2.length), (5, s0 3 r3.length), (8, s0 5 r13.1.length), (10, s0 6 r14.1.length), (74, .bool false), (77, .bool r15)]) (h' := [(6, rc (encI .i64) r14.1 0 3 1), (5, rc encP r13.1 0 63 2), (4, rc (encI .i64) r12.1 0 3 1), (3, rc (encI .i64) r3 0 3 1), (2, rc (encI .i64) r2 0 3 1), (1, .cells [ii r1.1, ii r1.2.1, ii r1.2.2] 0 23 0), (0, .cells [.int .u8 a_Marks, .int .u8 a_Step, .int .u8 a_Turns] 0 52 0)]) (c' := 7) ?_ (by kernel_rfl)
      refine XR.runS E0_ok 1 3 [(3, pp 1 0), (4, s0 2 r2.length), (5, s0 3 r3.length), (8, s0 5 r13.1.length), (10, s0 6 r14.1.length), (80, .bool (!r15))] rfl (by kernel_rfl) ?_
      cases b18 : (!r15 : Bool) with
      | true =>
       have h := cT b18 h
       refine XR.runS E0_ok 1 16 [(3, pp 1 0), (4, s0 2 r2.length), (5, s0 3 r3.length), (8, s0 5 r13.1.length), (10, s0 6 r14.1.length), (96, .bool true)] rfl (by kernel_rfl) ?_
       refine XR.done (by kernel_rfl) ?_
       show XQ _ _ _ _ _ _ _ _
       refine XQ.cond (s := (.tmp 96)) (b := true) (by kernel_rfl) (by kernel_rfl) (fun _ => ?_) (fun q => by cases q)
       refine XQ.seq E0_ok (by kernel_rfl) ?_
       refine XQ.region (by kernel_rfl) ?_
       refine XR.runS E0_ok 1 1 [(2, .bool false)] rfl (by kernel_rfl) ?_
       refine XR.done (by kernel_rfl) ?_
       show XQ _ _ _ _ _ _ _ _
       refine XQ.ret (by kernel_rfl) ?_
       have h := Option.some.inj h
       subst h
       exact ⟨fun i q => (by cases q), .bool false, (by kernel_rfl), rfl⟩
      | false =>
       have h := cF b18 h
       refine XR.runS E0_ok 1 7 [(3, pp 1 0), (4, s0 2 r2.length), (5, s0 3 r3.length), (8, s0 5 r13.1.length), (10, s0 6 r14.1.length), (87, .bool (((r13.1.length : Nat) : Int) != ((r3.length : Nat) : Int)))] rfl (by kernel_rfl) ?_
       cases b19 : (((r13.1.length : Nat) : Int) != ((r3.length : Nat) : Int) : Bool) with
       | true =>
        have h := cT b19 h
        refine XR.runS E0_ok 1 9 [(3, pp 1 0), (4, s0 2 r2.length), (5, s0 3 r3.length), (8, s0 5 r13.1.length), (10, s0 6 r14.1.length), (96, .bool true)] rfl (by kernel_rfl) ?_
        refine XR.done (by kernel_rfl) ?_
        show XQ _ _ _ _ _ _ _ _
        refine XQ.cond (s := (.tmp 96)) (b := true) (by kernel_rfl) (by kernel_rfl) (fun _ => ?_) (fun q => by cases q)
        refine XQ.seq E0_ok (by kernel_rfl) ?_
        refine XQ.region (by kernel_rfl) ?_
        refine XR.runS E0_ok 1 1 [(2, .bool false)] rfl (by kernel_rfl) ?_
        refine XR.done (by kernel_rfl) ?_
        show XQ _ _ _ _ _ _ _ _
        refine XQ.ret (by kernel_rfl) ?_
        have h := Option.some.inj h
        subst h
        exact ⟨fun i q => (by cases q), .bool false, (by kernel_rfl), rfl⟩
       | false =>
        have h := cF b19 h
        refine XR.runS E0_ok 1 3 [(3, pp 1 0), (4, s0 2 r2.length), (5, s0 3 r3.length), (8, s0 5 r13.1.length), (10, s0 6 r14.1.length), (87, .bool false), (88, s0 6 r14.1.length), (90, ii r1.2.2)] rfl (by kernel_rfl) ?_
        obtain ⟨r16, r16_h, h⟩ := bS h
        refine XR.call E0_ok [3, 4, 5, 8, 10, 87, 91] rfl (K := 58) (args := [s0 6 r14.1.length, ii r1.2.2]) (d := (some (path 12 91))) (by kernel_rfl) (KQ.call (KC.quiet E0_ok (args0 := [s0 0 r14.1.length, ii r1.2.2]) (h0 := [(0, rc (encI .i64) r14.1 (0 + ((rowC (encI .i64) r14.1).length + 1)) 3 1)]) (n := 1) (V := .bool r16) [6] (f58_ok m (0 + ((rowC (encI .i64) r14.1).length + 1)) 3 r14.1 r1.2.2 r16 r16_h) rfl (by rfl) (by decide) rfl (by kernel_rfl) ⟨⟨_, _, rfl, rfl, .inl ⟨rfl, rowC_scal (encI_ok .i64) _⟩⟩, trivial⟩) rfl) ?_
        rintro _ _ _ ⟨rfl, rfl, rfl⟩
        refine XR.conv (σ' := [(3, pp 1 0), (4, s0 2 r2.length), (5, s0 3 r3.length), (8, s0 5 r13.1.length), (10, s0 6 r14.1.length), (87, .bool false), (91, .bool r16)]) (h' := [(6, rc (encI .i64) r14.1 0 3 1), (5, rc encP r13.1 0 63 2), (4, rc (encI .i64) r12.1 0 3 1), (3, rc (encI .i64) r3 0 3 1), (2, rc (encI .i64) r2 0 3 1), (1, .cells [ii r1.1, ii r1.2.1, ii r1.2.2] 0 23 0), (0, .cells [.int .u8 a_Marks, .int .u8 a_Step, .int .u8 a_Turns] 0 52 0)]) (c' := 7) ?_ (by kernel_rfl)
        refine XR.runS E0_ok 1 5 [(3, pp 1 0), (4, s0 2 r2.length), (5, s0 3 r3.length), (8, s0 5 r13.1.length), (10, s0 6 r14.1.length), (96, .bool (!(r16 == (decide (((r3.length : Nat) : Int) < 3)))))] rfl (by kernel_rfl) ?_
        refine XR.done (by kernel_rfl) ?_
        show XQ _ _ _ _ _ _ _ _
        cases b20 : (!(r16 == (decide (((r3.length : Nat) : Int) < 3))) : Bool) with
        | true =>
         have h := cT b20 h
         refine XQ.cond (s := (.tmp 96)) (b := true) (by kernel_rfl) (by kernel_rfl) (fun _ => ?_) (fun q => by cases q)
         refine XQ.seq E0_ok (by kernel_rfl) ?_
         refine XQ.region (by kernel_rfl) ?_
         refine XR.runS E0_ok 1 1 [(2, .bool false)] rfl (by kernel_rfl) ?_
         refine XR.done (by kernel_rfl) ?_
         show XQ _ _ _ _ _ _ _ _
         refine XQ.ret (by kernel_rfl) ?_
         have h := Option.some.inj h
         subst h
         exact ⟨fun i q => (by cases q), .bool false, (by kernel_rfl), rfl⟩
        | false =>
         have h := cF b20 h
         refine XQ.cond (s := (.tmp 96)) (b := false) (by kernel_rfl) (by kernel_rfl) (fun q => by cases q) (fun _ => ?_)
         refine XQ.skip (by kernel_rfl) ?_
         show XQ _ _ _ _ _ _ _ _
         refine XQ.seq E0_ok (by kernel_rfl) ?_
         refine XQ.seq E0_ok (by kernel_rfl) ?_
         refine XQ.region (by kernel_rfl) ?_
         refine XR.runS E0_ok 1 3 [(3, pp 1 0), (4, s0 2 r2.length), (5, s0 3 r3.length), (10, s0 6 r14.1.length), (97, s0 5 r13.1.length), (98, ii ((r13.1.length : Nat) : Int)), (99, ii 0)] rfl (by kernel_rfl) ?_
         refine XR.done (by kernel_rfl) ?_
         show XQ _ _ _ _ _ _ _ _
         refine XQ.block (id := 0) (by kernel_rfl) ?_
         refine XQ.loop m (by kernel_rfl) ?_
         obtain ⟨o4, o4_h, h⟩ := bS h
         refine XL.ren (σ' := [(3, pp 0 0), (4, s0 1 r2.length), (5, s0 2 r3.length), (10, s0 3 r14.1.length), (97, s0 4 r13.1.length), (98, ii ((r13.1.length : Nat) : Int)), (99, ii 0)]) (h' := [(4, rc encP r13.1 0 63 2), (3, rc (encI .i64) r14.1 0 3 1), (2, rc (encI .i64) r3 0 3 1), (1, rc (encI .i64) r2 0 3 1), (0, .cells [ii r1.1, ii r1.2.1, ii r1.2.2] 0 23 0)]) (c' := 5) [1, 2, 3, 6, 5] (by decide) rfl ⟨by kernel_rfl, by kernel_rfl, by kernel_rfl, by kernel_rfl, by kernel_rfl, by kernel_rfl, by kernel_rfl, trivial⟩ ⟨⟨_, _, rfl, rfl, .inl ⟨rfl, rowC_scal encP_ok _⟩⟩, ⟨_, _, rfl, rfl, .inl ⟨rfl, rowC_scal (encI_ok .i64) _⟩⟩, ⟨_, _, rfl, rfl, .inl ⟨rfl, rowC_scal (encI_ok .i64) _⟩⟩, ⟨_, _, rfl, rfl, .inl ⟨rfl, rowC_scal (encI_ok .i64) _⟩⟩, ⟨_, _, rfl, rfl, .inr ⟨_, _, _, _, rfl, rfl⟩⟩, trivial⟩ rfl ?_
         cases o4 with
         | r =>
          dsimp only at h
          refine XL.conv (f15_4_ok m m ((r13.1.length : Nat) : Int) 0 r1.1 r1.2.1 r1.2.2 r2 r3 r14.1 r13.1 (.r) o4_h _ ?_) (by first | rfl | simp)
          have h := Option.some.inj h
          subst h
          exact ⟨fun i q => (by cases q), .bool false, (by kernel_rfl), rfl⟩
         | x0 xh0_0_x04 xh0_1_x04 xh0_2_x04 lh1_x04 =>
          dsimp only at h
          refine XL.conv (f15_4_ok m m ((r13.1.length : Nat) : Int) 0 r1.1 r1.2.1 r1.2.2 r2 r3 r14.1 r13.1 (.x0 xh0_0_x04 xh0_1_x04 xh0_2_x04 lh1_x04) o4_h _ ?_) (by first | rfl | simp)
          show XQ _ _ _ _ _ _ _ _
          refine XQ.seq E0_ok (by kernel_rfl) ?_
          refine XQ.seq E0_ok (by kernel_rfl) ?_
          refine XQ.region (by kernel_rfl) ?_
          refine XR.runS E0_ok 1 3 [(3, pp 0 0), (10, s0 1 lh1_x04.length), (128, s0 1 lh1_x04.length), (129, ii ((lh1_x04.length : Nat) : Int)), (130, ii 0)] rfl (by kernel_rfl) ?_
          refine XR.done (by kernel_rfl) ?_
          show XQ _ _ _ _ _ _ _ _
          refine XQ.block (id := 4) (by kernel_rfl) ?_
          refine XQ.loop m (by kernel_rfl) ?_
          obtain ⟨o6, o6_h, h⟩ := bS h
          refine XL.ren (σ' := [(3, pp 0 0), (10, s0 1 lh1_x04.length), (128, s0 1 lh1_x04.length), (129, ii ((lh1_x04.length : Nat) : Int)), (130, ii 0)]) (h' := [(1, rc (encI .i64) lh1_x04 0 3 1), (0, .cells [ii xh0_0_x04, ii xh0_1_x04, ii xh0_2_x04] 0 23 0)]) (c' := 2) [0, 1] (by decide) rfl ⟨by kernel_rfl, by kernel_rfl, by kernel_rfl, by kernel_rfl, by kernel_rfl, trivial⟩ ⟨⟨_, _, rfl, rfl, .inl ⟨rfl, rowC_scal (encI_ok .i64) _⟩⟩, ⟨_, _, rfl, rfl, .inr ⟨_, _, _, _, rfl, rfl⟩⟩, trivial⟩ rfl ?_
          cases o6 with
          | r =>
           dsimp only at h
           refine XL.conv (f15_6_ok m m xh0_0_x04 xh0_1_x04 xh0_2_x04 lh1_x04 ((lh1_x04.length : Nat) : Int) 0 (.r) o6_h _ ?_) (by first | rfl | simp)
           have h := Option.some.inj h
           subst h
           exact ⟨fun i q => (by cases q), .bool false, (by kernel_rfl), rfl⟩
          | x4 =>
           dsimp only at h
           refine XL.conv (f15_6_ok m m xh0_0_x04 xh0_1_x04 xh0_2_x04 lh1_x04 ((lh1_x04.length : Nat) : Int) 0 (.x4) o6_h _ ?_) (by first | rfl | simp)
           show XQ _ _ _ _ _ _ _ _
           refine XQ.seq E0_ok (by kernel_rfl) ?_
           refine XQ.region (by kernel_rfl) ?_
           refine XR.call E0_ok [160] rfl (K := 28) (args := []) (d := (some (path 12 160))) (by kernel_rfl) (KC.of_calls E0_ok (F := Proofs.Try.f28) (v := .bool true) (by kernel_rfl) rfl rfl (works_ok)) ?_
           rintro _ _ _ ⟨rfl, rfl, rfl⟩
           refine XR.conv (σ' := [(160, .bool true)]) (h' := []) (c' := 0) ?_ (by kernel_rfl)
           refine XR.runS E0_ok 1 1 [(2, .bool true)] rfl (by kernel_rfl) ?_
           refine XR.done (by kernel_rfl) ?_
           show XQ _ _ _ _ _ _ _ _
           refine XQ.ret (by kernel_rfl) ?_
           have h := Option.some.inj h
           subst h
           exact ⟨fun i q => (by cases q), .bool true, (by kernel_rfl), rfl⟩

end Go.Xm
