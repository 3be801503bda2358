/- What these functions of the program compute, as functions in Lean, and the proofs that they do: vitolatop.TopBlocked. Conditions: the library's variables hold what their texts lay. -/
import Derived.Test.YtlfobnldaneccaaGreatDoorZk
import Derived.Test.YtlfobnldaneccaaGreatDoorHa
import Derived.Test.YtlfobnldaneccaaGreatDoorHc
import Derived.Test.YtlfobnldaneccaaGreatDoorWb
namespace Go.Xm
open Go.RowKit
set_option linter.unusedVariables false
set_option linter.unusedSimpArgs false
set_option maxRecDepth 20000
set_option maxHeartbeats 4000000
noncomputable def f5_C5 : Code := Proofs.Tryz.f5.body.getD .skip
noncomputable def f5_L1 : Code := lft (lft (rgt (lft (rgt (rgt (rgt f5_C5))))))
noncomputable def f5_L2 : Code := lft (lft (rgt (lft (rgt (rgt (rgt (rgt (rgt (rgt (rgt (rgt f5_C5)))))))))))
noncomputable def f5_L3 : Code := lft (lft (rgt (lft (rgt (rgt (rgt (rgt (rgt (rgt (rgt (rgt (rgt (rgt f5_C5)))))))))))))
noncomputable def f5_L4 : Code := lft (lft (rgt (rgt (rgt (rgt (rgt (rgt (lft (lft (rgt (rgt f5_L3)))))))))))
noncomputable def f5_L5 : Code := lft (lft (rgt (lft (rgt (rgt (rgt (lft (lft (rgt (rgt f5_L4))))))))))
noncomputable def f5_L6 : Code := lft (lft (rgt (rgt (rgt (rgt (rgt (rgt (lft (lft (rgt (rgt f5_L3)))))))))))
noncomputable def f5_L7 : Code := lft (lft (rgt (lft (rgt (rgt (rgt (lft (lft (rgt (rgt f5_L6))))))))))
noncomputable def f5_L8 : Code := lft (lft (rgt (rgt (rgt (rgt (rgt (rgt (lft (lft (rgt (rgt f5_L3)))))))))))
noncomputable def f5_L9 : Code := lft (lft (rgt (lft (rgt (rgt (rgt (lft (lft (rgt (rgt f5_L8))))))))))
noncomputable def f5_L10 : Code := lft (lft (rgt (rgt (rgt (rgt (rgt (rgt (lft (lft (rgt (rgt f5_L3)))))))))))
noncomputable def f5_L11 : Code := lft (lft (rgt (lft (rgt (rgt (rgt (rgt (rgt (rgt (rgt (rgt (rgt (rgt (rgt (rgt f5_C5)))))))))))))))
def f5_1 (m : Nat) : Nat → Int → Int → Int → Int → Int → Int → Int → List Int → Option (Int × Int × Int × Int × (List Int))
 | 0, _, _, _, _, _, _, _, _ => none
 | fuel + 1, c, x7_1, x8_1, x46_1, x47_1, xh0_0_1, xh0_1_1, lh1_1 =>
  cond (decide (x47_1 < x46_1)) (
   cond (decide (0 ≤ x47_1)) (
    cond ((andV .u16 (shV false .u16 c x47_1) 1) == 1) (
     cond (fitsB (lh1_1.length + 1) 8) (
      f5_1 m fuel c x7_1 x8_1 x46_1 (w64 (x47_1 + 1)) xh0_0_1 xh0_1_1 (lh1_1 ++ [x47_1])
     ) none
    ) (
     f5_1 m fuel c x7_1 x8_1 x46_1 (w64 (x47_1 + 1)) xh0_0_1 xh0_1_1 lh1_1
    )
   ) none
  ) (
   some (x7_1, x8_1, xh0_0_1, xh0_1_1, lh1_1)
  )
abbrev qhd1 (c : Int) (x7_1 : Int) (x8_1 : Int) (t : St) : St := (2, .int .u16 c) :: (7, ii x7_1) :: (8, ii x8_1) :: (9, pp 0 0) :: t
abbrev qhd2 (lh1_1 : List Int) (xh0_0_1 : Int) (xh0_1_1 : Int) (t : Heap) : Heap := (2, rI []) :: (1, rI lh1_1) :: (0, .cells [ii xh0_0_1, ii xh0_1_1, s0 1 lh1_1.length, s0 2 0] 0 29 0) :: t
theorem f5_1_ok (m : Nat) : ∀ (fuel : Nat) (c : Int) (x7_1 : Int) (x8_1 : Int) (x46_1 : Int) (x47_1 : Int) (xh0_0_1 : Int) (xh0_1_1 : Int) (lh1_1 : List Int) (o : (Int × Int × Int × Int × (List Int))), f5_1 m fuel c x7_1 x8_1 x46_1 x47_1 xh0_0_1 xh0_1_1 lh1_1 = some o → ∀ Q : QP, Q (.exit 0) [(7, ii o.1), (8, ii o.2.1), (9, pp 0 0)] [(2, rI []), (1, rI o.2.2.2.2), (0, .cells [ii o.2.2.1, ii o.2.2.2.1, s0 1 o.2.2.2.2.length, s0 2 0] 0 29 0)] 3 → XL E0 223 0 fuel f5_L1 (qhd1 c x7_1 x8_1 [(46, ii x46_1), (47, ii x47_1)]) (qhd2 lh1_1 xh0_0_1 xh0_1_1 []) 3 Q
 | 0, c, x7_1, x8_1, x46_1, x47_1, xh0_0_1, xh0_1_1, lh1_1, o, h, Q, hQ => by cases h
 | fuel + 1, c, x7_1, x8_1, x46_1, x47_1, xh0_0_1, xh0_1_1, lh1_1, o, h, Q, hQ => by
  unfold f5_1 at h
  refine XL.succ E0_ok ?_
  refine qQ ?_
  refine rS 1 (qhd1 c x7_1 x8_1 [(46, ii x46_1), (47, ii x47_1), (48, .bool (decide (x47_1 < x46_1)))]) ?_
  refine dQ ?_
  show XQ _ _ _ _ _ _ _ _
  refine sQ ?_
  cases b1 : (decide (x47_1 < x46_1) : Bool) with
  | true =>
   have h := cT b1 h
   refine iT (.tmp 48) ?_
   refine kQ ?_
   show XQ _ _ _ _ _ _ _ _
   refine sQ ?_
   refine XQ.block (id := 1) (by kernel_rfl) ?_
   refine qQ ?_
   refine rS 2 (qhd1 c x7_1 x8_1 [(10, ii x47_1), (46, ii x46_1), (47, ii x47_1)]) ?_
   refine nQ id ?_
   refine rS 2 (qhd1 c x7_1 x8_1 [(10, ii x47_1), (46, ii x46_1), (47, ii x47_1), (50, .int .u16 c), (51, ii x47_1)]) ?_
   cases b2 : (decide (0 ≤ x47_1) : Bool) with
   | false => cases (cF b2 h)
   | true =>
    have h := cT b2 h
    have e3 : insV (headI ((gsOf E0 223 (opsOf (lft (rgt (lft (lft (rgt (rgt f5_L1)))))))).drop 2) (trS 223 (qhd1 c x7_1 x8_1 [(10, ii x47_1), (46, ii x46_1), (47, ii x47_1), (50, .int .u16 c), (51, ii x47_1)]))) (trS 223 (qhd1 c x7_1 x8_1 [(10, ii x47_1), (46, ii x46_1), (47, ii x47_1), (50, .int .u16 c), (51, ii x47_1)])) (qhd2 lh1_1 xh0_0_1 xh0_1_1 []) = (match (decide (0 ≤ x47_1) : Bool) with | true => some (.int .u16 (shV false .u16 c x47_1)) | false => none) := by kernel_rfl
    refine XR.rd E0_ok [2, 7, 8, 9, 10, 46, 47, 52] rfl (e3.trans (by rw [b2])) (σ' := (qhd1 c x7_1 x8_1 [(10, ii x47_1), (46, ii x46_1), (47, ii x47_1), (52, .int .u16 (shV false .u16 c x47_1))])) (by kernel_rfl) ?_
    refine rS 2 (qhd1 c x7_1 x8_1 [(10, ii x47_1), (46, ii x46_1), (47, ii x47_1), (54, .bool ((andV .u16 (shV false .u16 c x47_1) 1) == 1))]) ?_
    refine dQ ?_
    show XQ _ _ _ _ _ _ _ _
    cases b4 : ((andV .u16 (shV false .u16 c x47_1) 1) == 1 : Bool) with
    | true =>
     have h := cT b4 h
     refine iT (.tmp 54) ?_
     refine rQ ?_
     refine rT 4 (qhd1 c x7_1 x8_1 [(46, ii x46_1), (47, ii x47_1), (56, s0 1 lh1_1.length), (58, s0 3 1)]) ((3, .cells [ii x47_1] 0 3 1) :: qhd2 lh1_1 xh0_0_1 xh0_1_1 []) 4 ?_
     cases b5 : (fitsB (lh1_1.length + 1) 8 : Bool) with
     | false => cases (cF b5 h)
     | true =>
      have h := cT b5 h
      refine XR.ef E0_ok [2, 7, 8, 9, 46, 47, 59] rfl (e_append (encI_ok .i64) (bytes := 8) (e := 3) (x := (src 223 (.tmp 56))) (y := (src 223 (.tmp 58))) (b := 1) (len := lh1_1.length) (cap := lh1_1.length) (xs := lh1_1) (m := 0) (ys := [x47_1]) (d := (some (path 12 59))) (n' := (lh1_1 ++ [x47_1]).length) (h' := [(4, rI (lh1_1 ++ [x47_1])), (3, .cells [ii x47_1] 0 3 1), (2, rI []), (0, .cells [ii xh0_0_1, ii xh0_1_1, s0 1 lh1_1.length, s0 2 0] 0 29 0)]) (by kernel_rfl) (by kernel_rfl) (by kernel_rfl) (by kernel_rfl) rfl (by simp) (by simp) b5 (by simp) (by kernel_rfl)) (σ' := (qhd1 c x7_1 x8_1 [(46, ii x46_1), (47, ii x47_1), (59, s0 4 ((lh1_1 ++ [x47_1]).length))])) (by kernel_rfl) ?_
      refine rT 2 (qhd1 c x7_1 x8_1 [(46, ii x46_1), (47, ii x47_1)]) [(4, rI (lh1_1 ++ [x47_1])), (3, .cells [ii x47_1] 0 3 1), (2, rI []), (0, .cells [ii xh0_0_1, ii xh0_1_1, s0 4 ((lh1_1 ++ [x47_1]).length), s0 2 0] 0 29 0)] 5 ?_
      refine dQ ?_
      show XQ _ _ _ _ _ _ _ _
      refine rQ ?_
      refine rS 2 (qhd1 c x7_1 x8_1 [(46, ii x46_1), (47, ii (w64 (x47_1 + 1)))]) ?_
      refine dQ ?_
      show XL _ _ _ _ _ _ _ _ _
      refine XL.ren (σ' := (qhd1 c x7_1 x8_1 [(46, ii x46_1), (47, ii (w64 (x47_1 + 1)))])) (h' := [(2, rI []), (1, rI (lh1_1 ++ [x47_1])), (0, .cells [ii xh0_0_1, ii xh0_1_1, s0 1 ((lh1_1 ++ [x47_1]).length), s0 2 0] 0 29 0)]) (c' := 3) [0, 4, 2] (by decide) rfl ⟨rfl, rfl, rfl, rfl, rfl, rfl, trivial⟩ ⟨⟨_, _, rfl, rfl, .inl ⟨rfl, rwI⟩⟩, ⟨_, _, rfl, rfl, .inl ⟨rfl, rwI⟩⟩, ⟨_, _, rfl, rfl, .inr ⟨_, _, _, _, rfl, rfl⟩⟩, trivial⟩ rfl ?_
      refine XL.conv (f5_1_ok m fuel c x7_1 x8_1 x46_1 (w64 (x47_1 + 1)) xh0_0_1 xh0_1_1 (lh1_1 ++ [x47_1]) o h Q hQ) (by first | with_reducible rfl | simp | rfl)
    | false =>
     have h := cF b4 h
     refine iF (.tmp 54) ?_
     refine kQ ?_
     show XQ _ _ _ _ _ _ _ _
     refine rQ ?_
     refine rS 2 (qhd1 c x7_1 x8_1 [(46, ii x46_1), (47, ii (w64 (x47_1 + 1)))]) ?_
     refine dQ ?_
     show XL _ _ _ _ _ _ _ _ _
     refine XL.ren (σ' := (qhd1 c x7_1 x8_1 [(46, ii x46_1), (47, ii (w64 (x47_1 + 1)))])) (h' := (qhd2 lh1_1 xh0_0_1 xh0_1_1 [])) (c' := 3) [0, 1, 2] (by decide) rfl ⟨rfl, rfl, rfl, rfl, rfl, rfl, trivial⟩ ⟨⟨_, _, rfl, rfl, .inl ⟨rfl, rwI⟩⟩, ⟨_, _, rfl, rfl, .inl ⟨rfl, rwI⟩⟩, ⟨_, _, rfl, rfl, .inr ⟨_, _, _, _, rfl, rfl⟩⟩, trivial⟩ rfl ?_
     refine XL.conv (f5_1_ok m fuel c x7_1 x8_1 x46_1 (w64 (x47_1 + 1)) xh0_0_1 xh0_1_1 lh1_1 o h Q hQ) (by first | with_reducible rfl | simp | rfl)
  | false =>
   have h := cF b1 h
   refine iF (.tmp 48) ?_
   refine XQ.ren (σ' := [(7, ii x7_1), (8, ii x8_1), (9, pp 0 0)]) (h' := (qhd2 lh1_1 xh0_0_1 xh0_1_1 [])) (c' := 3) [0, 1, 2] (by decide) rfl ⟨rfl, rfl, rfl, trivial⟩ ⟨⟨_, _, rfl, rfl, .inl ⟨rfl, rwI⟩⟩, ⟨_, _, rfl, rfl, .inl ⟨rfl, rwI⟩⟩, ⟨_, _, rfl, rfl, .inr ⟨_, _, _, _, rfl, rfl⟩⟩, trivial⟩ rfl ?_
   refine XQ.exit (i := 0) (by kernel_rfl) ?_
   cases h
   exact hQ
def f5_2 (m : Nat) : Nat → Int → Int → Int → Int → List Int → List (Int × Int × Int × Int) → List Int → Option (Int × Int × (List Int) × (List (Int × Int × Int × Int)) × (List Int))
 | 0, _, _, _, _, _, _, _ => none
 | fuel + 1, x7_2, x8_2, x88_2, x89_2, lh0_2, lh1_2, lh2_2 =>
  cond (decide (x89_2 < x88_2)) (
   cond (fitsB (lh2_2.length + 1) 8) (
    f5_2 m fuel x7_2 x8_2 x88_2 (w64 (x89_2 + 1)) lh0_2 lh1_2 (lh2_2 ++ [x89_2])
   ) none
  ) (
   some (x7_2, x8_2, lh0_2, lh1_2, lh2_2)
  )
abbrev qhd3 (lh0_2 : List Int) (lh1_2 : List (Int × Int × Int × Int)) (x7_2 : Int) (x8_2 : Int) (t : St) : St := (7, ii x7_2) :: (8, ii x8_2) :: (11, s0 0 lh0_2.length) :: (13, s0 1 lh1_2.length) :: t
theorem f5_2_ok (m : Nat) : ∀ (fuel : Nat) (x7_2 : Int) (x8_2 : Int) (x88_2 : Int) (x89_2 : Int) (lh0_2 : List Int) (lh1_2 : List (Int × Int × Int × Int)) (lh2_2 : List Int) (o : (Int × Int × (List Int) × (List (Int × Int × Int × Int)) × (List Int))), f5_2 m fuel x7_2 x8_2 x88_2 x89_2 lh0_2 lh1_2 lh2_2 = some o → ∀ Q : QP, Q (.exit 2) [(7, ii o.1), (8, ii o.2.1), (11, s0 0 o.2.2.1.length), (13, s0 1 o.2.2.2.1.length), (15, s0 2 o.2.2.2.2.length)] [(2, rI o.2.2.2.2), (1, rc encR o.2.2.2.1 0 43 4), (0, rI o.2.2.1)] 3 → XL E0 223 0 fuel f5_L2 (qhd3 lh0_2 lh1_2 x7_2 x8_2 [(15, s0 2 lh2_2.length), (88, ii x88_2), (89, ii x89_2)]) [(2, rI lh2_2), (1, rc encR lh1_2 0 43 4), (0, rI lh0_2)] 3 Q
 | 0, x7_2, x8_2, x88_2, x89_2, lh0_2, lh1_2, lh2_2, o, h, Q, hQ => by cases h
 | fuel + 1, x7_2, x8_2, x88_2, x89_2, lh0_2, lh1_2, lh2_2, o, h, Q, hQ => by
  unfold f5_2 at h
  refine XL.succ E0_ok ?_
  refine qQ ?_
  refine rS 1 (qhd3 lh0_2 lh1_2 x7_2 x8_2 [(15, s0 2 lh2_2.length), (88, ii x88_2), (89, ii x89_2), (90, .bool (decide (x89_2 < x88_2)))]) ?_
  refine dQ ?_
  show XQ _ _ _ _ _ _ _ _
  refine sQ ?_
  cases b1 : (decide (x89_2 < x88_2) : Bool) with
  | true =>
   have h := cT b1 h
   refine iT (.tmp 90) ?_
   refine kQ ?_
   show XQ _ _ _ _ _ _ _ _
   refine sQ ?_
   refine XQ.block (id := 3) (by kernel_rfl) ?_
   refine qQ ?_
   refine rS 2 (qhd3 lh0_2 lh1_2 x7_2 x8_2 [(15, s0 2 lh2_2.length), (16, ii x89_2), (88, ii x88_2), (89, ii x89_2)]) ?_
   refine dQ ?_
   show XQ _ _ _ _ _ _ _ _
   refine rQ ?_
   refine rT 3 (qhd3 lh0_2 lh1_2 x7_2 x8_2 [(88, ii x88_2), (89, ii x89_2), (92, s0 2 lh2_2.length), (94, s0 3 1)]) [(3, .cells [ii x89_2] 0 3 1), (2, rI lh2_2), (1, rc encR lh1_2 0 43 4), (0, rI lh0_2)] 4 ?_
   cases b2 : (fitsB (lh2_2.length + 1) 8 : Bool) with
   | false => cases (cF b2 h)
   | true =>
    have h := cT b2 h
    refine XR.ef E0_ok [7, 8, 11, 13, 88, 89, 95] rfl (e_append (encI_ok .i64) (bytes := 8) (e := 3) (x := (src 223 (.tmp 92))) (y := (src 223 (.tmp 94))) (b := 2) (len := lh2_2.length) (cap := lh2_2.length) (xs := lh2_2) (m := 0) (ys := [x89_2]) (d := (some (path 12 95))) (n' := (lh2_2 ++ [x89_2]).length) (h' := [(4, rI (lh2_2 ++ [x89_2])), (3, .cells [ii x89_2] 0 3 1), (1, rc encR lh1_2 0 43 4), (0, rI lh0_2)]) (by kernel_rfl) (by kernel_rfl) (by kernel_rfl) (by kernel_rfl) rfl (by simp) (by simp) b2 (by simp) (by kernel_rfl)) (σ' := (qhd3 lh0_2 lh1_2 x7_2 x8_2 [(88, ii x88_2), (89, ii x89_2), (95, s0 4 ((lh2_2 ++ [x89_2]).length))])) (by kernel_rfl) ?_
    refine rS 1 (qhd3 lh0_2 lh1_2 x7_2 x8_2 [(15, s0 4 ((lh2_2 ++ [x89_2]).length)), (88, ii x88_2), (89, ii x89_2)]) ?_
    refine dQ ?_
    show XQ _ _ _ _ _ _ _ _
    refine rQ ?_
    refine rS 2 (qhd3 lh0_2 lh1_2 x7_2 x8_2 [(15, s0 4 ((lh2_2 ++ [x89_2]).length)), (88, ii x88_2), (89, ii (w64 (x89_2 + 1)))]) ?_
    refine dQ ?_
    show XL _ _ _ _ _ _ _ _ _
    refine XL.ren (σ' := (qhd3 lh0_2 lh1_2 x7_2 x8_2 [(15, s0 2 ((lh2_2 ++ [x89_2]).length)), (88, ii x88_2), (89, ii (w64 (x89_2 + 1)))])) (h' := [(2, rI (lh2_2 ++ [x89_2])), (1, rc encR lh1_2 0 43 4), (0, rI lh0_2)]) (c' := 3) [0, 1, 4] (by decide) rfl ⟨rfl, rfl, rfl, rfl, rfl, rfl, rfl, trivial⟩ ⟨⟨_, _, rfl, rfl, .inl ⟨rfl, rwI⟩⟩, ⟨_, _, rfl, rfl, .inl ⟨rfl, rowC_scal encR_ok _⟩⟩, ⟨_, _, rfl, rfl, .inl ⟨rfl, rwI⟩⟩, trivial⟩ rfl ?_
    refine XL.conv (f5_2_ok m fuel x7_2 x8_2 x88_2 (w64 (x89_2 + 1)) lh0_2 lh1_2 (lh2_2 ++ [x89_2]) o h Q hQ) (by first | with_reducible rfl | simp | rfl)
  | false =>
   have h := cF b1 h
   refine iF (.tmp 90) ?_
   refine XQ.ren (σ' := (qhd3 lh0_2 lh1_2 x7_2 x8_2 [(15, s0 2 lh2_2.length)])) (h' := [(2, rI lh2_2), (1, rc encR lh1_2 0 43 4), (0, rI lh0_2)]) (c' := 3) [0, 1, 2] (by decide) rfl ⟨rfl, rfl, rfl, rfl, rfl, trivial⟩ ⟨⟨_, _, rfl, rfl, .inl ⟨rfl, rwI⟩⟩, ⟨_, _, rfl, rfl, .inl ⟨rfl, rowC_scal encR_ok _⟩⟩, ⟨_, _, rfl, rfl, .inl ⟨rfl, rwI⟩⟩, trivial⟩ rfl ?_
   refine XQ.exit (i := 2) (by kernel_rfl) ?_
   cases h
   exact hQ
def f5_5 (m : Nat) : Nat → Int → Int → Int → Int → Int → List Int → List (Int × Int × Int × Int) → Int → List Int → List Int → Int → Int → Int → List Int → Option (Int × (List Int))
 | 0, _, _, _, _, _, _, _, _, _, _, _, _, _, _ => none
 | fuel + 1, x7_3, x8_3, x17_3, x98_3, x99_3, lh0_3, lh1_3, x134_4, lh2_4, lh3_4, x22_5, x145_5, x146_5, lh3_5 =>
  cond (decide (x146_5 < x145_5)) (
   cond (fitsB (lh3_5.length + 1) 8) (
    f5_5 m fuel x7_3 x8_3 x17_3 x98_3 x99_3 lh0_3 lh1_3 x134_4 lh2_4 lh3_4 x22_5 x145_5 (w64 (x146_5 + 1)) (lh3_5 ++ [x146_5])
   ) none
  ) (
   some (x22_5, lh3_5)
  )
abbrev qhd4 (lh0_3 : List Int) (lh1_3 : List (Int × Int × Int × Int)) (lh2_4 : List Int) (x17_3 : Int) (x7_3 : Int) (x8_3 : Int) (x99_3 : Int) (t : St) : St := (7, ii x7_3) :: (8, ii x8_3) :: (11, s0 0 lh0_3.length) :: (13, s0 1 lh1_3.length) :: (15, s0 2 lh2_4.length) :: (17, ii x17_3) :: (18, ii x99_3) :: t
abbrev qhd5 (lh0_3 : List Int) (lh3_4 : List Int) (x134_4 : Int) (x98_3 : Int) (x99_3 : Int) (t : St) : St := (97, s0 0 lh0_3.length) :: (98, ii x98_3) :: (99, ii x99_3) :: (132, s0 4 lh3_4.length) :: (133, ii 2) :: (134, ii x134_4) :: t
theorem f5_5_ok (m : Nat) : ∀ (fuel : Nat) (x7_3 : Int) (x8_3 : Int) (x17_3 : Int) (x98_3 : Int) (x99_3 : Int) (lh0_3 : List Int) (lh1_3 : List (Int × Int × Int × Int)) (x134_4 : Int) (lh2_4 : List Int) (lh3_4 : List Int) (x22_5 : Int) (x145_5 : Int) (x146_5 : Int) (lh3_5 : List Int) (o : (Int × (List Int))), f5_5 m fuel x7_3 x8_3 x17_3 x98_3 x99_3 lh0_3 lh1_3 x134_4 lh2_4 lh3_4 x22_5 x145_5 x146_5 lh3_5 = some o → ∀ Q : QP, Q (.exit 8) (qhd4 lh0_3 lh1_3 lh2_4 x17_3 x7_3 x8_3 x99_3 ((22, ii o.1) :: (23, s0 3 o.2.length) :: qhd5 lh0_3 lh3_4 x134_4 x98_3 x99_3 [])) [(4, rI lh3_4), (3, rI o.2), (2, rI lh2_4), (1, rc encR lh1_3 0 43 4), (0, rI lh0_3)] 5 → XL E0 223 0 fuel f5_L5 (qhd4 lh0_3 lh1_3 lh2_4 x17_3 x7_3 x8_3 x99_3 ((22, ii x22_5) :: (23, s0 3 lh3_5.length) :: qhd5 lh0_3 lh3_4 x134_4 x98_3 x99_3 [(145, ii x145_5), (146, ii x146_5)])) [(4, rI lh3_4), (3, rI lh3_5), (2, rI lh2_4), (1, rc encR lh1_3 0 43 4), (0, rI lh0_3)] 5 Q
 | 0, x7_3, x8_3, x17_3, x98_3, x99_3, lh0_3, lh1_3, x134_4, lh2_4, lh3_4, x22_5, x145_5, x146_5, lh3_5, o, h, Q, hQ => by cases h
 | fuel + 1, x7_3, x8_3, x17_3, x98_3, x99_3, lh0_3, lh1_3, x134_4, lh2_4, lh3_4, x22_5, x145_5, x146_5, lh3_5, o, h, Q, hQ => by
  unfold f5_5 at h
  refine XL.succ E0_ok ?_
  refine qQ ?_
  refine rS 1 (qhd4 lh0_3 lh1_3 lh2_4 x17_3 x7_3 x8_3 x99_3 ((22, ii x22_5) :: (23, s0 3 lh3_5.length) :: qhd5 lh0_3 lh3_4 x134_4 x98_3 x99_3 [(145, ii x145_5), (146, ii x146_5), (147, .bool (decide (x146_5 < x145_5)))])) ?_
  refine dQ ?_
  show XQ _ _ _ _ _ _ _ _
  refine sQ ?_
  cases b1 : (decide (x146_5 < x145_5) : Bool) with
  | true =>
   have h := cT b1 h
   refine iT (.tmp 147) ?_
   refine kQ ?_
   show XQ _ _ _ _ _ _ _ _
   refine sQ ?_
   refine XQ.block (id := 9) (by kernel_rfl) ?_
   refine qQ ?_
   refine rS 2 (qhd4 lh0_3 lh1_3 lh2_4 x17_3 x7_3 x8_3 x99_3 ((22, ii x22_5) :: (23, s0 3 lh3_5.length) :: (24, ii x146_5) :: qhd5 lh0_3 lh3_4 x134_4 x98_3 x99_3 [(145, ii x145_5), (146, ii x146_5)])) ?_
   refine dQ ?_
   show XQ _ _ _ _ _ _ _ _
   refine rQ ?_
   refine rT 3 (qhd4 lh0_3 lh1_3 lh2_4 x17_3 x7_3 x8_3 x99_3 ((22, ii x22_5) :: qhd5 lh0_3 lh3_4 x134_4 x98_3 x99_3 [(145, ii x145_5), (146, ii x146_5), (149, s0 3 lh3_5.length), (151, s0 5 1)])) [(5, .cells [ii x146_5] 0 3 1), (4, rI lh3_4), (3, rI lh3_5), (2, rI lh2_4), (1, rc encR lh1_3 0 43 4), (0, rI lh0_3)] 6 ?_
   cases b2 : (fitsB (lh3_5.length + 1) 8 : Bool) with
   | false => cases (cF b2 h)
   | true =>
    have h := cT b2 h
    refine XR.ef E0_ok [7, 8, 11, 13, 15, 17, 18, 22, 97, 98, 99, 132, 133, 134, 145, 146, 152] rfl (e_append (encI_ok .i64) (bytes := 8) (e := 3) (x := (src 223 (.tmp 149))) (y := (src 223 (.tmp 151))) (b := 3) (len := lh3_5.length) (cap := lh3_5.length) (xs := lh3_5) (m := 0) (ys := [x146_5]) (d := (some (path 12 152))) (n' := (lh3_5 ++ [x146_5]).length) (h' := [(6, rI (lh3_5 ++ [x146_5])), (5, .cells [ii x146_5] 0 3 1), (4, rI lh3_4), (2, rI lh2_4), (1, rc encR lh1_3 0 43 4), (0, rI lh0_3)]) (by kernel_rfl) (by kernel_rfl) (by kernel_rfl) (by kernel_rfl) rfl (by simp) (by simp) b2 (by simp) (by kernel_rfl)) (σ' := (qhd4 lh0_3 lh1_3 lh2_4 x17_3 x7_3 x8_3 x99_3 ((22, ii x22_5) :: qhd5 lh0_3 lh3_4 x134_4 x98_3 x99_3 [(145, ii x145_5), (146, ii x146_5), (152, s0 6 ((lh3_5 ++ [x146_5]).length))]))) (by kernel_rfl) ?_
    refine rS 1 (qhd4 lh0_3 lh1_3 lh2_4 x17_3 x7_3 x8_3 x99_3 ((22, ii x22_5) :: (23, s0 6 ((lh3_5 ++ [x146_5]).length)) :: qhd5 lh0_3 lh3_4 x134_4 x98_3 x99_3 [(145, ii x145_5), (146, ii x146_5)])) ?_
    refine dQ ?_
    show XQ _ _ _ _ _ _ _ _
    refine rQ ?_
    refine rS 2 (qhd4 lh0_3 lh1_3 lh2_4 x17_3 x7_3 x8_3 x99_3 ((22, ii x22_5) :: (23, s0 6 ((lh3_5 ++ [x146_5]).length)) :: qhd5 lh0_3 lh3_4 x134_4 x98_3 x99_3 [(145, ii x145_5), (146, ii (w64 (x146_5 + 1)))])) ?_
    refine dQ ?_
    show XL _ _ _ _ _ _ _ _ _
    refine XL.ren (σ' := (qhd4 lh0_3 lh1_3 lh2_4 x17_3 x7_3 x8_3 x99_3 ((22, ii x22_5) :: (23, s0 3 ((lh3_5 ++ [x146_5]).length)) :: qhd5 lh0_3 lh3_4 x134_4 x98_3 x99_3 [(145, ii x145_5), (146, ii (w64 (x146_5 + 1)))]))) (h' := [(4, rI lh3_4), (3, rI (lh3_5 ++ [x146_5])), (2, rI lh2_4), (1, rc encR lh1_3 0 43 4), (0, rI lh0_3)]) (c' := 5) [0, 1, 2, 6, 4] (by decide) rfl ⟨rfl, rfl, rfl, rfl, rfl, rfl, rfl, rfl, rfl, rfl, rfl, rfl, rfl, rfl, rfl, rfl, rfl, trivial⟩ ⟨⟨_, _, rfl, rfl, .inl ⟨rfl, rwI⟩⟩, ⟨_, _, rfl, rfl, .inl ⟨rfl, rwI⟩⟩, ⟨_, _, rfl, rfl, .inl ⟨rfl, rwI⟩⟩, ⟨_, _, rfl, rfl, .inl ⟨rfl, rowC_scal encR_ok _⟩⟩, ⟨_, _, rfl, rfl, .inl ⟨rfl, rwI⟩⟩, trivial⟩ rfl ?_
    refine XL.conv (f5_5_ok m fuel x7_3 x8_3 x17_3 x98_3 x99_3 lh0_3 lh1_3 x134_4 lh2_4 lh3_4 x22_5 x145_5 (w64 (x146_5 + 1)) (lh3_5 ++ [x146_5]) o h Q hQ) (by first | with_reducible rfl | simp | rfl)
  | false =>
   have h := cF b1 h
   refine iF (.tmp 147) ?_
   refine XQ.ren (σ' := (qhd4 lh0_3 lh1_3 lh2_4 x17_3 x7_3 x8_3 x99_3 ((22, ii x22_5) :: (23, s0 3 lh3_5.length) :: qhd5 lh0_3 lh3_4 x134_4 x98_3 x99_3 []))) (h' := [(4, rI lh3_4), (3, rI lh3_5), (2, rI lh2_4), (1, rc encR lh1_3 0 43 4), (0, rI lh0_3)]) (c' := 5) [0, 1, 2, 3, 4] (by decide) rfl ⟨rfl, rfl, rfl, rfl, rfl, rfl, rfl, rfl, rfl, rfl, rfl, rfl, rfl, rfl, rfl, trivial⟩ ⟨⟨_, _, rfl, rfl, .inl ⟨rfl, rwI⟩⟩, ⟨_, _, rfl, rfl, .inl ⟨rfl, rwI⟩⟩, ⟨_, _, rfl, rfl, .inl ⟨rfl, rwI⟩⟩, ⟨_, _, rfl, rfl, .inl ⟨rfl, rowC_scal encR_ok _⟩⟩, ⟨_, _, rfl, rfl, .inl ⟨rfl, rwI⟩⟩, trivial⟩ rfl ?_
   refine XQ.exit (i := 8) (by kernel_rfl) ?_
   cases h
   exact hQ
inductive Of5_4 where
 | r
 | x6 (lh2_x64 : List Int)
def f5_4 (m : Nat) : Nat → Int → Int → Int → Int → Int → List Int → List (Int × Int × Int × Int) → Int → List Int → List Int → Option Of5_4
 | 0, _, _, _, _, _, _, _, _, _, _ => none
 | fuel + 1, x7_3, x8_3, x17_3, x98_3, x99_3, lh0_3, lh1_3, x134_4, lh2_4, lh3_4 =>
  cond (decide (x134_4 < 2)) (
   cond (inRow x134_4 lh3_4.length) (
    cond (inRow (List.getD lh3_4 (Int.toNat x134_4) 0) lh0_3.length) (
     cond (decide ((List.getD lh0_3 (Int.toNat (List.getD lh3_4 (Int.toNat x134_4) 0)) 0) < 0)) (
      f5_4 m fuel x7_3 x8_3 x17_3 x98_3 x99_3 lh0_3 lh1_3 (w64 (x134_4 + 1)) lh2_4 lh3_4
     ) (
      (f5_5 m m x7_3 x8_3 x17_3 x98_3 x99_3 lh0_3 lh1_3 x134_4 lh2_4 lh3_4 (List.getD lh3_4 (Int.toNat x134_4) 0) (w64 (x7_3 * x8_3)) 0 []).bind fun o5 =>
       cond (inRow o5.1 o5.2.length) (
        (f18 m (List.set o5.2 (Int.toNat o5.1) x99_3)).bind fun r63 =>
         cond (r63.2 != 0) (
          some (.r)
         ) (
          (f19 m lh2_4 r63.1).bind fun r64 =>
           (f20 m lh2_4 r64.1).bind fun r65 =>
            cond (r64.2 != 0) (
             some (.r)
            ) (
             cond (r65.2 != 0) (
              some (.r)
             ) (
              cond (!r65.1) (
               some (.r)
              ) (
               cond (((r64.1.length : Nat) : Int) != (w64 (x7_3 * x8_3))) (
                some (.r)
               ) (
                f5_4 m fuel x7_3 x8_3 x17_3 x98_3 x99_3 lh0_3 lh1_3 (w64 (x134_4 + 1)) r64.1 lh3_4
               )
              )
             )
            )
         )
       ) none
     )
    ) none
   ) none
  ) (
   some (.x6 lh2_4)
  )
abbrev qhd6 (lh0_3 : List Int) (lh1_3 : List (Int × Int × Int × Int)) (lh2_4 : List Int) (x17_3 : Int) (x7_3 : Int) (x8_3 : Int) (x99_3 : Int) (t : St) : St := (7, ii x7_3) :: (8, ii x8_3) :: (11, s0 0 lh0_3.length) :: (13, s0 1 lh1_3.length) :: (15, s0 2 lh2_4.length) :: (17, ii x17_3) :: (18, ii x99_3) :: t
abbrev qhd7 (lh0_3 : List Int) (lh3_4 : List Int) (x134_4 : Int) (x98_3 : Int) (x99_3 : Int) (t : St) : St := (97, s0 0 lh0_3.length) :: (98, ii x98_3) :: (99, ii x99_3) :: (132, s0 4 lh3_4.length) :: (133, ii 2) :: (134, ii x134_4) :: t
abbrev qhd8 (lh0_3 : List Int) (lh3_4 : List Int) (x98_3 : Int) (x99_3 : Int) (t : St) : St := (97, s0 0 lh0_3.length) :: (98, ii x98_3) :: (99, ii x99_3) :: (132, s0 3 lh3_4.length) :: (133, ii 2) :: t
theorem f5_4_ok (m : Nat) : ∀ (fuel : Nat) (x7_3 : Int) (x8_3 : Int) (x17_3 : Int) (x98_3 : Int) (x99_3 : Int) (lh0_3 : List Int) (lh1_3 : List (Int × Int × Int × Int)) (x134_4 : Int) (lh2_4 : List Int) (lh3_4 : List Int) (o : Of5_4), f5_4 m fuel x7_3 x8_3 x17_3 x98_3 x99_3 lh0_3 lh1_3 x134_4 lh2_4 lh3_4 = some o → ∀ Q : QP, (match o with | .r => Q .ret [(6, .bool false)] [] 0 | .x6 lh2_x64 => Q (.exit 6) [(7, ii x7_3), (8, ii x8_3), (11, s0 0 lh0_3.length), (13, s0 1 lh1_3.length), (15, s0 2 lh2_x64.length), (17, ii x17_3), (97, s0 0 lh0_3.length), (98, ii x98_3), (99, ii x99_3)] [(2, rI lh2_x64), (1, rc encR lh1_3 0 43 4), (0, rI lh0_3)] 3) → XL E0 223 0 fuel f5_L4 (qhd6 lh0_3 lh1_3 lh2_4 x17_3 x7_3 x8_3 x99_3 (qhd8 lh0_3 lh3_4 x98_3 x99_3 [(134, ii x134_4)])) [(3, rI lh3_4), (2, rI lh2_4), (1, rc encR lh1_3 0 43 4), (0, rI lh0_3)] 4 Q
 | 0, x7_3, x8_3, x17_3, x98_3, x99_3, lh0_3, lh1_3, x134_4, lh2_4, lh3_4, o, h, Q, hQ => by cases h
 | fuel + 1, x7_3, x8_3, x17_3, x98_3, x99_3, lh0_3, lh1_3, x134_4, lh2_4, lh3_4, o, h, Q, hQ => by
  unfold f5_4 at h
  refine XL.succ E0_ok ?_
  refine qQ ?_
  refine rS 1 (qhd6 lh0_3 lh1_3 lh2_4 x17_3 x7_3 x8_3 x99_3 (qhd8 lh0_3 lh3_4 x98_3 x99_3 [(134, ii x134_4), (135, .bool (decide (x134_4 < 2)))])) ?_
  refine dQ ?_
  show XQ _ _ _ _ _ _ _ _
  refine sQ ?_
  cases b1 : (decide (x134_4 < 2) : Bool) with
  | true =>
   have h := cT b1 h
   refine iT (.tmp 135) ?_
   refine kQ ?_
   show XQ _ _ _ _ _ _ _ _
   refine sQ ?_
   refine XQ.block (id := 7) (by kernel_rfl) ?_
   refine qQ ?_
   cases b2 : (inRow x134_4 lh3_4.length : Bool) with
   | false => cases (cF b2 h)
   | true =>
    have h := cT b2 h
    refine XR.rd E0_ok [7, 8, 11, 13, 15, 17, 18, 97, 98, 99, 132, 133, 134, 136] rfl (v := pp 3 ((Int.toNat x134_4) * 1)) (v_idx (s := 1) (x := (src 223 (.tmp 132))) (y := (src 223 (.tmp 134))) (b := 3) (o := 0) (len := lh3_4.length) (cap := lh3_4.length) (ik := .i64) (i := x134_4) (off := (Int.toNat x134_4) * 1) (d := (some (path 12 136))) (by kernel_rfl) (by kernel_rfl) (by kernel_rfl) b2 (by omega)) (σ' := (qhd6 lh0_3 lh1_3 lh2_4 x17_3 x7_3 x8_3 x99_3 (qhd8 lh0_3 lh3_4 x98_3 x99_3 [(134, ii x134_4), (136, pp 3 ((Int.toNat x134_4) * 1))]))) (by kernel_rfl) ?_
    refine XR.rd E0_ok [7, 8, 11, 13, 15, 17, 18, 97, 98, 99, 132, 133, 134, 137] rfl (v := ii (List.getD lh3_4 (Int.toNat x134_4) 0)) (v_load1 (encI_ok .i64) (x := (src 223 (.tmp 136))) (b := 3) (off := (Int.toNat x134_4) * 1) (xs := lh3_4) (fz := 0) (e := 3) (es := 1) (d := (some (path 12 137))) (by kernel_rfl) (by kernel_rfl) (by kernel_rfl) (Int.toNat x134_4) 0 0 (by first | with_reducible rfl | omega | rfl) (row_len (inRow_toNat b2) (by simp)) rfl rfl) (σ' := (qhd6 lh0_3 lh1_3 lh2_4 x17_3 x7_3 x8_3 x99_3 (qhd8 lh0_3 lh3_4 x98_3 x99_3 [(134, ii x134_4), (137, ii (List.getD lh3_4 (Int.toNat x134_4) 0))]))) (by kernel_rfl) ?_
    refine rS 1 (qhd6 lh0_3 lh1_3 lh2_4 x17_3 x7_3 x8_3 x99_3 ((22, ii (List.getD lh3_4 (Int.toNat x134_4) 0)) :: qhd8 lh0_3 lh3_4 x98_3 x99_3 [(134, ii x134_4)])) ?_
    refine dQ ?_
    show XQ _ _ _ _ _ _ _ _
    refine sQ ?_
    refine qQ ?_
    refine rS 2 (qhd6 lh0_3 lh1_3 lh2_4 x17_3 x7_3 x8_3 x99_3 ((22, ii (List.getD lh3_4 (Int.toNat x134_4) 0)) :: qhd8 lh0_3 lh3_4 x98_3 x99_3 [(134, ii x134_4), (138, s0 0 lh0_3.length), (139, ii (List.getD lh3_4 (Int.toNat x134_4) 0))])) ?_
    cases b3 : (inRow (List.getD lh3_4 (Int.toNat x134_4) 0) lh0_3.length : Bool) with
    | false => cases (cF b3 h)
    | true =>
     have h := cT b3 h
     refine XR.rd E0_ok [7, 8, 11, 13, 15, 17, 18, 22, 97, 98, 99, 132, 133, 134, 140] rfl (v := pp 0 ((Int.toNat (List.getD lh3_4 (Int.toNat x134_4) 0)) * 1)) (v_idx (s := 1) (x := (src 223 (.tmp 138))) (y := (src 223 (.tmp 139))) (b := 0) (o := 0) (len := lh0_3.length) (cap := lh0_3.length) (ik := .i64) (i := List.getD lh3_4 (Int.toNat x134_4) 0) (off := (Int.toNat (List.getD lh3_4 (Int.toNat x134_4) 0)) * 1) (d := (some (path 12 140))) (by kernel_rfl) (by kernel_rfl) (by kernel_rfl) b3 (by omega)) (σ' := (qhd6 lh0_3 lh1_3 lh2_4 x17_3 x7_3 x8_3 x99_3 ((22, ii (List.getD lh3_4 (Int.toNat x134_4) 0)) :: qhd8 lh0_3 lh3_4 x98_3 x99_3 [(134, ii x134_4), (140, pp 0 ((Int.toNat (List.getD lh3_4 (Int.toNat x134_4) 0)) * 1))]))) (by kernel_rfl) ?_
     refine XR.rd E0_ok [7, 8, 11, 13, 15, 17, 18, 22, 97, 98, 99, 132, 133, 134, 141] rfl (v := ii (List.getD lh0_3 (Int.toNat (List.getD lh3_4 (Int.toNat x134_4) 0)) 0)) (v_load1 (encI_ok .i64) (x := (src 223 (.tmp 140))) (b := 0) (off := (Int.toNat (List.getD lh3_4 (Int.toNat x134_4) 0)) * 1) (xs := lh0_3) (fz := 0) (e := 3) (es := 1) (d := (some (path 12 141))) (by kernel_rfl) (by kernel_rfl) (by kernel_rfl) (Int.toNat (List.getD lh3_4 (Int.toNat x134_4) 0)) 0 0 (by first | with_reducible rfl | omega | rfl) (row_len (inRow_toNat b3) (by simp)) rfl rfl) (σ' := (qhd6 lh0_3 lh1_3 lh2_4 x17_3 x7_3 x8_3 x99_3 ((22, ii (List.getD lh3_4 (Int.toNat x134_4) 0)) :: qhd8 lh0_3 lh3_4 x98_3 x99_3 [(134, ii x134_4), (141, ii (List.getD lh0_3 (Int.toNat (List.getD lh3_4 (Int.toNat x134_4) 0)) 0))]))) (by kernel_rfl) ?_
     refine rS 1 (qhd6 lh0_3 lh1_3 lh2_4 x17_3 x7_3 x8_3 x99_3 ((22, ii (List.getD lh3_4 (Int.toNat x134_4) 0)) :: qhd8 lh0_3 lh3_4 x98_3 x99_3 [(134, ii x134_4), (142, .bool (decide ((List.getD lh0_3 (Int.toNat (List.getD lh3_4 (Int.toNat x134_4) 0)) 0) < 0)))])) ?_
     refine dQ ?_
     show XQ _ _ _ _ _ _ _ _
     cases b4 : (decide ((List.getD lh0_3 (Int.toNat (List.getD lh3_4 (Int.toNat x134_4) 0)) 0) < 0) : Bool) with
     | true =>
      have h := cT b4 h
      refine iT (.tmp 142) ?_
      refine XQ.exit (i := 7) (by kernel_rfl) ?_
      show XQ _ _ _ _ _ _ _ _
      refine rQ ?_
      refine rS 2 (qhd6 lh0_3 lh1_3 lh2_4 x17_3 x7_3 x8_3 x99_3 (qhd8 lh0_3 lh3_4 x98_3 x99_3 [(134, ii (w64 (x134_4 + 1)))])) ?_
      refine dQ ?_
      show XL _ _ _ _ _ _ _ _ _
      refine XL.ren (σ' := (qhd6 lh0_3 lh1_3 lh2_4 x17_3 x7_3 x8_3 x99_3 (qhd8 lh0_3 lh3_4 x98_3 x99_3 [(134, ii (w64 (x134_4 + 1)))]))) (h' := [(3, rI lh3_4), (2, rI lh2_4), (1, rc encR lh1_3 0 43 4), (0, rI lh0_3)]) (c' := 4) [0, 1, 2, 3] (by decide) rfl ⟨rfl, rfl, rfl, rfl, rfl, rfl, rfl, rfl, rfl, rfl, rfl, rfl, rfl, trivial⟩ ⟨⟨_, _, rfl, rfl, .inl ⟨rfl, rwI⟩⟩, ⟨_, _, rfl, rfl, .inl ⟨rfl, rwI⟩⟩, ⟨_, _, rfl, rfl, .inl ⟨rfl, rowC_scal encR_ok _⟩⟩, ⟨_, _, rfl, rfl, .inl ⟨rfl, rwI⟩⟩, trivial⟩ rfl ?_
      refine XL.conv (f5_4_ok m fuel x7_3 x8_3 x17_3 x98_3 x99_3 lh0_3 lh1_3 (w64 (x134_4 + 1)) lh2_4 lh3_4 o h Q hQ) (by first | with_reducible rfl | simp | rfl)
     | false =>
      have h := cF b4 h
      refine iF (.tmp 142) ?_
      refine kQ ?_
      show XQ _ _ _ _ _ _ _ _
      refine qQ ?_
      refine rS 1 (qhd6 lh0_3 lh1_3 lh2_4 x17_3 x7_3 x8_3 x99_3 ((22, ii (List.getD lh3_4 (Int.toNat x134_4) 0)) :: (23, .slice none 0 0) :: qhd8 lh0_3 lh3_4 x98_3 x99_3 [(134, ii x134_4)])) ?_
      refine dQ ?_
      show XQ _ _ _ _ _ _ _ _
      refine XQ.ghost 3 1 rfl (σ' := (qhd6 lh0_3 lh1_3 lh2_4 x17_3 x7_3 x8_3 x99_3 ((22, ii (List.getD lh3_4 (Int.toNat x134_4) 0)) :: (23, s0 4 0) :: qhd8 lh0_3 lh3_4 x98_3 x99_3 [(134, ii x134_4)]))) (h' := [(3, rI lh3_4), (2, rI lh2_4), (1, rc encR lh1_3 0 43 4), (0, rI lh0_3)]) ⟨rfl, rfl, rfl, rfl, rfl, rfl, rfl, rfl, rfl, rfl, rfl, rfl, rfl, rfl, rfl, trivial⟩ ⟨⟨_, rfl, .inl rfl⟩, ⟨_, rfl, .inl rfl⟩, ⟨_, rfl, .inl rfl⟩, ⟨_, rfl, .inl rfl⟩, trivial⟩ ?_
      refine XQ.conv (σ' := (qhd6 lh0_3 lh1_3 lh2_4 x17_3 x7_3 x8_3 x99_3 ((22, ii (List.getD lh3_4 (Int.toNat x134_4) 0)) :: (23, s0 4 0) :: qhd8 lh0_3 lh3_4 x98_3 x99_3 [(134, ii x134_4)]))) (h' := [(4, rI []), (3, rI lh3_4), (2, rI lh2_4), (1, rc encR lh1_3 0 43 4), (0, rI lh0_3)]) (c' := 5) ?_ (by kernel_rfl)
      refine sQ ?_
      refine qQ ?_
      refine rS 4 (qhd6 lh0_3 lh1_3 lh2_4 x17_3 x7_3 x8_3 x99_3 ((22, ii (List.getD lh3_4 (Int.toNat x134_4) 0)) :: (23, s0 4 0) :: qhd8 lh0_3 lh3_4 x98_3 x99_3 [(134, ii x134_4), (145, ii (w64 (x7_3 * x8_3))), (146, ii 0)])) ?_
      refine dQ ?_
      show XQ _ _ _ _ _ _ _ _
      refine XQ.block (id := 8) (by kernel_rfl) ?_
      refine XQ.loop m (by kernel_rfl) ?_
      obtain ⟨o5, o5_h, h⟩ := bS h
      refine XL.ren (σ' := (qhd6 lh0_3 lh1_3 lh2_4 x17_3 x7_3 x8_3 x99_3 ((22, ii (List.getD lh3_4 (Int.toNat x134_4) 0)) :: (23, s0 3 0) :: qhd7 lh0_3 lh3_4 x134_4 x98_3 x99_3 [(145, ii (w64 (x7_3 * x8_3))), (146, ii 0)]))) (h' := [(4, rI lh3_4), (3, rI []), (2, rI lh2_4), (1, rc encR lh1_3 0 43 4), (0, rI lh0_3)]) (c' := 5) [0, 1, 2, 4, 3] (by decide) rfl ⟨rfl, rfl, rfl, rfl, rfl, rfl, rfl, rfl, rfl, rfl, rfl, rfl, rfl, rfl, rfl, rfl, rfl, trivial⟩ ⟨⟨_, _, rfl, rfl, .inl ⟨rfl, rwI⟩⟩, ⟨_, _, rfl, rfl, .inl ⟨rfl, rwI⟩⟩, ⟨_, _, rfl, rfl, .inl ⟨rfl, rwI⟩⟩, ⟨_, _, rfl, rfl, .inl ⟨rfl, rowC_scal encR_ok _⟩⟩, ⟨_, _, rfl, rfl, .inl ⟨rfl, rwI⟩⟩, trivial⟩ rfl ?_
      refine XL.conv (f5_5_ok m m x7_3 x8_3 x17_3 x98_3 x99_3 lh0_3 lh1_3 x134_4 lh2_4 lh3_4 (List.getD lh3_4 (Int.toNat x134_4) 0) (w64 (x7_3 * x8_3)) 0 [] o5 o5_h _ ?_) (by first | with_reducible rfl | simp | rfl)
      show XQ _ _ _ _ _ _ _ _
      refine qQ ?_
      refine rS 3 (qhd6 lh0_3 lh1_3 lh2_4 x17_3 x7_3 x8_3 x99_3 ((23, s0 3 o5.2.length) :: qhd7 lh0_3 lh3_4 x134_4 x98_3 x99_3 [(154, s0 3 o5.2.length), (155, ii o5.1), (156, ii x99_3)])) ?_
      cases b6 : (inRow o5.1 o5.2.length : Bool) with
      | false => cases (cF b6 h)
      | true =>
       have h := cT b6 h
       refine XR.rd E0_ok [7, 8, 11, 13, 15, 17, 18, 23, 97, 98, 99, 132, 133, 134, 156, 157] rfl (v := pp 3 ((Int.toNat o5.1) * 1)) (v_idx (s := 1) (x := (src 223 (.tmp 154))) (y := (src 223 (.tmp 155))) (b := 3) (o := 0) (len := o5.2.length) (cap := o5.2.length) (ik := .i64) (i := o5.1) (off := (Int.toNat o5.1) * 1) (d := (some (path 12 157))) (by kernel_rfl) (by kernel_rfl) (by kernel_rfl) b6 (by omega)) (σ' := (qhd6 lh0_3 lh1_3 lh2_4 x17_3 x7_3 x8_3 x99_3 ((23, s0 3 o5.2.length) :: qhd7 lh0_3 lh3_4 x134_4 x98_3 x99_3 [(156, ii x99_3), (157, pp 3 ((Int.toNat o5.1) * 1))]))) (by kernel_rfl) ?_
       refine XR.ef E0_ok [7, 8, 11, 13, 15, 17, 18, 23, 97, 98, 99, 132, 133, 134] rfl (e_store (encI_ok .i64) (size := 1) (x := (src 223 (.tmp 157))) (y := (src 223 (.tmp 156))) (b := 3) (off := (Int.toNat o5.1) * 1) (xs := o5.2) (e := 3) (es := 1) (d := none) (h' := [(4, rI lh3_4), (3, rI (List.set o5.2 (Int.toNat o5.1) x99_3)), (2, rI lh2_4), (1, rc encR lh1_3 0 43 4), (0, rI lh0_3)]) (w := ii x99_3) (ws := [ii x99_3]) (a := x99_3) (by kernel_rfl) (by kernel_rfl) (by kernel_rfl) (Int.toNat o5.1) 0 0 (by first | with_reducible rfl | omega | rfl) (row_len (inRow_toNat b6) (by simp)) (by kernel_rfl) rfl rfl rfl rfl rfl (by kernel_rfl)) (σ' := (qhd6 lh0_3 lh1_3 lh2_4 x17_3 x7_3 x8_3 x99_3 ((23, s0 3 o5.2.length) :: qhd7 lh0_3 lh3_4 x134_4 x98_3 x99_3 []))) (by kernel_rfl) ?_
       refine nQ id ?_
       refine rS 1 (qhd6 lh0_3 lh1_3 lh2_4 x17_3 x7_3 x8_3 x99_3 (qhd7 lh0_3 lh3_4 x134_4 x98_3 x99_3 [(159, s0 3 o5.2.length)])) ?_
       obtain ⟨r63, r63_h, h⟩ := bS h
       refine XR.call E0_ok [7, 8, 11, 13, 15, 17, 18, 97, 98, 99, 132, 133, 134, 160] rfl (K := 18) (args := [s0 3 o5.2.length]) (d := (some (path 12 160))) (by kernel_rfl) (KC.liftH (n0 := 1) (m := 1) (args0 := [s0 0 o5.2.length]) (h0 := [(0, rc (encI .i64) (List.set o5.2 (Int.toNat o5.1) x99_3) (0 + ((rowC (encI .i64) (List.set o5.2 (Int.toNat o5.1) x99_3)).length + 1)) 3 1)]) (V := .tuple #[s0 1 r63.1.length, ii r63.2]) (V2 := .tuple #[s0 5 r63.1.length, ii r63.2]) (H := [(1, rI r63.1)]) (H2 := [(5, rI r63.1)]) [3] [2, 3, 4, 5, 6, 1] (by have q := (f18_ok m (0 + ((rowC (encI .i64) (List.set o5.2 (Int.toNat o5.1) x99_3)).length + 1)) 3 (List.set o5.2 (Int.toNat o5.1) x99_3) r63 r63_h); simp only [List.length_set] at q; exact q) (by rfl) (by decide) rfl (by kernel_rfl) ⟨⟨_, _, rfl, rfl, .inl ⟨rfl, rwI⟩⟩, trivial⟩ (by decide) (by decide) (by kernel_rfl) ⟨⟨_, _, rfl, rfl, .inl ⟨rfl, rwI⟩⟩, trivial⟩ (by rfl)) ?_
       rintro _ _ _ ⟨rfl, rfl, rfl⟩
       refine XR.conv (σ' := (qhd6 lh0_3 lh1_3 lh2_4 x17_3 x7_3 x8_3 x99_3 (qhd7 lh0_3 lh3_4 x134_4 x98_3 x99_3 [(160, .tuple #[s0 5 r63.1.length, ii r63.2])]))) (h' := [(5, rI r63.1), (4, rI lh3_4), (3, rI (List.set o5.2 (Int.toNat o5.1) x99_3)), (2, rI lh2_4), (1, rc encR lh1_3 0 43 4), (0, rI lh0_3)]) (c' := 6) ?_ (by kernel_rfl)
       refine rS 5 (qhd6 lh0_3 lh1_3 lh2_4 x17_3 x7_3 x8_3 x99_3 ((25, s0 5 r63.1.length) :: (26, ii r63.2) :: qhd7 lh0_3 lh3_4 x134_4 x98_3 x99_3 [])) ?_
       refine dQ ?_
       show XQ _ _ _ _ _ _ _ _
       refine sQ ?_
       refine qQ ?_
       refine rS 2 (qhd6 lh0_3 lh1_3 lh2_4 x17_3 x7_3 x8_3 x99_3 ((25, s0 5 r63.1.length) :: qhd7 lh0_3 lh3_4 x134_4 x98_3 x99_3 [(164, .bool (r63.2 != 0))])) ?_
       refine dQ ?_
       show XQ _ _ _ _ _ _ _ _
       cases b7 : (r63.2 != 0 : Bool) with
       | true =>
        have h := cT b7 h
        refine iT (.tmp 164) ?_
        refine qQ ?_
        refine rS 1 [(6, .bool false)] ?_
        refine dQ ?_
        show XQ _ _ _ _ _ _ _ _
        refine XQ.ren (σ' := [(6, .bool false)]) (h' := []) (c' := 0) [] (by decide) rfl ⟨rfl, trivial⟩ trivial rfl ?_
        refine XQ.ret (by kernel_rfl) ?_
        cases h
        exact hQ
       | false =>
        have h := cF b7 h
        refine iF (.tmp 164) ?_
        refine kQ ?_
        show XQ _ _ _ _ _ _ _ _
        refine qQ ?_
        refine rS 2 (qhd6 lh0_3 lh1_3 lh2_4 x17_3 x7_3 x8_3 x99_3 (qhd7 lh0_3 lh3_4 x134_4 x98_3 x99_3 [(166, s0 2 lh2_4.length), (167, s0 5 r63.1.length)])) ?_
        obtain ⟨r64, r64_h, h⟩ := bS h
        refine XR.call E0_ok [7, 8, 11, 13, 15, 17, 18, 97, 98, 99, 132, 133, 134, 168] rfl (K := 19) (args := [s0 2 lh2_4.length, s0 5 r63.1.length]) (d := (some (path 12 168))) (by kernel_rfl) (KC.liftH (n0 := 2) (m := 1) (args0 := [s0 0 lh2_4.length, s0 1 r63.1.length]) (h0 := [(1, rc (encI .i64) r63.1 (0 + ((rowC (encI .i64) r63.1).length + 1)) 3 1), (0, rc (encI .i64) lh2_4 (0 + ((rowC (encI .i64) lh2_4).length + 1)) 3 1)]) (V := .tuple #[s0 2 r64.1.length, ii r64.2]) (V2 := .tuple #[s0 6 r64.1.length, ii r64.2]) (H := [(2, rI r64.1)]) (H2 := [(6, rI r64.1)]) [2, 5] [3, 4, 5, 6, 7, 8, 2] (f19_ok m (0 + ((rowC (encI .i64) lh2_4).length + 1)) 3 (0 + ((rowC (encI .i64) r63.1).length + 1)) 3 lh2_4 r63.1 r64 r64_h) (by rfl) (by decide) rfl (by kernel_rfl) ⟨⟨_, _, rfl, rfl, .inl ⟨rfl, rwI⟩⟩, ⟨_, _, rfl, rfl, .inl ⟨rfl, rwI⟩⟩, trivial⟩ (by decide) (by decide) (by kernel_rfl) ⟨⟨_, _, rfl, rfl, .inl ⟨rfl, rwI⟩⟩, trivial⟩ (by rfl)) ?_
        rintro _ _ _ ⟨rfl, rfl, rfl⟩
        refine XR.conv (σ' := (qhd6 lh0_3 lh1_3 lh2_4 x17_3 x7_3 x8_3 x99_3 (qhd7 lh0_3 lh3_4 x134_4 x98_3 x99_3 [(168, .tuple #[s0 6 r64.1.length, ii r64.2])]))) (h' := [(6, rI r64.1), (5, rI r63.1), (4, rI lh3_4), (3, rI (List.set o5.2 (Int.toNat o5.1) x99_3)), (2, rI lh2_4), (1, rc encR lh1_3 0 43 4), (0, rI lh0_3)]) (c' := 7) ?_ (by kernel_rfl)
        refine rS 5 (qhd6 lh0_3 lh1_3 lh2_4 x17_3 x7_3 x8_3 x99_3 ((26, ii r64.2) :: (27, s0 6 r64.1.length) :: qhd7 lh0_3 lh3_4 x134_4 x98_3 x99_3 [])) ?_
        refine nQ id ?_
        refine rS 2 ((7, ii x7_3) :: (8, ii x8_3) :: (11, s0 0 lh0_3.length) :: (13, s0 1 lh1_3.length) :: (17, ii x17_3) :: (18, ii x99_3) :: (26, ii r64.2) :: (27, s0 6 r64.1.length) :: qhd7 lh0_3 lh3_4 x134_4 x98_3 x99_3 [(172, s0 2 lh2_4.length), (173, s0 6 r64.1.length)]) ?_
        obtain ⟨r65, r65_h, h⟩ := bS h
        refine XR.call E0_ok [7, 8, 11, 13, 17, 18, 26, 27, 97, 98, 99, 132, 133, 134, 174] rfl (K := 20) (args := [s0 2 lh2_4.length, s0 6 r64.1.length]) (d := (some (path 12 174))) (by kernel_rfl) (KQ.call (KC.quiet E0_ok (args0 := [s0 0 lh2_4.length, s0 1 r64.1.length]) (h0 := [(1, rc (encI .i64) r64.1 (0 + ((rowC (encI .i64) r64.1).length + 1)) 3 1), (0, rc (encI .i64) lh2_4 (0 + ((rowC (encI .i64) lh2_4).length + 1)) 3 1)]) (n := 2) (V := .tuple #[.bool r65.1, ii r65.2]) [2, 6] (f20_ok m (0 + ((rowC (encI .i64) lh2_4).length + 1)) 3 (0 + ((rowC (encI .i64) r64.1).length + 1)) 3 lh2_4 r64.1 r65 r65_h) rfl (by rfl) (by decide) rfl (by kernel_rfl) ⟨⟨_, _, rfl, rfl, .inl ⟨rfl, rwI⟩⟩, ⟨_, _, rfl, rfl, .inl ⟨rfl, rwI⟩⟩, trivial⟩) rfl) ?_
        rintro _ _ _ ⟨rfl, rfl, rfl⟩
        refine XR.conv (σ' := ((7, ii x7_3) :: (8, ii x8_3) :: (11, s0 0 lh0_3.length) :: (13, s0 1 lh1_3.length) :: (17, ii x17_3) :: (18, ii x99_3) :: (26, ii r64.2) :: (27, s0 6 r64.1.length) :: qhd7 lh0_3 lh3_4 x134_4 x98_3 x99_3 [(174, .tuple #[.bool r65.1, ii r65.2])])) (h' := [(6, rI r64.1), (5, rI r63.1), (4, rI lh3_4), (3, rI (List.set o5.2 (Int.toNat o5.1) x99_3)), (2, rI lh2_4), (1, rc encR lh1_3 0 43 4), (0, rI lh0_3)]) (c' := 7) ?_ (by kernel_rfl)
        refine rS 5 ((7, ii x7_3) :: (8, ii x8_3) :: (11, s0 0 lh0_3.length) :: (13, s0 1 lh1_3.length) :: (17, ii x17_3) :: (18, ii x99_3) :: (26, ii r64.2) :: (27, s0 6 r64.1.length) :: (28, .bool r65.1) :: (29, ii r65.2) :: qhd7 lh0_3 lh3_4 x134_4 x98_3 x99_3 []) ?_
        refine dQ ?_
        show XQ _ _ _ _ _ _ _ _
        refine sQ ?_
        refine qQ ?_
        refine rS 3 ((7, ii x7_3) :: (8, ii x8_3) :: (11, s0 0 lh0_3.length) :: (13, s0 1 lh1_3.length) :: (17, ii x17_3) :: (18, ii x99_3) :: (27, s0 6 r64.1.length) :: (28, .bool r65.1) :: (29, ii r65.2) :: qhd7 lh0_3 lh3_4 x134_4 x98_3 x99_3 [(179, .bool (r64.2 != 0))]) ?_
        cases b8 : (r64.2 != 0 : Bool) with
        | true =>
         have h := cT b8 h
         refine rS 15 ((7, ii x7_3) :: (8, ii x8_3) :: (11, s0 0 lh0_3.length) :: (13, s0 1 lh1_3.length) :: (17, ii x17_3) :: (18, ii x99_3) :: (27, s0 6 r64.1.length) :: qhd7 lh0_3 lh3_4 x134_4 x98_3 x99_3 [(194, .bool true)]) ?_
         refine dQ ?_
         show XQ _ _ _ _ _ _ _ _
         refine iT (.tmp 194) ?_
         refine qQ ?_
         refine rS 1 [(6, .bool false)] ?_
         refine dQ ?_
         show XQ _ _ _ _ _ _ _ _
         refine XQ.ren (σ' := [(6, .bool false)]) (h' := []) (c' := 0) [] (by decide) rfl ⟨rfl, trivial⟩ trivial rfl ?_
         refine XQ.ret (by kernel_rfl) ?_
         cases h
         exact hQ
        | false =>
         have h := cF b8 h
         refine rS 4 ((7, ii x7_3) :: (8, ii x8_3) :: (11, s0 0 lh0_3.length) :: (13, s0 1 lh1_3.length) :: (17, ii x17_3) :: (18, ii x99_3) :: (27, s0 6 r64.1.length) :: (28, .bool r65.1) :: qhd7 lh0_3 lh3_4 x134_4 x98_3 x99_3 [(183, .bool (r65.2 != 0))]) ?_
         cases b9 : (r65.2 != 0 : Bool) with
         | true =>
          have h := cT b9 h
          refine rS 11 ((7, ii x7_3) :: (8, ii x8_3) :: (11, s0 0 lh0_3.length) :: (13, s0 1 lh1_3.length) :: (17, ii x17_3) :: (18, ii x99_3) :: (27, s0 6 r64.1.length) :: qhd7 lh0_3 lh3_4 x134_4 x98_3 x99_3 [(194, .bool true)]) ?_
          refine dQ ?_
          show XQ _ _ _ _ _ _ _ _
          refine iT (.tmp 194) ?_
          refine qQ ?_
          refine rS 1 [(6, .bool false)] ?_
          refine dQ ?_
          show XQ _ _ _ _ _ _ _ _
          refine XQ.ren (σ' := [(6, .bool false)]) (h' := []) (c' := 0) [] (by decide) rfl ⟨rfl, trivial⟩ trivial rfl ?_
          refine XQ.ret (by kernel_rfl) ?_
          cases h
          exact hQ
         | false =>
          have h := cF b9 h
          refine rS 4 ((7, ii x7_3) :: (8, ii x8_3) :: (11, s0 0 lh0_3.length) :: (13, s0 1 lh1_3.length) :: (17, ii x17_3) :: (18, ii x99_3) :: (27, s0 6 r64.1.length) :: qhd7 lh0_3 lh3_4 x134_4 x98_3 x99_3 [(187, .bool (!r65.1))]) ?_
          cases b10 : (!r65.1 : Bool) with
          | true =>
           have h := cT b10 h
           refine rS 7 ((7, ii x7_3) :: (8, ii x8_3) :: (11, s0 0 lh0_3.length) :: (13, s0 1 lh1_3.length) :: (17, ii x17_3) :: (18, ii x99_3) :: (27, s0 6 r64.1.length) :: qhd7 lh0_3 lh3_4 x134_4 x98_3 x99_3 [(194, .bool true)]) ?_
           refine dQ ?_
           show XQ _ _ _ _ _ _ _ _
           refine iT (.tmp 194) ?_
           refine qQ ?_
           refine rS 1 [(6, .bool false)] ?_
           refine dQ ?_
           show XQ _ _ _ _ _ _ _ _
           refine XQ.ren (σ' := [(6, .bool false)]) (h' := []) (c' := 0) [] (by decide) rfl ⟨rfl, trivial⟩ trivial rfl ?_
           refine XQ.ret (by kernel_rfl) ?_
           cases h
           exact hQ
          | false =>
           have h := cF b10 h
           refine rS 7 ((7, ii x7_3) :: (8, ii x8_3) :: (11, s0 0 lh0_3.length) :: (13, s0 1 lh1_3.length) :: (17, ii x17_3) :: (18, ii x99_3) :: (27, s0 6 r64.1.length) :: qhd7 lh0_3 lh3_4 x134_4 x98_3 x99_3 [(194, .bool (((r64.1.length : Nat) : Int) != (w64 (x7_3 * x8_3))))]) ?_
           refine dQ ?_
           show XQ _ _ _ _ _ _ _ _
           cases b11 : (((r64.1.length : Nat) : Int) != (w64 (x7_3 * x8_3)) : Bool) with
           | true =>
            have h := cT b11 h
            refine iT (.tmp 194) ?_
            refine qQ ?_
            refine rS 1 [(6, .bool false)] ?_
            refine dQ ?_
            show XQ _ _ _ _ _ _ _ _
            refine XQ.ren (σ' := [(6, .bool false)]) (h' := []) (c' := 0) [] (by decide) rfl ⟨rfl, trivial⟩ trivial rfl ?_
            refine XQ.ret (by kernel_rfl) ?_
            cases h
            exact hQ
           | false =>
            have h := cF b11 h
            refine iF (.tmp 194) ?_
            refine kQ ?_
            show XQ _ _ _ _ _ _ _ _
            refine rQ ?_
            refine rS 2 ((7, ii x7_3) :: (8, ii x8_3) :: (11, s0 0 lh0_3.length) :: (13, s0 1 lh1_3.length) :: (15, s0 6 r64.1.length) :: (17, ii x17_3) :: (18, ii x99_3) :: qhd7 lh0_3 lh3_4 x134_4 x98_3 x99_3 []) ?_
            refine dQ ?_
            show XQ _ _ _ _ _ _ _ _
            refine rQ ?_
            refine rS 2 [(7, ii x7_3), (8, ii x8_3), (11, s0 0 lh0_3.length), (13, s0 1 lh1_3.length), (15, s0 6 r64.1.length), (17, ii x17_3), (18, ii x99_3), (97, s0 0 lh0_3.length), (98, ii x98_3), (99, ii x99_3), (132, s0 4 lh3_4.length), (133, ii 2), (134, ii (w64 (x134_4 + 1)))] ?_
            refine dQ ?_
            show XL _ _ _ _ _ _ _ _ _
            refine XL.ren (σ' := ((7, ii x7_3) :: (8, ii x8_3) :: (11, s0 0 lh0_3.length) :: (13, s0 1 lh1_3.length) :: (15, s0 2 r64.1.length) :: (17, ii x17_3) :: (18, ii x99_3) :: qhd8 lh0_3 lh3_4 x98_3 x99_3 [(134, ii (w64 (x134_4 + 1)))])) (h' := [(3, rI lh3_4), (2, rI r64.1), (1, rc encR lh1_3 0 43 4), (0, rI lh0_3)]) (c' := 4) [0, 1, 6, 4] (by decide) rfl ⟨rfl, rfl, rfl, rfl, rfl, rfl, rfl, rfl, rfl, rfl, rfl, rfl, rfl, trivial⟩ ⟨⟨_, _, rfl, rfl, .inl ⟨rfl, rwI⟩⟩, ⟨_, _, rfl, rfl, .inl ⟨rfl, rwI⟩⟩, ⟨_, _, rfl, rfl, .inl ⟨rfl, rowC_scal encR_ok _⟩⟩, ⟨_, _, rfl, rfl, .inl ⟨rfl, rwI⟩⟩, trivial⟩ rfl ?_
            refine XL.conv (f5_4_ok m fuel x7_3 x8_3 x17_3 x98_3 x99_3 lh0_3 lh1_3 (w64 (x134_4 + 1)) r64.1 lh3_4 o h Q hQ) (by first | with_reducible rfl | simp | rfl)
  | false =>
   have h := cF b1 h
   refine iF (.tmp 135) ?_
   refine XQ.ren (σ' := [(7, ii x7_3), (8, ii x8_3), (11, s0 0 lh0_3.length), (13, s0 1 lh1_3.length), (15, s0 2 lh2_4.length), (17, ii x17_3), (97, s0 0 lh0_3.length), (98, ii x98_3), (99, ii x99_3)]) (h' := [(2, rI lh2_4), (1, rc encR lh1_3 0 43 4), (0, rI lh0_3)]) (c' := 3) [0, 1, 2] (by decide) rfl ⟨rfl, rfl, rfl, rfl, rfl, rfl, rfl, rfl, rfl, trivial⟩ ⟨⟨_, _, rfl, rfl, .inl ⟨rfl, rwI⟩⟩, ⟨_, _, rfl, rfl, .inl ⟨rfl, rowC_scal encR_ok _⟩⟩, ⟨_, _, rfl, rfl, .inl ⟨rfl, rwI⟩⟩, trivial⟩ rfl ?_
   refine XQ.exit (i := 6) (by kernel_rfl) ?_
   cases h
   exact hQ
def f5_7 (m : Nat) : Nat → Int → Int → Int → Int → Int → List Int → List (Int × Int × Int × Int) → Int → List Int → List Int → Int → Int → Int → List Int → Option (Int × (List Int))
 | 0, _, _, _, _, _, _, _, _, _, _, _, _, _, _ => none
 | fuel + 1, x7_3, x8_3, x17_3, x98_3, x99_3, lh0_3, lh1_3, x134_6, lh2_6, lh3_6, x22_7, x145_7, x146_7, lh3_7 =>
  cond (decide (x146_7 < x145_7)) (
   cond (fitsB (lh3_7.length + 1) 8) (
    f5_7 m fuel x7_3 x8_3 x17_3 x98_3 x99_3 lh0_3 lh1_3 x134_6 lh2_6 lh3_6 x22_7 x145_7 (w64 (x146_7 + 1)) (lh3_7 ++ [x146_7])
   ) none
  ) (
   some (x22_7, lh3_7)
  )
abbrev qhd9 (lh0_3 : List Int) (lh1_3 : List (Int × Int × Int × Int)) (lh2_6 : List Int) (x17_3 : Int) (x7_3 : Int) (x8_3 : Int) (x99_3 : Int) (t : St) : St := (7, ii x7_3) :: (8, ii x8_3) :: (11, s0 0 lh0_3.length) :: (13, s0 1 lh1_3.length) :: (15, s0 2 lh2_6.length) :: (17, ii x17_3) :: (18, ii x99_3) :: t
abbrev qhd10 (lh0_3 : List Int) (lh3_6 : List Int) (x134_6 : Int) (x98_3 : Int) (x99_3 : Int) (t : St) : St := (97, s0 0 lh0_3.length) :: (98, ii x98_3) :: (99, ii x99_3) :: (132, s0 4 lh3_6.length) :: (133, ii 1) :: (134, ii x134_6) :: t
theorem f5_7_ok (m : Nat) : ∀ (fuel : Nat) (x7_3 : Int) (x8_3 : Int) (x17_3 : Int) (x98_3 : Int) (x99_3 : Int) (lh0_3 : List Int) (lh1_3 : List (Int × Int × Int × Int)) (x134_6 : Int) (lh2_6 : List Int) (lh3_6 : List Int) (x22_7 : Int) (x145_7 : Int) (x146_7 : Int) (lh3_7 : List Int) (o : (Int × (List Int))), f5_7 m fuel x7_3 x8_3 x17_3 x98_3 x99_3 lh0_3 lh1_3 x134_6 lh2_6 lh3_6 x22_7 x145_7 x146_7 lh3_7 = some o → ∀ Q : QP, Q (.exit 8) (qhd9 lh0_3 lh1_3 lh2_6 x17_3 x7_3 x8_3 x99_3 ((22, ii o.1) :: (23, s0 3 o.2.length) :: qhd10 lh0_3 lh3_6 x134_6 x98_3 x99_3 [])) [(4, rI lh3_6), (3, rI o.2), (2, rI lh2_6), (1, rc encR lh1_3 0 43 4), (0, rI lh0_3)] 5 → XL E0 223 0 fuel f5_L7 (qhd9 lh0_3 lh1_3 lh2_6 x17_3 x7_3 x8_3 x99_3 ((22, ii x22_7) :: (23, s0 3 lh3_7.length) :: qhd10 lh0_3 lh3_6 x134_6 x98_3 x99_3 [(145, ii x145_7), (146, ii x146_7)])) [(4, rI lh3_6), (3, rI lh3_7), (2, rI lh2_6), (1, rc encR lh1_3 0 43 4), (0, rI lh0_3)] 5 Q
 | 0, x7_3, x8_3, x17_3, x98_3, x99_3, lh0_3, lh1_3, x134_6, lh2_6, lh3_6, x22_7, x145_7, x146_7, lh3_7, o, h, Q, hQ => by cases h
 | fuel + 1, x7_3, x8_3, x17_3, x98_3, x99_3, lh0_3, lh1_3, x134_6, lh2_6, lh3_6, x22_7, x145_7, x146_7, lh3_7, o, h, Q, hQ => by
  unfold f5_7 at h
  refine XL.succ E0_ok ?_
  refine qQ ?_
  refine rS 1 (qhd9 lh0_3 lh1_3 lh2_6 x17_3 x7_3 x8_3 x99_3 ((22, ii x22_7) :: (23, s0 3 lh3_7.length) :: qhd10 lh0_3 lh3_6 x134_6 x98_3 x99_3 [(145, ii x145_7), (146, ii x146_7), (147, .bool (decide (x146_7 < x145_7)))])) ?_
  refine dQ ?_
  show XQ _ _ _ _ _ _ _ _
  refine sQ ?_
  cases b1 : (decide (x146_7 < x145_7) : Bool) with
  | true =>
   have h := cT b1 h
   refine iT (.tmp 147) ?_
   refine kQ ?_
   show XQ _ _ _ _ _ _ _ _
   refine sQ ?_
   refine XQ.block (id := 9) (by kernel_rfl) ?_
   refine qQ ?_
   refine rS 2 (qhd9 lh0_3 lh1_3 lh2_6 x17_3 x7_3 x8_3 x99_3 ((22, ii x22_7) :: (23, s0 3 lh3_7.length) :: (24, ii x146_7) :: qhd10 lh0_3 lh3_6 x134_6 x98_3 x99_3 [(145, ii x145_7), (146, ii x146_7)])) ?_
   refine dQ ?_
   show XQ _ _ _ _ _ _ _ _
   refine rQ ?_
   refine rT 3 (qhd9 lh0_3 lh1_3 lh2_6 x17_3 x7_3 x8_3 x99_3 ((22, ii x22_7) :: qhd10 lh0_3 lh3_6 x134_6 x98_3 x99_3 [(145, ii x145_7), (146, ii x146_7), (149, s0 3 lh3_7.length), (151, s0 5 1)])) [(5, .cells [ii x146_7] 0 3 1), (4, rI lh3_6), (3, rI lh3_7), (2, rI lh2_6), (1, rc encR lh1_3 0 43 4), (0, rI lh0_3)] 6 ?_
   cases b2 : (fitsB (lh3_7.length + 1) 8 : Bool) with
   | false => cases (cF b2 h)
   | true =>
    have h := cT b2 h
    refine XR.ef E0_ok [7, 8, 11, 13, 15, 17, 18, 22, 97, 98, 99, 132, 133, 134, 145, 146, 152] rfl (e_append (encI_ok .i64) (bytes := 8) (e := 3) (x := (src 223 (.tmp 149))) (y := (src 223 (.tmp 151))) (b := 3) (len := lh3_7.length) (cap := lh3_7.length) (xs := lh3_7) (m := 0) (ys := [x146_7]) (d := (some (path 12 152))) (n' := (lh3_7 ++ [x146_7]).length) (h' := [(6, rI (lh3_7 ++ [x146_7])), (5, .cells [ii x146_7] 0 3 1), (4, rI lh3_6), (2, rI lh2_6), (1, rc encR lh1_3 0 43 4), (0, rI lh0_3)]) (by kernel_rfl) (by kernel_rfl) (by kernel_rfl) (by kernel_rfl) rfl (by simp) (by simp) b2 (by simp) (by kernel_rfl)) (σ' := (qhd9 lh0_3 lh1_3 lh2_6 x17_3 x7_3 x8_3 x99_3 ((22, ii x22_7) :: qhd10 lh0_3 lh3_6 x134_6 x98_3 x99_3 [(145, ii x145_7), (146, ii x146_7), (152, s0 6 ((lh3_7 ++ [x146_7]).length))]))) (by kernel_rfl) ?_
    refine rS 1 (qhd9 lh0_3 lh1_3 lh2_6 x17_3 x7_3 x8_3 x99_3 ((22, ii x22_7) :: (23, s0 6 ((lh3_7 ++ [x146_7]).length)) :: qhd10 lh0_3 lh3_6 x134_6 x98_3 x99_3 [(145, ii x145_7), (146, ii x146_7)])) ?_
    refine dQ ?_
    show XQ _ _ _ _ _ _ _ _
    refine rQ ?_
    refine rS 2 (qhd9 lh0_3 lh1_3 lh2_6 x17_3 x7_3 x8_3 x99_3 ((22, ii x22_7) :: (23, s0 6 ((lh3_7 ++ [x146_7]).length)) :: qhd10 lh0_3 lh3_6 x134_6 x98_3 x99_3 [(145, ii x145_7), (146, ii (w64 (x146_7 + 1)))])) ?_
    refine dQ ?_
    show XL _ _ _ _ _ _ _ _ _
    refine XL.ren (σ' := (qhd9 lh0_3 lh1_3 lh2_6 x17_3 x7_3 x8_3 x99_3 ((22, ii x22_7) :: (23, s0 3 ((lh3_7 ++ [x146_7]).length)) :: qhd10 lh0_3 lh3_6 x134_6 x98_3 x99_3 [(145, ii x145_7), (146, ii (w64 (x146_7 + 1)))]))) (h' := [(4, rI lh3_6), (3, rI (lh3_7 ++ [x146_7])), (2, rI lh2_6), (1, rc encR lh1_3 0 43 4), (0, rI lh0_3)]) (c' := 5) [0, 1, 2, 6, 4] (by decide) rfl ⟨rfl, rfl, rfl, rfl, rfl, rfl, rfl, rfl, rfl, rfl, rfl, rfl, rfl, rfl, rfl, rfl, rfl, trivial⟩ ⟨⟨_, _, rfl, rfl, .inl ⟨rfl, rwI⟩⟩, ⟨_, _, rfl, rfl, .inl ⟨rfl, rwI⟩⟩, ⟨_, _, rfl, rfl, .inl ⟨rfl, rwI⟩⟩, ⟨_, _, rfl, rfl, .inl ⟨rfl, rowC_scal encR_ok _⟩⟩, ⟨_, _, rfl, rfl, .inl ⟨rfl, rwI⟩⟩, trivial⟩ rfl ?_
    refine XL.conv (f5_7_ok m fuel x7_3 x8_3 x17_3 x98_3 x99_3 lh0_3 lh1_3 x134_6 lh2_6 lh3_6 x22_7 x145_7 (w64 (x146_7 + 1)) (lh3_7 ++ [x146_7]) o h Q hQ) (by first | with_reducible rfl | simp | rfl)
  | false =>
   have h := cF b1 h
   refine iF (.tmp 147) ?_
   refine XQ.ren (σ' := (qhd9 lh0_3 lh1_3 lh2_6 x17_3 x7_3 x8_3 x99_3 ((22, ii x22_7) :: (23, s0 3 lh3_7.length) :: qhd10 lh0_3 lh3_6 x134_6 x98_3 x99_3 []))) (h' := [(4, rI lh3_6), (3, rI lh3_7), (2, rI lh2_6), (1, rc encR lh1_3 0 43 4), (0, rI lh0_3)]) (c' := 5) [0, 1, 2, 3, 4] (by decide) rfl ⟨rfl, rfl, rfl, rfl, rfl, rfl, rfl, rfl, rfl, rfl, rfl, rfl, rfl, rfl, rfl, trivial⟩ ⟨⟨_, _, rfl, rfl, .inl ⟨rfl, rwI⟩⟩, ⟨_, _, rfl, rfl, .inl ⟨rfl, rwI⟩⟩, ⟨_, _, rfl, rfl, .inl ⟨rfl, rwI⟩⟩, ⟨_, _, rfl, rfl, .inl ⟨rfl, rowC_scal encR_ok _⟩⟩, ⟨_, _, rfl, rfl, .inl ⟨rfl, rwI⟩⟩, trivial⟩ rfl ?_
   refine XQ.exit (i := 8) (by kernel_rfl) ?_
   cases h
   exact hQ
inductive Of5_6 where
 | r
 | x6 (lh2_x66 : List Int)
def f5_6 (m : Nat) : Nat → Int → Int → Int → Int → Int → List Int → List (Int × Int × Int × Int) → Int → List Int → List Int → Option Of5_6
 | 0, _, _, _, _, _, _, _, _, _, _ => none
 | fuel + 1, x7_3, x8_3, x17_3, x98_3, x99_3, lh0_3, lh1_3, x134_6, lh2_6, lh3_6 =>
  cond (decide (x134_6 < 1)) (
   cond (inRow x134_6 lh3_6.length) (
    cond (inRow (List.getD lh3_6 (Int.toNat x134_6) 0) lh0_3.length) (
     cond (decide ((List.getD lh0_3 (Int.toNat (List.getD lh3_6 (Int.toNat x134_6) 0)) 0) < 0)) (
      f5_6 m fuel x7_3 x8_3 x17_3 x98_3 x99_3 lh0_3 lh1_3 (w64 (x134_6 + 1)) lh2_6 lh3_6
     ) (
      (f5_7 m m x7_3 x8_3 x17_3 x98_3 x99_3 lh0_3 lh1_3 x134_6 lh2_6 lh3_6 (List.getD lh3_6 (Int.toNat x134_6) 0) (w64 (x7_3 * x8_3)) 0 []).bind fun o7 =>
       cond (inRow o7.1 o7.2.length) (
        (f18 m (List.set o7.2 (Int.toNat o7.1) x99_3)).bind fun r72 =>
         cond (r72.2 != 0) (
          some (.r)
         ) (
          (f19 m lh2_6 r72.1).bind fun r73 =>
           (f20 m lh2_6 r73.1).bind fun r74 =>
            cond (r73.2 != 0) (
             some (.r)
            ) (
             cond (r74.2 != 0) (
              some (.r)
             ) (
              cond (!r74.1) (
               some (.r)
              ) (
               cond (((r73.1.length : Nat) : Int) != (w64 (x7_3 * x8_3))) (
                some (.r)
               ) (
                f5_6 m fuel x7_3 x8_3 x17_3 x98_3 x99_3 lh0_3 lh1_3 (w64 (x134_6 + 1)) r73.1 lh3_6
               )
              )
             )
            )
         )
       ) none
     )
    ) none
   ) none
  ) (
   some (.x6 lh2_6)
  )
abbrev qhd11 (lh0_3 : List Int) (lh1_3 : List (Int × Int × Int × Int)) (lh2_6 : List Int) (x17_3 : Int) (x7_3 : Int) (x8_3 : Int) (x99_3 : Int) (t : St) : St := (7, ii x7_3) :: (8, ii x8_3) :: (11, s0 0 lh0_3.length) :: (13, s0 1 lh1_3.length) :: (15, s0 2 lh2_6.length) :: (17, ii x17_3) :: (18, ii x99_3) :: t
abbrev qhd12 (lh0_3 : List Int) (lh3_6 : List Int) (x134_6 : Int) (x98_3 : Int) (x99_3 : Int) (t : St) : St := (97, s0 0 lh0_3.length) :: (98, ii x98_3) :: (99, ii x99_3) :: (132, s0 4 lh3_6.length) :: (133, ii 1) :: (134, ii x134_6) :: t
abbrev qhd13 (lh0_3 : List Int) (lh3_6 : List Int) (x98_3 : Int) (x99_3 : Int) (t : St) : St := (97, s0 0 lh0_3.length) :: (98, ii x98_3) :: (99, ii x99_3) :: (132, s0 3 lh3_6.length) :: (133, ii 1) :: t
theorem f5_6_ok (m : Nat) : ∀ (fuel : Nat) (x7_3 : Int) (x8_3 : Int) (x17_3 : Int) (x98_3 : Int) (x99_3 : Int) (lh0_3 : List Int) (lh1_3 : List (Int × Int × Int × Int)) (x134_6 : Int) (lh2_6 : List Int) (lh3_6 : List Int) (o : Of5_6), f5_6 m fuel x7_3 x8_3 x17_3 x98_3 x99_3 lh0_3 lh1_3 x134_6 lh2_6 lh3_6 = some o → ∀ Q : QP, (match o with | .r => Q .ret [(6, .bool false)] [] 0 | .x6 lh2_x66 => Q (.exit 6) [(7, ii x7_3), (8, ii x8_3), (11, s0 0 lh0_3.length), (13, s0 1 lh1_3.length), (15, s0 2 lh2_x66.length), (17, ii x17_3), (97, s0 0 lh0_3.length), (98, ii x98_3), (99, ii x99_3)] [(2, rI lh2_x66), (1, rc encR lh1_3 0 43 4), (0, rI lh0_3)] 3) → XL E0 223 0 fuel f5_L6 (qhd11 lh0_3 lh1_3 lh2_6 x17_3 x7_3 x8_3 x99_3 (qhd13 lh0_3 lh3_6 x98_3 x99_3 [(134, ii x134_6)])) [(3, rI lh3_6), (2, rI lh2_6), (1, rc encR lh1_3 0 43 4), (0, rI lh0_3)] 4 Q
 | 0, x7_3, x8_3, x17_3, x98_3, x99_3, lh0_3, lh1_3, x134_6, lh2_6, lh3_6, o, h, Q, hQ => by cases h
 | fuel + 1, x7_3, x8_3, x17_3, x98_3, x99_3, lh0_3, lh1_3, x134_6, lh2_6, lh3_6, o, h, Q, hQ => by
  unfold f5_6 at h
  refine XL.succ E0_ok ?_
  refine qQ ?_
  refine rS 1 (qhd11 lh0_3 lh1_3 lh2_6 x17_3 x7_3 x8_3 x99_3 (qhd13 lh0_3 lh3_6 x98_3 x99_3 [(134, ii x134_6), (135, .bool (decide (x134_6 < 1)))])) ?_
  refine dQ ?_
  show XQ _ _ _ _ _ _ _ _
  refine sQ ?_
  cases b1 : (decide (x134_6 < 1) : Bool) with
  | true =>
   have h := cT b1 h
   refine iT (.tmp 135) ?_
   refine kQ ?_
   show XQ _ _ _ _ _ _ _ _
   refine sQ ?_
   refine XQ.block (id := 7) (by kernel_rfl) ?_
   refine qQ ?_
   cases b2 : (inRow x134_6 lh3_6.length : Bool) with
   | false => cases (cF b2 h)
   | true =>
    have h := cT b2 h
    refine XR.rd E0_ok [7, 8, 11, 13, 15, 17, 18, 97, 98, 99, 132, 133, 134, 136] rfl (v := pp 3 ((Int.toNat x134_6) * 1)) (v_idx (s := 1) (x := (src 223 (.tmp 132))) (y := (src 223 (.tmp 134))) (b := 3) (o := 0) (len := lh3_6.length) (cap := lh3_6.length) (ik := .i64) (i := x134_6) (off := (Int.toNat x134_6) * 1) (d := (some (path 12 136))) (by kernel_rfl) (by kernel_rfl) (by kernel_rfl) b2 (by omega)) (σ' := (qhd11 lh0_3 lh1_3 lh2_6 x17_3 x7_3 x8_3 x99_3 (qhd13 lh0_3 lh3_6 x98_3 x99_3 [(134, ii x134_6), (136, pp 3 ((Int.toNat x134_6) * 1))]))) (by kernel_rfl) ?_
    refine XR.rd E0_ok [7, 8, 11, 13, 15, 17, 18, 97, 98, 99, 132, 133, 134, 137] rfl (v := ii (List.getD lh3_6 (Int.toNat x134_6) 0)) (v_load1 (encI_ok .i64) (x := (src 223 (.tmp 136))) (b := 3) (off := (Int.toNat x134_6) * 1) (xs := lh3_6) (fz := 0) (e := 3) (es := 1) (d := (some (path 12 137))) (by kernel_rfl) (by kernel_rfl) (by kernel_rfl) (Int.toNat x134_6) 0 0 (by first | with_reducible rfl | omega | rfl) (row_len (inRow_toNat b2) (by simp)) rfl rfl) (σ' := (qhd11 lh0_3 lh1_3 lh2_6 x17_3 x7_3 x8_3 x99_3 (qhd13 lh0_3 lh3_6 x98_3 x99_3 [(134, ii x134_6), (137, ii (List.getD lh3_6 (Int.toNat x134_6) 0))]))) (by kernel_rfl) ?_
    refine rS 1 (qhd11 lh0_3 lh1_3 lh2_6 x17_3 x7_3 x8_3 x99_3 ((22, ii (List.getD lh3_6 (Int.toNat x134_6) 0)) :: qhd13 lh0_3 lh3_6 x98_3 x99_3 [(134, ii x134_6)])) ?_
    refine dQ ?_
    show XQ _ _ _ _ _ _ _ _
    refine sQ ?_
    refine qQ ?_
    refine rS 2 (qhd11 lh0_3 lh1_3 lh2_6 x17_3 x7_3 x8_3 x99_3 ((22, ii (List.getD lh3_6 (Int.toNat x134_6) 0)) :: qhd13 lh0_3 lh3_6 x98_3 x99_3 [(134, ii x134_6), (138, s0 0 lh0_3.length), (139, ii (List.getD lh3_6 (Int.toNat x134_6) 0))])) ?_
    cases b3 : (inRow (List.getD lh3_6 (Int.toNat x134_6) 0) lh0_3.length : Bool) with
    | false => cases (cF b3 h)
    | true =>
     have h := cT b3 h
     refine XR.rd E0_ok [7, 8, 11, 13, 15, 17, 18, 22, 97, 98, 99, 132, 133, 134, 140] rfl (v := pp 0 ((Int.toNat (List.getD lh3_6 (Int.toNat x134_6) 0)) * 1)) (v_idx (s := 1) (x := (src 223 (.tmp 138))) (y := (src 223 (.tmp 139))) (b := 0) (o := 0) (len := lh0_3.length) (cap := lh0_3.length) (ik := .i64) (i := List.getD lh3_6 (Int.toNat x134_6) 0) (off := (Int.toNat (List.getD lh3_6 (Int.toNat x134_6) 0)) * 1) (d := (some (path 12 140))) (by kernel_rfl) (by kernel_rfl) (by kernel_rfl) b3 (by omega)) (σ' := (qhd11 lh0_3 lh1_3 lh2_6 x17_3 x7_3 x8_3 x99_3 ((22, ii (List.getD lh3_6 (Int.toNat x134_6) 0)) :: qhd13 lh0_3 lh3_6 x98_3 x99_3 [(134, ii x134_6), (140, pp 0 ((Int.toNat (List.getD lh3_6 (Int.toNat x134_6) 0)) * 1))]))) (by kernel_rfl) ?_
     refine XR.rd E0_ok [7, 8, 11, 13, 15, 17, 18, 22, 97, 98, 99, 132, 133, 134, 141] rfl (v := ii (List.getD lh0_3 (Int.toNat (List.getD lh3_6 (Int.toNat x134_6) 0)) 0)) (v_load1 (encI_ok .i64) (x := (src 223 (.tmp 140))) (b := 0) (off := (Int.toNat (List.getD lh3_6 (Int.toNat x134_6) 0)) * 1) (xs := lh0_3) (fz := 0) (e := 3) (es := 1) (d := (some (path 12 141))) (by kernel_rfl) (by kernel_rfl) (by kernel_rfl) (Int.toNat (List.getD lh3_6 (Int.toNat x134_6) 0)) 0 0 (by first | with_reducible rfl | omega | rfl) (row_len (inRow_toNat b3) (by simp)) rfl rfl) (σ' := (qhd11 lh0_3 lh1_3 lh2_6 x17_3 x7_3 x8_3 x99_3 ((22, ii (List.getD lh3_6 (Int.toNat x134_6) 0)) :: qhd13 lh0_3 lh3_6 x98_3 x99_3 [(134, ii x134_6), (141, ii (List.getD lh0_3 (Int.toNat (List.getD lh3_6 (Int.toNat x134_6) 0)) 0))]))) (by kernel_rfl) ?_
     refine rS 1 (qhd11 lh0_3 lh1_3 lh2_6 x17_3 x7_3 x8_3 x99_3 ((22, ii (List.getD lh3_6 (Int.toNat x134_6) 0)) :: qhd13 lh0_3 lh3_6 x98_3 x99_3 [(134, ii x134_6), (142, .bool (decide ((List.getD lh0_3 (Int.toNat (List.getD lh3_6 (Int.toNat x134_6) 0)) 0) < 0)))])) ?_
     refine dQ ?_
     show XQ _ _ _ _ _ _ _ _
     cases b4 : (decide ((List.getD lh0_3 (Int.toNat (List.getD lh3_6 (Int.toNat x134_6) 0)) 0) < 0) : Bool) with
     | true =>
      have h := cT b4 h
      refine iT (.tmp 142) ?_
      refine XQ.exit (i := 7) (by kernel_rfl) ?_
      show XQ _ _ _ _ _ _ _ _
      refine rQ ?_
      refine rS 2 (qhd11 lh0_3 lh1_3 lh2_6 x17_3 x7_3 x8_3 x99_3 (qhd13 lh0_3 lh3_6 x98_3 x99_3 [(134, ii (w64 (x134_6 + 1)))])) ?_
      refine dQ ?_
      show XL _ _ _ _ _ _ _ _ _
      refine XL.ren (σ' := (qhd11 lh0_3 lh1_3 lh2_6 x17_3 x7_3 x8_3 x99_3 (qhd13 lh0_3 lh3_6 x98_3 x99_3 [(134, ii (w64 (x134_6 + 1)))]))) (h' := [(3, rI lh3_6), (2, rI lh2_6), (1, rc encR lh1_3 0 43 4), (0, rI lh0_3)]) (c' := 4) [0, 1, 2, 3] (by decide) rfl ⟨rfl, rfl, rfl, rfl, rfl, rfl, rfl, rfl, rfl, rfl, rfl, rfl, rfl, trivial⟩ ⟨⟨_, _, rfl, rfl, .inl ⟨rfl, rwI⟩⟩, ⟨_, _, rfl, rfl, .inl ⟨rfl, rwI⟩⟩, ⟨_, _, rfl, rfl, .inl ⟨rfl, rowC_scal encR_ok _⟩⟩, ⟨_, _, rfl, rfl, .inl ⟨rfl, rwI⟩⟩, trivial⟩ rfl ?_
      refine XL.conv (f5_6_ok m fuel x7_3 x8_3 x17_3 x98_3 x99_3 lh0_3 lh1_3 (w64 (x134_6 + 1)) lh2_6 lh3_6 o h Q hQ) (by first | with_reducible rfl | simp | rfl)
     | false =>
      have h := cF b4 h
      refine iF (.tmp 142) ?_
      refine kQ ?_
      show XQ _ _ _ _ _ _ _ _
      refine qQ ?_
      refine rS 1 (qhd11 lh0_3 lh1_3 lh2_6 x17_3 x7_3 x8_3 x99_3 ((22, ii (List.getD lh3_6 (Int.toNat x134_6) 0)) :: (23, .slice none 0 0) :: qhd13 lh0_3 lh3_6 x98_3 x99_3 [(134, ii x134_6)])) ?_
      refine dQ ?_
      show XQ _ _ _ _ _ _ _ _
      refine XQ.ghost 3 1 rfl (σ' := (qhd11 lh0_3 lh1_3 lh2_6 x17_3 x7_3 x8_3 x99_3 ((22, ii (List.getD lh3_6 (Int.toNat x134_6) 0)) :: (23, s0 4 0) :: qhd13 lh0_3 lh3_6 x98_3 x99_3 [(134, ii x134_6)]))) (h' := [(3, rI lh3_6), (2, rI lh2_6), (1, rc encR lh1_3 0 43 4), (0, rI lh0_3)]) ⟨rfl, rfl, rfl, rfl, rfl, rfl, rfl, rfl, rfl, rfl, rfl, rfl, rfl, rfl, rfl, trivial⟩ ⟨⟨_, rfl, .inl rfl⟩, ⟨_, rfl, .inl rfl⟩, ⟨_, rfl, .inl rfl⟩, ⟨_, rfl, .inl rfl⟩, trivial⟩ ?_
      refine XQ.conv (σ' := (qhd11 lh0_3 lh1_3 lh2_6 x17_3 x7_3 x8_3 x99_3 ((22, ii (List.getD lh3_6 (Int.toNat x134_6) 0)) :: (23, s0 4 0) :: qhd13 lh0_3 lh3_6 x98_3 x99_3 [(134, ii x134_6)]))) (h' := [(4, rI []), (3, rI lh3_6), (2, rI lh2_6), (1, rc encR lh1_3 0 43 4), (0, rI lh0_3)]) (c' := 5) ?_ (by kernel_rfl)
      refine sQ ?_
      refine qQ ?_
      refine rS 4 (qhd11 lh0_3 lh1_3 lh2_6 x17_3 x7_3 x8_3 x99_3 ((22, ii (List.getD lh3_6 (Int.toNat x134_6) 0)) :: (23, s0 4 0) :: qhd13 lh0_3 lh3_6 x98_3 x99_3 [(134, ii x134_6), (145, ii (w64 (x7_3 * x8_3))), (146, ii 0)])) ?_
      refine dQ ?_
      show XQ _ _ _ _ _ _ _ _
      refine XQ.block (id := 8) (by kernel_rfl) ?_
      refine XQ.loop m (by kernel_rfl) ?_
      obtain ⟨o7, o7_h, h⟩ := bS h
      refine XL.ren (σ' := (qhd11 lh0_3 lh1_3 lh2_6 x17_3 x7_3 x8_3 x99_3 ((22, ii (List.getD lh3_6 (Int.toNat x134_6) 0)) :: (23, s0 3 0) :: qhd12 lh0_3 lh3_6 x134_6 x98_3 x99_3 [(145, ii (w64 (x7_3 * x8_3))), (146, ii 0)]))) (h' := [(4, rI lh3_6), (3, rI []), (2, rI lh2_6), (1, rc encR lh1_3 0 43 4), (0, rI lh0_3)]) (c' := 5) [0, 1, 2, 4, 3] (by decide) rfl ⟨rfl, rfl, rfl, rfl, rfl, rfl, rfl, rfl, rfl, rfl, rfl, rfl, rfl, rfl, rfl, rfl, rfl, trivial⟩ ⟨⟨_, _, rfl, rfl, .inl ⟨rfl, rwI⟩⟩, ⟨_, _, rfl, rfl, .inl ⟨rfl, rwI⟩⟩, ⟨_, _, rfl, rfl, .inl ⟨rfl, rwI⟩⟩, ⟨_, _, rfl, rfl, .inl ⟨rfl, rowC_scal encR_ok _⟩⟩, ⟨_, _, rfl, rfl, .inl ⟨rfl, rwI⟩⟩, trivial⟩ rfl ?_
      refine XL.conv (f5_7_ok m m x7_3 x8_3 x17_3 x98_3 x99_3 lh0_3 lh1_3 x134_6 lh2_6 lh3_6 (List.getD lh3_6 (Int.toNat x134_6) 0) (w64 (x7_3 * x8_3)) 0 [] o7 o7_h _ ?_) (by first | with_reducible rfl | simp | rfl)
      show XQ _ _ _ _ _ _ _ _
      refine qQ ?_
      refine rS 3 (qhd11 lh0_3 lh1_3 lh2_6 x17_3 x7_3 x8_3 x99_3 ((23, s0 3 o7.2.length) :: qhd12 lh0_3 lh3_6 x134_6 x98_3 x99_3 [(154, s0 3 o7.2.length), (155, ii o7.1), (156, ii x99_3)])) ?_
      cases b6 : (inRow o7.1 o7.2.length : Bool) with
      | false => cases (cF b6 h)
      | true =>
       have h := cT b6 h
       refine XR.rd E0_ok [7, 8, 11, 13, 15, 17, 18, 23, 97, 98, 99, 132, 133, 134, 156, 157] rfl (v := pp 3 ((Int.toNat o7.1) * 1)) (v_idx (s := 1) (x := (src 223 (.tmp 154))) (y := (src 223 (.tmp 155))) (b := 3) (o := 0) (len := o7.2.length) (cap := o7.2.length) (ik := .i64) (i := o7.1) (off := (Int.toNat o7.1) * 1) (d := (some (path 12 157))) (by kernel_rfl) (by kernel_rfl) (by kernel_rfl) b6 (by omega)) (σ' := (qhd11 lh0_3 lh1_3 lh2_6 x17_3 x7_3 x8_3 x99_3 ((23, s0 3 o7.2.length) :: qhd12 lh0_3 lh3_6 x134_6 x98_3 x99_3 [(156, ii x99_3), (157, pp 3 ((Int.toNat o7.1) * 1))]))) (by kernel_rfl) ?_
       refine XR.ef E0_ok [7, 8, 11, 13, 15, 17, 18, 23, 97, 98, 99, 132, 133, 134] rfl (e_store (encI_ok .i64) (size := 1) (x := (src 223 (.tmp 157))) (y := (src 223 (.tmp 156))) (b := 3) (off := (Int.toNat o7.1) * 1) (xs := o7.2) (e := 3) (es := 1) (d := none) (h' := [(4, rI lh3_6), (3, rI (List.set o7.2 (Int.toNat o7.1) x99_3)), (2, rI lh2_6), (1, rc encR lh1_3 0 43 4), (0, rI lh0_3)]) (w := ii x99_3) (ws := [ii x99_3]) (a := x99_3) (by kernel_rfl) (by kernel_rfl) (by kernel_rfl) (Int.toNat o7.1) 0 0 (by first | with_reducible rfl | omega | rfl) (row_len (inRow_toNat b6) (by simp)) (by kernel_rfl) rfl rfl rfl rfl rfl (by kernel_rfl)) (σ' := (qhd11 lh0_3 lh1_3 lh2_6 x17_3 x7_3 x8_3 x99_3 ((23, s0 3 o7.2.length) :: qhd12 lh0_3 lh3_6 x134_6 x98_3 x99_3 []))) (by kernel_rfl) ?_
       refine nQ id ?_
       refine rS 1 (qhd11 lh0_3 lh1_3 lh2_6 x17_3 x7_3 x8_3 x99_3 (qhd12 lh0_3 lh3_6 x134_6 x98_3 x99_3 [(159, s0 3 o7.2.length)])) ?_
       obtain ⟨r72, r72_h, h⟩ := bS h
       refine XR.call E0_ok [7, 8, 11, 13, 15, 17, 18, 97, 98, 99, 132, 133, 134, 160] rfl (K := 18) (args := [s0 3 o7.2.length]) (d := (some (path 12 160))) (by kernel_rfl) (KC.liftH (n0 := 1) (m := 1) (args0 := [s0 0 o7.2.length]) (h0 := [(0, rc (encI .i64) (List.set o7.2 (Int.toNat o7.1) x99_3) (0 + ((rowC (encI .i64) (List.set o7.2 (Int.toNat o7.1) x99_3)).length + 1)) 3 1)]) (V := .tuple #[s0 1 r72.1.length, ii r72.2]) (V2 := .tuple #[s0 5 r72.1.length, ii r72.2]) (H := [(1, rI r72.1)]) (H2 := [(5, rI r72.1)]) [3] [2, 3, 4, 5, 6, 1] (by have q := (f18_ok m (0 + ((rowC (encI .i64) (List.set o7.2 (Int.toNat o7.1) x99_3)).length + 1)) 3 (List.set o7.2 (Int.toNat o7.1) x99_3) r72 r72_h); simp only [List.length_set] at q; exact q) (by rfl) (by decide) rfl (by kernel_rfl) ⟨⟨_, _, rfl, rfl, .inl ⟨rfl, rwI⟩⟩, trivial⟩ (by decide) (by decide) (by kernel_rfl) ⟨⟨_, _, rfl, rfl, .inl ⟨rfl, rwI⟩⟩, trivial⟩ (by rfl)) ?_
       rintro _ _ _ ⟨rfl, rfl, rfl⟩
       refine XR.conv (σ' := (qhd11 lh0_3 lh1_3 lh2_6 x17_3 x7_3 x8_3 x99_3 (qhd12 lh0_3 lh3_6 x134_6 x98_3 x99_3 [(160, .tuple #[s0 5 r72.1.length, ii r72.2])]))) (h' := [(5, rI r72.1), (4, rI lh3_6), (3, rI (List.set o7.2 (Int.toNat o7.1) x99_3)), (2, rI lh2_6), (1, rc encR lh1_3 0 43 4), (0, rI lh0_3)]) (c' := 6) ?_ (by kernel_rfl)
       refine rS 5 (qhd11 lh0_3 lh1_3 lh2_6 x17_3 x7_3 x8_3 x99_3 ((25, s0 5 r72.1.length) :: (26, ii r72.2) :: qhd12 lh0_3 lh3_6 x134_6 x98_3 x99_3 [])) ?_
       refine dQ ?_
       show XQ _ _ _ _ _ _ _ _
       refine sQ ?_
       refine qQ ?_
       refine rS 2 (qhd11 lh0_3 lh1_3 lh2_6 x17_3 x7_3 x8_3 x99_3 ((25, s0 5 r72.1.length) :: qhd12 lh0_3 lh3_6 x134_6 x98_3 x99_3 [(164, .bool (r72.2 != 0))])) ?_
       refine dQ ?_
       show XQ _ _ _ _ _ _ _ _
       cases b7 : (r72.2 != 0 : Bool) with
       | true =>
        have h := cT b7 h
        refine iT (.tmp 164) ?_
        refine qQ ?_
        refine rS 1 [(6, .bool false)] ?_
        refine dQ ?_
        show XQ _ _ _ _ _ _ _ _
        refine XQ.ren (σ' := [(6, .bool false)]) (h' := []) (c' := 0) [] (by decide) rfl ⟨rfl, trivial⟩ trivial rfl ?_
        refine XQ.ret (by kernel_rfl) ?_
        cases h
        exact hQ
       | false =>
        have h := cF b7 h
        refine iF (.tmp 164) ?_
        refine kQ ?_
        show XQ _ _ _ _ _ _ _ _
        refine qQ ?_
        refine rS 2 (qhd11 lh0_3 lh1_3 lh2_6 x17_3 x7_3 x8_3 x99_3 (qhd12 lh0_3 lh3_6 x134_6 x98_3 x99_3 [(166, s0 2 lh2_6.length), (167, s0 5 r72.1.length)])) ?_
        obtain ⟨r73, r73_h, h⟩ := bS h
        refine XR.call E0_ok [7, 8, 11, 13, 15, 17, 18, 97, 98, 99, 132, 133, 134, 168] rfl (K := 19) (args := [s0 2 lh2_6.length, s0 5 r72.1.length]) (d := (some (path 12 168))) (by kernel_rfl) (KC.liftH (n0 := 2) (m := 1) (args0 := [s0 0 lh2_6.length, s0 1 r72.1.length]) (h0 := [(1, rc (encI .i64) r72.1 (0 + ((rowC (encI .i64) r72.1).length + 1)) 3 1), (0, rc (encI .i64) lh2_6 (0 + ((rowC (encI .i64) lh2_6).length + 1)) 3 1)]) (V := .tuple #[s0 2 r73.1.length, ii r73.2]) (V2 := .tuple #[s0 6 r73.1.length, ii r73.2]) (H := [(2, rI r73.1)]) (H2 := [(6, rI r73.1)]) [2, 5] [3, 4, 5, 6, 7, 8, 2] (f19_ok m (0 + ((rowC (encI .i64) lh2_6).length + 1)) 3 (0 + ((rowC (encI .i64) r72.1).length + 1)) 3 lh2_6 r72.1 r73 r73_h) (by rfl) (by decide) rfl (by kernel_rfl) ⟨⟨_, _, rfl, rfl, .inl ⟨rfl, rwI⟩⟩, ⟨_, _, rfl, rfl, .inl ⟨rfl, rwI⟩⟩, trivial⟩ (by decide) (by decide) (by kernel_rfl) ⟨⟨_, _, rfl, rfl, .inl ⟨rfl, rwI⟩⟩, trivial⟩ (by rfl)) ?_
        rintro _ _ _ ⟨rfl, rfl, rfl⟩
        refine XR.conv (σ' := (qhd11 lh0_3 lh1_3 lh2_6 x17_3 x7_3 x8_3 x99_3 (qhd12 lh0_3 lh3_6 x134_6 x98_3 x99_3 [(168, .tuple #[s0 6 r73.1.length, ii r73.2])]))) (h' := [(6, rI r73.1), (5, rI r72.1), (4, rI lh3_6), (3, rI (List.set o7.2 (Int.toNat o7.1) x99_3)), (2, rI lh2_6), (1, rc encR lh1_3 0 43 4), (0, rI lh0_3)]) (c' := 7) ?_ (by kernel_rfl)
        refine rS 5 (qhd11 lh0_3 lh1_3 lh2_6 x17_3 x7_3 x8_3 x99_3 ((26, ii r73.2) :: (27, s0 6 r73.1.length) :: qhd12 lh0_3 lh3_6 x134_6 x98_3 x99_3 [])) ?_
        refine nQ id ?_
        refine rS 2 ((7, ii x7_3) :: (8, ii x8_3) :: (11, s0 0 lh0_3.length) :: (13, s0 1 lh1_3.length) :: (17, ii x17_3) :: (18, ii x99_3) :: (26, ii r73.2) :: (27, s0 6 r73.1.length) :: qhd12 lh0_3 lh3_6 x134_6 x98_3 x99_3 [(172, s0 2 lh2_6.length), (173, s0 6 r73.1.length)]) ?_
        obtain ⟨r74, r74_h, h⟩ := bS h
        refine XR.call E0_ok [7, 8, 11, 13, 17, 18, 26, 27, 97, 98, 99, 132, 133, 134, 174] rfl (K := 20) (args := [s0 2 lh2_6.length, s0 6 r73.1.length]) (d := (some (path 12 174))) (by kernel_rfl) (KQ.call (KC.quiet E0_ok (args0 := [s0 0 lh2_6.length, s0 1 r73.1.length]) (h0 := [(1, rc (encI .i64) r73.1 (0 + ((rowC (encI .i64) r73.1).length + 1)) 3 1), (0, rc (encI .i64) lh2_6 (0 + ((rowC (encI .i64) lh2_6).length + 1)) 3 1)]) (n := 2) (V := .tuple #[.bool r74.1, ii r74.2]) [2, 6] (f20_ok m (0 + ((rowC (encI .i64) lh2_6).length + 1)) 3 (0 + ((rowC (encI .i64) r73.1).length + 1)) 3 lh2_6 r73.1 r74 r74_h) rfl (by rfl) (by decide) rfl (by kernel_rfl) ⟨⟨_, _, rfl, rfl, .inl ⟨rfl, rwI⟩⟩, ⟨_, _, rfl, rfl, .inl ⟨rfl, rwI⟩⟩, trivial⟩) rfl) ?_
        rintro _ _ _ ⟨rfl, rfl, rfl⟩
        refine XR.conv (σ' := ((7, ii x7_3) :: (8, ii x8_3) :: (11, s0 0 lh0_3.length) :: (13, s0 1 lh1_3.length) :: (17, ii x17_3) :: (18, ii x99_3) :: (26, ii r73.2) :: (27, s0 6 r73.1.length) :: qhd12 lh0_3 lh3_6 x134_6 x98_3 x99_3 [(174, .tuple #[.bool r74.1, ii r74.2])])) (h' := [(6, rI r73.1), (5, rI r72.1), (4, rI lh3_6), (3, rI (List.set o7.2 (Int.toNat o7.1) x99_3)), (2, rI lh2_6), (1, rc encR lh1_3 0 43 4), (0, rI lh0_3)]) (c' := 7) ?_ (by kernel_rfl)
        refine rS 5 ((7, ii x7_3) :: (8, ii x8_3) :: (11, s0 0 lh0_3.length) :: (13, s0 1 lh1_3.length) :: (17, ii x17_3) :: (18, ii x99_3) :: (26, ii r73.2) :: (27, s0 6 r73.1.length) :: (28, .bool r74.1) :: (29, ii r74.2) :: qhd12 lh0_3 lh3_6 x134_6 x98_3 x99_3 []) ?_
        refine dQ ?_
        show XQ _ _ _ _ _ _ _ _
        refine sQ ?_
        refine qQ ?_
        refine rS 3 ((7, ii x7_3) :: (8, ii x8_3) :: (11, s0 0 lh0_3.length) :: (13, s0 1 lh1_3.length) :: (17, ii x17_3) :: (18, ii x99_3) :: (27, s0 6 r73.1.length) :: (28, .bool r74.1) :: (29, ii r74.2) :: qhd12 lh0_3 lh3_6 x134_6 x98_3 x99_3 [(179, .bool (r73.2 != 0))]) ?_
        cases b8 : (r73.2 != 0 : Bool) with
        | true =>
         have h := cT b8 h
         refine rS 15 ((7, ii x7_3) :: (8, ii x8_3) :: (11, s0 0 lh0_3.length) :: (13, s0 1 lh1_3.length) :: (17, ii x17_3) :: (18, ii x99_3) :: (27, s0 6 r73.1.length) :: qhd12 lh0_3 lh3_6 x134_6 x98_3 x99_3 [(194, .bool true)]) ?_
         refine dQ ?_
         show XQ _ _ _ _ _ _ _ _
         refine iT (.tmp 194) ?_
         refine qQ ?_
         refine rS 1 [(6, .bool false)] ?_
         refine dQ ?_
         show XQ _ _ _ _ _ _ _ _
         refine XQ.ren (σ' := [(6, .bool false)]) (h' := []) (c' := 0) [] (by decide) rfl ⟨rfl, trivial⟩ trivial rfl ?_
         refine XQ.ret (by kernel_rfl) ?_
         cases h
         exact hQ
        | false =>
         have h := cF b8 h
         refine rS 4 ((7, ii x7_3) :: (8, ii x8_3) :: (11, s0 0 lh0_3.length) :: (13, s0 1 lh1_3.length) :: (17, ii x17_3) :: (18, ii x99_3) :: (27, s0 6 r73.1.length) :: (28, .bool r74.1) :: qhd12 lh0_3 lh3_6 x134_6 x98_3 x99_3 [(183, .bool (r74.2 != 0))]) ?_
         cases b9 : (r74.2 != 0 : Bool) with
         | true =>
          have h := cT b9 h
          refine rS 11 ((7, ii x7_3) :: (8, ii x8_3) :: (11, s0 0 lh0_3.length) :: (13, s0 1 lh1_3.length) :: (17, ii x17_3) :: (18, ii x99_3) :: (27, s0 6 r73.1.length) :: qhd12 lh0_3 lh3_6 x134_6 x98_3 x99_3 [(194, .bool true)]) ?_
          refine dQ ?_
          show XQ _ _ _ _ _ _ _ _
          refine iT (.tmp 194) ?_
          refine qQ ?_
          refine rS 1 [(6, .bool false)] ?_
          refine dQ ?_
          show XQ _ _ _ _ _ _ _ _
          refine XQ.ren (σ' := [(6, .bool false)]) (h' := []) (c' := 0) [] (by decide) rfl ⟨rfl, trivial⟩ trivial rfl ?_
          refine XQ.ret (by kernel_rfl) ?_
          cases h
          exact hQ
         | false =>
          have h := cF b9 h
          refine rS 4 ((7, ii x7_3) :: (8, ii x8_3) :: (11, s0 0 lh0_3.length) :: (13, s0 1 lh1_3.length) :: (17, ii x17_3) :: (18, ii x99_3) :: (27, s0 6 r73.1.length) :: qhd12 lh0_3 lh3_6 x134_6 x98_3 x99_3 [(187, .bool (!r74.1))]) ?_
          cases b10 : (!r74.1 : Bool) with
          | true =>
           have h := cT b10 h
           refine rS 7 ((7, ii x7_3) :: (8, ii x8_3) :: (11, s0 0 lh0_3.length) :: (13, s0 1 lh1_3.length) :: (17, ii x17_3) :: (18, ii x99_3) :: (27, s0 6 r73.1.length) :: qhd12 lh0_3 lh3_6 x134_6 x98_3 x99_3 [(194, .bool true)]) ?_
           refine dQ ?_
           show XQ _ _ _ _ _ _ _ _
           refine iT (.tmp 194) ?_
           refine qQ ?_
           refine rS 1 [(6, .bool false)] ?_
           refine dQ ?_
           show XQ _ _ _ _ _ _ _ _
           refine XQ.ren (σ' := [(6, .bool false)]) (h' := []) (c' := 0) [] (by decide) rfl ⟨rfl, trivial⟩ trivial rfl ?_
           refine XQ.ret (by kernel_rfl) ?_
           cases h
           exact hQ
          | false =>
           have h := cF b10 h
           refine rS 7 ((7, ii x7_3) :: (8, ii x8_3) :: (11, s0 0 lh0_3.length) :: (13, s0 1 lh1_3.length) :: (17, ii x17_3) :: (18, ii x99_3) :: (27, s0 6 r73.1.length) :: qhd12 lh0_3 lh3_6 x134_6 x98_3 x99_3 [(194, .bool (((r73.1.length : Nat) : Int) != (w64 (x7_3 * x8_3))))]) ?_
           refine dQ ?_
           show XQ _ _ _ _ _ _ _ _
           cases b11 : (((r73.1.length : Nat) : Int) != (w64 (x7_3 * x8_3)) : Bool) with
           | true =>
            have h := cT b11 h
            refine iT (.tmp 194) ?_
            refine qQ ?_
            refine rS 1 [(6, .bool false)] ?_
            refine dQ ?_
            show XQ _ _ _ _ _ _ _ _
            refine XQ.ren (σ' := [(6, .bool false)]) (h' := []) (c' := 0) [] (by decide) rfl ⟨rfl, trivial⟩ trivial rfl ?_
            refine XQ.ret (by kernel_rfl) ?_
            cases h
            exact hQ
           | false =>
            have h := cF b11 h
            refine iF (.tmp 194) ?_
            refine kQ ?_
            show XQ _ _ _ _ _ _ _ _
            refine rQ ?_
            refine rS 2 ((7, ii x7_3) :: (8, ii x8_3) :: (11, s0 0 lh0_3.length) :: (13, s0 1 lh1_3.length) :: (15, s0 6 r73.1.length) :: (17, ii x17_3) :: (18, ii x99_3) :: qhd12 lh0_3 lh3_6 x134_6 x98_3 x99_3 []) ?_
            refine dQ ?_
            show XQ _ _ _ _ _ _ _ _
            refine rQ ?_
            refine rS 2 [(7, ii x7_3), (8, ii x8_3), (11, s0 0 lh0_3.length), (13, s0 1 lh1_3.length), (15, s0 6 r73.1.length), (17, ii x17_3), (18, ii x99_3), (97, s0 0 lh0_3.length), (98, ii x98_3), (99, ii x99_3), (132, s0 4 lh3_6.length), (133, ii 1), (134, ii (w64 (x134_6 + 1)))] ?_
            refine dQ ?_
            show XL _ _ _ _ _ _ _ _ _
            refine XL.ren (σ' := ((7, ii x7_3) :: (8, ii x8_3) :: (11, s0 0 lh0_3.length) :: (13, s0 1 lh1_3.length) :: (15, s0 2 r73.1.length) :: (17, ii x17_3) :: (18, ii x99_3) :: qhd13 lh0_3 lh3_6 x98_3 x99_3 [(134, ii (w64 (x134_6 + 1)))])) (h' := [(3, rI lh3_6), (2, rI r73.1), (1, rc encR lh1_3 0 43 4), (0, rI lh0_3)]) (c' := 4) [0, 1, 6, 4] (by decide) rfl ⟨rfl, rfl, rfl, rfl, rfl, rfl, rfl, rfl, rfl, rfl, rfl, rfl, rfl, trivial⟩ ⟨⟨_, _, rfl, rfl, .inl ⟨rfl, rwI⟩⟩, ⟨_, _, rfl, rfl, .inl ⟨rfl, rwI⟩⟩, ⟨_, _, rfl, rfl, .inl ⟨rfl, rowC_scal encR_ok _⟩⟩, ⟨_, _, rfl, rfl, .inl ⟨rfl, rwI⟩⟩, trivial⟩ rfl ?_
            refine XL.conv (f5_6_ok m fuel x7_3 x8_3 x17_3 x98_3 x99_3 lh0_3 lh1_3 (w64 (x134_6 + 1)) r73.1 lh3_6 o h Q hQ) (by first | with_reducible rfl | simp | rfl)
  | false =>
   have h := cF b1 h
   refine iF (.tmp 135) ?_
   refine XQ.ren (σ' := [(7, ii x7_3), (8, ii x8_3), (11, s0 0 lh0_3.length), (13, s0 1 lh1_3.length), (15, s0 2 lh2_6.length), (17, ii x17_3), (97, s0 0 lh0_3.length), (98, ii x98_3), (99, ii x99_3)]) (h' := [(2, rI lh2_6), (1, rc encR lh1_3 0 43 4), (0, rI lh0_3)]) (c' := 3) [0, 1, 2] (by decide) rfl ⟨rfl, rfl, rfl, rfl, rfl, rfl, rfl, rfl, rfl, trivial⟩ ⟨⟨_, _, rfl, rfl, .inl ⟨rfl, rwI⟩⟩, ⟨_, _, rfl, rfl, .inl ⟨rfl, rowC_scal encR_ok _⟩⟩, ⟨_, _, rfl, rfl, .inl ⟨rfl, rwI⟩⟩, trivial⟩ rfl ?_
   refine XQ.exit (i := 6) (by kernel_rfl) ?_
   cases h
   exact hQ
def f5_9 (m : Nat) : Nat → Int → Int → Int → Int → Int → List Int → List (Int × Int × Int × Int) → Int → List Int → List Int → Int → Int → Int → List Int → Option (Int × (List Int))
 | 0, _, _, _, _, _, _, _, _, _, _, _, _, _, _ => none
 | fuel + 1, x7_3, x8_3, x17_3, x98_3, x99_3, lh0_3, lh1_3, x134_8, lh2_8, lh3_8, x22_9, x145_9, x146_9, lh3_9 =>
  cond (decide (x146_9 < x145_9)) (
   cond (fitsB (lh3_9.length + 1) 8) (
    f5_9 m fuel x7_3 x8_3 x17_3 x98_3 x99_3 lh0_3 lh1_3 x134_8 lh2_8 lh3_8 x22_9 x145_9 (w64 (x146_9 + 1)) (lh3_9 ++ [x146_9])
   ) none
  ) (
   some (x22_9, lh3_9)
  )
abbrev qhd14 (lh0_3 : List Int) (lh1_3 : List (Int × Int × Int × Int)) (lh2_8 : List Int) (x17_3 : Int) (x7_3 : Int) (x8_3 : Int) (x99_3 : Int) (t : St) : St := (7, ii x7_3) :: (8, ii x8_3) :: (11, s0 0 lh0_3.length) :: (13, s0 1 lh1_3.length) :: (15, s0 2 lh2_8.length) :: (17, ii x17_3) :: (18, ii x99_3) :: t
abbrev qhd15 (lh0_3 : List Int) (lh3_8 : List Int) (x134_8 : Int) (x98_3 : Int) (x99_3 : Int) (t : St) : St := (97, s0 0 lh0_3.length) :: (98, ii x98_3) :: (99, ii x99_3) :: (132, s0 4 lh3_8.length) :: (133, ii 1) :: (134, ii x134_8) :: t
theorem f5_9_ok (m : Nat) : ∀ (fuel : Nat) (x7_3 : Int) (x8_3 : Int) (x17_3 : Int) (x98_3 : Int) (x99_3 : Int) (lh0_3 : List Int) (lh1_3 : List (Int × Int × Int × Int)) (x134_8 : Int) (lh2_8 : List Int) (lh3_8 : List Int) (x22_9 : Int) (x145_9 : Int) (x146_9 : Int) (lh3_9 : List Int) (o : (Int × (List Int))), f5_9 m fuel x7_3 x8_3 x17_3 x98_3 x99_3 lh0_3 lh1_3 x134_8 lh2_8 lh3_8 x22_9 x145_9 x146_9 lh3_9 = some o → ∀ Q : QP, Q (.exit 8) (qhd14 lh0_3 lh1_3 lh2_8 x17_3 x7_3 x8_3 x99_3 ((22, ii o.1) :: (23, s0 3 o.2.length) :: qhd15 lh0_3 lh3_8 x134_8 x98_3 x99_3 [])) [(4, rI lh3_8), (3, rI o.2), (2, rI lh2_8), (1, rc encR lh1_3 0 43 4), (0, rI lh0_3)] 5 → XL E0 223 0 fuel f5_L9 (qhd14 lh0_3 lh1_3 lh2_8 x17_3 x7_3 x8_3 x99_3 ((22, ii x22_9) :: (23, s0 3 lh3_9.length) :: qhd15 lh0_3 lh3_8 x134_8 x98_3 x99_3 [(145, ii x145_9), (146, ii x146_9)])) [(4, rI lh3_8), (3, rI lh3_9), (2, rI lh2_8), (1, rc encR lh1_3 0 43 4), (0, rI lh0_3)] 5 Q
 | 0, x7_3, x8_3, x17_3, x98_3, x99_3, lh0_3, lh1_3, x134_8, lh2_8, lh3_8, x22_9, x145_9, x146_9, lh3_9, o, h, Q, hQ => by cases h
 | fuel + 1, x7_3, x8_3, x17_3, x98_3, x99_3, lh0_3, lh1_3, x134_8, lh2_8, lh3_8, x22_9, x145_9, x146_9, lh3_9, o, h, Q, hQ => by
  unfold f5_9 at h
  refine XL.succ E0_ok ?_
  refine qQ ?_
  refine rS 1 (qhd14 lh0_3 lh1_3 lh2_8 x17_3 x7_3 x8_3 x99_3 ((22, ii x22_9) :: (23, s0 3 lh3_9.length) :: qhd15 lh0_3 lh3_8 x134_8 x98_3 x99_3 [(145, ii x145_9), (146, ii x146_9), (147, .bool (decide (x146_9 < x145_9)))])) ?_
  refine dQ ?_
  show XQ _ _ _ _ _ _ _ _
  refine sQ ?_
  cases b1 : (decide (x146_9 < x145_9) : Bool) with
  | true =>
   have h := cT b1 h
   refine iT (.tmp 147) ?_
   refine kQ ?_
   show XQ _ _ _ _ _ _ _ _
   refine sQ ?_
   refine XQ.block (id := 9) (by kernel_rfl) ?_
   refine qQ ?_
   refine rS 2 (qhd14 lh0_3 lh1_3 lh2_8 x17_3 x7_3 x8_3 x99_3 ((22, ii x22_9) :: (23, s0 3 lh3_9.length) :: (24, ii x146_9) :: qhd15 lh0_3 lh3_8 x134_8 x98_3 x99_3 [(145, ii x145_9), (146, ii x146_9)])) ?_
   refine dQ ?_
   show XQ _ _ _ _ _ _ _ _
   refine rQ ?_
   refine rT 3 (qhd14 lh0_3 lh1_3 lh2_8 x17_3 x7_3 x8_3 x99_3 ((22, ii x22_9) :: qhd15 lh0_3 lh3_8 x134_8 x98_3 x99_3 [(145, ii x145_9), (146, ii x146_9), (149, s0 3 lh3_9.length), (151, s0 5 1)])) [(5, .cells [ii x146_9] 0 3 1), (4, rI lh3_8), (3, rI lh3_9), (2, rI lh2_8), (1, rc encR lh1_3 0 43 4), (0, rI lh0_3)] 6 ?_
   cases b2 : (fitsB (lh3_9.length + 1) 8 : Bool) with
   | false => cases (cF b2 h)
   | true =>
    have h := cT b2 h
    refine XR.ef E0_ok [7, 8, 11, 13, 15, 17, 18, 22, 97, 98, 99, 132, 133, 134, 145, 146, 152] rfl (e_append (encI_ok .i64) (bytes := 8) (e := 3) (x := (src 223 (.tmp 149))) (y := (src 223 (.tmp 151))) (b := 3) (len := lh3_9.length) (cap := lh3_9.length) (xs := lh3_9) (m := 0) (ys := [x146_9]) (d := (some (path 12 152))) (n' := (lh3_9 ++ [x146_9]).length) (h' := [(6, rI (lh3_9 ++ [x146_9])), (5, .cells [ii x146_9] 0 3 1), (4, rI lh3_8), (2, rI lh2_8), (1, rc encR lh1_3 0 43 4), (0, rI lh0_3)]) (by kernel_rfl) (by kernel_rfl) (by kernel_rfl) (by kernel_rfl) rfl (by simp) (by simp) b2 (by simp) (by kernel_rfl)) (σ' := (qhd14 lh0_3 lh1_3 lh2_8 x17_3 x7_3 x8_3 x99_3 ((22, ii x22_9) :: qhd15 lh0_3 lh3_8 x134_8 x98_3 x99_3 [(145, ii x145_9), (146, ii x146_9), (152, s0 6 ((lh3_9 ++ [x146_9]).length))]))) (by kernel_rfl) ?_
    refine rS 1 (qhd14 lh0_3 lh1_3 lh2_8 x17_3 x7_3 x8_3 x99_3 ((22, ii x22_9) :: (23, s0 6 ((lh3_9 ++ [x146_9]).length)) :: qhd15 lh0_3 lh3_8 x134_8 x98_3 x99_3 [(145, ii x145_9), (146, ii x146_9)])) ?_
    refine dQ ?_
    show XQ _ _ _ _ _ _ _ _
    refine rQ ?_
    refine rS 2 (qhd14 lh0_3 lh1_3 lh2_8 x17_3 x7_3 x8_3 x99_3 ((22, ii x22_9) :: (23, s0 6 ((lh3_9 ++ [x146_9]).length)) :: qhd15 lh0_3 lh3_8 x134_8 x98_3 x99_3 [(145, ii x145_9), (146, ii (w64 (x146_9 + 1)))])) ?_
    refine dQ ?_
    show XL _ _ _ _ _ _ _ _ _
    refine XL.ren (σ' := (qhd14 lh0_3 lh1_3 lh2_8 x17_3 x7_3 x8_3 x99_3 ((22, ii x22_9) :: (23, s0 3 ((lh3_9 ++ [x146_9]).length)) :: qhd15 lh0_3 lh3_8 x134_8 x98_3 x99_3 [(145, ii x145_9), (146, ii (w64 (x146_9 + 1)))]))) (h' := [(4, rI lh3_8), (3, rI (lh3_9 ++ [x146_9])), (2, rI lh2_8), (1, rc encR lh1_3 0 43 4), (0, rI lh0_3)]) (c' := 5) [0, 1, 2, 6, 4] (by decide) rfl ⟨rfl, rfl, rfl, rfl, rfl, rfl, rfl, rfl, rfl, rfl, rfl, rfl, rfl, rfl, rfl, rfl, rfl, trivial⟩ ⟨⟨_, _, rfl, rfl, .inl ⟨rfl, rwI⟩⟩, ⟨_, _, rfl, rfl, .inl ⟨rfl, rwI⟩⟩, ⟨_, _, rfl, rfl, .inl ⟨rfl, rwI⟩⟩, ⟨_, _, rfl, rfl, .inl ⟨rfl, rowC_scal encR_ok _⟩⟩, ⟨_, _, rfl, rfl, .inl ⟨rfl, rwI⟩⟩, trivial⟩ rfl ?_
    refine XL.conv (f5_9_ok m fuel x7_3 x8_3 x17_3 x98_3 x99_3 lh0_3 lh1_3 x134_8 lh2_8 lh3_8 x22_9 x145_9 (w64 (x146_9 + 1)) (lh3_9 ++ [x146_9]) o h Q hQ) (by first | with_reducible rfl | simp | rfl)
  | false =>
   have h := cF b1 h
   refine iF (.tmp 147) ?_
   refine XQ.ren (σ' := (qhd14 lh0_3 lh1_3 lh2_8 x17_3 x7_3 x8_3 x99_3 ((22, ii x22_9) :: (23, s0 3 lh3_9.length) :: qhd15 lh0_3 lh3_8 x134_8 x98_3 x99_3 []))) (h' := [(4, rI lh3_8), (3, rI lh3_9), (2, rI lh2_8), (1, rc encR lh1_3 0 43 4), (0, rI lh0_3)]) (c' := 5) [0, 1, 2, 3, 4] (by decide) rfl ⟨rfl, rfl, rfl, rfl, rfl, rfl, rfl, rfl, rfl, rfl, rfl, rfl, rfl, rfl, rfl, trivial⟩ ⟨⟨_, _, rfl, rfl, .inl ⟨rfl, rwI⟩⟩, ⟨_, _, rfl, rfl, .inl ⟨rfl, rwI⟩⟩, ⟨_, _, rfl, rfl, .inl ⟨rfl, rwI⟩⟩, ⟨_, _, rfl, rfl, .inl ⟨rfl, rowC_scal encR_ok _⟩⟩, ⟨_, _, rfl, rfl, .inl ⟨rfl, rwI⟩⟩, trivial⟩ rfl ?_
   refine XQ.exit (i := 8) (by kernel_rfl) ?_
   cases h
   exact hQ
inductive Of5_8 where
 | r
 | x6 (lh2_x68 : List Int)
def f5_8 (m : Nat) : Nat → Int → Int → Int → Int → Int → List Int → List (Int × Int × Int × Int) → Int → List Int → List Int → Option Of5_8
 | 0, _, _, _, _, _, _, _, _, _, _ => none
 | fuel + 1, x7_3, x8_3, x17_3, x98_3, x99_3, lh0_3, lh1_3, x134_8, lh2_8, lh3_8 =>
  cond (decide (x134_8 < 1)) (
   cond (inRow x134_8 lh3_8.length) (
    cond (inRow (List.getD lh3_8 (Int.toNat x134_8) 0) lh0_3.length) (
     cond (decide ((List.getD lh0_3 (Int.toNat (List.getD lh3_8 (Int.toNat x134_8) 0)) 0) < 0)) (
      f5_8 m fuel x7_3 x8_3 x17_3 x98_3 x99_3 lh0_3 lh1_3 (w64 (x134_8 + 1)) lh2_8 lh3_8
     ) (
      (f5_9 m m x7_3 x8_3 x17_3 x98_3 x99_3 lh0_3 lh1_3 x134_8 lh2_8 lh3_8 (List.getD lh3_8 (Int.toNat x134_8) 0) (w64 (x7_3 * x8_3)) 0 []).bind fun o9 =>
       cond (inRow o9.1 o9.2.length) (
        (f18 m (List.set o9.2 (Int.toNat o9.1) x99_3)).bind fun r81 =>
         cond (r81.2 != 0) (
          some (.r)
         ) (
          (f19 m lh2_8 r81.1).bind fun r82 =>
           (f20 m lh2_8 r82.1).bind fun r83 =>
            cond (r82.2 != 0) (
             some (.r)
            ) (
             cond (r83.2 != 0) (
              some (.r)
             ) (
              cond (!r83.1) (
               some (.r)
              ) (
               cond (((r82.1.length : Nat) : Int) != (w64 (x7_3 * x8_3))) (
                some (.r)
               ) (
                f5_8 m fuel x7_3 x8_3 x17_3 x98_3 x99_3 lh0_3 lh1_3 (w64 (x134_8 + 1)) r82.1 lh3_8
               )
              )
             )
            )
         )
       ) none
     )
    ) none
   ) none
  ) (
   some (.x6 lh2_8)
  )
abbrev qhd16 (lh0_3 : List Int) (lh1_3 : List (Int × Int × Int × Int)) (lh2_8 : List Int) (x17_3 : Int) (x7_3 : Int) (x8_3 : Int) (x99_3 : Int) (t : St) : St := (7, ii x7_3) :: (8, ii x8_3) :: (11, s0 0 lh0_3.length) :: (13, s0 1 lh1_3.length) :: (15, s0 2 lh2_8.length) :: (17, ii x17_3) :: (18, ii x99_3) :: t
abbrev qhd17 (lh0_3 : List Int) (lh3_8 : List Int) (x134_8 : Int) (x98_3 : Int) (x99_3 : Int) (t : St) : St := (97, s0 0 lh0_3.length) :: (98, ii x98_3) :: (99, ii x99_3) :: (132, s0 4 lh3_8.length) :: (133, ii 1) :: (134, ii x134_8) :: t
abbrev qhd18 (lh0_3 : List Int) (lh3_8 : List Int) (x98_3 : Int) (x99_3 : Int) (t : St) : St := (97, s0 0 lh0_3.length) :: (98, ii x98_3) :: (99, ii x99_3) :: (132, s0 3 lh3_8.length) :: (133, ii 1) :: t
theorem f5_8_ok (m : Nat) : ∀ (fuel : Nat) (x7_3 : Int) (x8_3 : Int) (x17_3 : Int) (x98_3 : Int) (x99_3 : Int) (lh0_3 : List Int) (lh1_3 : List (Int × Int × Int × Int)) (x134_8 : Int) (lh2_8 : List Int) (lh3_8 : List Int) (o : Of5_8), f5_8 m fuel x7_3 x8_3 x17_3 x98_3 x99_3 lh0_3 lh1_3 x134_8 lh2_8 lh3_8 = some o → ∀ Q : QP, (match o with | .r => Q .ret [(6, .bool false)] [] 0 | .x6 lh2_x68 => Q (.exit 6) [(7, ii x7_3), (8, ii x8_3), (11, s0 0 lh0_3.length), (13, s0 1 lh1_3.length), (15, s0 2 lh2_x68.length), (17, ii x17_3), (97, s0 0 lh0_3.length), (98, ii x98_3), (99, ii x99_3)] [(2, rI lh2_x68), (1, rc encR lh1_3 0 43 4), (0, rI lh0_3)] 3) → XL E0 223 0 fuel f5_L8 (qhd16 lh0_3 lh1_3 lh2_8 x17_3 x7_3 x8_3 x99_3 (qhd18 lh0_3 lh3_8 x98_3 x99_3 [(134, ii x134_8)])) [(3, rI lh3_8), (2, rI lh2_8), (1, rc encR lh1_3 0 43 4), (0, rI lh0_3)] 4 Q
 | 0, x7_3, x8_3, x17_3, x98_3, x99_3, lh0_3, lh1_3, x134_8, lh2_8, lh3_8, o, h, Q, hQ => by cases h
 | fuel + 1, x7_3, x8_3, x17_3, x98_3, x99_3, lh0_3, lh1_3, x134_8, lh2_8, lh3_8, o, h, Q, hQ => by
  unfold f5_8 at h
  refine XL.succ E0_ok ?_
  refine qQ ?_
  refine rS 1 (qhd16 lh0_3 lh1_3 lh2_8 x17_3 x7_3 x8_3 x99_3 (qhd18 lh0_3 lh3_8 x98_3 x99_3 [(134, ii x134_8), (135, .bool (decide (x134_8 < 1)))])) ?_
  refine dQ ?_
  show XQ _ _ _ _ _ _ _ _
  refine sQ ?_
  cases b1 : (decide (x134_8 < 1) : Bool) with
  | true =>
   have h := cT b1 h
   refine iT (.tmp 135) ?_
   refine kQ ?_
   show XQ _ _ _ _ _ _ _ _
   refine sQ ?_
   refine XQ.block (id := 7) (by kernel_rfl) ?_
   refine qQ ?_
   cases b2 : (inRow x134_8 lh3_8.length : Bool) with
   | false => cases (cF b2 h)
   | true =>
    have h := cT b2 h
    refine XR.rd E0_ok [7, 8, 11, 13, 15, 17, 18, 97, 98, 99, 132, 133, 134, 136] rfl (v := pp 3 ((Int.toNat x134_8) * 1)) (v_idx (s := 1) (x := (src 223 (.tmp 132))) (y := (src 223 (.tmp 134))) (b := 3) (o := 0) (len := lh3_8.length) (cap := lh3_8.length) (ik := .i64) (i := x134_8) (off := (Int.toNat x134_8) * 1) (d := (some (path 12 136))) (by kernel_rfl) (by kernel_rfl) (by kernel_rfl) b2 (by omega)) (σ' := (qhd16 lh0_3 lh1_3 lh2_8 x17_3 x7_3 x8_3 x99_3 (qhd18 lh0_3 lh3_8 x98_3 x99_3 [(134, ii x134_8), (136, pp 3 ((Int.toNat x134_8) * 1))]))) (by kernel_rfl) ?_
    refine XR.rd E0_ok [7, 8, 11, 13, 15, 17, 18, 97, 98, 99, 132, 133, 134, 137] rfl (v := ii (List.getD lh3_8 (Int.toNat x134_8) 0)) (v_load1 (encI_ok .i64) (x := (src 223 (.tmp 136))) (b := 3) (off := (Int.toNat x134_8) * 1) (xs := lh3_8) (fz := 0) (e := 3) (es := 1) (d := (some (path 12 137))) (by kernel_rfl) (by kernel_rfl) (by kernel_rfl) (Int.toNat x134_8) 0 0 (by first | with_reducible rfl | omega | rfl) (row_len (inRow_toNat b2) (by simp)) rfl rfl) (σ' := (qhd16 lh0_3 lh1_3 lh2_8 x17_3 x7_3 x8_3 x99_3 (qhd18 lh0_3 lh3_8 x98_3 x99_3 [(134, ii x134_8), (137, ii (List.getD lh3_8 (Int.toNat x134_8) 0))]))) (by kernel_rfl) ?_
    refine rS 1 (qhd16 lh0_3 lh1_3 lh2_8 x17_3 x7_3 x8_3 x99_3 ((22, ii (List.getD lh3_8 (Int.toNat x134_8) 0)) :: qhd18 lh0_3 lh3_8 x98_3 x99_3 [(134, ii x134_8)])) ?_
    refine dQ ?_
    show XQ _ _ _ _ _ _ _ _
    refine sQ ?_
    refine qQ ?_
    refine rS 2 (qhd16 lh0_3 lh1_3 lh2_8 x17_3 x7_3 x8_3 x99_3 ((22, ii (List.getD lh3_8 (Int.toNat x134_8) 0)) :: qhd18 lh0_3 lh3_8 x98_3 x99_3 [(134, ii x134_8), (138, s0 0 lh0_3.length), (139, ii (List.getD lh3_8 (Int.toNat x134_8) 0))])) ?_
    cases b3 : (inRow (List.getD lh3_8 (Int.toNat x134_8) 0) lh0_3.length : Bool) with
    | false => cases (cF b3 h)
    | true =>
     have h := cT b3 h
     refine XR.rd E0_ok [7, 8, 11, 13, 15, 17, 18, 22, 97, 98, 99, 132, 133, 134, 140] rfl (v := pp 0 ((Int.toNat (List.getD lh3_8 (Int.toNat x134_8) 0)) * 1)) (v_idx (s := 1) (x := (src 223 (.tmp 138))) (y := (src 223 (.tmp 139))) (b := 0) (o := 0) (len := lh0_3.length) (cap := lh0_3.length) (ik := .i64) (i := List.getD lh3_8 (Int.toNat x134_8) 0) (off := (Int.toNat (List.getD lh3_8 (Int.toNat x134_8) 0)) * 1) (d := (some (path 12 140))) (by kernel_rfl) (by kernel_rfl) (by kernel_rfl) b3 (by omega)) (σ' := (qhd16 lh0_3 lh1_3 lh2_8 x17_3 x7_3 x8_3 x99_3 ((22, ii (List.getD lh3_8 (Int.toNat x134_8) 0)) :: qhd18 lh0_3 lh3_8 x98_3 x99_3 [(134, ii x134_8), (140, pp 0 ((Int.toNat (List.getD lh3_8 (Int.toNat x134_8) 0)) * 1))]))) (by kernel_rfl) ?_
     refine XR.rd E0_ok [7, 8, 11, 13, 15, 17, 18, 22, 97, 98, 99, 132, 133, 134, 141] rfl (v := ii (List.getD lh0_3 (Int.toNat (List.getD lh3_8 (Int.toNat x134_8) 0)) 0)) (v_load1 (encI_ok .i64) (x := (src 223 (.tmp 140))) (b := 0) (off := (Int.toNat (List.getD lh3_8 (Int.toNat x134_8) 0)) * 1) (xs := lh0_3) (fz := 0) (e := 3) (es := 1) (d := (some (path 12 141))) (by kernel_rfl) (by kernel_rfl) (by kernel_rfl) (Int.toNat (List.getD lh3_8 (Int.toNat x134_8) 0)) 0 0 (by first | with_reducible rfl | omega | rfl) (row_len (inRow_toNat b3) (by simp)) rfl rfl) (σ' := (qhd16 lh0_3 lh1_3 lh2_8 x17_3 x7_3 x8_3 x99_3 ((22, ii (List.getD lh3_8 (Int.toNat x134_8) 0)) :: qhd18 lh0_3 lh3_8 x98_3 x99_3 [(134, ii x134_8), (141, ii (List.getD lh0_3 (Int.toNat (List.getD lh3_8 (Int.toNat x134_8) 0)) 0))]))) (by kernel_rfl) ?_
     refine rS 1 (qhd16 lh0_3 lh1_3 lh2_8 x17_3 x7_3 x8_3 x99_3 ((22, ii (List.getD lh3_8 (Int.toNat x134_8) 0)) :: qhd18 lh0_3 lh3_8 x98_3 x99_3 [(134, ii x134_8), (142, .bool (decide ((List.getD lh0_3 (Int.toNat (List.getD lh3_8 (Int.toNat x134_8) 0)) 0) < 0)))])) ?_
     refine dQ ?_
     show XQ _ _ _ _ _ _ _ _
     cases b4 : (decide ((List.getD lh0_3 (Int.toNat (List.getD lh3_8 (Int.toNat x134_8) 0)) 0) < 0) : Bool) with
     | true =>
      have h := cT b4 h
      refine iT (.tmp 142) ?_
      refine XQ.exit (i := 7) (by kernel_rfl) ?_
      show XQ _ _ _ _ _ _ _ _
      refine rQ ?_
      refine rS 2 (qhd16 lh0_3 lh1_3 lh2_8 x17_3 x7_3 x8_3 x99_3 (qhd18 lh0_3 lh3_8 x98_3 x99_3 [(134, ii (w64 (x134_8 + 1)))])) ?_
      refine dQ ?_
      show XL _ _ _ _ _ _ _ _ _
      refine XL.ren (σ' := (qhd16 lh0_3 lh1_3 lh2_8 x17_3 x7_3 x8_3 x99_3 (qhd18 lh0_3 lh3_8 x98_3 x99_3 [(134, ii (w64 (x134_8 + 1)))]))) (h' := [(3, rI lh3_8), (2, rI lh2_8), (1, rc encR lh1_3 0 43 4), (0, rI lh0_3)]) (c' := 4) [0, 1, 2, 3] (by decide) rfl ⟨rfl, rfl, rfl, rfl, rfl, rfl, rfl, rfl, rfl, rfl, rfl, rfl, rfl, trivial⟩ ⟨⟨_, _, rfl, rfl, .inl ⟨rfl, rwI⟩⟩, ⟨_, _, rfl, rfl, .inl ⟨rfl, rwI⟩⟩, ⟨_, _, rfl, rfl, .inl ⟨rfl, rowC_scal encR_ok _⟩⟩, ⟨_, _, rfl, rfl, .inl ⟨rfl, rwI⟩⟩, trivial⟩ rfl ?_
      refine XL.conv (f5_8_ok m fuel x7_3 x8_3 x17_3 x98_3 x99_3 lh0_3 lh1_3 (w64 (x134_8 + 1)) lh2_8 lh3_8 o h Q hQ) (by first | with_reducible rfl | simp | rfl)
     | false =>
      have h := cF b4 h
      refine iF (.tmp 142) ?_
      refine kQ ?_
      show XQ _ _ _ _ _ _ _ _
      refine qQ ?_
      refine rS 1 (qhd16 lh0_3 lh1_3 lh2_8 x17_3 x7_3 x8_3 x99_3 ((22, ii (List.getD lh3_8 (Int.toNat x134_8) 0)) :: (23, .slice none 0 0) :: qhd18 lh0_3 lh3_8 x98_3 x99_3 [(134, ii x134_8)])) ?_
      refine dQ ?_
      show XQ _ _ _ _ _ _ _ _
      refine XQ.ghost 3 1 rfl (σ' := (qhd16 lh0_3 lh1_3 lh2_8 x17_3 x7_3 x8_3 x99_3 ((22, ii (List.getD lh3_8 (Int.toNat x134_8) 0)) :: (23, s0 4 0) :: qhd18 lh0_3 lh3_8 x98_3 x99_3 [(134, ii x134_8)]))) (h' := [(3, rI lh3_8), (2, rI lh2_8), (1, rc encR lh1_3 0 43 4), (0, rI lh0_3)]) ⟨rfl, rfl, rfl, rfl, rfl, rfl, rfl, rfl, rfl, rfl, rfl, rfl, rfl, rfl, rfl, trivial⟩ ⟨⟨_, rfl, .inl rfl⟩, ⟨_, rfl, .inl rfl⟩, ⟨_, rfl, .inl rfl⟩, ⟨_, rfl, .inl rfl⟩, trivial⟩ ?_
      refine XQ.conv (σ' := (qhd16 lh0_3 lh1_3 lh2_8 x17_3 x7_3 x8_3 x99_3 ((22, ii (List.getD lh3_8 (Int.toNat x134_8) 0)) :: (23, s0 4 0) :: qhd18 lh0_3 lh3_8 x98_3 x99_3 [(134, ii x134_8)]))) (h' := [(4, rI []), (3, rI lh3_8), (2, rI lh2_8), (1, rc encR lh1_3 0 43 4), (0, rI lh0_3)]) (c' := 5) ?_ (by kernel_rfl)
      refine sQ ?_
      refine qQ ?_
      refine rS 4 (qhd16 lh0_3 lh1_3 lh2_8 x17_3 x7_3 x8_3 x99_3 ((22, ii (List.getD lh3_8 (Int.toNat x134_8) 0)) :: (23, s0 4 0) :: qhd18 lh0_3 lh3_8 x98_3 x99_3 [(134, ii x134_8), (145, ii (w64 (x7_3 * x8_3))), (146, ii 0)])) ?_
      refine dQ ?_
      show XQ _ _ _ _ _ _ _ _
      refine XQ.block (id := 8) (by kernel_rfl) ?_
      refine XQ.loop m (by kernel_rfl) ?_
      obtain ⟨o9, o9_h, h⟩ := bS h
      refine XL.ren (σ' := (qhd16 lh0_3 lh1_3 lh2_8 x17_3 x7_3 x8_3 x99_3 ((22, ii (List.getD lh3_8 (Int.toNat x134_8) 0)) :: (23, s0 3 0) :: qhd17 lh0_3 lh3_8 x134_8 x98_3 x99_3 [(145, ii (w64 (x7_3 * x8_3))), (146, ii 0)]))) (h' := [(4, rI lh3_8), (3, rI []), (2, rI lh2_8), (1, rc encR lh1_3 0 43 4), (0, rI lh0_3)]) (c' := 5) [0, 1, 2, 4, 3] (by decide) rfl ⟨rfl, rfl, rfl, rfl, rfl, rfl, rfl, rfl, rfl, rfl, rfl, rfl, rfl, rfl, rfl, rfl, rfl, trivial⟩ ⟨⟨_, _, rfl, rfl, .inl ⟨rfl, rwI⟩⟩, ⟨_, _, rfl, rfl, .inl ⟨rfl, rwI⟩⟩, ⟨_, _, rfl, rfl, .inl ⟨rfl, rwI⟩⟩, ⟨_, _, rfl, rfl, .inl ⟨rfl, rowC_scal encR_ok _⟩⟩, ⟨_, _, rfl, rfl, .inl ⟨rfl, rwI⟩⟩, trivial⟩ rfl ?_
      refine XL.conv (f5_9_ok m m x7_3 x8_3 x17_3 x98_3 x99_3 lh0_3 lh1_3 x134_8 lh2_8 lh3_8 (List.getD lh3_8 (Int.toNat x134_8) 0) (w64 (x7_3 * x8_3)) 0 [] o9 o9_h _ ?_) (by first | with_reducible rfl | simp | rfl)
      show XQ _ _ _ _ _ _ _ _
      refine qQ ?_
      refine rS 3 (qhd16 lh0_3 lh1_3 lh2_8 x17_3 x7_3 x8_3 x99_3 ((23, s0 3 o9.2.length) :: qhd17 lh0_3 lh3_8 x134_8 x98_3 x99_3 [(154, s0 3 o9.2.length), (155, ii o9.1), (156, ii x99_3)])) ?_
      cases b6 : (inRow o9.1 o9.2.length : Bool) with
      | false => cases (cF b6 h)
      | true =>
       have h := cT b6 h
       refine XR.rd E0_ok [7, 8, 11, 13, 15, 17, 18, 23, 97, 98, 99, 132, 133, 134, 156, 157] rfl (v := pp 3 ((Int.toNat o9.1) * 1)) (v_idx (s := 1) (x := (src 223 (.tmp 154))) (y := (src 223 (.tmp 155))) (b := 3) (o := 0) (len := o9.2.length) (cap := o9.2.length) (ik := .i64) (i := o9.1) (off := (Int.toNat o9.1) * 1) (d := (some (path 12 157))) (by kernel_rfl) (by kernel_rfl) (by kernel_rfl) b6 (by omega)) (σ' := (qhd16 lh0_3 lh1_3 lh2_8 x17_3 x7_3 x8_3 x99_3 ((23, s0 3 o9.2.length) :: qhd17 lh0_3 lh3_8 x134_8 x98_3 x99_3 [(156, ii x99_3), (157, pp 3 ((Int.toNat o9.1) * 1))]))) (by kernel_rfl) ?_
       refine XR.ef E0_ok [7, 8, 11, 13, 15, 17, 18, 23, 97, 98, 99, 132, 133, 134] rfl (e_store (encI_ok .i64) (size := 1) (x := (src 223 (.tmp 157))) (y := (src 223 (.tmp 156))) (b := 3) (off := (Int.toNat o9.1) * 1) (xs := o9.2) (e := 3) (es := 1) (d := none) (h' := [(4, rI lh3_8), (3, rI (List.set o9.2 (Int.toNat o9.1) x99_3)), (2, rI lh2_8), (1, rc encR lh1_3 0 43 4), (0, rI lh0_3)]) (w := ii x99_3) (ws := [ii x99_3]) (a := x99_3) (by kernel_rfl) (by kernel_rfl) (by kernel_rfl) (Int.toNat o9.1) 0 0 (by first | with_reducible rfl | omega | rfl) (row_len (inRow_toNat b6) (by simp)) (by kernel_rfl) rfl rfl rfl rfl rfl (by kernel_rfl)) (σ' := (qhd16 lh0_3 lh1_3 lh2_8 x17_3 x7_3 x8_3 x99_3 ((23, s0 3 o9.2.length) :: qhd17 lh0_3 lh3_8 x134_8 x98_3 x99_3 []))) (by kernel_rfl) ?_
       refine nQ id ?_
       refine rS 1 (qhd16 lh0_3 lh1_3 lh2_8 x17_3 x7_3 x8_3 x99_3 (qhd17 lh0_3 lh3_8 x134_8 x98_3 x99_3 [(159, s0 3 o9.2.length)])) ?_
       obtain ⟨r81, r81_h, h⟩ := bS h
       refine XR.call E0_ok [7, 8, 11, 13, 15, 17, 18, 97, 98, 99, 132, 133, 134, 160] rfl (K := 18) (args := [s0 3 o9.2.length]) (d := (some (path 12 160))) (by kernel_rfl) (KC.liftH (n0 := 1) (m := 1) (args0 := [s0 0 o9.2.length]) (h0 := [(0, rc (encI .i64) (List.set o9.2 (Int.toNat o9.1) x99_3) (0 + ((rowC (encI .i64) (List.set o9.2 (Int.toNat o9.1) x99_3)).length + 1)) 3 1)]) (V := .tuple #[s0 1 r81.1.length, ii r81.2]) (V2 := .tuple #[s0 5 r81.1.length, ii r81.2]) (H := [(1, rI r81.1)]) (H2 := [(5, rI r81.1)]) [3] [2, 3, 4, 5, 6, 1] (by have q := (f18_ok m (0 + ((rowC (encI .i64) (List.set o9.2 (Int.toNat o9.1) x99_3)).length + 1)) 3 (List.set o9.2 (Int.toNat o9.1) x99_3) r81 r81_h); simp only [List.length_set] at q; exact q) (by rfl) (by decide) rfl (by kernel_rfl) ⟨⟨_, _, rfl, rfl, .inl ⟨rfl, rwI⟩⟩, trivial⟩ (by decide) (by decide) (by kernel_rfl) ⟨⟨_, _, rfl, rfl, .inl ⟨rfl, rwI⟩⟩, trivial⟩ (by rfl)) ?_
       rintro _ _ _ ⟨rfl, rfl, rfl⟩
       refine XR.conv (σ' := (qhd16 lh0_3 lh1_3 lh2_8 x17_3 x7_3 x8_3 x99_3 (qhd17 lh0_3 lh3_8 x134_8 x98_3 x99_3 [(160, .tuple #[s0 5 r81.1.length, ii r81.2])]))) (h' := [(5, rI r81.1), (4, rI lh3_8), (3, rI (List.set o9.2 (Int.toNat o9.1) x99_3)), (2, rI lh2_8), (1, rc encR lh1_3 0 43 4), (0, rI lh0_3)]) (c' := 6) ?_ (by kernel_rfl)
       refine rS 5 (qhd16 lh0_3 lh1_3 lh2_8 x17_3 x7_3 x8_3 x99_3 ((25, s0 5 r81.1.length) :: (26, ii r81.2) :: qhd17 lh0_3 lh3_8 x134_8 x98_3 x99_3 [])) ?_
       refine dQ ?_
       show XQ _ _ _ _ _ _ _ _
       refine sQ ?_
       refine qQ ?_
       refine rS 2 (qhd16 lh0_3 lh1_3 lh2_8 x17_3 x7_3 x8_3 x99_3 ((25, s0 5 r81.1.length) :: qhd17 lh0_3 lh3_8 x134_8 x98_3 x99_3 [(164, .bool (r81.2 != 0))])) ?_
       refine dQ ?_
       show XQ _ _ _ _ _ _ _ _
       cases b7 : (r81.2 != 0 : Bool) with
       | true =>
        have h := cT b7 h
        refine iT (.tmp 164) ?_
        refine qQ ?_
        refine rS 1 [(6, .bool false)] ?_
        refine dQ ?_
        show XQ _ _ _ _ _ _ _ _
        refine XQ.ren (σ' := [(6, .bool false)]) (h' := []) (c' := 0) [] (by decide) rfl ⟨rfl, trivial⟩ trivial rfl ?_
        refine XQ.ret (by kernel_rfl) ?_
        cases h
        exact hQ
       | false =>
        have h := cF b7 h
        refine iF (.tmp 164) ?_
        refine kQ ?_
        show XQ _ _ _ _ _ _ _ _
        refine qQ ?_
        refine rS 2 (qhd16 lh0_3 lh1_3 lh2_8 x17_3 x7_3 x8_3 x99_3 (qhd17 lh0_3 lh3_8 x134_8 x98_3 x99_3 [(166, s0 2 lh2_8.length), (167, s0 5 r81.1.length)])) ?_
        obtain ⟨r82, r82_h, h⟩ := bS h
        refine XR.call E0_ok [7, 8, 11, 13, 15, 17, 18, 97, 98, 99, 132, 133, 134, 168] rfl (K := 19) (args := [s0 2 lh2_8.length, s0 5 r81.1.length]) (d := (some (path 12 168))) (by kernel_rfl) (KC.liftH (n0 := 2) (m := 1) (args0 := [s0 0 lh2_8.length, s0 1 r81.1.length]) (h0 := [(1, rc (encI .i64) r81.1 (0 + ((rowC (encI .i64) r81.1).length + 1)) 3 1), (0, rc (encI .i64) lh2_8 (0 + ((rowC (encI .i64) lh2_8).length + 1)) 3 1)]) (V := .tuple #[s0 2 r82.1.length, ii r82.2]) (V2 := .tuple #[s0 6 r82.1.length, ii r82.2]) (H := [(2, rI r82.1)]) (H2 := [(6, rI r82.1)]) [2, 5] [3, 4, 5, 6, 7, 8, 2] (f19_ok m (0 + ((rowC (encI .i64) lh2_8).length + 1)) 3 (0 + ((rowC (encI .i64) r81.1).length + 1)) 3 lh2_8 r81.1 r82 r82_h) (by rfl) (by decide) rfl (by kernel_rfl) ⟨⟨_, _, rfl, rfl, .inl ⟨rfl, rwI⟩⟩, ⟨_, _, rfl, rfl, .inl ⟨rfl, rwI⟩⟩, trivial⟩ (by decide) (by decide) (by kernel_rfl) ⟨⟨_, _, rfl, rfl, .inl ⟨rfl, rwI⟩⟩, trivial⟩ (by rfl)) ?_
        rintro _ _ _ ⟨rfl, rfl, rfl⟩
        refine XR.conv (σ' := (qhd16 lh0_3 lh1_3 lh2_8 x17_3 x7_3 x8_3 x99_3 (qhd17 lh0_3 lh3_8 x134_8 x98_3 x99_3 [(168, .tuple #[s0 6 r82.1.length, ii r82.2])]))) (h' := [(6, rI r82.1), (5, rI r81.1), (4, rI lh3_8), (3, rI (List.set o9.2 (Int.toNat o9.1) x99_3)), (2, rI lh2_8), (1, rc encR lh1_3 0 43 4), (0, rI lh0_3)]) (c' := 7) ?_ (by kernel_rfl)
        refine rS 5 (qhd16 lh0_3 lh1_3 lh2_8 x17_3 x7_3 x8_3 x99_3 ((26, ii r82.2) :: (27, s0 6 r82.1.length) :: qhd17 lh0_3 lh3_8 x134_8 x98_3 x99_3 [])) ?_
        refine nQ id ?_
        refine rS 2 ((7, ii x7_3) :: (8, ii x8_3) :: (11, s0 0 lh0_3.length) :: (13, s0 1 lh1_3.length) :: (17, ii x17_3) :: (18, ii x99_3) :: (26, ii r82.2) :: (27, s0 6 r82.1.length) :: qhd17 lh0_3 lh3_8 x134_8 x98_3 x99_3 [(172, s0 2 lh2_8.length), (173, s0 6 r82.1.length)]) ?_
        obtain ⟨r83, r83_h, h⟩ := bS h
        refine XR.call E0_ok [7, 8, 11, 13, 17, 18, 26, 27, 97, 98, 99, 132, 133, 134, 174] rfl (K := 20) (args := [s0 2 lh2_8.length, s0 6 r82.1.length]) (d := (some (path 12 174))) (by kernel_rfl) (KQ.call (KC.quiet E0_ok (args0 := [s0 0 lh2_8.length, s0 1 r82.1.length]) (h0 := [(1, rc (encI .i64) r82.1 (0 + ((rowC (encI .i64) r82.1).length + 1)) 3 1), (0, rc (encI .i64) lh2_8 (0 + ((rowC (encI .i64) lh2_8).length + 1)) 3 1)]) (n := 2) (V := .tuple #[.bool r83.1, ii r83.2]) [2, 6] (f20_ok m (0 + ((rowC (encI .i64) lh2_8).length + 1)) 3 (0 + ((rowC (encI .i64) r82.1).length + 1)) 3 lh2_8 r82.1 r83 r83_h) rfl (by rfl) (by decide) rfl (by kernel_rfl) ⟨⟨_, _, rfl, rfl, .inl ⟨rfl, rwI⟩⟩, ⟨_, _, rfl, rfl, .inl ⟨rfl, rwI⟩⟩, trivial⟩) rfl) ?_
        rintro _ _ _ ⟨rfl, rfl, rfl⟩
        refine XR.conv (σ' := ((7, ii x7_3) :: (8, ii x8_3) :: (11, s0 0 lh0_3.length) :: (13, s0 1 lh1_3.length) :: (17, ii x17_3) :: (18, ii x99_3) :: (26, ii r82.2) :: (27, s0 6 r82.1.length) :: qhd17 lh0_3 lh3_8 x134_8 x98_3 x99_3 [(174, .tuple #[.bool r83.1, ii r83.2])])) (h' := [(6, rI r82.1), (5, rI r81.1), (4, rI lh3_8), (3, rI (List.set o9.2 (Int.toNat o9.1) x99_3)), (2, rI lh2_8), (1, rc encR lh1_3 0 43 4), (0, rI lh0_3)]) (c' := 7) ?_ (by kernel_rfl)
        refine rS 5 ((7, ii x7_3) :: (8, ii x8_3) :: (11, s0 0 lh0_3.length) :: (13, s0 1 lh1_3.length) :: (17, ii x17_3) :: (18, ii x99_3) :: (26, ii r82.2) :: (27, s0 6 r82.1.length) :: (28, .bool r83.1) :: (29, ii r83.2) :: qhd17 lh0_3 lh3_8 x134_8 x98_3 x99_3 []) ?_
        refine dQ ?_
        show XQ _ _ _ _ _ _ _ _
        refine sQ ?_
        refine qQ ?_
        refine rS 3 ((7, ii x7_3) :: (8, ii x8_3) :: (11, s0 0 lh0_3.length) :: (13, s0 1 lh1_3.length) :: (17, ii x17_3) :: (18, ii x99_3) :: (27, s0 6 r82.1.length) :: (28, .bool r83.1) :: (29, ii r83.2) :: qhd17 lh0_3 lh3_8 x134_8 x98_3 x99_3 [(179, .bool (r82.2 != 0))]) ?_
        cases b8 : (r82.2 != 0 : Bool) with
        | true =>
         have h := cT b8 h
         refine rS 15 ((7, ii x7_3) :: (8, ii x8_3) :: (11, s0 0 lh0_3.length) :: (13, s0 1 lh1_3.length) :: (17, ii x17_3) :: (18, ii x99_3) :: (27, s0 6 r82.1.length) :: qhd17 lh0_3 lh3_8 x134_8 x98_3 x99_3 [(194, .bool true)]) ?_
         refine dQ ?_
         show XQ _ _ _ _ _ _ _ _
         refine iT (.tmp 194) ?_
         refine qQ ?_
         refine rS 1 [(6, .bool false)] ?_
         refine dQ ?_
         show XQ _ _ _ _ _ _ _ _
         refine XQ.ren (σ' := [(6, .bool false)]) (h' := []) (c' := 0) [] (by decide) rfl ⟨rfl, trivial⟩ trivial rfl ?_
         refine XQ.ret (by kernel_rfl) ?_
         cases h
         exact hQ
        | false =>
         have h := cF b8 h
         refine rS 4 ((7, ii x7_3) :: (8, ii x8_3) :: (11, s0 0 lh0_3.length) :: (13, s0 1 lh1_3.length) :: (17, ii x17_3) :: (18, ii x99_3) :: (27, s0 6 r82.1.length) :: (28, .bool r83.1) :: qhd17 lh0_3 lh3_8 x134_8 x98_3 x99_3 [(183, .bool (r83.2 != 0))]) ?_
         cases b9 : (r83.2 != 0 : Bool) with
         | true =>
          have h := cT b9 h
          refine rS 11 ((7, ii x7_3) :: (8, ii x8_3) :: (11, s0 0 lh0_3.length) :: (13, s0 1 lh1_3.length) :: (17, ii x17_3) :: (18, ii x99_3) :: (27, s0 6 r82.1.length) :: qhd17 lh0_3 lh3_8 x134_8 x98_3 x99_3 [(194, .bool true)]) ?_
          refine dQ ?_
          show XQ _ _ _ _ _ _ _ _
          refine iT (.tmp 194) ?_
          refine qQ ?_
          refine rS 1 [(6, .bool false)] ?_
          refine dQ ?_
          show XQ _ _ _ _ _ _ _ _
          refine XQ.ren (σ' := [(6, .bool false)]) (h' := []) (c' := 0) [] (by decide) rfl ⟨rfl, trivial⟩ trivial rfl ?_
          refine XQ.ret (by kernel_rfl) ?_
          cases h
          exact hQ
         | false =>
          have h := cF b9 h
          refine rS 4 ((7, ii x7_3) :: (8, ii x8_3) :: (11, s0 0 lh0_3.length) :: (13, s0 1 lh1_3.length) :: (17, ii x17_3) :: (18, ii x99_3) :: (27, s0 6 r82.1.length) :: qhd17 lh0_3 lh3_8 x134_8 x98_3 x99_3 [(187, .bool (!r83.1))]) ?_
          cases b10 : (!r83.1 : Bool) with
          | true =>
           have h := cT b10 h
           refine rS 7 ((7, ii x7_3) :: (8, ii x8_3) :: (11, s0 0 lh0_3.length) :: (13, s0 1 lh1_3.length) :: (17, ii x17_3) :: (18, ii x99_3) :: (27, s0 6 r82.1.length) :: qhd17 lh0_3 lh3_8 x134_8 x98_3 x99_3 [(194, .bool true)]) ?_
           refine dQ ?_
           show XQ _ _ _ _ _ _ _ _
           refine iT (.tmp 194) ?_
           refine qQ ?_
           refine rS 1 [(6, .bool false)] ?_
           refine dQ ?_
           show XQ _ _ _ _ _ _ _ _
           refine XQ.ren (σ' := [(6, .bool false)]) (h' := []) (c' := 0) [] (by decide) rfl ⟨rfl, trivial⟩ trivial rfl ?_
           refine XQ.ret (by kernel_rfl) ?_
           cases h
           exact hQ
          | false =>
           have h := cF b10 h
           refine rS 7 ((7, ii x7_3) :: (8, ii x8_3) :: (11, s0 0 lh0_3.length) :: (13, s0 1 lh1_3.length) :: (17, ii x17_3) :: (18, ii x99_3) :: (27, s0 6 r82.1.length) :: qhd17 lh0_3 lh3_8 x134_8 x98_3 x99_3 [(194, .bool (((r82.1.length : Nat) : Int) != (w64 (x7_3 * x8_3))))]) ?_
           refine dQ ?_
           show XQ _ _ _ _ _ _ _ _
           cases b11 : (((r82.1.length : Nat) : Int) != (w64 (x7_3 * x8_3)) : Bool) with
           | true =>
            have h := cT b11 h
            refine iT (.tmp 194) ?_
            refine qQ ?_
            refine rS 1 [(6, .bool false)] ?_
            refine dQ ?_
            show XQ _ _ _ _ _ _ _ _
            refine XQ.ren (σ' := [(6, .bool false)]) (h' := []) (c' := 0) [] (by decide) rfl ⟨rfl, trivial⟩ trivial rfl ?_
            refine XQ.ret (by kernel_rfl) ?_
            cases h
            exact hQ
           | false =>
            have h := cF b11 h
            refine iF (.tmp 194) ?_
            refine kQ ?_
            show XQ _ _ _ _ _ _ _ _
            refine rQ ?_
            refine rS 2 ((7, ii x7_3) :: (8, ii x8_3) :: (11, s0 0 lh0_3.length) :: (13, s0 1 lh1_3.length) :: (15, s0 6 r82.1.length) :: (17, ii x17_3) :: (18, ii x99_3) :: qhd17 lh0_3 lh3_8 x134_8 x98_3 x99_3 []) ?_
            refine dQ ?_
            show XQ _ _ _ _ _ _ _ _
            refine rQ ?_
            refine rS 2 [(7, ii x7_3), (8, ii x8_3), (11, s0 0 lh0_3.length), (13, s0 1 lh1_3.length), (15, s0 6 r82.1.length), (17, ii x17_3), (18, ii x99_3), (97, s0 0 lh0_3.length), (98, ii x98_3), (99, ii x99_3), (132, s0 4 lh3_8.length), (133, ii 1), (134, ii (w64 (x134_8 + 1)))] ?_
            refine dQ ?_
            show XL _ _ _ _ _ _ _ _ _
            refine XL.ren (σ' := ((7, ii x7_3) :: (8, ii x8_3) :: (11, s0 0 lh0_3.length) :: (13, s0 1 lh1_3.length) :: (15, s0 2 r82.1.length) :: (17, ii x17_3) :: (18, ii x99_3) :: qhd18 lh0_3 lh3_8 x98_3 x99_3 [(134, ii (w64 (x134_8 + 1)))])) (h' := [(3, rI lh3_8), (2, rI r82.1), (1, rc encR lh1_3 0 43 4), (0, rI lh0_3)]) (c' := 4) [0, 1, 6, 4] (by decide) rfl ⟨rfl, rfl, rfl, rfl, rfl, rfl, rfl, rfl, rfl, rfl, rfl, rfl, rfl, trivial⟩ ⟨⟨_, _, rfl, rfl, .inl ⟨rfl, rwI⟩⟩, ⟨_, _, rfl, rfl, .inl ⟨rfl, rwI⟩⟩, ⟨_, _, rfl, rfl, .inl ⟨rfl, rowC_scal encR_ok _⟩⟩, ⟨_, _, rfl, rfl, .inl ⟨rfl, rwI⟩⟩, trivial⟩ rfl ?_
            refine XL.conv (f5_8_ok m fuel x7_3 x8_3 x17_3 x98_3 x99_3 lh0_3 lh1_3 (w64 (x134_8 + 1)) r82.1 lh3_8 o h Q hQ) (by first | with_reducible rfl | simp | rfl)
  | false =>
   have h := cF b1 h
   refine iF (.tmp 135) ?_
   refine XQ.ren (σ' := [(7, ii x7_3), (8, ii x8_3), (11, s0 0 lh0_3.length), (13, s0 1 lh1_3.length), (15, s0 2 lh2_8.length), (17, ii x17_3), (97, s0 0 lh0_3.length), (98, ii x98_3), (99, ii x99_3)]) (h' := [(2, rI lh2_8), (1, rc encR lh1_3 0 43 4), (0, rI lh0_3)]) (c' := 3) [0, 1, 2] (by decide) rfl ⟨rfl, rfl, rfl, rfl, rfl, rfl, rfl, rfl, rfl, trivial⟩ ⟨⟨_, _, rfl, rfl, .inl ⟨rfl, rwI⟩⟩, ⟨_, _, rfl, rfl, .inl ⟨rfl, rowC_scal encR_ok _⟩⟩, ⟨_, _, rfl, rfl, .inl ⟨rfl, rwI⟩⟩, trivial⟩ rfl ?_
   refine XQ.exit (i := 6) (by kernel_rfl) ?_
   cases h
   exact hQ
def f5_10 (m : Nat) : Nat → Int → Int → Int → Int → Int → List Int → List (Int × Int × Int × Int) → List Int → Option Unit
 | 0, _, _, _, _, _, _, _, _ => none
 | fuel + 1, x7_3, x8_3, x17_3, x98_3, x99_3, lh0_3, lh1_3, lh2_3 =>
  some (())
theorem f5_10_ok (m : Nat) : ∀ (fuel : Nat) (x7_3 : Int) (x8_3 : Int) (x17_3 : Int) (x98_3 : Int) (x99_3 : Int) (lh0_3 : List Int) (lh1_3 : List (Int × Int × Int × Int)) (lh2_3 : List Int) (o : Unit), f5_10 m fuel x7_3 x8_3 x17_3 x98_3 x99_3 lh0_3 lh1_3 lh2_3 = some o → ∀ Q : QP, Q (.exit 6) [(7, ii x7_3), (8, ii x8_3), (11, s0 0 lh0_3.length), (13, s0 1 lh1_3.length), (15, s0 2 lh2_3.length), (17, ii x17_3), (97, s0 0 lh0_3.length), (98, ii x98_3), (99, ii x99_3)] [(2, rI lh2_3), (1, rc encR lh1_3 0 43 4), (0, rI lh0_3)] 3 → XL E0 223 0 fuel f5_L10 [(7, ii x7_3), (8, ii x8_3), (11, s0 0 lh0_3.length), (13, s0 1 lh1_3.length), (15, s0 2 lh2_3.length), (17, ii x17_3), (18, ii x99_3), (97, s0 0 lh0_3.length), (98, ii x98_3), (99, ii x99_3), (132, s0 3 0), (133, ii 0), (134, ii 0)] [(3, rI []), (2, rI lh2_3), (1, rc encR lh1_3 0 43 4), (0, rI lh0_3)] 4 Q
 | 0, x7_3, x8_3, x17_3, x98_3, x99_3, lh0_3, lh1_3, lh2_3, o, h, Q, hQ => by cases h
 | fuel + 1, x7_3, x8_3, x17_3, x98_3, x99_3, lh0_3, lh1_3, lh2_3, o, h, Q, hQ => by
  unfold f5_10 at h
  refine XL.succ E0_ok ?_
  refine qQ ?_
  refine rS 1 [(7, ii x7_3), (8, ii x8_3), (11, s0 0 lh0_3.length), (13, s0 1 lh1_3.length), (15, s0 2 lh2_3.length), (17, ii x17_3), (18, ii x99_3), (97, s0 0 lh0_3.length), (98, ii x98_3), (99, ii x99_3), (132, s0 3 0), (133, ii 0), (134, ii 0), (135, .bool false)] ?_
  refine dQ ?_
  show XQ _ _ _ _ _ _ _ _
  refine sQ ?_
  refine iF (.tmp 135) ?_
  refine XQ.ren (σ' := [(7, ii x7_3), (8, ii x8_3), (11, s0 0 lh0_3.length), (13, s0 1 lh1_3.length), (15, s0 2 lh2_3.length), (17, ii x17_3), (97, s0 0 lh0_3.length), (98, ii x98_3), (99, ii x99_3)]) (h' := [(2, rI lh2_3), (1, rc encR lh1_3 0 43 4), (0, rI lh0_3)]) (c' := 3) [0, 1, 2] (by decide) rfl ⟨rfl, rfl, rfl, rfl, rfl, rfl, rfl, rfl, rfl, trivial⟩ ⟨⟨_, _, rfl, rfl, .inl ⟨rfl, rwI⟩⟩, ⟨_, _, rfl, rfl, .inl ⟨rfl, rowC_scal encR_ok _⟩⟩, ⟨_, _, rfl, rfl, .inl ⟨rfl, rwI⟩⟩, trivial⟩ rfl ?_
  refine XQ.exit (i := 6) (by kernel_rfl) ?_
  cases h
  exact hQ
inductive Of5_3 where
 | r
 | x4 (x17_x43 : Int) (lh0_x43 : List (Int × Int × Int × Int)) (lh1_x43 : List Int)
def f5_3 (m : Nat) : Nat → Int → Int → Int → Int → Int → List Int → List (Int × Int × Int × Int) → List Int → Option Of5_3
 | 0, _, _, _, _, _, _, _, _ => none
 | fuel + 1, x7_3, x8_3, x17_3, x98_3, x99_3, lh0_3, lh1_3, lh2_3 =>
  cond (decide (x99_3 < x98_3)) (
   cond (inRow x99_3 lh0_3.length) (
    cond (decide ((List.getD lh0_3 (Int.toNat x99_3) 0) < 0)) (
     f5_3 m fuel x7_3 x8_3 (w64 (x17_3 + 1)) x98_3 (w64 (x99_3 + 1)) lh0_3 lh1_3 lh2_3
    ) (
     cond (x8_3 != 0) (
      cond (decide ((Int.tmod x99_3 x8_3) < (w64 (x8_3 - 1)))) (
       cond (decide ((w64 (x99_3 + x8_3)) < (w64 (x7_3 * x8_3)))) (
        (f5_4 m m x7_3 x8_3 x17_3 x98_3 x99_3 lh0_3 lh1_3 0 lh2_3 [w64 (x99_3 + 1), w64 (x99_3 + x8_3)]).bind fun o4 =>
         match o4 with
         | .r =>
          some (.r)
         | .x6 lh2_x64 =>
          f5_3 m fuel x7_3 x8_3 x17_3 x98_3 (w64 (x99_3 + 1)) lh0_3 lh1_3 lh2_x64
       ) (
        (f5_6 m m x7_3 x8_3 x17_3 x98_3 x99_3 lh0_3 lh1_3 0 lh2_3 [w64 (x99_3 + 1)]).bind fun o6 =>
         match o6 with
         | .r =>
          some (.r)
         | .x6 lh2_x66 =>
          f5_3 m fuel x7_3 x8_3 x17_3 x98_3 (w64 (x99_3 + 1)) lh0_3 lh1_3 lh2_x66
       )
      ) (
       cond (decide ((w64 (x99_3 + x8_3)) < (w64 (x7_3 * x8_3)))) (
        (f5_8 m m x7_3 x8_3 x17_3 x98_3 x99_3 lh0_3 lh1_3 0 lh2_3 [w64 (x99_3 + x8_3)]).bind fun o8 =>
         match o8 with
         | .r =>
          some (.r)
         | .x6 lh2_x68 =>
          f5_3 m fuel x7_3 x8_3 x17_3 x98_3 (w64 (x99_3 + 1)) lh0_3 lh1_3 lh2_x68
       ) (
        (f5_10 m m x7_3 x8_3 x17_3 x98_3 x99_3 lh0_3 lh1_3 lh2_3).bind fun o10 =>
         f5_3 m fuel x7_3 x8_3 x17_3 x98_3 (w64 (x99_3 + 1)) lh0_3 lh1_3 lh2_3
       )
      )
     ) none
    )
   ) none
  ) (
   some (.x4 x17_3 lh1_3 lh2_3)
  )
abbrev qhd19 (lh0_3 : List Int) (lh1_3 : List (Int × Int × Int × Int)) (lh2_3 : List Int) (x17_3 : Int) (x7_3 : Int) (x8_3 : Int) (t : St) : St := (7, ii x7_3) :: (8, ii x8_3) :: (11, s0 0 lh0_3.length) :: (13, s0 1 lh1_3.length) :: (15, s0 2 lh2_3.length) :: (17, ii x17_3) :: t
abbrev qhd20 (lh0_3 : List Int) (x98_3 : Int) (x99_3 : Int) (t : St) : St := (97, s0 0 lh0_3.length) :: (98, ii x98_3) :: (99, ii x99_3) :: t
abbrev qhd21 (lh0_3 : List Int) (x98_3 : Int) (x99_3 : Int) (t : St) : St := (97, s0 0 lh0_3.length) :: (98, ii x98_3) :: (99, ii (w64 (x99_3 + 1))) :: t
theorem f5_3_ok (m : Nat) : ∀ (fuel : Nat) (x7_3 : Int) (x8_3 : Int) (x17_3 : Int) (x98_3 : Int) (x99_3 : Int) (lh0_3 : List Int) (lh1_3 : List (Int × Int × Int × Int)) (lh2_3 : List Int) (o : Of5_3), f5_3 m fuel x7_3 x8_3 x17_3 x98_3 x99_3 lh0_3 lh1_3 lh2_3 = some o → ∀ Q : QP, (match o with | .r => Q .ret [(6, .bool false)] [] 0 | .x4 x17_x43 lh0_x43 lh1_x43 => Q (.exit 4) [(13, s0 0 lh0_x43.length), (15, s0 1 lh1_x43.length), (17, ii x17_x43)] [(1, rI lh1_x43), (0, rc encR lh0_x43 0 43 4)] 2) → XL E0 223 0 fuel f5_L3 (qhd19 lh0_3 lh1_3 lh2_3 x17_3 x7_3 x8_3 (qhd20 lh0_3 x98_3 x99_3 [])) [(2, rI lh2_3), (1, rc encR lh1_3 0 43 4), (0, rI lh0_3)] 3 Q
 | 0, x7_3, x8_3, x17_3, x98_3, x99_3, lh0_3, lh1_3, lh2_3, o, h, Q, hQ => by cases h
 | fuel + 1, x7_3, x8_3, x17_3, x98_3, x99_3, lh0_3, lh1_3, lh2_3, o, h, Q, hQ => by
  unfold f5_3 at h
  refine XL.succ E0_ok ?_
  refine qQ ?_
  refine rS 1 (qhd19 lh0_3 lh1_3 lh2_3 x17_3 x7_3 x8_3 (qhd20 lh0_3 x98_3 x99_3 [(100, .bool (decide (x99_3 < x98_3)))])) ?_
  refine dQ ?_
  show XQ _ _ _ _ _ _ _ _
  refine sQ ?_
  cases b1 : (decide (x99_3 < x98_3) : Bool) with
  | true =>
   have h := cT b1 h
   refine iT (.tmp 100) ?_
   refine kQ ?_
   show XQ _ _ _ _ _ _ _ _
   refine sQ ?_
   refine XQ.block (id := 5) (by kernel_rfl) ?_
   refine qQ ?_
   refine rS 1 (qhd19 lh0_3 lh1_3 lh2_3 x17_3 x7_3 x8_3 (qhd20 lh0_3 x98_3 x99_3 [(101, ii x99_3)])) ?_
   cases b2 : (inRow x99_3 lh0_3.length : Bool) with
   | false => cases (cF b2 h)
   | true =>
    have h := cT b2 h
    refine XR.rd E0_ok [7, 8, 11, 13, 15, 17, 97, 98, 99, 101, 102] rfl (v := pp 0 ((Int.toNat x99_3) * 1)) (v_idx (s := 1) (x := (src 223 (.tmp 97))) (y := (src 223 (.tmp 99))) (b := 0) (o := 0) (len := lh0_3.length) (cap := lh0_3.length) (ik := .i64) (i := x99_3) (off := (Int.toNat x99_3) * 1) (d := (some (path 12 102))) (by kernel_rfl) (by kernel_rfl) (by kernel_rfl) b2 (by omega)) (σ' := (qhd19 lh0_3 lh1_3 lh2_3 x17_3 x7_3 x8_3 (qhd20 lh0_3 x98_3 x99_3 [(101, ii x99_3), (102, pp 0 ((Int.toNat x99_3) * 1))]))) (by kernel_rfl) ?_
    refine XR.rd E0_ok [7, 8, 11, 13, 15, 17, 97, 98, 99, 101, 103] rfl (v := ii (List.getD lh0_3 (Int.toNat x99_3) 0)) (v_load1 (encI_ok .i64) (x := (src 223 (.tmp 102))) (b := 0) (off := (Int.toNat x99_3) * 1) (xs := lh0_3) (fz := 0) (e := 3) (es := 1) (d := (some (path 12 103))) (by kernel_rfl) (by kernel_rfl) (by kernel_rfl) (Int.toNat x99_3) 0 0 (by first | with_reducible rfl | omega | rfl) (row_len (inRow_toNat b2) (by simp)) rfl rfl) (σ' := (qhd19 lh0_3 lh1_3 lh2_3 x17_3 x7_3 x8_3 (qhd20 lh0_3 x98_3 x99_3 [(101, ii x99_3), (103, ii (List.getD lh0_3 (Int.toNat x99_3) 0))]))) (by kernel_rfl) ?_
    refine rS 2 (qhd19 lh0_3 lh1_3 lh2_3 x17_3 x7_3 x8_3 ((18, ii x99_3) :: (19, ii (List.getD lh0_3 (Int.toNat x99_3) 0)) :: qhd20 lh0_3 x98_3 x99_3 [])) ?_
    refine dQ ?_
    show XQ _ _ _ _ _ _ _ _
    refine sQ ?_
    refine qQ ?_
    refine rS 2 (qhd19 lh0_3 lh1_3 lh2_3 x17_3 x7_3 x8_3 ((18, ii x99_3) :: qhd20 lh0_3 x98_3 x99_3 [(105, .bool (decide ((List.getD lh0_3 (Int.toNat x99_3) 0) < 0)))])) ?_
    refine dQ ?_
    show XQ _ _ _ _ _ _ _ _
    cases b3 : (decide ((List.getD lh0_3 (Int.toNat x99_3) 0) < 0) : Bool) with
    | true =>
     have h := cT b3 h
     refine iT (.tmp 105) ?_
     refine qQ ?_
     refine rS 3 ((7, ii x7_3) :: (8, ii x8_3) :: (11, s0 0 lh0_3.length) :: (13, s0 1 lh1_3.length) :: (15, s0 2 lh2_3.length) :: (17, ii (w64 (x17_3 + 1))) :: qhd20 lh0_3 x98_3 x99_3 []) ?_
     refine dQ ?_
     show XQ _ _ _ _ _ _ _ _
     refine XQ.exit (i := 5) (by kernel_rfl) ?_
     show XQ _ _ _ _ _ _ _ _
     refine rQ ?_
     refine rS 2 ((7, ii x7_3) :: (8, ii x8_3) :: (11, s0 0 lh0_3.length) :: (13, s0 1 lh1_3.length) :: (15, s0 2 lh2_3.length) :: (17, ii (w64 (x17_3 + 1))) :: qhd21 lh0_3 x98_3 x99_3 []) ?_
     refine dQ ?_
     show XL _ _ _ _ _ _ _ _ _
     refine XL.ren (σ' := ((7, ii x7_3) :: (8, ii x8_3) :: (11, s0 0 lh0_3.length) :: (13, s0 1 lh1_3.length) :: (15, s0 2 lh2_3.length) :: (17, ii (w64 (x17_3 + 1))) :: qhd21 lh0_3 x98_3 x99_3 [])) (h' := [(2, rI lh2_3), (1, rc encR lh1_3 0 43 4), (0, rI lh0_3)]) (c' := 3) [0, 1, 2] (by decide) rfl ⟨rfl, rfl, rfl, rfl, rfl, rfl, rfl, rfl, rfl, trivial⟩ ⟨⟨_, _, rfl, rfl, .inl ⟨rfl, rwI⟩⟩, ⟨_, _, rfl, rfl, .inl ⟨rfl, rowC_scal encR_ok _⟩⟩, ⟨_, _, rfl, rfl, .inl ⟨rfl, rwI⟩⟩, trivial⟩ rfl ?_
     refine XL.conv (f5_3_ok m fuel x7_3 x8_3 (w64 (x17_3 + 1)) x98_3 (w64 (x99_3 + 1)) lh0_3 lh1_3 lh2_3 o h Q hQ) (by first | with_reducible rfl | simp | rfl)
    | false =>
     have h := cF b3 h
     refine iF (.tmp 105) ?_
     refine kQ ?_
     show XQ _ _ _ _ _ _ _ _
     refine qQ ?_
     refine rS 1 (qhd19 lh0_3 lh1_3 lh2_3 x17_3 x7_3 x8_3 ((18, ii x99_3) :: (20, .slice none 0 0) :: qhd20 lh0_3 x98_3 x99_3 [])) ?_
     refine dQ ?_
     show XQ _ _ _ _ _ _ _ _
     refine XQ.ghost 3 1 rfl (σ' := (qhd19 lh0_3 lh1_3 lh2_3 x17_3 x7_3 x8_3 ((18, ii x99_3) :: (20, s0 3 0) :: qhd20 lh0_3 x98_3 x99_3 []))) (h' := [(2, rI lh2_3), (1, rc encR lh1_3 0 43 4), (0, rI lh0_3)]) ⟨rfl, rfl, rfl, rfl, rfl, rfl, rfl, rfl, rfl, rfl, rfl, trivial⟩ ⟨⟨_, rfl, .inl rfl⟩, ⟨_, rfl, .inl rfl⟩, ⟨_, rfl, .inl rfl⟩, trivial⟩ ?_
     refine XQ.conv (σ' := (qhd19 lh0_3 lh1_3 lh2_3 x17_3 x7_3 x8_3 ((18, ii x99_3) :: (20, s0 3 0) :: qhd20 lh0_3 x98_3 x99_3 []))) (h' := [(3, rI []), (2, rI lh2_3), (1, rc encR lh1_3 0 43 4), (0, rI lh0_3)]) (c' := 4) ?_ (by kernel_rfl)
     refine sQ ?_
     refine qQ ?_
     refine rS 2 (qhd19 lh0_3 lh1_3 lh2_3 x17_3 x7_3 x8_3 ((18, ii x99_3) :: (20, s0 3 0) :: qhd20 lh0_3 x98_3 x99_3 [(108, ii x99_3), (109, ii x8_3)])) ?_
     cases b4 : (x8_3 != 0 : Bool) with
     | false => cases (cF b4 h)
     | true =>
      have h := cT b4 h
      have e5 : insV (headI ((gsOf E0 223 (opsOf (lft (lft (rgt (rgt (rgt (lft (lft (rgt (rgt f5_L3))))))))))).drop 2) (trS 223 (qhd19 lh0_3 lh1_3 lh2_3 x17_3 x7_3 x8_3 ((18, ii x99_3) :: (20, s0 3 0) :: qhd20 lh0_3 x98_3 x99_3 [(108, ii x99_3), (109, ii x8_3)])))) (trS 223 (qhd19 lh0_3 lh1_3 lh2_3 x17_3 x7_3 x8_3 ((18, ii x99_3) :: (20, s0 3 0) :: qhd20 lh0_3 x98_3 x99_3 [(108, ii x99_3), (109, ii x8_3)]))) [(3, rI []), (2, rI lh2_3), (1, rc encR lh1_3 0 43 4), (0, rI lh0_3)] = (match (x8_3 != 0 : Bool) with | true => some (ii (Int.tmod x99_3 x8_3)) | false => none) := by kernel_rfl
      refine XR.rd E0_ok [7, 8, 11, 13, 15, 17, 18, 20, 97, 98, 99, 110] rfl (e5.trans (by rw [b4])) (σ' := (qhd19 lh0_3 lh1_3 lh2_3 x17_3 x7_3 x8_3 ((18, ii x99_3) :: (20, s0 3 0) :: qhd20 lh0_3 x98_3 x99_3 [(110, ii (Int.tmod x99_3 x8_3))]))) (by kernel_rfl) ?_
      refine rS 3 (qhd19 lh0_3 lh1_3 lh2_3 x17_3 x7_3 x8_3 ((18, ii x99_3) :: (20, s0 3 0) :: qhd20 lh0_3 x98_3 x99_3 [(113, .bool (decide ((Int.tmod x99_3 x8_3) < (w64 (x8_3 - 1)))))])) ?_
      refine dQ ?_
      show XQ _ _ _ _ _ _ _ _
      cases b6 : (decide ((Int.tmod x99_3 x8_3) < (w64 (x8_3 - 1))) : Bool) with
      | true =>
       have h := cT b6 h
       refine iT (.tmp 113) ?_
       refine rQ ?_
       refine rT 4 (qhd19 lh0_3 lh1_3 lh2_3 x17_3 x7_3 x8_3 ((18, ii x99_3) :: qhd20 lh0_3 x98_3 x99_3 [(114, s0 3 0), (117, s0 4 1)])) [(4, .cells [ii (w64 (x99_3 + 1))] 0 3 1), (3, rI []), (2, rI lh2_3), (1, rc encR lh1_3 0 43 4), (0, rI lh0_3)] 5 ?_
       refine XR.ef E0_ok [7, 8, 11, 13, 15, 17, 18, 97, 98, 99, 118] rfl (e_append (encI_ok .i64) (bytes := 8) (e := 3) (x := (src 223 (.tmp 114))) (y := (src 223 (.tmp 117))) (b := 3) (len := 0) (cap := 0) (xs := []) (m := 0) (ys := [w64 (x99_3 + 1)]) (d := (some (path 12 118))) (n' := 1) (h' := [(5, rI [w64 (x99_3 + 1)]), (4, .cells [ii (w64 (x99_3 + 1))] 0 3 1), (2, rI lh2_3), (1, rc encR lh1_3 0 43 4), (0, rI lh0_3)]) (by kernel_rfl) (by kernel_rfl) (by kernel_rfl) (by kernel_rfl) rfl (by simp) (by simp) (show (fitsB (0 + 1) 8) = true by first | rfl | simp) (by simp) (by kernel_rfl)) (σ' := (qhd19 lh0_3 lh1_3 lh2_3 x17_3 x7_3 x8_3 ((18, ii x99_3) :: qhd20 lh0_3 x98_3 x99_3 [(118, s0 5 1)]))) (by kernel_rfl) ?_
       refine rS 1 (qhd19 lh0_3 lh1_3 lh2_3 x17_3 x7_3 x8_3 ((18, ii x99_3) :: (20, s0 5 1) :: qhd20 lh0_3 x98_3 x99_3 [])) ?_
       refine dQ ?_
       show XQ _ _ _ _ _ _ _ _
       refine sQ ?_
       refine qQ ?_
       refine rS 7 (qhd19 lh0_3 lh1_3 lh2_3 x17_3 x7_3 x8_3 ((18, ii x99_3) :: (20, s0 5 1) :: qhd20 lh0_3 x98_3 x99_3 [(125, .bool (decide ((w64 (x99_3 + x8_3)) < (w64 (x7_3 * x8_3)))))])) ?_
       refine dQ ?_
       show XQ _ _ _ _ _ _ _ _
       cases b7 : (decide ((w64 (x99_3 + x8_3)) < (w64 (x7_3 * x8_3))) : Bool) with
       | true =>
        have h := cT b7 h
        refine iT (.tmp 125) ?_
        refine rQ ?_
        refine rT 5 (qhd19 lh0_3 lh1_3 lh2_3 x17_3 x7_3 x8_3 ((18, ii x99_3) :: qhd20 lh0_3 x98_3 x99_3 [(126, s0 5 1), (130, s0 6 1)])) [(6, .cells [ii (w64 (x99_3 + x8_3))] 0 3 1), (5, rI [w64 (x99_3 + 1)]), (4, .cells [ii (w64 (x99_3 + 1))] 0 3 1), (2, rI lh2_3), (1, rc encR lh1_3 0 43 4), (0, rI lh0_3)] 7 ?_
        refine XR.ef E0_ok [7, 8, 11, 13, 15, 17, 18, 97, 98, 99, 131] rfl (e_append (encI_ok .i64) (bytes := 8) (e := 3) (x := (src 223 (.tmp 126))) (y := (src 223 (.tmp 130))) (b := 5) (len := 1) (cap := 1) (xs := [w64 (x99_3 + 1)]) (m := 0) (ys := [w64 (x99_3 + x8_3)]) (d := (some (path 12 131))) (n' := 2) (h' := [(7, rI [w64 (x99_3 + 1), w64 (x99_3 + x8_3)]), (6, .cells [ii (w64 (x99_3 + x8_3))] 0 3 1), (4, .cells [ii (w64 (x99_3 + 1))] 0 3 1), (2, rI lh2_3), (1, rc encR lh1_3 0 43 4), (0, rI lh0_3)]) (by kernel_rfl) (by kernel_rfl) (by kernel_rfl) (by kernel_rfl) rfl (by simp) (by simp) (show (fitsB (1 + 1) 8) = true by first | rfl | simp) (by simp) (by kernel_rfl)) (σ' := (qhd19 lh0_3 lh1_3 lh2_3 x17_3 x7_3 x8_3 ((18, ii x99_3) :: qhd20 lh0_3 x98_3 x99_3 [(131, s0 7 2)]))) (by kernel_rfl) ?_
        refine rS 1 (qhd19 lh0_3 lh1_3 lh2_3 x17_3 x7_3 x8_3 ((18, ii x99_3) :: (20, s0 7 2) :: qhd20 lh0_3 x98_3 x99_3 [])) ?_
        refine nQ id ?_
        refine rS 3 (qhd19 lh0_3 lh1_3 lh2_3 x17_3 x7_3 x8_3 ((18, ii x99_3) :: qhd20 lh0_3 x98_3 x99_3 [(132, s0 7 2), (133, ii 2), (134, ii 0)])) ?_
        refine dQ ?_
        show XQ _ _ _ _ _ _ _ _
        refine XQ.block (id := 6) (by kernel_rfl) ?_
        refine XQ.loop m (by kernel_rfl) ?_
        obtain ⟨o4, o4_h, h⟩ := bS h
        refine XL.ren (σ' := (qhd19 lh0_3 lh1_3 lh2_3 x17_3 x7_3 x8_3 ((18, ii x99_3) :: qhd20 lh0_3 x98_3 x99_3 [(132, s0 3 2), (133, ii 2), (134, ii 0)]))) (h' := [(3, rI [w64 (x99_3 + 1), w64 (x99_3 + x8_3)]), (2, rI lh2_3), (1, rc encR lh1_3 0 43 4), (0, rI lh0_3)]) (c' := 4) [0, 1, 2, 7] (by decide) rfl ⟨rfl, rfl, rfl, rfl, rfl, rfl, rfl, rfl, rfl, rfl, rfl, rfl, rfl, trivial⟩ ⟨⟨_, _, rfl, rfl, .inl ⟨rfl, rwI⟩⟩, ⟨_, _, rfl, rfl, .inl ⟨rfl, rwI⟩⟩, ⟨_, _, rfl, rfl, .inl ⟨rfl, rowC_scal encR_ok _⟩⟩, ⟨_, _, rfl, rfl, .inl ⟨rfl, rwI⟩⟩, trivial⟩ rfl ?_
        cases o4 with
        | r =>
         dsimp only at h
         refine XL.conv (f5_4_ok m m x7_3 x8_3 x17_3 x98_3 x99_3 lh0_3 lh1_3 0 lh2_3 [w64 (x99_3 + 1), w64 (x99_3 + x8_3)] (.r) o4_h _ ?_) (by first | with_reducible rfl | simp | rfl)
         cases h
         exact hQ
        | x6 lh2_x64 =>
         dsimp only at h
         refine XL.conv (f5_4_ok m m x7_3 x8_3 x17_3 x98_3 x99_3 lh0_3 lh1_3 0 lh2_3 [w64 (x99_3 + 1), w64 (x99_3 + x8_3)] (.x6 lh2_x64) o4_h _ ?_) (by first | with_reducible rfl | simp | rfl)
         show XQ _ _ _ _ _ _ _ _
         refine rQ ?_
         refine rS 2 ((7, ii x7_3) :: (8, ii x8_3) :: (11, s0 0 lh0_3.length) :: (13, s0 1 lh1_3.length) :: (15, s0 2 lh2_x64.length) :: (17, ii x17_3) :: qhd21 lh0_3 x98_3 x99_3 []) ?_
         refine dQ ?_
         show XL _ _ _ _ _ _ _ _ _
         refine XL.ren (σ' := ((7, ii x7_3) :: (8, ii x8_3) :: (11, s0 0 lh0_3.length) :: (13, s0 1 lh1_3.length) :: (15, s0 2 lh2_x64.length) :: (17, ii x17_3) :: qhd21 lh0_3 x98_3 x99_3 [])) (h' := [(2, rI lh2_x64), (1, rc encR lh1_3 0 43 4), (0, rI lh0_3)]) (c' := 3) [0, 1, 2] (by decide) rfl ⟨rfl, rfl, rfl, rfl, rfl, rfl, rfl, rfl, rfl, trivial⟩ ⟨⟨_, _, rfl, rfl, .inl ⟨rfl, rwI⟩⟩, ⟨_, _, rfl, rfl, .inl ⟨rfl, rowC_scal encR_ok _⟩⟩, ⟨_, _, rfl, rfl, .inl ⟨rfl, rwI⟩⟩, trivial⟩ rfl ?_
         refine XL.conv (f5_3_ok m fuel x7_3 x8_3 x17_3 x98_3 (w64 (x99_3 + 1)) lh0_3 lh1_3 lh2_x64 o h Q hQ) (by first | with_reducible rfl | simp | rfl)
       | false =>
        have h := cF b7 h
        refine iF (.tmp 125) ?_
        refine kQ ?_
        show XQ _ _ _ _ _ _ _ _
        refine qQ ?_
        refine rS 3 (qhd19 lh0_3 lh1_3 lh2_3 x17_3 x7_3 x8_3 ((18, ii x99_3) :: qhd20 lh0_3 x98_3 x99_3 [(132, s0 5 1), (133, ii 1), (134, ii 0)])) ?_
        refine dQ ?_
        show XQ _ _ _ _ _ _ _ _
        refine XQ.block (id := 6) (by kernel_rfl) ?_
        refine XQ.loop m (by kernel_rfl) ?_
        obtain ⟨o6, o6_h, h⟩ := bS h
        refine XL.ren (σ' := (qhd19 lh0_3 lh1_3 lh2_3 x17_3 x7_3 x8_3 ((18, ii x99_3) :: qhd20 lh0_3 x98_3 x99_3 [(132, s0 3 1), (133, ii 1), (134, ii 0)]))) (h' := [(3, rI [w64 (x99_3 + 1)]), (2, rI lh2_3), (1, rc encR lh1_3 0 43 4), (0, rI lh0_3)]) (c' := 4) [0, 1, 2, 5] (by decide) rfl ⟨rfl, rfl, rfl, rfl, rfl, rfl, rfl, rfl, rfl, rfl, rfl, rfl, rfl, trivial⟩ ⟨⟨_, _, rfl, rfl, .inl ⟨rfl, rwI⟩⟩, ⟨_, _, rfl, rfl, .inl ⟨rfl, rwI⟩⟩, ⟨_, _, rfl, rfl, .inl ⟨rfl, rowC_scal encR_ok _⟩⟩, ⟨_, _, rfl, rfl, .inl ⟨rfl, rwI⟩⟩, trivial⟩ rfl ?_
        cases o6 with
        | r =>
         dsimp only at h
         refine XL.conv (f5_6_ok m m x7_3 x8_3 x17_3 x98_3 x99_3 lh0_3 lh1_3 0 lh2_3 [w64 (x99_3 + 1)] (.r) o6_h _ ?_) (by first | with_reducible rfl | simp | rfl)
         cases h
         exact hQ
        | x6 lh2_x66 =>
         dsimp only at h
         refine XL.conv (f5_6_ok m m x7_3 x8_3 x17_3 x98_3 x99_3 lh0_3 lh1_3 0 lh2_3 [w64 (x99_3 + 1)] (.x6 lh2_x66) o6_h _ ?_) (by first | with_reducible rfl | simp | rfl)
         show XQ _ _ _ _ _ _ _ _
         refine rQ ?_
         refine rS 2 ((7, ii x7_3) :: (8, ii x8_3) :: (11, s0 0 lh0_3.length) :: (13, s0 1 lh1_3.length) :: (15, s0 2 lh2_x66.length) :: (17, ii x17_3) :: qhd21 lh0_3 x98_3 x99_3 []) ?_
         refine dQ ?_
         show XL _ _ _ _ _ _ _ _ _
         refine XL.ren (σ' := ((7, ii x7_3) :: (8, ii x8_3) :: (11, s0 0 lh0_3.length) :: (13, s0 1 lh1_3.length) :: (15, s0 2 lh2_x66.length) :: (17, ii x17_3) :: qhd21 lh0_3 x98_3 x99_3 [])) (h' := [(2, rI lh2_x66), (1, rc encR lh1_3 0 43 4), (0, rI lh0_3)]) (c' := 3) [0, 1, 2] (by decide) rfl ⟨rfl, rfl, rfl, rfl, rfl, rfl, rfl, rfl, rfl, trivial⟩ ⟨⟨_, _, rfl, rfl, .inl ⟨rfl, rwI⟩⟩, ⟨_, _, rfl, rfl, .inl ⟨rfl, rowC_scal encR_ok _⟩⟩, ⟨_, _, rfl, rfl, .inl ⟨rfl, rwI⟩⟩, trivial⟩ rfl ?_
         refine XL.conv (f5_3_ok m fuel x7_3 x8_3 x17_3 x98_3 (w64 (x99_3 + 1)) lh0_3 lh1_3 lh2_x66 o h Q hQ) (by first | with_reducible rfl | simp | rfl)
      | false =>
       have h := cF b6 h
       refine iF (.tmp 113) ?_
       refine kQ ?_
       show XQ _ _ _ _ _ _ _ _
       refine sQ ?_
       refine qQ ?_
       refine rS 7 (qhd19 lh0_3 lh1_3 lh2_3 x17_3 x7_3 x8_3 ((18, ii x99_3) :: (20, s0 3 0) :: qhd20 lh0_3 x98_3 x99_3 [(125, .bool (decide ((w64 (x99_3 + x8_3)) < (w64 (x7_3 * x8_3)))))])) ?_
       refine dQ ?_
       show XQ _ _ _ _ _ _ _ _
       cases b10 : (decide ((w64 (x99_3 + x8_3)) < (w64 (x7_3 * x8_3))) : Bool) with
       | true =>
        have h := cT b10 h
        refine iT (.tmp 125) ?_
        refine rQ ?_
        refine rT 5 (qhd19 lh0_3 lh1_3 lh2_3 x17_3 x7_3 x8_3 ((18, ii x99_3) :: qhd20 lh0_3 x98_3 x99_3 [(126, s0 3 0), (130, s0 4 1)])) [(4, .cells [ii (w64 (x99_3 + x8_3))] 0 3 1), (3, rI []), (2, rI lh2_3), (1, rc encR lh1_3 0 43 4), (0, rI lh0_3)] 5 ?_
        refine XR.ef E0_ok [7, 8, 11, 13, 15, 17, 18, 97, 98, 99, 131] rfl (e_append (encI_ok .i64) (bytes := 8) (e := 3) (x := (src 223 (.tmp 126))) (y := (src 223 (.tmp 130))) (b := 3) (len := 0) (cap := 0) (xs := []) (m := 0) (ys := [w64 (x99_3 + x8_3)]) (d := (some (path 12 131))) (n' := 1) (h' := [(5, rI [w64 (x99_3 + x8_3)]), (4, .cells [ii (w64 (x99_3 + x8_3))] 0 3 1), (2, rI lh2_3), (1, rc encR lh1_3 0 43 4), (0, rI lh0_3)]) (by kernel_rfl) (by kernel_rfl) (by kernel_rfl) (by kernel_rfl) rfl (by simp) (by simp) (show (fitsB (0 + 1) 8) = true by first | rfl | simp) (by simp) (by kernel_rfl)) (σ' := (qhd19 lh0_3 lh1_3 lh2_3 x17_3 x7_3 x8_3 ((18, ii x99_3) :: qhd20 lh0_3 x98_3 x99_3 [(131, s0 5 1)]))) (by kernel_rfl) ?_
        refine rS 1 (qhd19 lh0_3 lh1_3 lh2_3 x17_3 x7_3 x8_3 ((18, ii x99_3) :: (20, s0 5 1) :: qhd20 lh0_3 x98_3 x99_3 [])) ?_
        refine nQ id ?_
        refine rS 3 (qhd19 lh0_3 lh1_3 lh2_3 x17_3 x7_3 x8_3 ((18, ii x99_3) :: qhd20 lh0_3 x98_3 x99_3 [(132, s0 5 1), (133, ii 1), (134, ii 0)])) ?_
        refine dQ ?_
        show XQ _ _ _ _ _ _ _ _
        refine XQ.block (id := 6) (by kernel_rfl) ?_
        refine XQ.loop m (by kernel_rfl) ?_
        obtain ⟨o8, o8_h, h⟩ := bS h
        refine XL.ren (σ' := (qhd19 lh0_3 lh1_3 lh2_3 x17_3 x7_3 x8_3 ((18, ii x99_3) :: qhd20 lh0_3 x98_3 x99_3 [(132, s0 3 1), (133, ii 1), (134, ii 0)]))) (h' := [(3, rI [w64 (x99_3 + x8_3)]), (2, rI lh2_3), (1, rc encR lh1_3 0 43 4), (0, rI lh0_3)]) (c' := 4) [0, 1, 2, 5] (by decide) rfl ⟨rfl, rfl, rfl, rfl, rfl, rfl, rfl, rfl, rfl, rfl, rfl, rfl, rfl, trivial⟩ ⟨⟨_, _, rfl, rfl, .inl ⟨rfl, rwI⟩⟩, ⟨_, _, rfl, rfl, .inl ⟨rfl, rwI⟩⟩, ⟨_, _, rfl, rfl, .inl ⟨rfl, rowC_scal encR_ok _⟩⟩, ⟨_, _, rfl, rfl, .inl ⟨rfl, rwI⟩⟩, trivial⟩ rfl ?_
        cases o8 with
        | r =>
         dsimp only at h
         refine XL.conv (f5_8_ok m m x7_3 x8_3 x17_3 x98_3 x99_3 lh0_3 lh1_3 0 lh2_3 [w64 (x99_3 + x8_3)] (.r) o8_h _ ?_) (by first | with_reducible rfl | simp | rfl)
         cases h
         exact hQ
        | x6 lh2_x68 =>
         dsimp only at h
         refine XL.conv (f5_8_ok m m x7_3 x8_3 x17_3 x98_3 x99_3 lh0_3 lh1_3 0 lh2_3 [w64 (x99_3 + x8_3)] (.x6 lh2_x68) o8_h _ ?_) (by first | with_reducible rfl | simp | rfl)
         show XQ _ _ _ _ _ _ _ _
         refine rQ ?_
         refine rS 2 ((7, ii x7_3) :: (8, ii x8_3) :: (11, s0 0 lh0_3.length) :: (13, s0 1 lh1_3.length) :: (15, s0 2 lh2_x68.length) :: (17, ii x17_3) :: qhd21 lh0_3 x98_3 x99_3 []) ?_
         refine dQ ?_
         show XL _ _ _ _ _ _ _ _ _
         refine XL.ren (σ' := ((7, ii x7_3) :: (8, ii x8_3) :: (11, s0 0 lh0_3.length) :: (13, s0 1 lh1_3.length) :: (15, s0 2 lh2_x68.length) :: (17, ii x17_3) :: qhd21 lh0_3 x98_3 x99_3 [])) (h' := [(2, rI lh2_x68), (1, rc encR lh1_3 0 43 4), (0, rI lh0_3)]) (c' := 3) [0, 1, 2] (by decide) rfl ⟨rfl, rfl, rfl, rfl, rfl, rfl, rfl, rfl, rfl, trivial⟩ ⟨⟨_, _, rfl, rfl, .inl ⟨rfl, rwI⟩⟩, ⟨_, _, rfl, rfl, .inl ⟨rfl, rowC_scal encR_ok _⟩⟩, ⟨_, _, rfl, rfl, .inl ⟨rfl, rwI⟩⟩, trivial⟩ rfl ?_
         refine XL.conv (f5_3_ok m fuel x7_3 x8_3 x17_3 x98_3 (w64 (x99_3 + 1)) lh0_3 lh1_3 lh2_x68 o h Q hQ) (by first | with_reducible rfl | simp | rfl)
       | false =>
        have h := cF b10 h
        refine iF (.tmp 125) ?_
        refine kQ ?_
        show XQ _ _ _ _ _ _ _ _
        refine qQ ?_
        refine rS 3 (qhd19 lh0_3 lh1_3 lh2_3 x17_3 x7_3 x8_3 ((18, ii x99_3) :: qhd20 lh0_3 x98_3 x99_3 [(132, s0 3 0), (133, ii 0), (134, ii 0)])) ?_
        refine dQ ?_
        show XQ _ _ _ _ _ _ _ _
        refine XQ.block (id := 6) (by kernel_rfl) ?_
        refine XQ.loop m (by kernel_rfl) ?_
        obtain ⟨o10, o10_h, h⟩ := bS h
        refine XL.ren (σ' := (qhd19 lh0_3 lh1_3 lh2_3 x17_3 x7_3 x8_3 ((18, ii x99_3) :: qhd20 lh0_3 x98_3 x99_3 [(132, s0 3 0), (133, ii 0), (134, ii 0)]))) (h' := [(3, rI []), (2, rI lh2_3), (1, rc encR lh1_3 0 43 4), (0, rI lh0_3)]) (c' := 4) [0, 1, 2, 3] (by decide) rfl ⟨rfl, rfl, rfl, rfl, rfl, rfl, rfl, rfl, rfl, rfl, rfl, rfl, rfl, trivial⟩ ⟨⟨_, _, rfl, rfl, .inl ⟨rfl, rwI⟩⟩, ⟨_, _, rfl, rfl, .inl ⟨rfl, rwI⟩⟩, ⟨_, _, rfl, rfl, .inl ⟨rfl, rowC_scal encR_ok _⟩⟩, ⟨_, _, rfl, rfl, .inl ⟨rfl, rwI⟩⟩, trivial⟩ rfl ?_
        refine XL.conv (f5_10_ok m m x7_3 x8_3 x17_3 x98_3 x99_3 lh0_3 lh1_3 lh2_3 o10 o10_h _ ?_) (by first | with_reducible rfl | simp | rfl)
        show XQ _ _ _ _ _ _ _ _
        refine rQ ?_
        refine rS 2 (qhd19 lh0_3 lh1_3 lh2_3 x17_3 x7_3 x8_3 (qhd21 lh0_3 x98_3 x99_3 [])) ?_
        refine dQ ?_
        show XL _ _ _ _ _ _ _ _ _
        refine XL.ren (σ' := (qhd19 lh0_3 lh1_3 lh2_3 x17_3 x7_3 x8_3 (qhd21 lh0_3 x98_3 x99_3 []))) (h' := [(2, rI lh2_3), (1, rc encR lh1_3 0 43 4), (0, rI lh0_3)]) (c' := 3) [0, 1, 2] (by decide) rfl ⟨rfl, rfl, rfl, rfl, rfl, rfl, rfl, rfl, rfl, trivial⟩ ⟨⟨_, _, rfl, rfl, .inl ⟨rfl, rwI⟩⟩, ⟨_, _, rfl, rfl, .inl ⟨rfl, rowC_scal encR_ok _⟩⟩, ⟨_, _, rfl, rfl, .inl ⟨rfl, rwI⟩⟩, trivial⟩ rfl ?_
        refine XL.conv (f5_3_ok m fuel x7_3 x8_3 x17_3 x98_3 (w64 (x99_3 + 1)) lh0_3 lh1_3 lh2_3 o h Q hQ) (by first | with_reducible rfl | simp | rfl)
  | false =>
   have h := cF b1 h
   refine iF (.tmp 100) ?_
   refine XQ.ren (σ' := [(13, s0 0 lh1_3.length), (15, s0 1 lh2_3.length), (17, ii x17_3)]) (h' := [(1, rI lh2_3), (0, rc encR lh1_3 0 43 4)]) (c' := 2) [1, 2] (by decide) rfl ⟨rfl, rfl, rfl, trivial⟩ ⟨⟨_, _, rfl, rfl, .inl ⟨rfl, rwI⟩⟩, ⟨_, _, rfl, rfl, .inl ⟨rfl, rowC_scal encR_ok _⟩⟩, trivial⟩ rfl ?_
   refine XQ.exit (i := 4) (by kernel_rfl) ?_
   cases h
   exact hQ
def f5_11 (m : Nat) : Nat → Int → List (Int × Int × Int × Int) → List Int → Int → Int → Int → Option Int
 | 0, _, _, _, _, _, _ => none
 | fuel + 1, x17_x43, lh0_x43, lh1_x43, x30_11, x199_11, x200_11 =>
  cond (decide (x200_11 < x199_11)) (
   cond (inRow x200_11 lh1_x43.length) (
    f5_11 m fuel x17_x43 lh0_x43 lh1_x43 (iMax x30_11 (w64 ((List.getD lh1_x43 (Int.toNat x200_11) 0) + 1))) x199_11 (w64 (x200_11 + 1))
   ) none
  ) (
   some (x30_11)
  )
abbrev qhd22 (lh0_x43 : List (Int × Int × Int × Int)) (lh1_x43 : List Int) (x17_x43 : Int) (t : St) : St := (13, s0 0 lh0_x43.length) :: (15, s0 1 lh1_x43.length) :: (17, ii x17_x43) :: t
theorem f5_11_ok (m : Nat) : ∀ (fuel : Nat) (x17_x43 : Int) (lh0_x43 : List (Int × Int × Int × Int)) (lh1_x43 : List Int) (x30_11 : Int) (x199_11 : Int) (x200_11 : Int) (o : Int), f5_11 m fuel x17_x43 lh0_x43 lh1_x43 x30_11 x199_11 x200_11 = some o → ∀ Q : QP, Q (.exit 10) (qhd22 lh0_x43 lh1_x43 x17_x43 [(30, ii o)]) [(1, rI lh1_x43), (0, rc encR lh0_x43 0 43 4)] 2 → XL E0 223 0 fuel f5_L11 (qhd22 lh0_x43 lh1_x43 x17_x43 [(30, ii x30_11), (198, s0 1 lh1_x43.length), (199, ii x199_11), (200, ii x200_11)]) [(1, rI lh1_x43), (0, rc encR lh0_x43 0 43 4)] 2 Q
 | 0, x17_x43, lh0_x43, lh1_x43, x30_11, x199_11, x200_11, o, h, Q, hQ => by cases h
 | fuel + 1, x17_x43, lh0_x43, lh1_x43, x30_11, x199_11, x200_11, o, h, Q, hQ => by
  unfold f5_11 at h
  refine XL.succ E0_ok ?_
  refine qQ ?_
  refine rS 1 (qhd22 lh0_x43 lh1_x43 x17_x43 [(30, ii x30_11), (198, s0 1 lh1_x43.length), (199, ii x199_11), (200, ii x200_11), (201, .bool (decide (x200_11 < x199_11)))]) ?_
  refine dQ ?_
  show XQ _ _ _ _ _ _ _ _
  refine sQ ?_
  cases b1 : (decide (x200_11 < x199_11) : Bool) with
  | true =>
   have h := cT b1 h
   refine iT (.tmp 201) ?_
   refine kQ ?_
   show XQ _ _ _ _ _ _ _ _
   refine sQ ?_
   refine XQ.block (id := 11) (by kernel_rfl) ?_
   refine qQ ?_
   cases b2 : (inRow x200_11 lh1_x43.length : Bool) with
   | false => cases (cF b2 h)
   | true =>
    have h := cT b2 h
    refine XR.rd E0_ok [13, 15, 17, 30, 198, 199, 200, 202] rfl (v := pp 1 ((Int.toNat x200_11) * 1)) (v_idx (s := 1) (x := (src 223 (.tmp 198))) (y := (src 223 (.tmp 200))) (b := 1) (o := 0) (len := lh1_x43.length) (cap := lh1_x43.length) (ik := .i64) (i := x200_11) (off := (Int.toNat x200_11) * 1) (d := (some (path 12 202))) (by kernel_rfl) (by kernel_rfl) (by kernel_rfl) b2 (by omega)) (σ' := (qhd22 lh0_x43 lh1_x43 x17_x43 [(30, ii x30_11), (198, s0 1 lh1_x43.length), (199, ii x199_11), (200, ii x200_11), (202, pp 1 ((Int.toNat x200_11) * 1))])) (by kernel_rfl) ?_
    refine XR.rd E0_ok [13, 15, 17, 30, 198, 199, 200, 203] rfl (v := ii (List.getD lh1_x43 (Int.toNat x200_11) 0)) (v_load1 (encI_ok .i64) (x := (src 223 (.tmp 202))) (b := 1) (off := (Int.toNat x200_11) * 1) (xs := lh1_x43) (fz := 0) (e := 3) (es := 1) (d := (some (path 12 203))) (by kernel_rfl) (by kernel_rfl) (by kernel_rfl) (Int.toNat x200_11) 0 0 (by first | with_reducible rfl | omega | rfl) (row_len (inRow_toNat b2) (by simp)) rfl rfl) (σ' := (qhd22 lh0_x43 lh1_x43 x17_x43 [(30, ii x30_11), (198, s0 1 lh1_x43.length), (199, ii x199_11), (200, ii x200_11), (203, ii (List.getD lh1_x43 (Int.toNat x200_11) 0))])) (by kernel_rfl) ?_
    refine rS 1 (qhd22 lh0_x43 lh1_x43 x17_x43 [(30, ii x30_11), (32, ii (List.getD lh1_x43 (Int.toNat x200_11) 0)), (198, s0 1 lh1_x43.length), (199, ii x199_11), (200, ii x200_11)]) ?_
    refine dQ ?_
    show XQ _ _ _ _ _ _ _ _
    refine rQ ?_
    refine rS 5 (qhd22 lh0_x43 lh1_x43 x17_x43 [(30, ii (iMax x30_11 (w64 ((List.getD lh1_x43 (Int.toNat x200_11) 0) + 1)))), (198, s0 1 lh1_x43.length), (199, ii x199_11), (200, ii x200_11)]) ?_
    refine dQ ?_
    show XQ _ _ _ _ _ _ _ _
    refine rQ ?_
    refine rS 2 (qhd22 lh0_x43 lh1_x43 x17_x43 [(30, ii (iMax x30_11 (w64 ((List.getD lh1_x43 (Int.toNat x200_11) 0) + 1)))), (198, s0 1 lh1_x43.length), (199, ii x199_11), (200, ii (w64 (x200_11 + 1)))]) ?_
    refine dQ ?_
    show XL _ _ _ _ _ _ _ _ _
    refine XL.ren (σ' := (qhd22 lh0_x43 lh1_x43 x17_x43 [(30, ii (iMax x30_11 (w64 ((List.getD lh1_x43 (Int.toNat x200_11) 0) + 1)))), (198, s0 1 lh1_x43.length), (199, ii x199_11), (200, ii (w64 (x200_11 + 1)))])) (h' := [(1, rI lh1_x43), (0, rc encR lh0_x43 0 43 4)]) (c' := 2) [0, 1] (by decide) rfl ⟨rfl, rfl, rfl, rfl, rfl, rfl, rfl, trivial⟩ ⟨⟨_, _, rfl, rfl, .inl ⟨rfl, rwI⟩⟩, ⟨_, _, rfl, rfl, .inl ⟨rfl, rowC_scal encR_ok _⟩⟩, trivial⟩ rfl ?_
    refine XL.conv (f5_11_ok m fuel x17_x43 lh0_x43 lh1_x43 (iMax x30_11 (w64 ((List.getD lh1_x43 (Int.toNat x200_11) 0) + 1))) x199_11 (w64 (x200_11 + 1)) o h Q hQ) (by first | with_reducible rfl | simp | rfl)
  | false =>
   have h := cF b1 h
   refine iF (.tmp 201) ?_
   refine XQ.ren (σ' := (qhd22 lh0_x43 lh1_x43 x17_x43 [(30, ii x30_11)])) (h' := [(1, rI lh1_x43), (0, rc encR lh0_x43 0 43 4)]) (c' := 2) [0, 1] (by decide) rfl ⟨rfl, rfl, rfl, rfl, trivial⟩ ⟨⟨_, _, rfl, rfl, .inl ⟨rfl, rwI⟩⟩, ⟨_, _, rfl, rfl, .inl ⟨rfl, rowC_scal encR_ok _⟩⟩, trivial⟩ rfl ?_
   refine XQ.exit (i := 10) (by kernel_rfl) ?_
   cases h
   exact hQ
def f5 (m : Nat) (a : Int) (b : Int) (c : Int) : Option (Bool) :=
 (f5_1 m m c (w64 (1 + (Int.tmod (w64 a) 3))) (w64 (1 + (Int.tmod (w64 b) 3))) (w64 ((w64 (1 + (Int.tmod (w64 a) 3))) * (w64 (1 + (Int.tmod (w64 b) 3))))) 0 (w64 (1 + (Int.tmod (w64 a) 3))) (w64 (1 + (Int.tmod (w64 b) 3))) []).bind fun o1 =>
  (f7 m o1.2.2.1 o1.2.2.2.1 o1.2.2.2.2 []).bind fun r1 =>
   (f15 m o1.2.2.1 o1.2.2.2.1 o1.2.2.2.2 []).bind fun r2 =>
    cond (r1.2 != 0) (
     some (false)
    ) (
     cond (r2.2 != 0) (
      some (false)
     ) (
      cond (((r1.1.length : Nat) : Int) != (w64 (o1.1 * o1.2.1))) (
       some (false)
      ) (
       (f5_2 m m o1.1 o1.2.1 (w64 (o1.1 * o1.2.1)) 0 r1.1 r2.1 []).bind fun o2 =>
        (f5_3 m m o2.1 o2.2.1 0 ((o2.2.2.1.length : Nat) : Int) 0 o2.2.2.1 o2.2.2.2.1 o2.2.2.2.2).bind fun o3 =>
         match o3 with
         | .r =>
          some (false)
         | .x4 x17_x43 lh0_x43 lh1_x43 =>
          (f5_11 m m x17_x43 lh0_x43 lh1_x43 0 ((lh1_x43.length : Nat) : Int) 0).bind fun o11 =>
           (f21 m lh1_x43).bind fun r84 =>
            cond (r84 == 0) (
             cond (o11 == (w64 (((lh0_x43.length : Nat) : Int) + x17_x43))) (
              some (true)
             ) (
              some (false)
             )
            ) (
             some (false)
            )
      )
     )
    )
set_option maxHeartbeats 8000000 in
abbrev qhd23 (a : Int) (b : Int) (c : Int) (t : St) : St := (2, .int .u16 c) :: (7, ii (w64 (1 + (Int.tmod (w64 a) 3)))) :: (8, ii (w64 (1 + (Int.tmod (w64 b) 3)))) :: t
theorem f5_ok (m : Nat) (a : Int) (b : Int) (c : Int) (o : Bool) (h : f5 m a b c = some o) (w : World) (hI : seatInv w) : Calls Proofs.Tryz.prog 5 #[.int .u8 a, .int .u8 b, .int .u16 c] w fun e w' => e = .returned (.bool o) ∧ Below w.heap.size w w' := by
 refine KC.calls (E := E0) (args := [.int .u8 a, .int .u8 b, .int .u16 c]) (v := .bool o) rfl rfl (KC.bodyN E0_ok (F := Proofs.Tryz.f5) (by kernel_rfl) (code := f5_C5) (by kernel_rfl) (nt := 223) (by kernel_rfl) (rs := [.tmp 6]) (by kernel_rfl) (by kernel_rfl) (σ := [(0, .int .u8 a), (1, .int .u8 b), (2, .int .u16 c)]) (by kernel_rfl) ?_) w (seatInv_size hI) hI
 unfold f5 at h
 refine qQ ?_
 refine rS 1 [(0, .int .u8 a), (1, .int .u8 b), (2, .int .u16 c)] ?_
 refine nQ id ?_
 refine rS 10 (qhd23 a b c []) ?_
 refine nQ id ?_
 refine rT 5 (qhd23 a b c [(9, pp 0 0)]) [(0, .cells [ii (w64 (1 + (Int.tmod (w64 a) 3))), ii (w64 (1 + (Int.tmod (w64 b) 3))), .slice none 0 0, .slice none 0 0] 0 29 0)] 1 ?_
 refine dQ ?_
 show XQ _ _ _ _ _ _ _ _
 refine XQ.ghost 3 1 rfl (σ' := (qhd23 a b c [(9, pp 0 0)])) (h' := [(0, .cells [ii (w64 (1 + (Int.tmod (w64 a) 3))), ii (w64 (1 + (Int.tmod (w64 b) 3))), s0 1 0, .slice none 0 0] 0 29 0)]) ⟨rfl, rfl, rfl, rfl, trivial⟩ ⟨⟨_, rfl, .inr ⟨_, _, _, _, rfl, rfl⟩⟩, trivial⟩ ?_
 refine XQ.conv (σ' := (qhd23 a b c [(9, pp 0 0)])) (h' := [(1, rI []), (0, .cells [ii (w64 (1 + (Int.tmod (w64 a) 3))), ii (w64 (1 + (Int.tmod (w64 b) 3))), s0 1 0, .slice none 0 0] 0 29 0)]) (c' := 2) ?_ (by kernel_rfl)
 refine XQ.ghost 3 1 rfl (σ' := (qhd23 a b c [(9, pp 0 0)])) (h' := [(1, rI []), (0, .cells [ii (w64 (1 + (Int.tmod (w64 a) 3))), ii (w64 (1 + (Int.tmod (w64 b) 3))), s0 1 0, s0 2 0] 0 29 0)]) ⟨rfl, rfl, rfl, rfl, trivial⟩ ⟨⟨_, rfl, .inl rfl⟩, ⟨_, rfl, .inr ⟨_, _, _, _, rfl, rfl⟩⟩, trivial⟩ ?_
 refine XQ.conv (σ' := (qhd23 a b c [(9, pp 0 0)])) (h' := [(2, rI []), (1, rI []), (0, .cells [ii (w64 (1 + (Int.tmod (w64 a) 3))), ii (w64 (1 + (Int.tmod (w64 b) 3))), s0 1 0, s0 2 0] 0 29 0)]) (c' := 3) ?_ (by kernel_rfl)
 refine sQ ?_
 refine qQ ?_
 refine rS 4 (qhd23 a b c [(9, pp 0 0), (46, ii (w64 ((w64 (1 + (Int.tmod (w64 a) 3))) * (w64 (1 + (Int.tmod (w64 b) 3)))))), (47, ii 0)]) ?_
 refine dQ ?_
 show XQ _ _ _ _ _ _ _ _
 refine XQ.block (id := 0) (by kernel_rfl) ?_
 refine XQ.loop m (by kernel_rfl) ?_
 obtain ⟨o1, o1_h, h⟩ := bS h
 refine XL.ren (σ' := (qhd23 a b c [(9, pp 0 0), (46, ii (w64 ((w64 (1 + (Int.tmod (w64 a) 3))) * (w64 (1 + (Int.tmod (w64 b) 3)))))), (47, ii 0)])) (h' := [(2, rI []), (1, rI []), (0, .cells [ii (w64 (1 + (Int.tmod (w64 a) 3))), ii (w64 (1 + (Int.tmod (w64 b) 3))), s0 1 0, s0 2 0] 0 29 0)]) (c' := 3) [0, 1, 2] (by decide) rfl ⟨rfl, rfl, rfl, rfl, rfl, rfl, trivial⟩ ⟨⟨_, _, rfl, rfl, .inl ⟨rfl, rwI⟩⟩, ⟨_, _, rfl, rfl, .inl ⟨rfl, rwI⟩⟩, ⟨_, _, rfl, rfl, .inr ⟨_, _, _, _, rfl, rfl⟩⟩, trivial⟩ rfl ?_
 refine XL.conv (f5_1_ok m m c (w64 (1 + (Int.tmod (w64 a) 3))) (w64 (1 + (Int.tmod (w64 b) 3))) (w64 ((w64 (1 + (Int.tmod (w64 a) 3))) * (w64 (1 + (Int.tmod (w64 b) 3))))) 0 (w64 (1 + (Int.tmod (w64 a) 3))) (w64 (1 + (Int.tmod (w64 b) 3))) [] o1 o1_h _ ?_) (by first | with_reducible rfl | simp | rfl)
 show XQ _ _ _ _ _ _ _ _
 refine qQ ?_
 refine rS 1 [(7, ii o1.1), (8, ii o1.2.1), (9, pp 0 0), (63, .agg #[ii o1.2.2.1, ii o1.2.2.2.1, s0 1 o1.2.2.2.2.length, s0 2 0])] ?_
 obtain ⟨r1, r1_h, h⟩ := bS h
 refine XR.call E0_ok [7, 8, 9, 64] rfl (K := 7) (args := [.agg #[ii o1.2.2.1, ii o1.2.2.2.1, s0 1 o1.2.2.2.2.length, s0 2 0]]) (d := (some (path 12 64))) (by kernel_rfl) (KC.liftH (n0 := 2) (m := 1) (args0 := [.agg #[ii o1.2.2.1, ii o1.2.2.2.1, s0 0 o1.2.2.2.2.length, s0 1 0]]) (h0 := [(1, rc (encI .i64) [] (0 + ((rowC (encI .i64) []).length + 1)) 3 1), (0, rc (encI .i64) o1.2.2.2.2 (0 + ((rowC (encI .i64) o1.2.2.2.2).length + 1)) 3 1)]) (V := .tuple #[s0 2 r1.1.length, ii r1.2]) (V2 := .tuple #[s0 3 r1.1.length, ii r1.2]) (H := [(2, rI r1.1)]) (H2 := [(3, rI r1.1)]) [1, 2] [3, 4, 5, 2] (f7_ok m (0 + ((rowC (encI .i64) o1.2.2.2.2).length + 1)) 3 (0 + ((rowC (encI .i64) []).length + 1)) 3 o1.2.2.1 o1.2.2.2.1 o1.2.2.2.2 [] r1 r1_h) (by rfl) (by decide) rfl (by kernel_rfl) ⟨⟨_, _, rfl, rfl, .inl ⟨rfl, rwI⟩⟩, ⟨_, _, rfl, rfl, .inl ⟨rfl, rwI⟩⟩, trivial⟩ (by decide) (by decide) (by kernel_rfl) ⟨⟨_, _, rfl, rfl, .inl ⟨rfl, rwI⟩⟩, trivial⟩ (by rfl)) ?_
 rintro _ _ _ ⟨rfl, rfl, rfl⟩
 refine XR.conv (σ' := [(7, ii o1.1), (8, ii o1.2.1), (9, pp 0 0), (64, .tuple #[s0 3 r1.1.length, ii r1.2])]) (h' := [(3, rI r1.1), (2, rI []), (1, rI o1.2.2.2.2), (0, .cells [ii o1.2.2.1, ii o1.2.2.2.1, s0 1 o1.2.2.2.2.length, s0 2 0] 0 29 0)]) (c' := 4) ?_ (by kernel_rfl)
 refine rS 5 [(7, ii o1.1), (8, ii o1.2.1), (9, pp 0 0), (11, s0 3 r1.1.length), (12, ii r1.2)] ?_
 refine nQ id ?_
 refine rS 1 [(7, ii o1.1), (8, ii o1.2.1), (11, s0 3 r1.1.length), (12, ii r1.2), (68, .agg #[ii o1.2.2.1, ii o1.2.2.2.1, s0 1 o1.2.2.2.2.length, s0 2 0])] ?_
 obtain ⟨r2, r2_h, h⟩ := bS h
 refine XR.call E0_ok [7, 8, 11, 12, 69] rfl (K := 15) (args := [.agg #[ii o1.2.2.1, ii o1.2.2.2.1, s0 1 o1.2.2.2.2.length, s0 2 0]]) (d := (some (path 12 69))) (by kernel_rfl) (KC.liftH (n0 := 2) (m := 1) (args0 := [.agg #[ii o1.2.2.1, ii o1.2.2.2.1, s0 0 o1.2.2.2.2.length, s0 1 0]]) (h0 := [(1, rc (encI .i64) [] (0 + ((rowC (encI .i64) []).length + 1)) 3 1), (0, rc (encI .i64) o1.2.2.2.2 (0 + ((rowC (encI .i64) o1.2.2.2.2).length + 1)) 3 1)]) (V := .tuple #[s0 2 r2.1.length, ii r2.2]) (V2 := .tuple #[s0 4 r2.1.length, ii r2.2]) (H := [(2, rc encR r2.1 0 43 4)]) (H2 := [(4, rc encR r2.1 0 43 4)]) [1, 2] [3, 4, 5, 6, 2] (f15_ok m (0 + ((rowC (encI .i64) o1.2.2.2.2).length + 1)) 3 (0 + ((rowC (encI .i64) []).length + 1)) 3 o1.2.2.1 o1.2.2.2.1 o1.2.2.2.2 [] r2 r2_h) (by rfl) (by decide) rfl (by kernel_rfl) ⟨⟨_, _, rfl, rfl, .inl ⟨rfl, rwI⟩⟩, ⟨_, _, rfl, rfl, .inl ⟨rfl, rwI⟩⟩, trivial⟩ (by decide) (by decide) (by kernel_rfl) ⟨⟨_, _, rfl, rfl, .inl ⟨rfl, rowC_scal encR_ok _⟩⟩, trivial⟩ (by rfl)) ?_
 rintro _ _ _ ⟨rfl, rfl, rfl⟩
 refine XR.conv (σ' := [(7, ii o1.1), (8, ii o1.2.1), (11, s0 3 r1.1.length), (12, ii r1.2), (69, .tuple #[s0 4 r2.1.length, ii r2.2])]) (h' := [(4, rc encR r2.1 0 43 4), (3, rI r1.1), (2, rI []), (1, rI o1.2.2.2.2), (0, .cells [ii o1.2.2.1, ii o1.2.2.2.1, s0 1 o1.2.2.2.2.length, s0 2 0] 0 29 0)]) (c' := 5) ?_ (by kernel_rfl)
 refine rS 5 [(7, ii o1.1), (8, ii o1.2.1), (11, s0 3 r1.1.length), (12, ii r1.2), (13, s0 4 r2.1.length), (14, ii r2.2)] ?_
 refine dQ ?_
 show XQ _ _ _ _ _ _ _ _
 refine sQ ?_
 refine qQ ?_
 refine rS 3 [(7, ii o1.1), (8, ii o1.2.1), (11, s0 3 r1.1.length), (13, s0 4 r2.1.length), (14, ii r2.2), (74, .bool (r1.2 != 0))] ?_
 cases b2 : (r1.2 != 0 : Bool) with
 | true =>
  have h := cT b2 h
  refine rS 11 [(7, ii o1.1), (8, ii o1.2.1), (11, s0 3 r1.1.length), (13, s0 4 r2.1.length), (85, .bool true)] ?_
  refine dQ ?_
  show XQ _ _ _ _ _ _ _ _
  refine iT (.tmp 85) ?_
  refine qQ ?_
  refine rS 1 [(6, .bool false)] ?_
  refine dQ ?_
  show XQ _ _ _ _ _ _ _ _
  refine XQ.ret (by kernel_rfl) ?_
  have h := Option.some.inj h
  subst h
  exact ⟨fun i q => (by cases q), .bool false, (by kernel_rfl), rfl⟩
 | false =>
  have h := cF b2 h
  refine rS 4 [(7, ii o1.1), (8, ii o1.2.1), (11, s0 3 r1.1.length), (13, s0 4 r2.1.length), (78, .bool (r2.2 != 0))] ?_
  cases b3 : (r2.2 != 0 : Bool) with
  | true =>
   have h := cT b3 h
   refine rS 7 [(7, ii o1.1), (8, ii o1.2.1), (11, s0 3 r1.1.length), (13, s0 4 r2.1.length), (85, .bool true)] ?_
   refine dQ ?_
   show XQ _ _ _ _ _ _ _ _
   refine iT (.tmp 85) ?_
   refine qQ ?_
   refine rS 1 [(6, .bool false)] ?_
   refine dQ ?_
   show XQ _ _ _ _ _ _ _ _
   refine XQ.ret (by kernel_rfl) ?_
   have h := Option.some.inj h
   subst h
   exact ⟨fun i q => (by cases q), .bool false, (by kernel_rfl), rfl⟩
  | false =>
   have h := cF b3 h
   refine rS 7 [(7, ii o1.1), (8, ii o1.2.1), (11, s0 3 r1.1.length), (13, s0 4 r2.1.length), (85, .bool (((r1.1.length : Nat) : Int) != (w64 (o1.1 * o1.2.1))))] ?_
   refine dQ ?_
   show XQ _ _ _ _ _ _ _ _
   cases b4 : (((r1.1.length : Nat) : Int) != (w64 (o1.1 * o1.2.1)) : Bool) with
   | true =>
    have h := cT b4 h
    refine iT (.tmp 85) ?_
    refine qQ ?_
    refine rS 1 [(6, .bool false)] ?_
    refine dQ ?_
    show XQ _ _ _ _ _ _ _ _
    refine XQ.ret (by kernel_rfl) ?_
    have h := Option.some.inj h
    subst h
    exact ⟨fun i q => (by cases q), .bool false, (by kernel_rfl), rfl⟩
   | false =>
    have h := cF b4 h
    refine iF (.tmp 85) ?_
    refine kQ ?_
    show XQ _ _ _ _ _ _ _ _
    refine qQ ?_
    refine rS 1 [(7, ii o1.1), (8, ii o1.2.1), (11, s0 3 r1.1.length), (13, s0 4 r2.1.length), (15, .slice none 0 0)] ?_
    refine dQ ?_
    show XQ _ _ _ _ _ _ _ _
    refine XQ.ghost 3 1 rfl (σ' := [(7, ii o1.1), (8, ii o1.2.1), (11, s0 3 r1.1.length), (13, s0 4 r2.1.length), (15, s0 5 0)]) (h' := [(4, rc encR r2.1 0 43 4), (3, rI r1.1), (2, rI []), (1, rI o1.2.2.2.2), (0, .cells [ii o1.2.2.1, ii o1.2.2.2.1, s0 1 o1.2.2.2.2.length, s0 2 0] 0 29 0)]) ⟨rfl, rfl, rfl, rfl, rfl, trivial⟩ ⟨⟨_, rfl, .inl rfl⟩, ⟨_, rfl, .inl rfl⟩, ⟨_, rfl, .inl rfl⟩, ⟨_, rfl, .inl rfl⟩, ⟨_, rfl, .inl rfl⟩, trivial⟩ ?_
    refine XQ.conv (σ' := [(7, ii o1.1), (8, ii o1.2.1), (11, s0 3 r1.1.length), (13, s0 4 r2.1.length), (15, s0 5 0)]) (h' := [(5, rI []), (4, rc encR r2.1 0 43 4), (3, rI r1.1), (2, rI []), (1, rI o1.2.2.2.2), (0, .cells [ii o1.2.2.1, ii o1.2.2.2.1, s0 1 o1.2.2.2.2.length, s0 2 0] 0 29 0)]) (c' := 6) ?_ (by kernel_rfl)
    refine sQ ?_
    refine qQ ?_
    refine rS 4 [(7, ii o1.1), (8, ii o1.2.1), (11, s0 3 r1.1.length), (13, s0 4 r2.1.length), (15, s0 5 0), (88, ii (w64 (o1.1 * o1.2.1))), (89, ii 0)] ?_
    refine dQ ?_
    show XQ _ _ _ _ _ _ _ _
    refine XQ.block (id := 2) (by kernel_rfl) ?_
    refine XQ.loop m (by kernel_rfl) ?_
    obtain ⟨o2, o2_h, h⟩ := bS h
    refine XL.ren (σ' := [(7, ii o1.1), (8, ii o1.2.1), (11, s0 0 r1.1.length), (13, s0 1 r2.1.length), (15, s0 2 0), (88, ii (w64 (o1.1 * o1.2.1))), (89, ii 0)]) (h' := [(2, rI []), (1, rc encR r2.1 0 43 4), (0, rI r1.1)]) (c' := 3) [3, 4, 5] (by decide) rfl ⟨rfl, rfl, rfl, rfl, rfl, rfl, rfl, trivial⟩ ⟨⟨_, _, rfl, rfl, .inl ⟨rfl, rwI⟩⟩, ⟨_, _, rfl, rfl, .inl ⟨rfl, rowC_scal encR_ok _⟩⟩, ⟨_, _, rfl, rfl, .inl ⟨rfl, rwI⟩⟩, trivial⟩ rfl ?_
    refine XL.conv (f5_2_ok m m o1.1 o1.2.1 (w64 (o1.1 * o1.2.1)) 0 r1.1 r2.1 [] o2 o2_h _ ?_) (by first | with_reducible rfl | simp | rfl)
    show XQ _ _ _ _ _ _ _ _
    refine qQ ?_
    refine rS 1 [(7, ii o2.1), (8, ii o2.2.1), (11, s0 0 o2.2.2.1.length), (13, s0 1 o2.2.2.2.1.length), (15, s0 2 o2.2.2.2.2.length), (17, ii 0)] ?_
    refine dQ ?_
    show XQ _ _ _ _ _ _ _ _
    refine sQ ?_
    refine qQ ?_
    refine rS 3 [(7, ii o2.1), (8, ii o2.2.1), (11, s0 0 o2.2.2.1.length), (13, s0 1 o2.2.2.2.1.length), (15, s0 2 o2.2.2.2.2.length), (17, ii 0), (97, s0 0 o2.2.2.1.length), (98, ii ((o2.2.2.1.length : Nat) : Int)), (99, ii 0)] ?_
    refine dQ ?_
    show XQ _ _ _ _ _ _ _ _
    refine XQ.block (id := 4) (by kernel_rfl) ?_
    refine XQ.loop m (by kernel_rfl) ?_
    obtain ⟨o3, o3_h, h⟩ := bS h
    refine XL.ren (σ' := [(7, ii o2.1), (8, ii o2.2.1), (11, s0 0 o2.2.2.1.length), (13, s0 1 o2.2.2.2.1.length), (15, s0 2 o2.2.2.2.2.length), (17, ii 0), (97, s0 0 o2.2.2.1.length), (98, ii ((o2.2.2.1.length : Nat) : Int)), (99, ii 0)]) (h' := [(2, rI o2.2.2.2.2), (1, rc encR o2.2.2.2.1 0 43 4), (0, rI o2.2.2.1)]) (c' := 3) [0, 1, 2] (by decide) rfl ⟨rfl, rfl, rfl, rfl, rfl, rfl, rfl, rfl, rfl, trivial⟩ ⟨⟨_, _, rfl, rfl, .inl ⟨rfl, rwI⟩⟩, ⟨_, _, rfl, rfl, .inl ⟨rfl, rowC_scal encR_ok _⟩⟩, ⟨_, _, rfl, rfl, .inl ⟨rfl, rwI⟩⟩, trivial⟩ rfl ?_
    cases o3 with
    | r =>
     dsimp only at h
     refine XL.conv (f5_3_ok m m o2.1 o2.2.1 0 ((o2.2.2.1.length : Nat) : Int) 0 o2.2.2.1 o2.2.2.2.1 o2.2.2.2.2 (.r) o3_h _ ?_) (by first | with_reducible rfl | simp | rfl)
     have h := Option.some.inj h
     subst h
     exact ⟨fun i q => (by cases q), .bool false, (by kernel_rfl), rfl⟩
    | x4 x17_x43 lh0_x43 lh1_x43 =>
     dsimp only at h
     refine XL.conv (f5_3_ok m m o2.1 o2.2.1 0 ((o2.2.2.1.length : Nat) : Int) 0 o2.2.2.1 o2.2.2.2.1 o2.2.2.2.2 (.x4 x17_x43 lh0_x43 lh1_x43) o3_h _ ?_) (by first | with_reducible rfl | simp | rfl)
     show XQ _ _ _ _ _ _ _ _
     refine qQ ?_
     refine rS 1 [(13, s0 0 lh0_x43.length), (15, s0 1 lh1_x43.length), (17, ii x17_x43), (30, ii 0)] ?_
     refine dQ ?_
     show XQ _ _ _ _ _ _ _ _
     refine sQ ?_
     refine qQ ?_
     refine rS 3 [(13, s0 0 lh0_x43.length), (15, s0 1 lh1_x43.length), (17, ii x17_x43), (30, ii 0), (198, s0 1 lh1_x43.length), (199, ii ((lh1_x43.length : Nat) : Int)), (200, ii 0)] ?_
     refine dQ ?_
     show XQ _ _ _ _ _ _ _ _
     refine XQ.block (id := 10) (by kernel_rfl) ?_
     refine XQ.loop m (by kernel_rfl) ?_
     obtain ⟨o11, o11_h, h⟩ := bS h
     refine XL.ren (σ' := [(13, s0 0 lh0_x43.length), (15, s0 1 lh1_x43.length), (17, ii x17_x43), (30, ii 0), (198, s0 1 lh1_x43.length), (199, ii ((lh1_x43.length : Nat) : Int)), (200, ii 0)]) (h' := [(1, rI lh1_x43), (0, rc encR lh0_x43 0 43 4)]) (c' := 2) [0, 1] (by decide) rfl ⟨rfl, rfl, rfl, rfl, rfl, rfl, rfl, trivial⟩ ⟨⟨_, _, rfl, rfl, .inl ⟨rfl, rwI⟩⟩, ⟨_, _, rfl, rfl, .inl ⟨rfl, rowC_scal encR_ok _⟩⟩, trivial⟩ rfl ?_
     refine XL.conv (f5_11_ok m m x17_x43 lh0_x43 lh1_x43 0 ((lh1_x43.length : Nat) : Int) 0 o11 o11_h _ ?_) (by first | with_reducible rfl | simp | rfl)
     show XQ _ _ _ _ _ _ _ _
     refine qQ ?_
     refine rS 1 [(13, s0 0 lh0_x43.length), (17, ii x17_x43), (30, ii o11), (209, s0 1 lh1_x43.length)] ?_
     obtain ⟨r84, r84_h, h⟩ := bS h
     refine XR.call E0_ok [13, 17, 30, 210] rfl (K := 21) (args := [s0 1 lh1_x43.length]) (d := (some (path 12 210))) (by kernel_rfl) (KQ.call (KC.quiet E0_ok (args0 := [s0 0 lh1_x43.length]) (h0 := [(0, rc (encI .i64) lh1_x43 (0 + ((rowC (encI .i64) lh1_x43).length + 1)) 3 1)]) (n := 1) (V := ii r84) [1] (f21_ok m (0 + ((rowC (encI .i64) lh1_x43).length + 1)) 3 lh1_x43 r84 r84_h) rfl (by rfl) (by decide) rfl (by kernel_rfl) ⟨⟨_, _, rfl, rfl, .inl ⟨rfl, rwI⟩⟩, trivial⟩) rfl) ?_
     rintro _ _ _ ⟨rfl, rfl, rfl⟩
     refine XR.conv (σ' := [(13, s0 0 lh0_x43.length), (17, ii x17_x43), (30, ii o11), (210, ii r84)]) (h' := [(1, rI lh1_x43), (0, rc encR lh0_x43 0 43 4)]) (c' := 2) ?_ (by kernel_rfl)
     refine rS 2 [(13, s0 0 lh0_x43.length), (17, ii x17_x43), (30, ii o11), (212, .bool (r84 == 0))] ?_
     cases b8 : (r84 == 0 : Bool) with
     | true =>
      have h := cT b8 h
      refine rS 8 [(220, .bool (o11 == (w64 (((lh0_x43.length : Nat) : Int) + x17_x43))))] ?_
      cases b9 : (o11 == (w64 (((lh0_x43.length : Nat) : Int) + x17_x43)) : Bool) with
      | true =>
       have h := cT b9 h
       refine XR.call E0_ok [220, 221] rfl (K := 22) (args := []) (d := (some (path 12 221))) (by kernel_rfl) (KC.of_calls E0_ok (F := Proofs.Tryz.f22) (v := .bool true) (by kernel_rfl) rfl rfl (rooms_ok)) ?_
       rintro _ _ _ ⟨rfl, rfl, rfl⟩
       refine XR.conv (σ' := [(220, .bool true), (221, .bool true)]) (h' := [(1, rI lh1_x43), (0, rc encR lh0_x43 0 43 4)]) (c' := 2) ?_ (by kernel_rfl)
       refine rS 2 [(6, .bool true)] ?_
       refine dQ ?_
       show XQ _ _ _ _ _ _ _ _
       refine XQ.ret (by kernel_rfl) ?_
       have h := Option.some.inj h
       subst h
       exact ⟨fun i q => (by cases q), .bool true, (by kernel_rfl), rfl⟩
      | false =>
       have h := cF b9 h
       refine rS 3 [(6, .bool false)] ?_
       refine dQ ?_
       show XQ _ _ _ _ _ _ _ _
       refine XQ.ret (by kernel_rfl) ?_
       have h := Option.some.inj h
       subst h
       exact ⟨fun i q => (by cases q), .bool false, (by kernel_rfl), rfl⟩
     | false =>
      have h := cF b8 h
      refine rS 11 [(6, .bool false)] ?_
      refine dQ ?_
      show XQ _ _ _ _ _ _ _ _
      refine XQ.ret (by kernel_rfl) ?_
      have h := Option.some.inj h
      subst h
      exact ⟨fun i q => (by cases q), .bool false, (by kernel_rfl), rfl⟩
end Go.Xm
