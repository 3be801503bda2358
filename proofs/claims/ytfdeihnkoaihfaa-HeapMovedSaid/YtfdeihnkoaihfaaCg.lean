/- What these functions of the program compute, as functions in Lean, and the proofs that they do: heap.Finish. Conditions: none. -/
import Derived.Test.YtfdeihnkoaihfaaZx
import Derived.Test.YtfdeihnkoaihfaaCa
namespace Go.Xm
open Go.RowKit
set_option linter.unusedVariables false
set_option linter.unusedSimpArgs false
set_option maxRecDepth 20000
noncomputable def f31_C31 : Code := Proofs.Try.f31.body.getD .skip
noncomputable def f31_L1 : Code := lft (lft (rgt (lft (rgt (rgt (rgt (rgt f31_C31)))))))
noncomputable def f31_L2 : Code := lft (lft (rgt (rgt (rgt (rgt (rgt (rgt f31_C31)))))))
noncomputable def f31_L3 : Code := lft (lft (rgt (lft (lft (lft f31_L2)))))
def f31_1 (m : Nat) : Nat → List (Int × Int) → Int → Int → Int → Int → Option Int
 | 0, _, _, _, _, _ => none
 | fuel + 1, a, b, x7_1, x26_1, x27_1 =>
  cond (decide (x27_1 < x26_1)) (
   cond (inRow x27_1 a.length) (
    f31_1 m fuel a b (iMax x7_1 ((List.getD a (Int.toNat x27_1) (0, 0)).1)) x26_1 (w64 (x27_1 + 1))
   ) none
  ) (
   some (x7_1)
  )
theorem f31_1_ok (m : Nat) : ∀ (fuel : Nat) (z0 : Nat) (y0 : Nat) (a : List (Int × Int)) (b : Int) (x7_1 : Int) (x26_1 : Int) (x27_1 : Int) (o : Int), f31_1 m fuel a b x7_1 x26_1 x27_1 = some o → ∀ Q : QP, Q (.exit 1) [(0, s0 0 a.length), (1, ii b), (7, ii o)] [(0, rc encP a z0 y0 2)] 1 → XL E0 60 1 fuel f31_L1 [(0, s0 0 a.length), (1, ii b), (7, ii x7_1), (25, s0 0 a.length), (26, ii x26_1), (27, ii x27_1)] [(0, rc encP a z0 y0 2)] 1 Q
 | 0, z0, y0, a, b, x7_1, x26_1, x27_1, o, h, Q, hQ => by cases h
 | fuel + 1, z0, y0, a, b, x7_1, x26_1, x27_1, o, h, Q, hQ => by
  unfold f31_1 at h
  refine XL.succ E0_ok ?_
  refine qQ ?_
  refine rS 1 [(0, s0 0 a.length), (1, ii b), (7, ii x7_1), (25, s0 0 a.length), (26, ii x26_1), (27, ii x27_1), (28, .bool (decide (x27_1 < x26_1)))] ?_
  refine dQ ?_
  show XQ _ _ _ _ _ _ _ _
  refine sQ ?_
  cases b1 : (decide (x27_1 < x26_1) : Bool) with
  | true =>
   have h := cT b1 h
   refine iT (.tmp 28) ?_
   refine kQ ?_
   show XQ _ _ _ _ _ _ _ _
   refine sQ ?_
   refine XQ.block (id := 2) (by kernel_rfl) ?_
   refine qQ ?_
   cases b2 : (inRow x27_1 a.length : Bool) with
   | false => cases (cF b2 h)
   | true =>
    have h := cT b2 h
    refine XR.rd E0_ok [0, 1, 7, 25, 26, 27, 29] rfl (v := pp 0 ((Int.toNat x27_1) * 2)) (v_idx (s := 2) (x := (src 60 (.tmp 25))) (y := (src 60 (.tmp 27))) (b := 0) (o := 0) (len := a.length) (cap := a.length) (ik := .i64) (i := x27_1) (off := (Int.toNat x27_1) * 2) (d := (some (path 12 29))) (by kernel_rfl) (by kernel_rfl) (by kernel_rfl) b2 (by omega)) (σ' := [(0, s0 0 a.length), (1, ii b), (7, ii x7_1), (25, s0 0 a.length), (26, ii x26_1), (27, ii x27_1), (29, pp 0 ((Int.toNat x27_1) * 2))]) (by kernel_rfl) ?_
    refine XR.rd E0_ok [0, 1, 7, 25, 26, 27, 30] rfl (v := .agg #[ii ((List.getD a (Int.toNat x27_1) (0, 0)).1), ii ((List.getD a (Int.toNat x27_1) (0, 0)).2)]) (v_loadN encP_ok (x := (src 60 (.tmp 29))) (b := 0) (off := (Int.toNat x27_1) * 2) (xs := a) (fz := z0) (e := y0) (es := 2) (d := (some (path 12 30))) (by kernel_rfl) (by kernel_rfl) (by kernel_rfl) (Int.toNat x27_1) (0, 0) (by first | rfl | omega) (row_len (inRow_toNat b2) (by simp)) rfl) (σ' := [(0, s0 0 a.length), (1, ii b), (7, ii x7_1), (25, s0 0 a.length), (26, ii x26_1), (27, ii x27_1), (30, .agg #[ii ((List.getD a (Int.toNat x27_1) (0, 0)).1), ii ((List.getD a (Int.toNat x27_1) (0, 0)).2)])]) (by kernel_rfl) ?_
    refine rT 2 [(0, s0 0 a.length), (1, ii b), (7, ii x7_1), (9, pp 1 0), (25, s0 0 a.length), (26, ii x26_1), (27, ii x27_1)] [(1, .cells [ii ((List.getD a (Int.toNat x27_1) (0, 0)).1), ii ((List.getD a (Int.toNat x27_1) (0, 0)).2)] 0 61 0), (0, rc encP a z0 y0 2)] 2 ?_
    refine dQ ?_
    show XQ _ _ _ _ _ _ _ _
    refine rQ ?_
    refine rS 5 [(0, s0 0 a.length), (1, ii b), (7, ii (iMax x7_1 ((List.getD a (Int.toNat x27_1) (0, 0)).1))), (25, s0 0 a.length), (26, ii x26_1), (27, ii x27_1)] ?_
    refine dQ ?_
    show XQ _ _ _ _ _ _ _ _
    refine rQ ?_
    refine rS 2 [(0, s0 0 a.length), (1, ii b), (7, ii (iMax x7_1 ((List.getD a (Int.toNat x27_1) (0, 0)).1))), (25, s0 0 a.length), (26, ii x26_1), (27, ii (w64 (x27_1 + 1)))] ?_
    refine dQ ?_
    show XL _ _ _ _ _ _ _ _ _
    refine XL.ren (σ' := [(0, s0 0 a.length), (1, ii b), (7, ii (iMax x7_1 ((List.getD a (Int.toNat x27_1) (0, 0)).1))), (25, s0 0 a.length), (26, ii x26_1), (27, ii (w64 (x27_1 + 1)))]) (h' := [(0, rc encP a z0 y0 2)]) (c' := 1) [0] (by decide) rfl ⟨rfl, rfl, rfl, rfl, rfl, rfl, trivial⟩ ⟨⟨_, _, rfl, rfl, .inl ⟨rfl, rwP⟩⟩, trivial⟩ rfl ?_
    refine XL.conv (f31_1_ok m fuel z0 y0 a b (iMax x7_1 ((List.getD a (Int.toNat x27_1) (0, 0)).1)) x26_1 (w64 (x27_1 + 1)) o h Q hQ) (by first | rfl | simp)
  | false =>
   have h := cF b1 h
   refine iF (.tmp 28) ?_
   refine XQ.ren (σ' := [(0, s0 0 a.length), (1, ii b), (7, ii x7_1)]) (h' := [(0, rc encP a z0 y0 2)]) (c' := 1) [0] (by decide) rfl ⟨rfl, rfl, rfl, trivial⟩ ⟨⟨_, _, rfl, rfl, .inl ⟨rfl, rwP⟩⟩, trivial⟩ rfl ?_
   refine XQ.exit (i := 1) (by kernel_rfl) ?_
   cases h
   exact hQ
def f31_3 (m : Nat) : Nat → List (Int × Int) → Int → Int → Int → Int → List (Int × Int) → Option (List (Int × Int))
 | 0, _, _, _, _, _, _ => none
 | fuel + 1, a, b, x7_2, x41_3, x42_3, lh1_3 =>
  cond (decide (x42_3 < x41_3)) (
   cond (inRow x42_3 a.length) (
    cond (inRow x42_3 lh1_3.length) (
     f31_3 m fuel a b x7_2 x41_3 (w64 (x42_3 + 1)) (List.set lh1_3 (Int.toNat x42_3) ((List.getD lh1_3 (Int.toNat x42_3) (0, 0)).1, iMin ((List.getD a (Int.toNat x42_3) (0, 0)).2) x7_2))
    ) none
   ) none
  ) (
   some (lh1_3)
  )
theorem f31_3_ok (m : Nat) : ∀ (fuel : Nat) (z0 : Nat) (y0 : Nat) (a : List (Int × Int)) (b : Int) (x7_2 : Int) (x41_3 : Int) (x42_3 : Int) (lh1_3 : List (Int × Int)) (o : (List (Int × Int))), f31_3 m fuel a b x7_2 x41_3 x42_3 lh1_3 = some o → ∀ Q : QP, Q (.exit 5) [(0, s0 0 a.length), (1, ii b), (7, ii x7_2), (10, s0 1 o.length)] [(1, rc encP o 0 61 2), (0, rc encP a z0 y0 2)] 2 → XL E0 60 1 fuel f31_L3 [(0, s0 0 a.length), (1, ii b), (7, ii x7_2), (10, s0 1 lh1_3.length), (40, s0 0 a.length), (41, ii x41_3), (42, ii x42_3)] [(1, rc encP lh1_3 0 61 2), (0, rc encP a z0 y0 2)] 2 Q
 | 0, z0, y0, a, b, x7_2, x41_3, x42_3, lh1_3, o, h, Q, hQ => by cases h
 | fuel + 1, z0, y0, a, b, x7_2, x41_3, x42_3, lh1_3, o, h, Q, hQ => by
  unfold f31_3 at h
  refine XL.succ E0_ok ?_
  refine qQ ?_
  refine rS 1 [(0, s0 0 a.length), (1, ii b), (7, ii x7_2), (10, s0 1 lh1_3.length), (40, s0 0 a.length), (41, ii x41_3), (42, ii x42_3), (43, .bool (decide (x42_3 < x41_3)))] ?_
  refine dQ ?_
  show XQ _ _ _ _ _ _ _ _
  refine sQ ?_
  cases b1 : (decide (x42_3 < x41_3) : Bool) with
  | true =>
   have h := cT b1 h
   refine iT (.tmp 43) ?_
   refine kQ ?_
   show XQ _ _ _ _ _ _ _ _
   refine sQ ?_
   refine XQ.block (id := 6) (by kernel_rfl) ?_
   refine qQ ?_
   refine rS 1 [(0, s0 0 a.length), (1, ii b), (7, ii x7_2), (10, s0 1 lh1_3.length), (40, s0 0 a.length), (41, ii x41_3), (42, ii x42_3), (44, ii x42_3)] ?_
   cases b2 : (inRow x42_3 a.length : Bool) with
   | false => cases (cF b2 h)
   | true =>
    have h := cT b2 h
    refine XR.rd E0_ok [0, 1, 7, 10, 40, 41, 42, 44, 45] rfl (v := pp 0 ((Int.toNat x42_3) * 2)) (v_idx (s := 2) (x := (src 60 (.tmp 40))) (y := (src 60 (.tmp 42))) (b := 0) (o := 0) (len := a.length) (cap := a.length) (ik := .i64) (i := x42_3) (off := (Int.toNat x42_3) * 2) (d := (some (path 12 45))) (by kernel_rfl) (by kernel_rfl) (by kernel_rfl) b2 (by omega)) (σ' := [(0, s0 0 a.length), (1, ii b), (7, ii x7_2), (10, s0 1 lh1_3.length), (40, s0 0 a.length), (41, ii x41_3), (42, ii x42_3), (44, ii x42_3), (45, pp 0 ((Int.toNat x42_3) * 2))]) (by kernel_rfl) ?_
    refine XR.rd E0_ok [0, 1, 7, 10, 40, 41, 42, 44, 46] rfl (v := .agg #[ii ((List.getD a (Int.toNat x42_3) (0, 0)).1), ii ((List.getD a (Int.toNat x42_3) (0, 0)).2)]) (v_loadN encP_ok (x := (src 60 (.tmp 45))) (b := 0) (off := (Int.toNat x42_3) * 2) (xs := a) (fz := z0) (e := y0) (es := 2) (d := (some (path 12 46))) (by kernel_rfl) (by kernel_rfl) (by kernel_rfl) (Int.toNat x42_3) (0, 0) (by first | rfl | omega) (row_len (inRow_toNat b2) (by simp)) rfl) (σ' := [(0, s0 0 a.length), (1, ii b), (7, ii x7_2), (10, s0 1 lh1_3.length), (40, s0 0 a.length), (41, ii x41_3), (42, ii x42_3), (44, ii x42_3), (46, .agg #[ii ((List.getD a (Int.toNat x42_3) (0, 0)).1), ii ((List.getD a (Int.toNat x42_3) (0, 0)).2)])]) (by kernel_rfl) ?_
    refine rT 3 [(0, s0 0 a.length), (1, ii b), (7, ii x7_2), (10, s0 1 lh1_3.length), (11, ii x42_3), (12, pp 2 0), (40, s0 0 a.length), (41, ii x41_3), (42, ii x42_3)] [(2, .cells [ii ((List.getD a (Int.toNat x42_3) (0, 0)).1), ii ((List.getD a (Int.toNat x42_3) (0, 0)).2)] 0 61 0), (1, rc encP lh1_3 0 61 2), (0, rc encP a z0 y0 2)] 3 ?_
    refine dQ ?_
    show XQ _ _ _ _ _ _ _ _
    refine rQ ?_
    refine rS 6 [(0, s0 0 a.length), (1, ii b), (7, ii x7_2), (10, s0 1 lh1_3.length), (40, s0 0 a.length), (41, ii x41_3), (42, ii x42_3), (47, s0 1 lh1_3.length), (48, ii x42_3), (52, ii (iMin ((List.getD a (Int.toNat x42_3) (0, 0)).2) x7_2))] ?_
    cases b3 : (inRow x42_3 lh1_3.length : Bool) with
    | false => cases (cF b3 h)
    | true =>
     have h := cT b3 h
     refine XR.rd E0_ok [0, 1, 7, 10, 40, 41, 42, 52, 53] rfl (v := pp 1 ((Int.toNat x42_3) * 2)) (v_idx (s := 2) (x := (src 60 (.tmp 47))) (y := (src 60 (.tmp 48))) (b := 1) (o := 0) (len := lh1_3.length) (cap := lh1_3.length) (ik := .i64) (i := x42_3) (off := (Int.toNat x42_3) * 2) (d := (some (path 12 53))) (by kernel_rfl) (by kernel_rfl) (by kernel_rfl) b3 (by omega)) (σ' := [(0, s0 0 a.length), (1, ii b), (7, ii x7_2), (10, s0 1 lh1_3.length), (40, s0 0 a.length), (41, ii x41_3), (42, ii x42_3), (52, ii (iMin ((List.getD a (Int.toNat x42_3) (0, 0)).2) x7_2)), (53, pp 1 ((Int.toNat x42_3) * 2))]) (by kernel_rfl) ?_
     refine rS 1 [(0, s0 0 a.length), (1, ii b), (7, ii x7_2), (10, s0 1 lh1_3.length), (40, s0 0 a.length), (41, ii x41_3), (42, ii x42_3), (52, ii (iMin ((List.getD a (Int.toNat x42_3) (0, 0)).2) x7_2)), (54, pp 1 ((Int.toNat x42_3) * 2 + 1))] ?_
     refine XR.ef E0_ok [0, 1, 7, 10, 40, 41, 42] rfl (e_store encP_ok (size := 1) (x := (src 60 (.tmp 54))) (y := (src 60 (.tmp 52))) (b := 1) (off := (Int.toNat x42_3) * 2 + 1) (xs := lh1_3) (e := 61) (es := 2) (d := none) (h' := [(2, .cells [ii ((List.getD a (Int.toNat x42_3) (0, 0)).1), ii ((List.getD a (Int.toNat x42_3) (0, 0)).2)] 0 61 0), (1, rc encP (List.set lh1_3 (Int.toNat x42_3) ((List.getD lh1_3 (Int.toNat x42_3) (0, 0)).1, iMin ((List.getD a (Int.toNat x42_3) (0, 0)).2) x7_2)) 0 61 2), (0, rc encP a z0 y0 2)]) (w := ii (iMin ((List.getD a (Int.toNat x42_3) (0, 0)).2) x7_2)) (ws := [ii (iMin ((List.getD a (Int.toNat x42_3) (0, 0)).2) x7_2)]) (a := ((List.getD lh1_3 (Int.toNat x42_3) (0, 0)).1, iMin ((List.getD a (Int.toNat x42_3) (0, 0)).2) x7_2)) (by kernel_rfl) (by kernel_rfl) (by kernel_rfl) (Int.toNat x42_3) 1 (0, 0) (by first | rfl | omega) (row_len (inRow_toNat b3) (by simp)) (by kernel_rfl) rfl rfl rfl rfl rfl (by kernel_rfl)) (σ' := [(0, s0 0 a.length), (1, ii b), (7, ii x7_2), (10, s0 1 lh1_3.length), (40, s0 0 a.length), (41, ii x41_3), (42, ii x42_3)]) (by kernel_rfl) ?_
     refine dQ ?_
     show XQ _ _ _ _ _ _ _ _
     refine rQ ?_
     refine rS 2 [(0, s0 0 a.length), (1, ii b), (7, ii x7_2), (10, s0 1 lh1_3.length), (40, s0 0 a.length), (41, ii x41_3), (42, ii (w64 (x42_3 + 1)))] ?_
     refine dQ ?_
     show XL _ _ _ _ _ _ _ _ _
     refine XL.ren (σ' := [(0, s0 0 a.length), (1, ii b), (7, ii x7_2), (10, s0 1 lh1_3.length), (40, s0 0 a.length), (41, ii x41_3), (42, ii (w64 (x42_3 + 1)))]) (h' := [(1, rc encP (List.set lh1_3 (Int.toNat x42_3) ((List.getD lh1_3 (Int.toNat x42_3) (0, 0)).1, iMin ((List.getD a (Int.toNat x42_3) (0, 0)).2) x7_2)) 0 61 2), (0, rc encP a z0 y0 2)]) (c' := 2) [0, 1] (by decide) rfl ⟨rfl, rfl, rfl, rfl, rfl, rfl, rfl, trivial⟩ ⟨⟨_, _, rfl, rfl, .inl ⟨rfl, rwP⟩⟩, ⟨_, _, rfl, rfl, .inl ⟨rfl, rwP⟩⟩, trivial⟩ rfl ?_
     refine XL.conv (f31_3_ok m fuel z0 y0 a b x7_2 x41_3 (w64 (x42_3 + 1)) (List.set lh1_3 (Int.toNat x42_3) ((List.getD lh1_3 (Int.toNat x42_3) (0, 0)).1, iMin ((List.getD a (Int.toNat x42_3) (0, 0)).2) x7_2)) o h Q hQ) (by first | rfl | simp)
  | false =>
   have h := cF b1 h
   refine iF (.tmp 43) ?_
   refine XQ.ren (σ' := [(0, s0 0 a.length), (1, ii b), (7, ii x7_2), (10, s0 1 lh1_3.length)]) (h' := [(1, rc encP lh1_3 0 61 2), (0, rc encP a z0 y0 2)]) (c' := 2) [0, 1] (by decide) rfl ⟨rfl, rfl, rfl, rfl, trivial⟩ ⟨⟨_, _, rfl, rfl, .inl ⟨rfl, rwP⟩⟩, ⟨_, _, rfl, rfl, .inl ⟨rfl, rwP⟩⟩, trivial⟩ rfl ?_
   refine XQ.exit (i := 5) (by kernel_rfl) ?_
   cases h
   exact hQ
def f31_2 (m : Nat) : Nat → List (Int × Int) → Int → Int → List (Int × Int) → Option Int
 | 0, _, _, _, _ => none
 | fuel + 1, a, b, x7_2, lh1_2 =>
  (f31_3 m m a b x7_2 ((a.length : Nat) : Int) 0 lh1_2).bind fun o3 =>
   (f58 m o3 b).bind fun r5 =>
    cond (r5) (
     some (x7_2)
    ) (
     f31_2 m fuel a b (w64 (x7_2 + 1)) o3
    )
theorem f31_2_ok (m : Nat) : ∀ (fuel : Nat) (z0 : Nat) (y0 : Nat) (a : List (Int × Int)) (b : Int) (x7_2 : Int) (lh1_2 : List (Int × Int)) (o : Int), f31_2 m fuel a b x7_2 lh1_2 = some o → ∀ Q : QP, Q .ret [(4, ii o), (5, ii 0)] [(0, rc encP a z0 y0 2)] 1 → XL E0 60 1 fuel f31_L2 [(0, s0 0 a.length), (1, ii b), (7, ii x7_2), (10, s0 1 lh1_2.length)] [(1, rc encP lh1_2 0 61 2), (0, rc encP a z0 y0 2)] 2 Q
 | 0, z0, y0, a, b, x7_2, lh1_2, o, h, Q, hQ => by cases h
 | fuel + 1, z0, y0, a, b, x7_2, lh1_2, o, h, Q, hQ => by
  unfold f31_2 at h
  refine XL.succ E0_ok ?_
  refine sQ ?_
  refine XQ.block (id := 4) (by kernel_rfl) ?_
  refine sQ ?_
  refine qQ ?_
  refine rS 3 [(0, s0 0 a.length), (1, ii b), (7, ii x7_2), (10, s0 1 lh1_2.length), (40, s0 0 a.length), (41, ii ((a.length : Nat) : Int)), (42, ii 0)] ?_
  refine dQ ?_
  show XQ _ _ _ _ _ _ _ _
  refine XQ.block (id := 5) (by kernel_rfl) ?_
  refine XQ.loop m (by kernel_rfl) ?_
  obtain ⟨o3, o3_h, h⟩ := bS h
  refine XL.ren (σ' := [(0, s0 0 a.length), (1, ii b), (7, ii x7_2), (10, s0 1 lh1_2.length), (40, s0 0 a.length), (41, ii ((a.length : Nat) : Int)), (42, ii 0)]) (h' := [(1, rc encP lh1_2 0 61 2), (0, rc encP a z0 y0 2)]) (c' := 2) [0, 1] (by decide) rfl ⟨rfl, rfl, rfl, rfl, rfl, rfl, rfl, trivial⟩ ⟨⟨_, _, rfl, rfl, .inl ⟨rfl, rwP⟩⟩, ⟨_, _, rfl, rfl, .inl ⟨rfl, rwP⟩⟩, trivial⟩ rfl ?_
  refine XL.conv (f31_3_ok m m z0 y0 a b x7_2 ((a.length : Nat) : Int) 0 lh1_2 o3 o3_h _ ?_) (by first | rfl | simp)
  show XQ _ _ _ _ _ _ _ _
  refine qQ ?_
  refine rS 2 [(0, s0 0 a.length), (1, ii b), (7, ii x7_2), (10, s0 1 o3.length), (56, s0 1 o3.length), (57, ii b)] ?_
  obtain ⟨r5, r5_h, h⟩ := bS h
  refine XR.call E0_ok [0, 1, 7, 10, 58] rfl (K := 58) (args := [s0 1 o3.length, ii b]) (d := (some (path 12 58))) (by kernel_rfl) (KQ.call (KC.quiet E0_ok (args0 := [s0 0 o3.length, ii b]) (h0 := [(0, rc encP o3 (0 + ((rowC encP o3).length + 1)) 61 2)]) (n := 1) (V := .bool r5) [1] (f58_ok m (0 + ((rowC encP o3).length + 1)) 61 o3 b r5 r5_h) rfl (by rfl) (by decide) rfl (by kernel_rfl) ⟨⟨_, _, rfl, rfl, .inl ⟨rfl, rwP⟩⟩, trivial⟩) rfl) ?_
  rintro _ _ _ ⟨rfl, rfl, rfl⟩
  refine XR.conv (σ' := [(0, s0 0 a.length), (1, ii b), (7, ii x7_2), (10, s0 1 o3.length), (58, .bool r5)]) (h' := [(1, rc encP o3 0 61 2), (0, rc encP a z0 y0 2)]) (c' := 2) ?_ (by kernel_rfl)
  refine dQ ?_
  show XQ _ _ _ _ _ _ _ _
  cases b2 : (r5 : Bool) with
  | true =>
   have h := cT b2 h
   refine iT (.tmp 58) ?_
   refine qQ ?_
   refine rS 3 [(4, ii x7_2), (5, ii 0)] ?_
   refine dQ ?_
   show XQ _ _ _ _ _ _ _ _
   refine XQ.ren (σ' := [(4, ii x7_2), (5, ii 0)]) (h' := [(0, rc encP a z0 y0 2)]) (c' := 1) [0] (by decide) rfl ⟨rfl, rfl, trivial⟩ ⟨⟨_, _, rfl, rfl, .inl ⟨rfl, rwP⟩⟩, trivial⟩ rfl ?_
   refine XQ.ret (by kernel_rfl) ?_
   cases h
   exact hQ
  | false =>
   have h := cF b2 h
   refine iF (.tmp 58) ?_
   refine kQ ?_
   show XQ _ _ _ _ _ _ _ _
   refine rQ ?_
   refine rS 3 [(0, s0 0 a.length), (1, ii b), (7, ii (w64 (x7_2 + 1))), (10, s0 1 o3.length)] ?_
   refine dQ ?_
   show XL _ _ _ _ _ _ _ _ _
   refine XL.ren (σ' := [(0, s0 0 a.length), (1, ii b), (7, ii (w64 (x7_2 + 1))), (10, s0 1 o3.length)]) (h' := [(1, rc encP o3 0 61 2), (0, rc encP a z0 y0 2)]) (c' := 2) [0, 1] (by decide) rfl ⟨rfl, rfl, rfl, rfl, trivial⟩ ⟨⟨_, _, rfl, rfl, .inl ⟨rfl, rwP⟩⟩, ⟨_, _, rfl, rfl, .inl ⟨rfl, rwP⟩⟩, trivial⟩ rfl ?_
   refine XL.conv (f31_2_ok m fuel z0 y0 a b (w64 (x7_2 + 1)) o3 o h Q hQ) (by first | rfl | simp)
def f31 (m : Nat) (a : List (Int × Int)) (b : Int) : Option (Int × Int) :=
 (f57 m a b).bind fun r1 =>
  cond (r1 != 0) (
   some (0, r1)
  ) (
   (f58 m a b).bind fun r2 =>
    cond (!r2) (
     some (0, 12)
    ) (
     (f31_1 m m a b 0 ((a.length : Nat) : Int) 0).bind fun o1 =>
      cond (fitsB a.length 16) (
       (f31_2 m m a b o1 a).bind fun o2 =>
        some (o2, 0)
      ) none
    )
  )
theorem f31_ok (m : Nat) (z0 : Nat) (y0 : Nat) (a : List (Int × Int)) (b : Int) (o : Int × Int) (h : f31 m a b = some o) : KC E0 31 [s0 0 a.length, ii b] [(0, rc encP a z0 y0 2)] 1 (fun v _ _ => v = .tuple #[ii o.1, ii o.2]) := by
 refine KC.bodyN E0_ok (F := Proofs.Try.f31) (by kernel_rfl) (code := f31_C31) (by kernel_rfl) (nt := 60) (by kernel_rfl) (rs := [.tmp 4, .tmp 5]) (by kernel_rfl) (by kernel_rfl) (σ := [(0, s0 0 a.length), (1, ii b)]) (by kernel_rfl) ?_
 unfold f31 at h
 refine qQ ?_
 refine rS 2 [(0, s0 0 a.length), (1, ii b)] ?_
 refine nQ id ?_
 refine rS 2 [(0, s0 0 a.length), (1, ii b), (13, s0 0 a.length), (14, ii b)] ?_
 obtain ⟨r1, r1_h, h⟩ := bS h
 refine XR.call E0_ok [0, 1, 15] rfl (K := 57) (args := [s0 0 a.length, ii b]) (d := (some (path 12 15))) (by kernel_rfl) (KQ.call (KC.quiet E0_ok (args0 := [s0 0 a.length, ii b]) (h0 := [(0, rc encP a (z0 + ((rowC encP a).length + 1)) y0 2)]) (n := 1) (V := ii r1) [0] (f57_ok m (z0 + ((rowC encP a).length + 1)) y0 a b r1 r1_h) rfl (by rfl) (by decide) rfl (by kernel_rfl) ⟨⟨_, _, rfl, rfl, .inl ⟨rfl, rwP⟩⟩, trivial⟩) rfl) ?_
 rintro _ _ _ ⟨rfl, rfl, rfl⟩
 refine XR.conv (σ' := [(0, s0 0 a.length), (1, ii b), (15, ii r1)]) (h' := [(0, rc encP a z0 y0 2)]) (c' := 1) ?_ (by kernel_rfl)
 refine rS 1 [(0, s0 0 a.length), (1, ii b), (6, ii r1)] ?_
 refine dQ ?_
 show XQ _ _ _ _ _ _ _ _
 refine sQ ?_
 refine XQ.block (id := 0) (by kernel_rfl) ?_
 refine qQ ?_
 refine rS 3 [(0, s0 0 a.length), (1, ii b), (6, ii r1), (16, .bool (r1 != 0))] ?_
 refine dQ ?_
 show XQ _ _ _ _ _ _ _ _
 cases b1 : (r1 != 0 : Bool) with
 | true =>
  have h := cT b1 h
  refine iT (.tmp 16) ?_
  refine qQ ?_
  refine rS 3 [(4, ii 0), (5, ii r1)] ?_
  refine dQ ?_
  show XQ _ _ _ _ _ _ _ _
  refine XQ.ret (by kernel_rfl) ?_
  have h := Option.some.inj h
  subst h
  exact ⟨fun i q => (by cases q), .tuple #[ii 0, ii r1], (by kernel_rfl), rfl⟩
 | false =>
  have h := cF b1 h
  refine iF (.tmp 16) ?_
  refine qQ ?_
  refine rS 2 [(0, s0 0 a.length), (1, ii b), (21, s0 0 a.length), (22, ii b)] ?_
  obtain ⟨r2, r2_h, h⟩ := bS h
  refine XR.call E0_ok [0, 1, 23] rfl (K := 58) (args := [s0 0 a.length, ii b]) (d := (some (path 12 23))) (by kernel_rfl) (KQ.call (KC.quiet E0_ok (args0 := [s0 0 a.length, ii b]) (h0 := [(0, rc encP a (z0 + ((rowC encP a).length + 1)) y0 2)]) (n := 1) (V := .bool r2) [0] (f58_ok m (z0 + ((rowC encP a).length + 1)) y0 a b r2 r2_h) rfl (by rfl) (by decide) rfl (by kernel_rfl) ⟨⟨_, _, rfl, rfl, .inl ⟨rfl, rwP⟩⟩, trivial⟩) rfl) ?_
  rintro _ _ _ ⟨rfl, rfl, rfl⟩
  refine XR.conv (σ' := [(0, s0 0 a.length), (1, ii b), (23, .bool r2)]) (h' := [(0, rc encP a z0 y0 2)]) (c' := 1) ?_ (by kernel_rfl)
  refine rS 2 [(0, s0 0 a.length), (1, ii b), (20, .bool (!r2))] ?_
  refine dQ ?_
  show XQ _ _ _ _ _ _ _ _
  cases b2 : (!r2 : Bool) with
  | true =>
   have h := cT b2 h
   refine iT (.tmp 20) ?_
   refine qQ ?_
   refine rS 2 [(4, ii 0), (5, ii 12)] ?_
   refine dQ ?_
   show XQ _ _ _ _ _ _ _ _
   refine XQ.ret (by kernel_rfl) ?_
   have h := Option.some.inj h
   subst h
   exact ⟨fun i q => (by cases q), .tuple #[ii 0, ii 12], (by kernel_rfl), rfl⟩
  | false =>
   have h := cF b2 h
   refine iF (.tmp 20) ?_
   refine kQ ?_
   show XQ _ _ _ _ _ _ _ _
   refine qQ ?_
   refine rS 1 [(0, s0 0 a.length), (1, ii b), (7, ii 0)] ?_
   refine dQ ?_
   show XQ _ _ _ _ _ _ _ _
   refine sQ ?_
   refine qQ ?_
   refine rS 3 [(0, s0 0 a.length), (1, ii b), (7, ii 0), (25, s0 0 a.length), (26, ii ((a.length : Nat) : Int)), (27, ii 0)] ?_
   refine dQ ?_
   show XQ _ _ _ _ _ _ _ _
   refine XQ.block (id := 1) (by kernel_rfl) ?_
   refine XQ.loop m (by kernel_rfl) ?_
   obtain ⟨o1, o1_h, h⟩ := bS h
   refine XL.ren (σ' := [(0, s0 0 a.length), (1, ii b), (7, ii 0), (25, s0 0 a.length), (26, ii ((a.length : Nat) : Int)), (27, ii 0)]) (h' := [(0, rc encP a z0 y0 2)]) (c' := 1) [0] (by decide) rfl ⟨rfl, rfl, rfl, rfl, rfl, rfl, trivial⟩ ⟨⟨_, _, rfl, rfl, .inl ⟨rfl, rwP⟩⟩, trivial⟩ rfl ?_
   refine XL.conv (f31_1_ok m m z0 y0 a b 0 ((a.length : Nat) : Int) 0 o1 o1_h _ ?_) (by first | rfl | simp)
   show XQ _ _ _ _ _ _ _ _
   refine qQ ?_
   refine rS 1 [(0, s0 0 a.length), (1, ii b), (7, ii o1), (36, s0 0 a.length)] ?_
   cases b4 : (fitsB a.length 16 : Bool) with
   | false => cases (cF b4 h)
   | true =>
    have h := cT b4 h
    refine XR.call E0_ok [0, 1, 7, 37] rfl (K := 50) (args := [s0 0 a.length]) (d := (some (path 12 37))) (by kernel_rfl) (clone50_all (xs := a) (fz := z0) (e0 := y0) (es0 := 2) (c := 1) (by kernel_rfl) (by simp) (Nat.le_refl _) b4) ?_
    rintro _ _ _ ⟨rfl, rfl, rfl⟩
    refine XR.conv (σ' := [(0, s0 0 a.length), (1, ii b), (7, ii o1), (37, s0 2 a.length)]) (h' := [(2, rc encP a 0 61 2), (0, rc encP a z0 y0 2)]) (c' := 3) ?_ (by kernel_rfl)
    refine rS 1 [(0, s0 0 a.length), (1, ii b), (7, ii o1), (10, s0 2 a.length)] ?_
    refine dQ ?_
    show XQ _ _ _ _ _ _ _ _
    refine XQ.block (id := 3) (by kernel_rfl) ?_
    refine XQ.loop m (by kernel_rfl) ?_
    obtain ⟨o2, o2_h, h⟩ := bS h
    refine XL.ren (σ' := [(0, s0 0 a.length), (1, ii b), (7, ii o1), (10, s0 1 a.length)]) (h' := [(1, rc encP a 0 61 2), (0, rc encP a z0 y0 2)]) (c' := 2) [0, 2] (by decide) rfl ⟨rfl, rfl, rfl, rfl, trivial⟩ ⟨⟨_, _, rfl, rfl, .inl ⟨rfl, rwP⟩⟩, ⟨_, _, rfl, rfl, .inl ⟨rfl, rwP⟩⟩, trivial⟩ rfl ?_
    refine XL.conv (f31_2_ok m m z0 y0 a b o1 a o2 o2_h _ ?_) (by first | rfl | simp)
    have h := Option.some.inj h
    subst h
    exact ⟨fun i q => (by cases q), .tuple #[ii o2, ii 0], (by kernel_rfl), rfl⟩
end Go.Xm
