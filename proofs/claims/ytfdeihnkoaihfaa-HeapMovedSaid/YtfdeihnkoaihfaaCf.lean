/- What these functions of the program compute, as functions in Lean, and the proofs that they do: heap.crowded, heap.Why. Conditions: none. -/
import Derived.Test.YtfdeihnkoaihfaaZx
import Derived.Test.YtfdeihnkoaihfaaBh
namespace Go.Xm
open Go.RowKit
set_option linter.unusedVariables false
set_option linter.unusedSimpArgs false
set_option maxRecDepth 20000
noncomputable def f67_C67 : Code := Proofs.Try.f67.body.getD .skip
noncomputable def f67_C92 : Code := Proofs.Try.f92.body.getD .skip
noncomputable def f67_C99 : Code := Proofs.Try.f99.body.getD .skip
noncomputable def f67_C110 : Code := Proofs.Try.f110.body.getD .skip
noncomputable def f67_L1 : Code := lft (lft (rgt (lft (rgt (rgt f67_C67)))))
noncomputable def f67_L2 : Code := lft (lft (rgt (rgt f67_C99)))
noncomputable def f67_L3 : Code := lft (lft (rgt f67_C110))
noncomputable def f67_L4 : Code := lft (lft (rgt (lft (lft (rgt f67_L3)))))
noncomputable def f67_L5 : Code := lft (lft (rgt (lft (rgt (rgt (rgt (rgt f67_C67)))))))
noncomputable def f67_L6 : Code := lft (lft (rgt (rgt (lft (lft (rgt (rgt f67_L5)))))))
def f67_1 (m : Nat) : Nat → List (Int × Int) → Int → Int → Int → List Int → Option (List Int)
 | 0, _, _, _, _, _ => none
 | fuel + 1, a, b, x13_1, x14_1, lh2_1 =>
  cond (decide (x14_1 < x13_1)) (
   cond (inRow x14_1 a.length) (
    cond (fitsB (lh2_1.length + 1) 8) (
     f67_1 m fuel a b x13_1 (w64 (x14_1 + 1)) (lh2_1 ++ [(List.getD a (Int.toNat x14_1) (0, 0)).2])
    ) none
   ) none
  ) (
   some (lh2_1)
  )
theorem f67_1_ok (m : Nat) : ∀ (fuel : Nat) (z0 : Nat) (y0 : Nat) (a : List (Int × Int)) (b : Int) (x13_1 : Int) (x14_1 : Int) (lh2_1 : List Int) (o : (List Int)), f67_1 m fuel a b x13_1 x14_1 lh2_1 = some o → ∀ Q : QP, Q (.exit 0) [(0, s0 0 a.length), (1, ii b), (4, pp 1 0), (5, s0 2 o.length)] [(2, rc (encI .i64) o 0 3 1), (1, .cells [ii 0, ii 0] 0 61 0), (0, rc encP a z0 y0 2)] 3 → XL E0 57 1 fuel f67_L1 [(0, s0 0 a.length), (1, ii b), (4, pp 1 0), (5, s0 2 lh2_1.length), (12, s0 0 a.length), (13, ii x13_1), (14, ii x14_1)] [(2, rc (encI .i64) lh2_1 0 3 1), (1, .cells [ii 0, ii 0] 0 61 0), (0, rc encP a z0 y0 2)] 3 Q
 | 0, z0, y0, a, b, x13_1, x14_1, lh2_1, o, h, Q, hQ => by cases h
 | fuel + 1, z0, y0, a, b, x13_1, x14_1, lh2_1, o, h, Q, hQ => by
  unfold f67_1 at h
  refine XL.succ E0_ok ?_
  refine qQ ?_
  refine rS 1 [(0, s0 0 a.length), (1, ii b), (4, pp 1 0), (5, s0 2 lh2_1.length), (12, s0 0 a.length), (13, ii x13_1), (14, ii x14_1), (15, .bool (decide (x14_1 < x13_1)))] ?_
  refine dQ ?_
  show XQ _ _ _ _ _ _ _ _
  refine sQ ?_
  cases b1 : (decide (x14_1 < x13_1) : Bool) with
  | true =>
   have h := cT b1 h
   refine iT (.tmp 15) ?_
   refine kQ ?_
   show XQ _ _ _ _ _ _ _ _
   refine sQ ?_
   refine XQ.block (id := 1) (by kernel_rfl) ?_
   refine qQ ?_
   cases b2 : (inRow x14_1 a.length : Bool) with
   | false => cases (cF b2 h)
   | true =>
    have h := cT b2 h
    refine XR.rd E0_ok [0, 1, 4, 5, 12, 13, 14, 16] rfl (v := pp 0 ((Int.toNat x14_1) * 2)) (v_idx (s := 2) (x := (src 57 (.tmp 12))) (y := (src 57 (.tmp 14))) (b := 0) (o := 0) (len := a.length) (cap := a.length) (ik := .i64) (i := x14_1) (off := (Int.toNat x14_1) * 2) (d := (some (path 12 16))) (by kernel_rfl) (by kernel_rfl) (by kernel_rfl) b2 (by omega)) (σ' := [(0, s0 0 a.length), (1, ii b), (4, pp 1 0), (5, s0 2 lh2_1.length), (12, s0 0 a.length), (13, ii x13_1), (14, ii x14_1), (16, pp 0 ((Int.toNat x14_1) * 2))]) (by kernel_rfl) ?_
    refine XR.rd E0_ok [0, 1, 4, 5, 12, 13, 14, 17] rfl (v := .agg #[ii ((List.getD a (Int.toNat x14_1) (0, 0)).1), ii ((List.getD a (Int.toNat x14_1) (0, 0)).2)]) (v_loadN encP_ok (x := (src 57 (.tmp 16))) (b := 0) (off := (Int.toNat x14_1) * 2) (xs := a) (fz := z0) (e := y0) (es := 2) (d := (some (path 12 17))) (by kernel_rfl) (by kernel_rfl) (by kernel_rfl) (Int.toNat x14_1) (0, 0) (by first | rfl | omega) (row_len (inRow_toNat b2) (by simp)) rfl) (σ' := [(0, s0 0 a.length), (1, ii b), (4, pp 1 0), (5, s0 2 lh2_1.length), (12, s0 0 a.length), (13, ii x13_1), (14, ii x14_1), (17, .agg #[ii ((List.getD a (Int.toNat x14_1) (0, 0)).1), ii ((List.getD a (Int.toNat x14_1) (0, 0)).2)])]) (by kernel_rfl) ?_
    refine rT 2 [(0, s0 0 a.length), (1, ii b), (4, pp 1 0), (5, s0 2 lh2_1.length), (7, pp 3 0), (12, s0 0 a.length), (13, ii x13_1), (14, ii x14_1)] [(3, .cells [ii ((List.getD a (Int.toNat x14_1) (0, 0)).1), ii ((List.getD a (Int.toNat x14_1) (0, 0)).2)] 0 61 0), (2, rc (encI .i64) lh2_1 0 3 1), (1, .cells [ii 0, ii 0] 0 61 0), (0, rc encP a z0 y0 2)] 4 ?_
    refine dQ ?_
    show XQ _ _ _ _ _ _ _ _
    refine rQ ?_
    refine rT 4 [(0, s0 0 a.length), (1, ii b), (4, pp 1 0), (12, s0 0 a.length), (13, ii x13_1), (14, ii x14_1), (18, s0 2 lh2_1.length), (21, s0 4 1)] [(4, .cells [ii ((List.getD a (Int.toNat x14_1) (0, 0)).2)] 0 3 1), (3, .cells [ii ((List.getD a (Int.toNat x14_1) (0, 0)).1), ii ((List.getD a (Int.toNat x14_1) (0, 0)).2)] 0 61 0), (2, rc (encI .i64) lh2_1 0 3 1), (1, .cells [ii 0, ii 0] 0 61 0), (0, rc encP a z0 y0 2)] 5 ?_
    cases b3 : (fitsB (lh2_1.length + 1) 8 : Bool) with
    | false => cases (cF b3 h)
    | true =>
     have h := cT b3 h
     refine XR.ef E0_ok [0, 1, 4, 12, 13, 14, 22] rfl (e_append (encI_ok .i64) (bytes := 8) (e := 3) (x := (src 57 (.tmp 18))) (y := (src 57 (.tmp 21))) (b := 2) (len := lh2_1.length) (cap := lh2_1.length) (xs := lh2_1) (m := 0) (ys := [(List.getD a (Int.toNat x14_1) (0, 0)).2]) (d := (some (path 12 22))) (n' := (lh2_1 ++ [(List.getD a (Int.toNat x14_1) (0, 0)).2]).length) (h' := [(5, rc (encI .i64) (lh2_1 ++ [(List.getD a (Int.toNat x14_1) (0, 0)).2]) 0 3 1), (4, .cells [ii ((List.getD a (Int.toNat x14_1) (0, 0)).2)] 0 3 1), (3, .cells [ii ((List.getD a (Int.toNat x14_1) (0, 0)).1), ii ((List.getD a (Int.toNat x14_1) (0, 0)).2)] 0 61 0), (1, .cells [ii 0, ii 0] 0 61 0), (0, rc encP a z0 y0 2)]) (by kernel_rfl) (by kernel_rfl) (by kernel_rfl) (by kernel_rfl) rfl (by simp) (by simp) b3 (by simp) (by kernel_rfl)) (σ' := [(0, s0 0 a.length), (1, ii b), (4, pp 1 0), (12, s0 0 a.length), (13, ii x13_1), (14, ii x14_1), (22, s0 5 ((lh2_1 ++ [(List.getD a (Int.toNat x14_1) (0, 0)).2]).length))]) (by kernel_rfl) ?_
     refine rS 1 [(0, s0 0 a.length), (1, ii b), (4, pp 1 0), (5, s0 5 ((lh2_1 ++ [(List.getD a (Int.toNat x14_1) (0, 0)).2]).length)), (12, s0 0 a.length), (13, ii x13_1), (14, ii x14_1)] ?_
     refine dQ ?_
     show XQ _ _ _ _ _ _ _ _
     refine rQ ?_
     refine rS 2 [(0, s0 0 a.length), (1, ii b), (4, pp 1 0), (5, s0 5 ((lh2_1 ++ [(List.getD a (Int.toNat x14_1) (0, 0)).2]).length)), (12, s0 0 a.length), (13, ii x13_1), (14, ii (w64 (x14_1 + 1)))] ?_
     refine dQ ?_
     show XL _ _ _ _ _ _ _ _ _
     refine XL.ren (σ' := [(0, s0 0 a.length), (1, ii b), (4, pp 1 0), (5, s0 2 ((lh2_1 ++ [(List.getD a (Int.toNat x14_1) (0, 0)).2]).length)), (12, s0 0 a.length), (13, ii x13_1), (14, ii (w64 (x14_1 + 1)))]) (h' := [(2, rc (encI .i64) (lh2_1 ++ [(List.getD a (Int.toNat x14_1) (0, 0)).2]) 0 3 1), (1, .cells [ii 0, ii 0] 0 61 0), (0, rc encP a z0 y0 2)]) (c' := 3) [0, 1, 5] (by decide) rfl ⟨rfl, rfl, rfl, rfl, rfl, rfl, rfl, trivial⟩ ⟨⟨_, _, rfl, rfl, .inl ⟨rfl, rwI⟩⟩, ⟨_, _, rfl, rfl, .inr ⟨_, _, _, _, rfl, rfl⟩⟩, ⟨_, _, rfl, rfl, .inl ⟨rfl, rwP⟩⟩, trivial⟩ rfl ?_
     refine XL.conv (f67_1_ok m fuel z0 y0 a b x13_1 (w64 (x14_1 + 1)) (lh2_1 ++ [(List.getD a (Int.toNat x14_1) (0, 0)).2]) o h Q hQ) (by first | rfl | simp)
  | false =>
   have h := cF b1 h
   refine iF (.tmp 15) ?_
   refine XQ.ren (σ' := [(0, s0 0 a.length), (1, ii b), (4, pp 1 0), (5, s0 2 lh2_1.length)]) (h' := [(2, rc (encI .i64) lh2_1 0 3 1), (1, .cells [ii 0, ii 0] 0 61 0), (0, rc encP a z0 y0 2)]) (c' := 3) [0, 1, 2] (by decide) rfl ⟨rfl, rfl, rfl, rfl, trivial⟩ ⟨⟨_, _, rfl, rfl, .inl ⟨rfl, rwI⟩⟩, ⟨_, _, rfl, rfl, .inr ⟨_, _, _, _, rfl, rfl⟩⟩, ⟨_, _, rfl, rfl, .inl ⟨rfl, rwP⟩⟩, trivial⟩ rfl ?_
   refine XQ.exit (i := 0) (by kernel_rfl) ?_
   cases h
   exact hQ
def f67_4 (m : Nat) : Nat → List (Int × Int) → Int → Int → Int → List Int → Option (List Int)
 | 0, _, _, _, _, _ => none
 | fuel + 1, a, x2_2, x6_3, x7_4, lh2_4 =>
  cond (decide (x7_4 > 0)) (
   cond (inRow x7_4 lh2_4.length) (
    cond (inRow (w64 (x7_4 - 1)) lh2_4.length) (
     (f116 m (List.getD lh2_4 (Int.toNat x7_4) 0) (List.getD lh2_4 (Int.toNat (w64 (x7_4 - 1))) 0)).bind fun r19 =>
      cond (r19) (
       f67_4 m fuel a x2_2 x6_3 (w64 (x7_4 - 1)) (List.set (List.set lh2_4 (Int.toNat x7_4) (List.getD lh2_4 (Int.toNat (w64 (x7_4 - 1))) 0)) (Int.toNat (w64 (x7_4 - 1))) (List.getD lh2_4 (Int.toNat x7_4) 0))
      ) (
       some (lh2_4)
      )
    ) none
   ) none
  ) (
   some (lh2_4)
  )
theorem f67_4_ok (m : Nat) : ∀ (fuel : Nat) (z0 : Nat) (y0 : Nat) (a : List (Int × Int)) (x2_2 : Int) (x6_3 : Int) (x7_4 : Int) (lh2_4 : List Int) (o : (List Int)), f67_4 m fuel a x2_2 x6_3 x7_4 lh2_4 = some o → ∀ Q : QP, Q (.exit 2) [(0, s0 2 o.length), (1, ii 0), (2, ii x2_2), (6, ii x6_3)] [(2, rc (encI .i64) o 0 3 1), (1, .cells [ii 0, ii 0] 0 61 0), (0, rc encP a z0 y0 2)] 3 → XL E0 49 3 fuel f67_L4 [(0, s0 2 lh2_4.length), (1, ii 0), (2, ii x2_2), (6, ii x6_3), (7, ii x7_4)] [(2, rc (encI .i64) lh2_4 0 3 1), (1, .cells [ii 0, ii 0] 0 61 0), (0, rc encP a z0 y0 2)] 3 Q
 | 0, z0, y0, a, x2_2, x6_3, x7_4, lh2_4, o, h, Q, hQ => by cases h
 | fuel + 1, z0, y0, a, x2_2, x6_3, x7_4, lh2_4, o, h, Q, hQ => by
  unfold f67_4 at h
  refine XL.succ E0_ok ?_
  refine sQ ?_
  refine sQ ?_
  refine XQ.quiet E0_ok (by kernel_rfl) (by kernel_rfl) ?_
  refine XU.run E0_ok 1 4 [0, 1, 2, 6, 7, 19] rfl (σ' := [(0, s0 2 lh2_4.length), (1, ii 0), (2, ii x2_2), (6, ii x6_3), (7, ii x7_4), (19, .bool (decide (x7_4 > 0)))]) (by kernel_rfl) ?_
  cases b1 : (decide (x7_4 > 0) : Bool) with
  | true =>
   have h := cT b1 h
   refine XU.run E0_ok 1 2 [0, 1, 2, 6, 7, 19, 20, 21] rfl (σ' := [(0, s0 2 lh2_4.length), (1, ii 0), (2, ii x2_2), (6, ii x6_3), (7, ii x7_4), (19, .bool true), (20, s0 2 lh2_4.length), (21, ii x7_4)]) (by kernel_rfl) ?_
   cases b2 : (inRow x7_4 lh2_4.length : Bool) with
   | false => cases (cF b2 h)
   | true =>
    have h := cT b2 h
    refine XU.rd E0_ok [0, 1, 2, 6, 7, 19, 22] rfl (v := pp 2 ((Int.toNat x7_4) * 1)) (v_idx (s := 1) (x := (src 49 (.tmp 20))) (y := (src 49 (.tmp 21))) (b := 2) (o := 0) (len := lh2_4.length) (cap := lh2_4.length) (ik := .i64) (i := x7_4) (off := (Int.toNat x7_4) * 1) (d := (some (path 12 22))) (by kernel_rfl) (by kernel_rfl) (by kernel_rfl) b2 (by omega)) (σ' := [(0, s0 2 lh2_4.length), (1, ii 0), (2, ii x2_2), (6, ii x6_3), (7, ii x7_4), (19, .bool true), (22, pp 2 ((Int.toNat x7_4) * 1))]) (by kernel_rfl) ?_
    refine XU.rd E0_ok [0, 1, 2, 6, 7, 19, 23] rfl (v := ii (List.getD lh2_4 (Int.toNat x7_4) 0)) (v_load1 (encI_ok .i64) (x := (src 49 (.tmp 22))) (b := 2) (off := (Int.toNat x7_4) * 1) (xs := lh2_4) (fz := 0) (e := 3) (es := 1) (d := (some (path 12 23))) (by kernel_rfl) (by kernel_rfl) (by kernel_rfl) (Int.toNat x7_4) 0 0 (by first | rfl | omega) (row_len (inRow_toNat b2) (by simp)) rfl rfl) (σ' := [(0, s0 2 lh2_4.length), (1, ii 0), (2, ii x2_2), (6, ii x6_3), (7, ii x7_4), (19, .bool true), (23, ii (List.getD lh2_4 (Int.toNat x7_4) 0))]) (by kernel_rfl) ?_
    refine XU.run E0_ok 1 3 [0, 1, 2, 6, 7, 19, 23, 24, 26] rfl (σ' := [(0, s0 2 lh2_4.length), (1, ii 0), (2, ii x2_2), (6, ii x6_3), (7, ii x7_4), (19, .bool true), (23, ii (List.getD lh2_4 (Int.toNat x7_4) 0)), (24, s0 2 lh2_4.length), (26, ii (w64 (x7_4 - 1)))]) (by kernel_rfl) ?_
    cases b3 : (inRow (w64 (x7_4 - 1)) lh2_4.length : Bool) with
    | false => cases (cF b3 h)
    | true =>
     have h := cT b3 h
     refine XU.rd E0_ok [0, 1, 2, 6, 7, 19, 23, 27] rfl (v := pp 2 ((Int.toNat (w64 (x7_4 - 1))) * 1)) (v_idx (s := 1) (x := (src 49 (.tmp 24))) (y := (src 49 (.tmp 26))) (b := 2) (o := 0) (len := lh2_4.length) (cap := lh2_4.length) (ik := .i64) (i := w64 (x7_4 - 1)) (off := (Int.toNat (w64 (x7_4 - 1))) * 1) (d := (some (path 12 27))) (by kernel_rfl) (by kernel_rfl) (by kernel_rfl) b3 (by omega)) (σ' := [(0, s0 2 lh2_4.length), (1, ii 0), (2, ii x2_2), (6, ii x6_3), (7, ii x7_4), (19, .bool true), (23, ii (List.getD lh2_4 (Int.toNat x7_4) 0)), (27, pp 2 ((Int.toNat (w64 (x7_4 - 1))) * 1))]) (by kernel_rfl) ?_
     refine XU.rd E0_ok [0, 1, 2, 6, 7, 19, 23, 28] rfl (v := ii (List.getD lh2_4 (Int.toNat (w64 (x7_4 - 1))) 0)) (v_load1 (encI_ok .i64) (x := (src 49 (.tmp 27))) (b := 2) (off := (Int.toNat (w64 (x7_4 - 1))) * 1) (xs := lh2_4) (fz := 0) (e := 3) (es := 1) (d := (some (path 12 28))) (by kernel_rfl) (by kernel_rfl) (by kernel_rfl) (Int.toNat (w64 (x7_4 - 1))) 0 0 (by first | rfl | omega) (row_len (inRow_toNat b3) (by simp)) rfl rfl) (σ' := [(0, s0 2 lh2_4.length), (1, ii 0), (2, ii x2_2), (6, ii x6_3), (7, ii x7_4), (19, .bool true), (23, ii (List.getD lh2_4 (Int.toNat x7_4) 0)), (28, ii (List.getD lh2_4 (Int.toNat (w64 (x7_4 - 1))) 0))]) (by kernel_rfl) ?_
     obtain ⟨r19, r19_h, h⟩ := bS h
     refine XU.call E0_ok [0, 1, 2, 6, 7, 19, 29] rfl (K := 116) (F := Proofs.Try.f116) (args := [ii (List.getD lh2_4 (Int.toNat x7_4) 0), ii (List.getD lh2_4 (Int.toNat (w64 (x7_4 - 1))) 0)]) (d := (some (path 12 29))) (v := .bool r19) (by kernel_rfl) (by kernel_rfl) rfl rfl (fun w hI => f116_ok m (List.getD lh2_4 (Int.toNat x7_4) 0) (List.getD lh2_4 (Int.toNat (w64 (x7_4 - 1))) 0) r19 r19_h w hI) (σ' := [(0, s0 2 lh2_4.length), (1, ii 0), (2, ii x2_2), (6, ii x6_3), (7, ii x7_4), (19, .bool true), (29, .bool r19)]) (by kernel_rfl) ?_
     refine XU.run E0_ok 1 1 [0, 1, 2, 6, 7, 30] rfl (σ' := [(0, s0 2 lh2_4.length), (1, ii 0), (2, ii x2_2), (6, ii x6_3), (7, ii x7_4), (30, .bool r19)]) (by kernel_rfl) ?_
     refine XU.done (by kernel_rfl) ?_
     show XQ _ _ _ _ _ _ _ _
     cases b4 : (r19 : Bool) with
     | true =>
      have h := cT b4 h
      refine iT (.tmp 30) ?_
      refine kQ ?_
      show XQ _ _ _ _ _ _ _ _
      refine sQ ?_
      refine XQ.block (id := 3) (by kernel_rfl) ?_
      refine XQ.preP E0_ok [2, 3, 4] [0, 1, 5, 6, 7, 8, 9, 10, 11, 12, 13, 14] 15 [16, 17] (by kernel_rfl) (by kernel_rfl) (by kernel_rfl) ?_
      refine XP.step E0_ok 3 [0, 1, 2, 6, 7, 35, 37] rfl (σ' := [(0, s0 2 lh2_4.length), (1, ii 0), (2, ii x2_2), (6, ii x6_3), (7, ii x7_4), (35, s0 2 lh2_4.length), (37, ii (w64 (x7_4 - 1)))]) (by kernel_rfl) ?_
      refine XP.done (by kernel_rfl) ?_
      show XS _ _ _ _ _ _ _ _ _ _
      refine XS.step E0_ok 5 rfl [0, 1, 2, 6, 7, 33, 34, 35, 37, 38, 40] rfl (σ' := [(0, s0 2 lh2_4.length), (1, ii 0), (2, ii x2_2), (6, ii x6_3), (7, ii x7_4), (33, s0 2 lh2_4.length), (34, ii x7_4), (35, s0 2 lh2_4.length), (37, ii (w64 (x7_4 - 1))), (38, s0 2 lh2_4.length), (40, ii (w64 (x7_4 - 1)))]) (by kernel_rfl) ?_
      refine XS.rd E0_ok rfl [0, 1, 2, 6, 7, 33, 34, 35, 37, 41] rfl (v := pp 2 ((Int.toNat (w64 (x7_4 - 1))) * 1)) (v_idx (s := 1) (x := (src 49 (.tmp 38))) (y := (src 49 (.tmp 40))) (b := 2) (o := 0) (len := lh2_4.length) (cap := lh2_4.length) (ik := .i64) (i := w64 (x7_4 - 1)) (off := (Int.toNat (w64 (x7_4 - 1))) * 1) (d := (some (path 12 41))) (by kernel_rfl) (by kernel_rfl) (by kernel_rfl) b3 (by omega)) (σ' := [(0, s0 2 lh2_4.length), (1, ii 0), (2, ii x2_2), (6, ii x6_3), (7, ii x7_4), (33, s0 2 lh2_4.length), (34, ii x7_4), (35, s0 2 lh2_4.length), (37, ii (w64 (x7_4 - 1))), (41, pp 2 ((Int.toNat (w64 (x7_4 - 1))) * 1))]) (by kernel_rfl) ?_
      refine XS.rd E0_ok rfl [0, 1, 2, 6, 7, 33, 34, 35, 37, 42] rfl (v := ii (List.getD lh2_4 (Int.toNat (w64 (x7_4 - 1))) 0)) (v_load1 (encI_ok .i64) (x := (src 49 (.tmp 41))) (b := 2) (off := (Int.toNat (w64 (x7_4 - 1))) * 1) (xs := lh2_4) (fz := 0) (e := 3) (es := 1) (d := (some (path 12 42))) (by kernel_rfl) (by kernel_rfl) (by kernel_rfl) (Int.toNat (w64 (x7_4 - 1))) 0 0 (by first | rfl | omega) (row_len (inRow_toNat b3) (by simp)) rfl rfl) (σ' := [(0, s0 2 lh2_4.length), (1, ii 0), (2, ii x2_2), (6, ii x6_3), (7, ii x7_4), (33, s0 2 lh2_4.length), (34, ii x7_4), (35, s0 2 lh2_4.length), (37, ii (w64 (x7_4 - 1))), (42, ii (List.getD lh2_4 (Int.toNat (w64 (x7_4 - 1))) 0))]) (by kernel_rfl) ?_
      refine XS.step E0_ok 2 rfl [0, 1, 2, 6, 7, 33, 34, 35, 37, 42, 43, 44] rfl (σ' := [(0, s0 2 lh2_4.length), (1, ii 0), (2, ii x2_2), (6, ii x6_3), (7, ii x7_4), (33, s0 2 lh2_4.length), (34, ii x7_4), (35, s0 2 lh2_4.length), (37, ii (w64 (x7_4 - 1))), (42, ii (List.getD lh2_4 (Int.toNat (w64 (x7_4 - 1))) 0)), (43, s0 2 lh2_4.length), (44, ii x7_4)]) (by kernel_rfl) ?_
      refine XS.rd E0_ok rfl [0, 1, 2, 6, 7, 33, 34, 35, 37, 42, 45] rfl (v := pp 2 ((Int.toNat x7_4) * 1)) (v_idx (s := 1) (x := (src 49 (.tmp 43))) (y := (src 49 (.tmp 44))) (b := 2) (o := 0) (len := lh2_4.length) (cap := lh2_4.length) (ik := .i64) (i := x7_4) (off := (Int.toNat x7_4) * 1) (d := (some (path 12 45))) (by kernel_rfl) (by kernel_rfl) (by kernel_rfl) b2 (by omega)) (σ' := [(0, s0 2 lh2_4.length), (1, ii 0), (2, ii x2_2), (6, ii x6_3), (7, ii x7_4), (33, s0 2 lh2_4.length), (34, ii x7_4), (35, s0 2 lh2_4.length), (37, ii (w64 (x7_4 - 1))), (42, ii (List.getD lh2_4 (Int.toNat (w64 (x7_4 - 1))) 0)), (45, pp 2 ((Int.toNat x7_4) * 1))]) (by kernel_rfl) ?_
      refine XS.rd E0_ok rfl [0, 1, 2, 6, 7, 33, 34, 35, 37, 42, 46] rfl (v := ii (List.getD lh2_4 (Int.toNat x7_4) 0)) (v_load1 (encI_ok .i64) (x := (src 49 (.tmp 45))) (b := 2) (off := (Int.toNat x7_4) * 1) (xs := lh2_4) (fz := 0) (e := 3) (es := 1) (d := (some (path 12 46))) (by kernel_rfl) (by kernel_rfl) (by kernel_rfl) (Int.toNat x7_4) 0 0 (by first | rfl | omega) (row_len (inRow_toNat b2) (by simp)) rfl rfl) (σ' := [(0, s0 2 lh2_4.length), (1, ii 0), (2, ii x2_2), (6, ii x6_3), (7, ii x7_4), (33, s0 2 lh2_4.length), (34, ii x7_4), (35, s0 2 lh2_4.length), (37, ii (w64 (x7_4 - 1))), (42, ii (List.getD lh2_4 (Int.toNat (w64 (x7_4 - 1))) 0)), (46, ii (List.getD lh2_4 (Int.toNat x7_4) 0))]) (by kernel_rfl) ?_
      refine XS.rd E0_ok rfl [0, 1, 2, 6, 7, 35, 37, 42, 46, 47] rfl (v := pp 2 ((Int.toNat x7_4) * 1)) (v_idx (s := 1) (x := (src 49 (.tmp 33))) (y := (src 49 (.tmp 34))) (b := 2) (o := 0) (len := lh2_4.length) (cap := lh2_4.length) (ik := .i64) (i := x7_4) (off := (Int.toNat x7_4) * 1) (d := (some (path 12 47))) (by kernel_rfl) (by kernel_rfl) (by kernel_rfl) b2 (by omega)) (σ' := [(0, s0 2 lh2_4.length), (1, ii 0), (2, ii x2_2), (6, ii x6_3), (7, ii x7_4), (35, s0 2 lh2_4.length), (37, ii (w64 (x7_4 - 1))), (42, ii (List.getD lh2_4 (Int.toNat (w64 (x7_4 - 1))) 0)), (46, ii (List.getD lh2_4 (Int.toNat x7_4) 0)), (47, pp 2 ((Int.toNat x7_4) * 1))]) (by kernel_rfl) ?_
      refine XS.done (by kernel_rfl) ?_
      refine XR.ef E0_ok [0, 1, 2, 6, 7, 35, 37, 46] rfl (e_store (encI_ok .i64) (size := 1) (x := (src 49 (.tmp 47))) (y := (src 49 (.tmp 42))) (b := 2) (off := (Int.toNat x7_4) * 1) (xs := lh2_4) (e := 3) (es := 1) (d := none) (h' := [(2, rc (encI .i64) (List.set lh2_4 (Int.toNat x7_4) (List.getD lh2_4 (Int.toNat (w64 (x7_4 - 1))) 0)) 0 3 1), (1, .cells [ii 0, ii 0] 0 61 0), (0, rc encP a z0 y0 2)]) (w := ii (List.getD lh2_4 (Int.toNat (w64 (x7_4 - 1))) 0)) (ws := [ii (List.getD lh2_4 (Int.toNat (w64 (x7_4 - 1))) 0)]) (a := List.getD lh2_4 (Int.toNat (w64 (x7_4 - 1))) 0) (by kernel_rfl) (by kernel_rfl) (by kernel_rfl) (Int.toNat x7_4) 0 0 (by first | rfl | omega) (row_len (inRow_toNat b2) (by simp)) (by kernel_rfl) rfl rfl rfl rfl rfl (by kernel_rfl)) (σ' := [(0, s0 2 lh2_4.length), (1, ii 0), (2, ii x2_2), (6, ii x6_3), (7, ii x7_4), (35, s0 2 lh2_4.length), (37, ii (w64 (x7_4 - 1))), (46, ii (List.getD lh2_4 (Int.toNat x7_4) 0))]) (by kernel_rfl) ?_
      refine XR.rd E0_ok [0, 1, 2, 6, 7, 46, 48] rfl (v := pp 2 ((Int.toNat (w64 (x7_4 - 1))) * 1)) (v_idx (s := 1) (x := (src 49 (.tmp 35))) (y := (src 49 (.tmp 37))) (b := 2) (o := 0) (len := lh2_4.length) (cap := lh2_4.length) (ik := .i64) (i := w64 (x7_4 - 1)) (off := (Int.toNat (w64 (x7_4 - 1))) * 1) (d := (some (path 12 48))) (by kernel_rfl) (by kernel_rfl) (by kernel_rfl) b3 (by omega)) (σ' := [(0, s0 2 lh2_4.length), (1, ii 0), (2, ii x2_2), (6, ii x6_3), (7, ii x7_4), (46, ii (List.getD lh2_4 (Int.toNat x7_4) 0)), (48, pp 2 ((Int.toNat (w64 (x7_4 - 1))) * 1))]) (by kernel_rfl) ?_
      refine XR.ef E0_ok [0, 1, 2, 6, 7] rfl (e_store (encI_ok .i64) (size := 1) (x := (src 49 (.tmp 48))) (y := (src 49 (.tmp 46))) (b := 2) (off := (Int.toNat (w64 (x7_4 - 1))) * 1) (xs := List.set lh2_4 (Int.toNat x7_4) (List.getD lh2_4 (Int.toNat (w64 (x7_4 - 1))) 0)) (e := 3) (es := 1) (d := none) (h' := [(2, rc (encI .i64) (List.set (List.set lh2_4 (Int.toNat x7_4) (List.getD lh2_4 (Int.toNat (w64 (x7_4 - 1))) 0)) (Int.toNat (w64 (x7_4 - 1))) (List.getD lh2_4 (Int.toNat x7_4) 0)) 0 3 1), (1, .cells [ii 0, ii 0] 0 61 0), (0, rc encP a z0 y0 2)]) (w := ii (List.getD lh2_4 (Int.toNat x7_4) 0)) (ws := [ii (List.getD lh2_4 (Int.toNat x7_4) 0)]) (a := List.getD lh2_4 (Int.toNat x7_4) 0) (by kernel_rfl) (by kernel_rfl) (by kernel_rfl) (Int.toNat (w64 (x7_4 - 1))) 0 0 (by first | rfl | omega) (row_len (inRow_toNat b3) (by simp)) (by kernel_rfl) rfl rfl rfl rfl rfl (by kernel_rfl)) (σ' := [(0, s0 2 lh2_4.length), (1, ii 0), (2, ii x2_2), (6, ii x6_3), (7, ii x7_4)]) (by kernel_rfl) ?_
      refine dQ ?_
      show XQ _ _ _ _ _ _ _ _
      refine rQ ?_
      refine rS 3 [(0, s0 2 lh2_4.length), (1, ii 0), (2, ii x2_2), (6, ii x6_3), (7, ii (w64 (x7_4 - 1)))] ?_
      refine dQ ?_
      show XL _ _ _ _ _ _ _ _ _
      refine XL.ren (σ' := [(0, s0 2 lh2_4.length), (1, ii 0), (2, ii x2_2), (6, ii x6_3), (7, ii (w64 (x7_4 - 1)))]) (h' := [(2, rc (encI .i64) (List.set (List.set lh2_4 (Int.toNat x7_4) (List.getD lh2_4 (Int.toNat (w64 (x7_4 - 1))) 0)) (Int.toNat (w64 (x7_4 - 1))) (List.getD lh2_4 (Int.toNat x7_4) 0)) 0 3 1), (1, .cells [ii 0, ii 0] 0 61 0), (0, rc encP a z0 y0 2)]) (c' := 3) [0, 1, 2] (by decide) rfl ⟨rfl, rfl, rfl, rfl, rfl, trivial⟩ ⟨⟨_, _, rfl, rfl, .inl ⟨rfl, rwI⟩⟩, ⟨_, _, rfl, rfl, .inr ⟨_, _, _, _, rfl, rfl⟩⟩, ⟨_, _, rfl, rfl, .inl ⟨rfl, rwP⟩⟩, trivial⟩ rfl ?_
      refine XL.conv (f67_4_ok m fuel z0 y0 a x2_2 x6_3 (w64 (x7_4 - 1)) (List.set (List.set lh2_4 (Int.toNat x7_4) (List.getD lh2_4 (Int.toNat (w64 (x7_4 - 1))) 0)) (Int.toNat (w64 (x7_4 - 1))) (List.getD lh2_4 (Int.toNat x7_4) 0)) o h Q hQ) (by first | rfl | simp)
     | false =>
      have h := cF b4 h
      refine iF (.tmp 30) ?_
      refine XQ.ren (σ' := [(0, s0 2 lh2_4.length), (1, ii 0), (2, ii x2_2), (6, ii x6_3)]) (h' := [(2, rc (encI .i64) lh2_4 0 3 1), (1, .cells [ii 0, ii 0] 0 61 0), (0, rc encP a z0 y0 2)]) (c' := 3) [0, 1, 2] (by decide) rfl ⟨rfl, rfl, rfl, rfl, trivial⟩ ⟨⟨_, _, rfl, rfl, .inl ⟨rfl, rwI⟩⟩, ⟨_, _, rfl, rfl, .inr ⟨_, _, _, _, rfl, rfl⟩⟩, ⟨_, _, rfl, rfl, .inl ⟨rfl, rwP⟩⟩, trivial⟩ rfl ?_
      refine XQ.exit (i := 2) (by kernel_rfl) ?_
      cases h
      exact hQ
  | false =>
   have h := cF b1 h
   refine XU.run E0_ok 1 11 [0, 1, 2, 6, 7, 30] rfl (σ' := [(0, s0 2 lh2_4.length), (1, ii 0), (2, ii x2_2), (6, ii x6_3), (7, ii x7_4), (30, .bool false)]) (by kernel_rfl) ?_
   refine XU.done (by kernel_rfl) ?_
   show XQ _ _ _ _ _ _ _ _
   refine iF (.tmp 30) ?_
   refine XQ.ren (σ' := [(0, s0 2 lh2_4.length), (1, ii 0), (2, ii x2_2), (6, ii x6_3)]) (h' := [(2, rc (encI .i64) lh2_4 0 3 1), (1, .cells [ii 0, ii 0] 0 61 0), (0, rc encP a z0 y0 2)]) (c' := 3) [0, 1, 2] (by decide) rfl ⟨rfl, rfl, rfl, rfl, trivial⟩ ⟨⟨_, _, rfl, rfl, .inl ⟨rfl, rwI⟩⟩, ⟨_, _, rfl, rfl, .inr ⟨_, _, _, _, rfl, rfl⟩⟩, ⟨_, _, rfl, rfl, .inl ⟨rfl, rwP⟩⟩, trivial⟩ rfl ?_
   refine XQ.exit (i := 2) (by kernel_rfl) ?_
   cases h
   exact hQ
def f67_3 (m : Nat) : Nat → List (Int × Int) → Int → Int → List Int → Option (List Int)
 | 0, _, _, _, _ => none
 | fuel + 1, a, x2_2, x6_3, lh2_3 =>
  cond (decide (x6_3 < x2_2)) (
   (f67_4 m m a x2_2 x6_3 x6_3 lh2_3).bind fun o4 =>
    f67_3 m fuel a x2_2 (w64 (x6_3 + 1)) o4
  ) (
   some (lh2_3)
  )
theorem f67_3_ok (m : Nat) : ∀ (fuel : Nat) (z0 : Nat) (y0 : Nat) (a : List (Int × Int)) (x2_2 : Int) (x6_3 : Int) (lh2_3 : List Int) (o : (List Int)), f67_3 m fuel a x2_2 x6_3 lh2_3 = some o → ∀ Q : QP, Q (.exit 0) [] [(2, rc (encI .i64) o 0 3 1), (1, .cells [ii 0, ii 0] 0 61 0), (0, rc encP a z0 y0 2)] 3 → XL E0 49 3 fuel f67_L3 [(0, s0 2 lh2_3.length), (1, ii 0), (2, ii x2_2), (6, ii x6_3)] [(2, rc (encI .i64) lh2_3 0 3 1), (1, .cells [ii 0, ii 0] 0 61 0), (0, rc encP a z0 y0 2)] 3 Q
 | 0, z0, y0, a, x2_2, x6_3, lh2_3, o, h, Q, hQ => by cases h
 | fuel + 1, z0, y0, a, x2_2, x6_3, lh2_3, o, h, Q, hQ => by
  unfold f67_3 at h
  refine XL.succ E0_ok ?_
  refine sQ ?_
  refine qQ ?_
  refine rS 3 [(0, s0 2 lh2_3.length), (1, ii 0), (2, ii x2_2), (6, ii x6_3), (12, .bool (decide (x6_3 < x2_2)))] ?_
  refine dQ ?_
  show XQ _ _ _ _ _ _ _ _
  cases b1 : (decide (x6_3 < x2_2) : Bool) with
  | true =>
   have h := cT b1 h
   refine iT (.tmp 12) ?_
   refine kQ ?_
   show XQ _ _ _ _ _ _ _ _
   refine sQ ?_
   refine XQ.block (id := 1) (by kernel_rfl) ?_
   refine qQ ?_
   refine rS 2 [(0, s0 2 lh2_3.length), (1, ii 0), (2, ii x2_2), (6, ii x6_3), (7, ii x6_3)] ?_
   refine dQ ?_
   show XQ _ _ _ _ _ _ _ _
   refine XQ.block (id := 2) (by kernel_rfl) ?_
   refine XQ.loop m (by kernel_rfl) ?_
   obtain ⟨o4, o4_h, h⟩ := bS h
   refine XL.ren (σ' := [(0, s0 2 lh2_3.length), (1, ii 0), (2, ii x2_2), (6, ii x6_3), (7, ii x6_3)]) (h' := [(2, rc (encI .i64) lh2_3 0 3 1), (1, .cells [ii 0, ii 0] 0 61 0), (0, rc encP a z0 y0 2)]) (c' := 3) [0, 1, 2] (by decide) rfl ⟨rfl, rfl, rfl, rfl, rfl, trivial⟩ ⟨⟨_, _, rfl, rfl, .inl ⟨rfl, rwI⟩⟩, ⟨_, _, rfl, rfl, .inr ⟨_, _, _, _, rfl, rfl⟩⟩, ⟨_, _, rfl, rfl, .inl ⟨rfl, rwP⟩⟩, trivial⟩ rfl ?_
   refine XL.conv (f67_4_ok m m z0 y0 a x2_2 x6_3 x6_3 lh2_3 o4 o4_h _ ?_) (by first | rfl | simp)
   show XQ _ _ _ _ _ _ _ _
   refine rQ ?_
   refine rS 3 [(0, s0 2 o4.length), (1, ii 0), (2, ii x2_2), (6, ii (w64 (x6_3 + 1)))] ?_
   refine dQ ?_
   show XL _ _ _ _ _ _ _ _ _
   refine XL.ren (σ' := [(0, s0 2 o4.length), (1, ii 0), (2, ii x2_2), (6, ii (w64 (x6_3 + 1)))]) (h' := [(2, rc (encI .i64) o4 0 3 1), (1, .cells [ii 0, ii 0] 0 61 0), (0, rc encP a z0 y0 2)]) (c' := 3) [0, 1, 2] (by decide) rfl ⟨rfl, rfl, rfl, rfl, trivial⟩ ⟨⟨_, _, rfl, rfl, .inl ⟨rfl, rwI⟩⟩, ⟨_, _, rfl, rfl, .inr ⟨_, _, _, _, rfl, rfl⟩⟩, ⟨_, _, rfl, rfl, .inl ⟨rfl, rwP⟩⟩, trivial⟩ rfl ?_
   refine XL.conv (f67_3_ok m fuel z0 y0 a x2_2 (w64 (x6_3 + 1)) o4 o h Q hQ) (by first | rfl | simp)
  | false =>
   have h := cF b1 h
   refine iF (.tmp 12) ?_
   refine XQ.ren (σ' := []) (h' := [(2, rc (encI .i64) lh2_3 0 3 1), (1, .cells [ii 0, ii 0] 0 61 0), (0, rc encP a z0 y0 2)]) (c' := 3) [0, 1, 2] (by decide) rfl trivial ⟨⟨_, _, rfl, rfl, .inl ⟨rfl, rwI⟩⟩, ⟨_, _, rfl, rfl, .inr ⟨_, _, _, _, rfl, rfl⟩⟩, ⟨_, _, rfl, rfl, .inl ⟨rfl, rwP⟩⟩, trivial⟩ rfl ?_
   refine XQ.exit (i := 0) (by kernel_rfl) ?_
   cases h
   exact hQ
def f67_2 (m : Nat) : Nat → List (Int × Int) → (List Int) → Int → Int → Option (List Int)
 | 0, _, _, _, _ => none
 | fuel + 1, a, o1, x2_2, x3_2 =>
  cond (decide ((w64 (x2_2 - 0)) ≤ 12)) (
   (f67_3 m m a x2_2 1 o1).bind fun o3 =>
    some (o3)
  ) none
theorem f67_2_ok (m : Nat) : ∀ (fuel : Nat) (z0 : Nat) (y0 : Nat) (a : List (Int × Int)) (o1 : (List Int)) (x2_2 : Int) (x3_2 : Int) (o : (List Int)), f67_2 m fuel a o1 x2_2 x3_2 = some o → ∀ Q : QP, Q .ret [] [(2, rc (encI .i64) o 0 3 1), (1, .cells [ii 0, ii 0] 0 61 0), (0, rc encP a z0 y0 2)] 3 → XL E0 134 3 fuel f67_L2 [(0, s0 2 o1.length), (1, ii 0), (2, ii x2_2), (3, ii x3_2), (8, .bool true), (9, .bool true)] [(2, rc (encI .i64) o1 0 3 1), (1, .cells [ii 0, ii 0] 0 61 0), (0, rc encP a z0 y0 2)] 3 Q
 | 0, z0, y0, a, o1, x2_2, x3_2, o, h, Q, hQ => by cases h
 | fuel + 1, z0, y0, a, o1, x2_2, x3_2, o, h, Q, hQ => by
  unfold f67_2 at h
  refine XL.succ E0_ok ?_
  refine XQ.block (id := 1) (by kernel_rfl) ?_
  refine qQ ?_
  refine rS 4 [(0, s0 2 o1.length), (1, ii 0), (2, ii x2_2), (3, ii x3_2), (8, .bool true), (9, .bool true), (10, ii (w64 (x2_2 - 0)))] ?_
  refine dQ ?_
  show XQ _ _ _ _ _ _ _ _
  refine sQ ?_
  refine qQ ?_
  refine rS 2 [(0, s0 2 o1.length), (1, ii 0), (2, ii x2_2), (3, ii x3_2), (8, .bool true), (9, .bool true), (10, ii (w64 (x2_2 - 0))), (23, .bool (decide ((w64 (x2_2 - 0)) ≤ 12)))] ?_
  refine dQ ?_
  show XQ _ _ _ _ _ _ _ _
  cases b1 : (decide ((w64 (x2_2 - 0)) ≤ 12) : Bool) with
  | false => cases (cF b1 h)
  | true =>
   have h := cT b1 h
   refine iT (.tmp 23) ?_
   refine qQ ?_
   refine rS 3 [(24, s0 2 o1.length), (25, ii 0), (26, ii x2_2)] ?_
   refine XR.callK E0_ok [] rfl (K := 110) (args := [s0 2 o1.length, ii 0, ii x2_2]) (d := (some (path 12 27))) (by kernel_rfl) ?_
   refine KC.bodyN E0_ok (F := Proofs.Try.f110) (by kernel_rfl) (code := f67_C110) (by kernel_rfl) (nt := 49) (by kernel_rfl) (rs := []) (by kernel_rfl) (by kernel_rfl) (σ := [(0, s0 2 o1.length), (1, ii 0), (2, ii x2_2)]) (by kernel_rfl) ?_
   refine qQ ?_
   refine rS 3 [(0, s0 2 o1.length), (1, ii 0), (2, ii x2_2), (6, ii 1)] ?_
   refine dQ ?_
   show XQ _ _ _ _ _ _ _ _
   refine XQ.block (id := 0) (by kernel_rfl) ?_
   refine XQ.loop m (by kernel_rfl) ?_
   obtain ⟨o3, o3_h, h⟩ := bS h
   refine XL.ren (σ' := [(0, s0 2 o1.length), (1, ii 0), (2, ii x2_2), (6, ii 1)]) (h' := [(2, rc (encI .i64) o1 0 3 1), (1, .cells [ii 0, ii 0] 0 61 0), (0, rc encP a z0 y0 2)]) (c' := 3) [0, 1, 2] (by decide) rfl ⟨rfl, rfl, rfl, rfl, trivial⟩ ⟨⟨_, _, rfl, rfl, .inl ⟨rfl, rwI⟩⟩, ⟨_, _, rfl, rfl, .inr ⟨_, _, _, _, rfl, rfl⟩⟩, ⟨_, _, rfl, rfl, .inl ⟨rfl, rwP⟩⟩, trivial⟩ rfl ?_
   refine XL.conv (f67_3_ok m m z0 y0 a x2_2 1 o1 o3 o3_h _ ?_) (by first | rfl | simp)
   refine ⟨fun i q => (by cases q), .tuple #[], (by kernel_rfl), ?_⟩
   refine XR.conv (σ' := []) (h' := [(2, rc (encI .i64) o3 0 3 1), (1, .cells [ii 0, ii 0] 0 61 0), (0, rc encP a z0 y0 2)]) (c' := 3) ?_ (by kernel_rfl)
   refine dQ ?_
   show XQ _ _ _ _ _ _ _ _
   refine XQ.ren (σ' := []) (h' := [(2, rc (encI .i64) o3 0 3 1), (1, .cells [ii 0, ii 0] 0 61 0), (0, rc encP a z0 y0 2)]) (c' := 3) [0, 1, 2] (by decide) rfl trivial ⟨⟨_, _, rfl, rfl, .inl ⟨rfl, rwI⟩⟩, ⟨_, _, rfl, rfl, .inr ⟨_, _, _, _, rfl, rfl⟩⟩, ⟨_, _, rfl, rfl, .inl ⟨rfl, rwP⟩⟩, trivial⟩ rfl ?_
   refine XQ.ret (by kernel_rfl) ?_
   cases h
   exact hQ
inductive Of67_6 where
 | r (xh1_1_r6 : Int)
 | x4
def f67_6 (m : Nat) : Nat → List (Int × Int) → Int → (List Int) → Int → Int → Int → Option Of67_6
 | 0, _, _, _, _, _, _ => none
 | fuel + 1, a, b, o2, x26_5, x30_6, x31_6 =>
  cond (decide (x31_6 < x30_6)) (
   cond (inRow x31_6 o2.length) (
    cond (decide (x26_5 ≤ (List.getD o2 (Int.toNat x31_6) 0))) (
     (f65 m a x26_5 (List.getD o2 (Int.toNat x31_6) 0)).bind fun r28 =>
      cond (decide (r28 > (w64 (b * (w64 ((w64 ((List.getD o2 (Int.toNat x31_6) 0) - x26_5)) + 1)))))) (
       some (.r (List.getD o2 (Int.toNat x31_6) 0))
      ) (
       f67_6 m fuel a b o2 x26_5 x30_6 (w64 (x31_6 + 1))
      )
    ) (
     f67_6 m fuel a b o2 x26_5 x30_6 (w64 (x31_6 + 1))
    )
   ) none
  ) (
   some (.x4)
  )
theorem f67_6_ok (m : Nat) : ∀ (fuel : Nat) (z0 : Nat) (y0 : Nat) (a : List (Int × Int)) (b : Int) (o2 : (List Int)) (x26_5 : Int) (x30_6 : Int) (x31_6 : Int) (o : Of67_6), f67_6 m fuel a b o2 x26_5 x30_6 x31_6 = some o → ∀ Q : QP, (match o with | .r xh1_1_r6 => Q .ret [(4, pp 1 0)] [(1, .cells [ii x26_5, ii xh1_1_r6] 0 61 0), (0, rc encP a z0 y0 2)] 2 | .x4 => Q (.exit 4) [(0, s0 0 a.length), (1, ii b), (4, pp 1 0), (5, s0 2 o2.length), (26, ii x26_5)] [(2, rc (encI .i64) o2 0 3 1), (1, .cells [ii 0, ii 0] 0 61 0), (0, rc encP a z0 y0 2)] 3) → XL E0 57 1 fuel f67_L6 [(0, s0 0 a.length), (1, ii b), (4, pp 1 0), (5, s0 2 o2.length), (8, ii x26_5), (26, ii x26_5), (29, s0 2 o2.length), (30, ii x30_6), (31, ii x31_6)] [(2, rc (encI .i64) o2 0 3 1), (1, .cells [ii 0, ii 0] 0 61 0), (0, rc encP a z0 y0 2)] 3 Q
 | 0, z0, y0, a, b, o2, x26_5, x30_6, x31_6, o, h, Q, hQ => by cases h
 | fuel + 1, z0, y0, a, b, o2, x26_5, x30_6, x31_6, o, h, Q, hQ => by
  unfold f67_6 at h
  refine XL.succ E0_ok ?_
  refine qQ ?_
  refine rS 1 [(0, s0 0 a.length), (1, ii b), (4, pp 1 0), (5, s0 2 o2.length), (8, ii x26_5), (26, ii x26_5), (29, s0 2 o2.length), (30, ii x30_6), (31, ii x31_6), (32, .bool (decide (x31_6 < x30_6)))] ?_
  refine dQ ?_
  show XQ _ _ _ _ _ _ _ _
  refine sQ ?_
  cases b1 : (decide (x31_6 < x30_6) : Bool) with
  | true =>
   have h := cT b1 h
   refine iT (.tmp 32) ?_
   refine kQ ?_
   show XQ _ _ _ _ _ _ _ _
   refine sQ ?_
   refine XQ.block (id := 5) (by kernel_rfl) ?_
   refine qQ ?_
   cases b2 : (inRow x31_6 o2.length : Bool) with
   | false => cases (cF b2 h)
   | true =>
    have h := cT b2 h
    refine XR.rd E0_ok [0, 1, 4, 5, 8, 26, 29, 30, 31, 33] rfl (v := pp 2 ((Int.toNat x31_6) * 1)) (v_idx (s := 1) (x := (src 57 (.tmp 29))) (y := (src 57 (.tmp 31))) (b := 2) (o := 0) (len := o2.length) (cap := o2.length) (ik := .i64) (i := x31_6) (off := (Int.toNat x31_6) * 1) (d := (some (path 12 33))) (by kernel_rfl) (by kernel_rfl) (by kernel_rfl) b2 (by omega)) (σ' := [(0, s0 0 a.length), (1, ii b), (4, pp 1 0), (5, s0 2 o2.length), (8, ii x26_5), (26, ii x26_5), (29, s0 2 o2.length), (30, ii x30_6), (31, ii x31_6), (33, pp 2 ((Int.toNat x31_6) * 1))]) (by kernel_rfl) ?_
    refine XR.rd E0_ok [0, 1, 4, 5, 8, 26, 29, 30, 31, 34] rfl (v := ii (List.getD o2 (Int.toNat x31_6) 0)) (v_load1 (encI_ok .i64) (x := (src 57 (.tmp 33))) (b := 2) (off := (Int.toNat x31_6) * 1) (xs := o2) (fz := 0) (e := 3) (es := 1) (d := (some (path 12 34))) (by kernel_rfl) (by kernel_rfl) (by kernel_rfl) (Int.toNat x31_6) 0 0 (by first | rfl | omega) (row_len (inRow_toNat b2) (by simp)) rfl rfl) (σ' := [(0, s0 0 a.length), (1, ii b), (4, pp 1 0), (5, s0 2 o2.length), (8, ii x26_5), (26, ii x26_5), (29, s0 2 o2.length), (30, ii x30_6), (31, ii x31_6), (34, ii (List.getD o2 (Int.toNat x31_6) 0))]) (by kernel_rfl) ?_
    refine rS 1 [(0, s0 0 a.length), (1, ii b), (4, pp 1 0), (5, s0 2 o2.length), (8, ii x26_5), (10, ii (List.getD o2 (Int.toNat x31_6) 0)), (26, ii x26_5), (29, s0 2 o2.length), (30, ii x30_6), (31, ii x31_6)] ?_
    refine nQ id ?_
    refine rT 5 [(0, s0 0 a.length), (1, ii b), (4, pp 1 0), (5, s0 2 o2.length), (8, ii x26_5), (10, ii (List.getD o2 (Int.toNat x31_6) 0)), (11, pp 3 0), (26, ii x26_5), (29, s0 2 o2.length), (30, ii x30_6), (31, ii x31_6)] [(3, .cells [ii x26_5, ii (List.getD o2 (Int.toNat x31_6) 0)] 0 61 0), (2, rc (encI .i64) o2 0 3 1), (1, .cells [ii 0, ii 0] 0 61 0), (0, rc encP a z0 y0 2)] 4 ?_
    refine nQ id ?_
    refine rS 4 [(0, s0 0 a.length), (1, ii b), (4, pp 1 0), (5, s0 2 o2.length), (8, ii x26_5), (10, ii (List.getD o2 (Int.toNat x31_6) 0)), (11, pp 3 0), (26, ii x26_5), (29, s0 2 o2.length), (30, ii x30_6), (31, ii x31_6), (41, .bool (decide (x26_5 ≤ (List.getD o2 (Int.toNat x31_6) 0))))] ?_
    cases b3 : (decide (x26_5 ≤ (List.getD o2 (Int.toNat x31_6) 0)) : Bool) with
    | true =>
     have h := cT b3 h
     refine rS 2 [(0, s0 0 a.length), (1, ii b), (4, pp 1 0), (5, s0 2 o2.length), (8, ii x26_5), (10, ii (List.getD o2 (Int.toNat x31_6) 0)), (11, pp 3 0), (26, ii x26_5), (29, s0 2 o2.length), (30, ii x30_6), (31, ii x31_6), (41, .bool true), (42, s0 0 a.length), (43, .agg #[ii x26_5, ii (List.getD o2 (Int.toNat x31_6) 0)])] ?_
     obtain ⟨r28, r28_h, h⟩ := bS h
     refine XR.call E0_ok [0, 1, 4, 5, 8, 10, 11, 26, 29, 30, 31, 41, 44] rfl (K := 65) (args := [s0 0 a.length, .agg #[ii x26_5, ii (List.getD o2 (Int.toNat x31_6) 0)]]) (d := (some (path 12 44))) (by kernel_rfl) (KQ.call (KC.quiet E0_ok (args0 := [s0 0 a.length, .agg #[ii x26_5, ii (List.getD o2 (Int.toNat x31_6) 0)]]) (h0 := [(0, rc encP a (z0 + ((rowC encP a).length + 1)) y0 2)]) (n := 1) (V := ii r28) [0] (f65_ok m (z0 + ((rowC encP a).length + 1)) y0 a x26_5 (List.getD o2 (Int.toNat x31_6) 0) r28 r28_h) rfl (by rfl) (by decide) rfl (by kernel_rfl) ⟨⟨_, _, rfl, rfl, .inl ⟨rfl, rwP⟩⟩, trivial⟩) rfl) ?_
     rintro _ _ _ ⟨rfl, rfl, rfl⟩
     refine XR.conv (σ' := [(0, s0 0 a.length), (1, ii b), (4, pp 1 0), (5, s0 2 o2.length), (8, ii x26_5), (10, ii (List.getD o2 (Int.toNat x31_6) 0)), (11, pp 3 0), (26, ii x26_5), (29, s0 2 o2.length), (30, ii x30_6), (31, ii x31_6), (41, .bool true), (44, ii r28)]) (h' := [(3, .cells [ii x26_5, ii (List.getD o2 (Int.toNat x31_6) 0)] 0 61 0), (2, rc (encI .i64) o2 0 3 1), (1, .cells [ii 0, ii 0] 0 61 0), (0, rc encP a z0 y0 2)]) (c' := 4) ?_ (by kernel_rfl)
     refine rS 8 [(0, s0 0 a.length), (1, ii b), (4, pp 1 0), (5, s0 2 o2.length), (8, ii x26_5), (11, pp 3 0), (26, ii x26_5), (29, s0 2 o2.length), (30, ii x30_6), (31, ii x31_6), (52, .bool (decide (r28 > (w64 (b * (w64 ((w64 ((List.getD o2 (Int.toNat x31_6) 0) - x26_5)) + 1)))))))] ?_
     refine dQ ?_
     show XQ _ _ _ _ _ _ _ _
     cases b4 : (decide (r28 > (w64 (b * (w64 ((w64 ((List.getD o2 (Int.toNat x31_6) 0) - x26_5)) + 1))))) : Bool) with
     | true =>
      have h := cT b4 h
      refine iT (.tmp 52) ?_
      refine qQ ?_
      refine rT 2 [(4, pp 1 0)] [(3, .cells [ii x26_5, ii (List.getD o2 (Int.toNat x31_6) 0)] 0 61 0), (2, rc (encI .i64) o2 0 3 1), (1, .cells [ii x26_5, ii (List.getD o2 (Int.toNat x31_6) 0)] 0 61 0), (0, rc encP a z0 y0 2)] 4 ?_
      refine dQ ?_
      show XQ _ _ _ _ _ _ _ _
      refine XQ.ren (σ' := [(4, pp 1 0)]) (h' := [(1, .cells [ii x26_5, ii (List.getD o2 (Int.toNat x31_6) 0)] 0 61 0), (0, rc encP a z0 y0 2)]) (c' := 2) [0, 1] (by decide) rfl ⟨rfl, trivial⟩ ⟨⟨_, _, rfl, rfl, .inr ⟨_, _, _, _, rfl, rfl⟩⟩, ⟨_, _, rfl, rfl, .inl ⟨rfl, rwP⟩⟩, trivial⟩ rfl ?_
      refine XQ.ret (by kernel_rfl) ?_
      cases h
      exact hQ
     | false =>
      have h := cF b4 h
      refine iF (.tmp 52) ?_
      refine kQ ?_
      show XQ _ _ _ _ _ _ _ _
      refine rQ ?_
      refine rS 2 [(0, s0 0 a.length), (1, ii b), (4, pp 1 0), (5, s0 2 o2.length), (8, ii x26_5), (26, ii x26_5), (29, s0 2 o2.length), (30, ii x30_6), (31, ii (w64 (x31_6 + 1)))] ?_
      refine dQ ?_
      show XL _ _ _ _ _ _ _ _ _
      refine XL.ren (σ' := [(0, s0 0 a.length), (1, ii b), (4, pp 1 0), (5, s0 2 o2.length), (8, ii x26_5), (26, ii x26_5), (29, s0 2 o2.length), (30, ii x30_6), (31, ii (w64 (x31_6 + 1)))]) (h' := [(2, rc (encI .i64) o2 0 3 1), (1, .cells [ii 0, ii 0] 0 61 0), (0, rc encP a z0 y0 2)]) (c' := 3) [0, 1, 2] (by decide) rfl ⟨rfl, rfl, rfl, rfl, rfl, rfl, rfl, rfl, rfl, trivial⟩ ⟨⟨_, _, rfl, rfl, .inl ⟨rfl, rwI⟩⟩, ⟨_, _, rfl, rfl, .inr ⟨_, _, _, _, rfl, rfl⟩⟩, ⟨_, _, rfl, rfl, .inl ⟨rfl, rwP⟩⟩, trivial⟩ rfl ?_
      refine XL.conv (f67_6_ok m fuel z0 y0 a b o2 x26_5 x30_6 (w64 (x31_6 + 1)) o h Q hQ) (by first | rfl | simp)
    | false =>
     have h := cF b3 h
     refine rS 11 [(0, s0 0 a.length), (1, ii b), (4, pp 1 0), (5, s0 2 o2.length), (8, ii x26_5), (11, pp 3 0), (26, ii x26_5), (29, s0 2 o2.length), (30, ii x30_6), (31, ii x31_6), (52, .bool false)] ?_
     refine dQ ?_
     show XQ _ _ _ _ _ _ _ _
     refine iF (.tmp 52) ?_
     refine kQ ?_
     show XQ _ _ _ _ _ _ _ _
     refine rQ ?_
     refine rS 2 [(0, s0 0 a.length), (1, ii b), (4, pp 1 0), (5, s0 2 o2.length), (8, ii x26_5), (26, ii x26_5), (29, s0 2 o2.length), (30, ii x30_6), (31, ii (w64 (x31_6 + 1)))] ?_
     refine dQ ?_
     show XL _ _ _ _ _ _ _ _ _
     refine XL.ren (σ' := [(0, s0 0 a.length), (1, ii b), (4, pp 1 0), (5, s0 2 o2.length), (8, ii x26_5), (26, ii x26_5), (29, s0 2 o2.length), (30, ii x30_6), (31, ii (w64 (x31_6 + 1)))]) (h' := [(2, rc (encI .i64) o2 0 3 1), (1, .cells [ii 0, ii 0] 0 61 0), (0, rc encP a z0 y0 2)]) (c' := 3) [0, 1, 2] (by decide) rfl ⟨rfl, rfl, rfl, rfl, rfl, rfl, rfl, rfl, rfl, trivial⟩ ⟨⟨_, _, rfl, rfl, .inl ⟨rfl, rwI⟩⟩, ⟨_, _, rfl, rfl, .inr ⟨_, _, _, _, rfl, rfl⟩⟩, ⟨_, _, rfl, rfl, .inl ⟨rfl, rwP⟩⟩, trivial⟩ rfl ?_
     refine XL.conv (f67_6_ok m fuel z0 y0 a b o2 x26_5 x30_6 (w64 (x31_6 + 1)) o h Q hQ) (by first | rfl | simp)
  | false =>
   have h := cF b1 h
   refine iF (.tmp 32) ?_
   refine XQ.ren (σ' := [(0, s0 0 a.length), (1, ii b), (4, pp 1 0), (5, s0 2 o2.length), (26, ii x26_5)]) (h' := [(2, rc (encI .i64) o2 0 3 1), (1, .cells [ii 0, ii 0] 0 61 0), (0, rc encP a z0 y0 2)]) (c' := 3) [0, 1, 2] (by decide) rfl ⟨rfl, rfl, rfl, rfl, rfl, trivial⟩ ⟨⟨_, _, rfl, rfl, .inl ⟨rfl, rwI⟩⟩, ⟨_, _, rfl, rfl, .inr ⟨_, _, _, _, rfl, rfl⟩⟩, ⟨_, _, rfl, rfl, .inl ⟨rfl, rwP⟩⟩, trivial⟩ rfl ?_
   refine XQ.exit (i := 4) (by kernel_rfl) ?_
   cases h
   exact hQ
inductive Of67_5 where
 | r (xh1_0_r5 : Int) (xh1_1_r5 : Int)
 | x2
def f67_5 (m : Nat) : Nat → List (Int × Int) → Int → (List Int) → Int → Option Of67_5
 | 0, _, _, _, _ => none
 | fuel + 1, a, b, o2, x26_5 =>
  cond (decide (x26_5 < 24)) (
   (f67_6 m m a b o2 x26_5 ((o2.length : Nat) : Int) 0).bind fun o6 =>
    match o6 with
    | .r xh1_1_r6 =>
     some (.r x26_5 xh1_1_r6)
    | .x4 =>
     f67_5 m fuel a b o2 (w64 (x26_5 + 1))
  ) (
   some (.x2)
  )
theorem f67_5_ok (m : Nat) : ∀ (fuel : Nat) (z0 : Nat) (y0 : Nat) (a : List (Int × Int)) (b : Int) (o2 : (List Int)) (x26_5 : Int) (o : Of67_5), f67_5 m fuel a b o2 x26_5 = some o → ∀ Q : QP, (match o with | .r xh1_0_r5 xh1_1_r5 => Q .ret [(4, pp 1 0)] [(1, .cells [ii xh1_0_r5, ii xh1_1_r5] 0 61 0), (0, rc encP a z0 y0 2)] 2 | .x2 => Q (.exit 2) [(4, pp 1 0)] [(1, .cells [ii 0, ii 0] 0 61 0), (0, rc encP a z0 y0 2)] 2) → XL E0 57 1 fuel f67_L5 [(0, s0 0 a.length), (1, ii b), (4, pp 1 0), (5, s0 2 o2.length), (26, ii x26_5)] [(2, rc (encI .i64) o2 0 3 1), (1, .cells [ii 0, ii 0] 0 61 0), (0, rc encP a z0 y0 2)] 3 Q
 | 0, z0, y0, a, b, o2, x26_5, o, h, Q, hQ => by cases h
 | fuel + 1, z0, y0, a, b, o2, x26_5, o, h, Q, hQ => by
  unfold f67_5 at h
  refine XL.succ E0_ok ?_
  refine qQ ?_
  refine rS 1 [(0, s0 0 a.length), (1, ii b), (4, pp 1 0), (5, s0 2 o2.length), (26, ii x26_5), (27, .bool (decide (x26_5 < 24)))] ?_
  refine dQ ?_
  show XQ _ _ _ _ _ _ _ _
  refine sQ ?_
  cases b1 : (decide (x26_5 < 24) : Bool) with
  | true =>
   have h := cT b1 h
   refine iT (.tmp 27) ?_
   refine kQ ?_
   show XQ _ _ _ _ _ _ _ _
   refine sQ ?_
   refine XQ.block (id := 3) (by kernel_rfl) ?_
   refine qQ ?_
   refine rS 2 [(0, s0 0 a.length), (1, ii b), (4, pp 1 0), (5, s0 2 o2.length), (8, ii x26_5), (26, ii x26_5)] ?_
   refine nQ id ?_
   refine rS 3 [(0, s0 0 a.length), (1, ii b), (4, pp 1 0), (5, s0 2 o2.length), (8, ii x26_5), (26, ii x26_5), (29, s0 2 o2.length), (30, ii ((o2.length : Nat) : Int)), (31, ii 0)] ?_
   refine dQ ?_
   show XQ _ _ _ _ _ _ _ _
   refine XQ.block (id := 4) (by kernel_rfl) ?_
   refine XQ.loop m (by kernel_rfl) ?_
   obtain ⟨o6, o6_h, h⟩ := bS h
   refine XL.ren (σ' := [(0, s0 0 a.length), (1, ii b), (4, pp 1 0), (5, s0 2 o2.length), (8, ii x26_5), (26, ii x26_5), (29, s0 2 o2.length), (30, ii ((o2.length : Nat) : Int)), (31, ii 0)]) (h' := [(2, rc (encI .i64) o2 0 3 1), (1, .cells [ii 0, ii 0] 0 61 0), (0, rc encP a z0 y0 2)]) (c' := 3) [0, 1, 2] (by decide) rfl ⟨rfl, rfl, rfl, rfl, rfl, rfl, rfl, rfl, rfl, trivial⟩ ⟨⟨_, _, rfl, rfl, .inl ⟨rfl, rwI⟩⟩, ⟨_, _, rfl, rfl, .inr ⟨_, _, _, _, rfl, rfl⟩⟩, ⟨_, _, rfl, rfl, .inl ⟨rfl, rwP⟩⟩, trivial⟩ rfl ?_
   cases o6 with
   | r xh1_1_r6 =>
    dsimp only at h
    refine XL.conv (f67_6_ok m m z0 y0 a b o2 x26_5 ((o2.length : Nat) : Int) 0 (.r xh1_1_r6) o6_h _ ?_) (by first | rfl | simp)
    cases h
    exact hQ
   | x4 =>
    dsimp only at h
    refine XL.conv (f67_6_ok m m z0 y0 a b o2 x26_5 ((o2.length : Nat) : Int) 0 (.x4) o6_h _ ?_) (by first | rfl | simp)
    show XQ _ _ _ _ _ _ _ _
    refine rQ ?_
    refine rS 2 [(0, s0 0 a.length), (1, ii b), (4, pp 1 0), (5, s0 2 o2.length), (26, ii (w64 (x26_5 + 1)))] ?_
    refine dQ ?_
    show XL _ _ _ _ _ _ _ _ _
    refine XL.ren (σ' := [(0, s0 0 a.length), (1, ii b), (4, pp 1 0), (5, s0 2 o2.length), (26, ii (w64 (x26_5 + 1)))]) (h' := [(2, rc (encI .i64) o2 0 3 1), (1, .cells [ii 0, ii 0] 0 61 0), (0, rc encP a z0 y0 2)]) (c' := 3) [0, 1, 2] (by decide) rfl ⟨rfl, rfl, rfl, rfl, rfl, trivial⟩ ⟨⟨_, _, rfl, rfl, .inl ⟨rfl, rwI⟩⟩, ⟨_, _, rfl, rfl, .inr ⟨_, _, _, _, rfl, rfl⟩⟩, ⟨_, _, rfl, rfl, .inl ⟨rfl, rwP⟩⟩, trivial⟩ rfl ?_
    refine XL.conv (f67_5_ok m fuel z0 y0 a b o2 (w64 (x26_5 + 1)) o h Q hQ) (by first | rfl | simp)
  | false =>
   have h := cF b1 h
   refine iF (.tmp 27) ?_
   refine XQ.ren (σ' := [(4, pp 1 0)]) (h' := [(1, .cells [ii 0, ii 0] 0 61 0), (0, rc encP a z0 y0 2)]) (c' := 2) [0, 1] (by decide) rfl ⟨rfl, trivial⟩ ⟨⟨_, _, rfl, rfl, .inr ⟨_, _, _, _, rfl, rfl⟩⟩, ⟨_, _, rfl, rfl, .inl ⟨rfl, rwP⟩⟩, trivial⟩ rfl ?_
   refine XQ.exit (i := 2) (by kernel_rfl) ?_
   cases h
   exact hQ
def f67 (m : Nat) (a : List (Int × Int)) (b : Int) : Option (Int × Int) :=
 (f67_1 m m a b ((a.length : Nat) : Int) 0 []).bind fun o1 =>
  (f98 m (IntKind.wrap .u64 ((o1.length : Nat) : Int))).bind fun r1 =>
   (f67_2 m m a o1 ((o1.length : Nat) : Int) r1).bind fun o2 =>
    cond (decide (o1.length = o2.length)) (
     (f67_5 m m a b o2 0).bind fun o5 =>
      match o5 with
      | .r xh1_0_r5 xh1_1_r5 =>
       some (xh1_0_r5, xh1_1_r5)
      | .x2 =>
       (f68 m ).bind fun r29 =>
        some (r29.1, r29.2)
    ) none
theorem f67_ok (m : Nat) (z0 : Nat) (y0 : Nat) (a : List (Int × Int)) (b : Int) (o : Int × Int) (h : f67 m a b = some o) : KC E0 67 [s0 0 a.length, ii b] [(0, rc encP a z0 y0 2)] 1 (fun v _ _ => v = .agg #[ii o.1, ii o.2]) := by
 refine KC.bodyN E0_ok (F := Proofs.Try.f67) (by kernel_rfl) (code := f67_C67) (by kernel_rfl) (nt := 57) (by kernel_rfl) (rs := [.cell 4 61]) (by kernel_rfl) (by kernel_rfl) (σ := [(0, s0 0 a.length), (1, ii b)]) (by kernel_rfl) ?_
 unfold f67 at h
 refine qQ ?_
 refine rT 1 [(0, s0 0 a.length), (1, ii b), (4, pp 1 0)] [(1, .cells [ii 0, ii 0] 0 61 0), (0, rc encP a z0 y0 2)] 2 ?_
 refine nQ id ?_
 refine rS 1 [(0, s0 0 a.length), (1, ii b), (4, pp 1 0), (5, .slice none 0 0)] ?_
 refine dQ ?_
 show XQ _ _ _ _ _ _ _ _
 refine XQ.ghost 3 1 rfl (σ' := [(0, s0 0 a.length), (1, ii b), (4, pp 1 0), (5, s0 2 0)]) (h' := [(1, .cells [ii 0, ii 0] 0 61 0), (0, rc encP a z0 y0 2)]) ⟨rfl, rfl, rfl, rfl, trivial⟩ ⟨⟨_, rfl, .inl rfl⟩, ⟨_, rfl, .inl rfl⟩, trivial⟩ ?_
 refine XQ.conv (σ' := [(0, s0 0 a.length), (1, ii b), (4, pp 1 0), (5, s0 2 0)]) (h' := [(2, rc (encI .i64) [] 0 3 1), (1, .cells [ii 0, ii 0] 0 61 0), (0, rc encP a z0 y0 2)]) (c' := 3) ?_ (by kernel_rfl)
 refine sQ ?_
 refine qQ ?_
 refine rS 3 [(0, s0 0 a.length), (1, ii b), (4, pp 1 0), (5, s0 2 0), (12, s0 0 a.length), (13, ii ((a.length : Nat) : Int)), (14, ii 0)] ?_
 refine dQ ?_
 show XQ _ _ _ _ _ _ _ _
 refine XQ.block (id := 0) (by kernel_rfl) ?_
 refine XQ.loop m (by kernel_rfl) ?_
 obtain ⟨o1, o1_h, h⟩ := bS h
 refine XL.ren (σ' := [(0, s0 0 a.length), (1, ii b), (4, pp 1 0), (5, s0 2 0), (12, s0 0 a.length), (13, ii ((a.length : Nat) : Int)), (14, ii 0)]) (h' := [(2, rc (encI .i64) [] 0 3 1), (1, .cells [ii 0, ii 0] 0 61 0), (0, rc encP a z0 y0 2)]) (c' := 3) [0, 1, 2] (by decide) rfl ⟨rfl, rfl, rfl, rfl, rfl, rfl, rfl, trivial⟩ ⟨⟨_, _, rfl, rfl, .inl ⟨rfl, rwI⟩⟩, ⟨_, _, rfl, rfl, .inr ⟨_, _, _, _, rfl, rfl⟩⟩, ⟨_, _, rfl, rfl, .inl ⟨rfl, rwP⟩⟩, trivial⟩ rfl ?_
 refine XL.conv (f67_1_ok m m z0 y0 a b ((a.length : Nat) : Int) 0 [] o1 o1_h _ ?_) (by first | rfl | simp)
 show XQ _ _ _ _ _ _ _ _
 refine qQ ?_
 refine rS 1 [(0, s0 0 a.length), (1, ii b), (4, pp 1 0), (5, s0 2 o1.length), (24, s0 2 o1.length)] ?_
 refine XR.callK E0_ok [0, 1, 4, 5] rfl (K := 92) (args := [s0 2 o1.length]) (d := (some (path 12 25))) (by kernel_rfl) ?_
 refine KC.bodyN E0_ok (F := Proofs.Try.f92) (by kernel_rfl) (code := f67_C92) (by kernel_rfl) (nt := 11) (by kernel_rfl) (rs := []) (by kernel_rfl) (by kernel_rfl) (σ := [(0, s0 2 o1.length)]) (by kernel_rfl) ?_
 refine qQ ?_
 refine rS 3 [(0, s0 2 o1.length), (2, ii ((o1.length : Nat) : Int))] ?_
 refine dQ ?_
 show XQ _ _ _ _ _ _ _ _
 refine rQ ?_
 refine rS 4 [(5, s0 2 o1.length), (6, ii ((o1.length : Nat) : Int)), (8, .int .u64 (IntKind.wrap .u64 ((o1.length : Nat) : Int)))] ?_
 obtain ⟨r1, r1_h, h⟩ := bS h
 refine XR.call E0_ok [5, 6, 9] rfl (K := 98) (args := [.int .u64 (IntKind.wrap .u64 ((o1.length : Nat) : Int))]) (d := (some (path 12 9))) (by kernel_rfl) (KC.of_calls E0_ok (F := Proofs.Try.f98) (v := ii r1) (by kernel_rfl) rfl rfl (fun w hI => f98_ok m (IntKind.wrap .u64 ((o1.length : Nat) : Int)) r1 r1_h w hI)) ?_
 rintro _ _ _ ⟨rfl, rfl, rfl⟩
 refine XR.conv (σ' := [(5, s0 2 o1.length), (6, ii ((o1.length : Nat) : Int)), (9, ii r1)]) (h' := [(2, rc (encI .i64) o1 0 3 1), (1, .cells [ii 0, ii 0] 0 61 0), (0, rc encP a z0 y0 2)]) (c' := 3) ?_ (by kernel_rfl)
 refine XR.callK E0_ok [] rfl (K := 99) (args := [s0 2 o1.length, ii 0, ii ((o1.length : Nat) : Int), ii r1]) (d := (some (path 12 10))) (by kernel_rfl) ?_
 refine KC.bodyN E0_ok (F := Proofs.Try.f99) (by kernel_rfl) (code := f67_C99) (by kernel_rfl) (nt := 134) (by kernel_rfl) (rs := []) (by kernel_rfl) (by kernel_rfl) (σ := [(0, s0 2 o1.length), (1, ii 0), (2, ii ((o1.length : Nat) : Int)), (3, ii r1)]) (by kernel_rfl) ?_
 refine qQ ?_
 refine rS 1 [(0, s0 2 o1.length), (1, ii 0), (2, ii ((o1.length : Nat) : Int)), (3, ii r1), (8, .bool true)] ?_
 refine nQ id ?_
 refine rS 1 [(0, s0 2 o1.length), (1, ii 0), (2, ii ((o1.length : Nat) : Int)), (3, ii r1), (8, .bool true), (9, .bool true)] ?_
 refine dQ ?_
 show XQ _ _ _ _ _ _ _ _
 refine XQ.block (id := 0) (by kernel_rfl) ?_
 refine XQ.loop m (by kernel_rfl) ?_
 obtain ⟨o2, o2_h, h⟩ := bS h
 refine XL.ren (σ' := [(0, s0 2 o1.length), (1, ii 0), (2, ii ((o1.length : Nat) : Int)), (3, ii r1), (8, .bool true), (9, .bool true)]) (h' := [(2, rc (encI .i64) o1 0 3 1), (1, .cells [ii 0, ii 0] 0 61 0), (0, rc encP a z0 y0 2)]) (c' := 3) [0, 1, 2] (by decide) rfl ⟨rfl, rfl, rfl, rfl, rfl, rfl, trivial⟩ ⟨⟨_, _, rfl, rfl, .inl ⟨rfl, rwI⟩⟩, ⟨_, _, rfl, rfl, .inr ⟨_, _, _, _, rfl, rfl⟩⟩, ⟨_, _, rfl, rfl, .inl ⟨rfl, rwP⟩⟩, trivial⟩ rfl ?_
 refine XL.conv (f67_2_ok m m z0 y0 a o1 ((o1.length : Nat) : Int) r1 o2 o2_h _ ?_) (by first | rfl | simp)
 refine ⟨fun i q => (by cases q), .tuple #[], (by kernel_rfl), ?_⟩
 refine XR.conv (σ' := []) (h' := [(2, rc (encI .i64) o2 0 3 1), (1, .cells [ii 0, ii 0] 0 61 0), (0, rc encP a z0 y0 2)]) (c' := 3) ?_ (by kernel_rfl)
 refine dQ ?_
 refine ⟨fun i q => (by cases q), .tuple #[], (by kernel_rfl), ?_⟩
 refine XR.conv (σ' := [(0, s0 0 a.length), (1, ii b), (4, pp 1 0), (5, s0 2 o1.length)]) (h' := [(2, rc (encI .i64) o2 0 3 1), (1, .cells [ii 0, ii 0] 0 61 0), (0, rc encP a z0 y0 2)]) (c' := 3) ?_ (by kernel_rfl)
 cases b3 : (decide (o1.length = o2.length) : Bool) with
 | false => cases (cF b3 h)
 | true =>
  have h := cT b3 h
  refine XR.conv (σ' := [(0, s0 0 a.length), (1, ii b), (4, pp 1 0), (5, s0 2 o2.length)]) (h' := [(2, rc (encI .i64) o2 0 3 1), (1, .cells [ii 0, ii 0] 0 61 0), (0, rc encP a z0 y0 2)]) (c' := 3) ?_ (by rw [of_decide_eq_true b3])
  refine dQ ?_
  show XQ _ _ _ _ _ _ _ _
  refine sQ ?_
  refine qQ ?_
  refine rS 1 [(0, s0 0 a.length), (1, ii b), (4, pp 1 0), (5, s0 2 o2.length), (26, ii 0)] ?_
  refine dQ ?_
  show XQ _ _ _ _ _ _ _ _
  refine XQ.block (id := 2) (by kernel_rfl) ?_
  refine XQ.loop m (by kernel_rfl) ?_
  obtain ⟨o5, o5_h, h⟩ := bS h
  refine XL.ren (σ' := [(0, s0 0 a.length), (1, ii b), (4, pp 1 0), (5, s0 2 o2.length), (26, ii 0)]) (h' := [(2, rc (encI .i64) o2 0 3 1), (1, .cells [ii 0, ii 0] 0 61 0), (0, rc encP a z0 y0 2)]) (c' := 3) [0, 1, 2] (by decide) rfl ⟨rfl, rfl, rfl, rfl, rfl, trivial⟩ ⟨⟨_, _, rfl, rfl, .inl ⟨rfl, rwI⟩⟩, ⟨_, _, rfl, rfl, .inr ⟨_, _, _, _, rfl, rfl⟩⟩, ⟨_, _, rfl, rfl, .inl ⟨rfl, rwP⟩⟩, trivial⟩ rfl ?_
  cases o5 with
  | r xh1_0_r5 xh1_1_r5 =>
   dsimp only at h
   refine XL.conv (f67_5_ok m m z0 y0 a b o2 0 (.r xh1_0_r5 xh1_1_r5) o5_h _ ?_) (by first | rfl | simp)
   have h := Option.some.inj h
   subst h
   exact ⟨fun i q => (by cases q), .agg #[ii xh1_0_r5, ii xh1_1_r5], (by kernel_rfl), rfl⟩
  | x2 =>
   dsimp only at h
   refine XL.conv (f67_5_ok m m z0 y0 a b o2 0 (.x2) o5_h _ ?_) (by first | rfl | simp)
   show XQ _ _ _ _ _ _ _ _
   refine qQ ?_
   obtain ⟨r29, r29_h, h⟩ := bS h
   refine XR.call E0_ok [4, 56] rfl (K := 68) (args := []) (d := (some (path 12 56))) (by kernel_rfl) (KC.of_calls E0_ok (F := Proofs.Try.f68) (v := .agg #[ii r29.1, ii r29.2]) (by kernel_rfl) rfl rfl (fun w hI => f68_ok m  r29 r29_h w hI)) ?_
   rintro _ _ _ ⟨rfl, rfl, rfl⟩
   refine XR.conv (σ' := [(4, pp 1 0), (56, .agg #[ii r29.1, ii r29.2])]) (h' := [(1, .cells [ii 0, ii 0] 0 61 0), (0, rc encP a z0 y0 2)]) (c' := 2) ?_ (by kernel_rfl)
   refine rT 1 [(4, pp 1 0)] [(1, .cells [ii r29.1, ii r29.2] 0 61 0), (0, rc encP a z0 y0 2)] 2 ?_
   refine dQ ?_
   show XQ _ _ _ _ _ _ _ _
   refine XQ.ret (by kernel_rfl) ?_
   have h := Option.some.inj h
   subst h
   exact ⟨fun i q => (by cases q), .agg #[ii r29.1, ii r29.2], (by kernel_rfl), rfl⟩
noncomputable def f27_C27 : Code := Proofs.Try.f27.body.getD .skip
def f27 (m : Nat) (a : List (Int × Int)) (b : Int) : Option (Int × Int × Int) :=
 (f57 m a b).bind fun r1 =>
  cond (r1 != 0) (
   some (0, 0, r1)
  ) (
   (f67 m a b).bind fun r2 =>
    (f68 m ).bind fun r3 =>
     cond (r2.1 == r3.1 && r2.2 == r3.2) (
      some (0, 0, 13)
     ) (
      some (r2.1, r2.2, 0)
     )
  )
theorem f27_ok (m : Nat) (z0 : Nat) (y0 : Nat) (a : List (Int × Int)) (b : Int) (o : Int × Int × Int) (h : f27 m a b = some o) : KC E0 27 [s0 0 a.length, ii b] [(0, rc encP a z0 y0 2)] 1 (fun v _ _ => v = .tuple #[ii o.1, ii o.2.1, ii o.2.2]) := by
 refine KC.bodyN E0_ok (F := Proofs.Try.f27) (by kernel_rfl) (code := f27_C27) (by kernel_rfl) (nt := 25) (by kernel_rfl) (rs := [.tmp 4, .tmp 5, .tmp 6]) (by kernel_rfl) (by kernel_rfl) (σ := [(0, s0 0 a.length), (1, ii b)]) (by kernel_rfl) ?_
 unfold f27 at h
 refine qQ ?_
 refine rS 3 [(0, s0 0 a.length), (1, ii b)] ?_
 refine dQ ?_
 show XQ _ _ _ _ _ _ _ _
 refine sQ ?_
 refine qQ ?_
 refine rS 2 [(0, s0 0 a.length), (1, ii b), (9, s0 0 a.length), (10, ii b)] ?_
 obtain ⟨r1, r1_h, h⟩ := bS h
 refine XR.call E0_ok [0, 1, 11] rfl (K := 57) (args := [s0 0 a.length, ii b]) (d := (some (path 12 11))) (by kernel_rfl) (KQ.call (KC.quiet E0_ok (args0 := [s0 0 a.length, ii b]) (h0 := [(0, rc encP a (z0 + ((rowC encP a).length + 1)) y0 2)]) (n := 1) (V := ii r1) [0] (f57_ok m (z0 + ((rowC encP a).length + 1)) y0 a b r1 r1_h) rfl (by rfl) (by decide) rfl (by kernel_rfl) ⟨⟨_, _, rfl, rfl, .inl ⟨rfl, rwP⟩⟩, trivial⟩) rfl) ?_
 rintro _ _ _ ⟨rfl, rfl, rfl⟩
 refine XR.conv (σ' := [(0, s0 0 a.length), (1, ii b), (11, ii r1)]) (h' := [(0, rc encP a z0 y0 2)]) (c' := 1) ?_ (by kernel_rfl)
 refine rS 1 [(0, s0 0 a.length), (1, ii b), (7, ii r1)] ?_
 refine nQ id ?_
 refine rS 2 [(0, s0 0 a.length), (1, ii b), (7, ii r1), (13, .bool (r1 != 0))] ?_
 refine dQ ?_
 show XQ _ _ _ _ _ _ _ _
 cases b1 : (r1 != 0 : Bool) with
 | true =>
  have h := cT b1 h
  refine iT (.tmp 13) ?_
  refine qQ ?_
  refine rS 4 [(4, ii 0), (5, ii 0), (6, ii r1)] ?_
  refine dQ ?_
  show XQ _ _ _ _ _ _ _ _
  refine XQ.ret (by kernel_rfl) ?_
  have h := Option.some.inj h
  subst h
  exact ⟨fun i q => (by cases q), .tuple #[ii 0, ii 0, ii r1], (by kernel_rfl), rfl⟩
 | false =>
  have h := cF b1 h
  refine iF (.tmp 13) ?_
  refine kQ ?_
  show XQ _ _ _ _ _ _ _ _
  refine qQ ?_
  refine rS 2 [(15, s0 0 a.length), (16, ii b)] ?_
  obtain ⟨r2, r2_h, h⟩ := bS h
  refine XR.call E0_ok [17] rfl (K := 67) (args := [s0 0 a.length, ii b]) (d := (some (path 12 17))) (by kernel_rfl) (KQ.call (KC.quiet E0_ok (args0 := [s0 0 a.length, ii b]) (h0 := [(0, rc encP a (z0 + ((rowC encP a).length + 1)) y0 2)]) (n := 1) (V := .agg #[ii r2.1, ii r2.2]) [0] (f67_ok m (z0 + ((rowC encP a).length + 1)) y0 a b r2 r2_h) rfl (by rfl) (by decide) rfl (by kernel_rfl) ⟨⟨_, _, rfl, rfl, .inl ⟨rfl, rwP⟩⟩, trivial⟩) rfl) ?_
  rintro _ _ _ ⟨rfl, rfl, rfl⟩
  refine XR.conv (σ' := [(17, .agg #[ii r2.1, ii r2.2])]) (h' := [(0, rc encP a z0 y0 2)]) (c' := 1) ?_ (by kernel_rfl)
  refine rT 2 [(8, pp 1 0)] [(1, .cells [ii r2.1, ii r2.2] 0 61 0), (0, rc encP a z0 y0 2)] 2 ?_
  refine dQ ?_
  show XQ _ _ _ _ _ _ _ _
  refine sQ ?_
  refine sQ ?_
  refine XQ.quiet E0_ok (by kernel_rfl) (by kernel_rfl) ?_
  refine XU.run E0_ok 1 1 [8, 18] rfl (σ' := [(8, pp 1 0), (18, .agg #[ii r2.1, ii r2.2])]) (by kernel_rfl) ?_
  obtain ⟨r3, r3_h, h⟩ := bS h
  refine XU.call E0_ok [8, 18, 19] rfl (K := 68) (F := Proofs.Try.f68) (args := []) (d := (some (path 12 19))) (v := .agg #[ii r3.1, ii r3.2]) (by kernel_rfl) (by kernel_rfl) rfl rfl (fun w hI => f68_ok m  r3 r3_h w hI) (σ' := [(8, pp 1 0), (18, .agg #[ii r2.1, ii r2.2]), (19, .agg #[ii r3.1, ii r3.2])]) (by kernel_rfl) ?_
  refine XU.run E0_ok 1 1 [8, 20] rfl (σ' := [(8, pp 1 0), (20, .bool (r2.1 == r3.1 && r2.2 == r3.2))]) (by kernel_rfl) ?_
  refine XU.done (by kernel_rfl) ?_
  show XQ _ _ _ _ _ _ _ _
  cases b2 : (r2.1 == r3.1 && r2.2 == r3.2 : Bool) with
  | true =>
   have h := cT b2 h
   refine iT (.tmp 20) ?_
   refine qQ ?_
   refine rS 3 [(4, ii 0), (5, ii 0), (6, ii 13)] ?_
   refine dQ ?_
   show XQ _ _ _ _ _ _ _ _
   refine XQ.ret (by kernel_rfl) ?_
   have h := Option.some.inj h
   subst h
   exact ⟨fun i q => (by cases q), .tuple #[ii 0, ii 0, ii 13], (by kernel_rfl), rfl⟩
  | false =>
   have h := cF b2 h
   refine iF (.tmp 20) ?_
   refine kQ ?_
   show XQ _ _ _ _ _ _ _ _
   refine sQ ?_
   refine XQ.quiet E0_ok (by kernel_rfl) (by kernel_rfl) ?_
   refine XU.run E0_ok 1 7 [4, 5, 6] rfl (σ' := [(4, ii r2.1), (5, ii r2.2), (6, ii 0)]) (by kernel_rfl) ?_
   refine XU.done (by kernel_rfl) ?_
   show XQ _ _ _ _ _ _ _ _
   refine XQ.ret (by kernel_rfl) ?_
   have h := Option.some.inj h
   subst h
   exact ⟨fun i q => (by cases q), .tuple #[ii r2.1, ii r2.2, ii 0], (by kernel_rfl), rfl⟩
end Go.Xm
