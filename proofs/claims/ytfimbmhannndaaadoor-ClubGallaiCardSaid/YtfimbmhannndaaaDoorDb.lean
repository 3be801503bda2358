/- What these functions of the program compute, as functions in Lean, and the proofs that they do: vitolaref12.descending, vitolaref12.stands, vitolaref12.why, vitolaref12.can. Conditions: the library's variables hold what their texts lay. -/
import Derived.Test.YtfimbmhannndaaaDoorDa
namespace Go.Xm
open Go.RowKit
set_option linter.unusedVariables false
set_option linter.unusedSimpArgs false
set_option maxRecDepth 20000

/-! vitola/vitolaref12.descending -/
noncomputable def f92_C92 : Code := Proofs.Tryd.f92.body.getD .skip
noncomputable def f92_L1 : Code := lft (lft (rgt (lft (rgt (rgt f92_C92)))))
noncomputable def f92_L2 : Code := lft (lft (rgt (lft (lft (rgt f92_L1)))))

def f92_2 (m : Nat) : Nat → List Int → Int → Int → List Int → Option (List Int)
 | 0, _, _, _, _ => none
 | fuel + 1, a, x4_1, x5_2, lh1_2 =>
  cond (decide (x5_2 > 0)) (
   cond (inRow x5_2 lh1_2.length) (
    cond (inRow (w64 (x5_2 - 1)) lh1_2.length) (
     cond (decide ((List.getD lh1_2 (Int.toNat x5_2) 0) > (List.getD lh1_2 (Int.toNat (w64 (x5_2 - 1))) 0))) (
      f92_2 m fuel a x4_1 (w64 (x5_2 - 1)) (List.set (List.set lh1_2 (Int.toNat x5_2) (List.getD lh1_2 (Int.toNat (w64 (x5_2 - 1))) 0)) (Int.toNat (w64 (x5_2 - 1))) (List.getD lh1_2 (Int.toNat x5_2) 0))
     ) (
      some (lh1_2)
     )
    ) none
   ) none
  ) (
   some (lh1_2)
  )

theorem f92_2_ok (m : Nat) : ∀ (fuel : Nat) (z0 : Nat) (y0 : Nat) (a : List Int) (x4_1 : Int) (x5_2 : Int) (lh1_2 : List Int) (o : (List Int)), f92_2 m fuel a x4_1 x5_2 lh1_2 = some o → ∀ Q : QP, Q (.exit 2) [(3, s0 1 o.length), (4, ii x4_1)] [(1, rc (encI .i64) o 0 3 1), (0, rc (encI .i64) a z0 y0 1)] 2 → XL E0 49 1 fuel f92_L2 [(3, s0 1 lh1_2.length), (4, ii x4_1), (5, ii x5_2)] [(1, rc (encI .i64) lh1_2 0 3 1), (0, rc (encI .i64) a z0 y0 1)] 2 Q
 | 0, z0, y0, a, x4_1, x5_2, lh1_2, o, h, Q, hQ => by cases h
 | fuel + 1, z0, y0, a, x4_1, x5_2, lh1_2, o, h, Q, hQ => by
  unfold f92_2 at h
  refine XL.succ E0_ok ?_
  refine XQ.seq E0_ok (by kernel_rfl) ?_
  refine XQ.seq E0_ok (by kernel_rfl) ?_
  refine XQ.quiet E0_ok (by kernel_rfl) (by kernel_rfl) ?_
  refine XU.run E0_ok 1 3 [3, 4, 5, 18] rfl (σ' := [(3, s0 1 lh1_2.length), (4, ii x4_1), (5, ii x5_2), (18, .bool (decide (x5_2 > 0)))]) (by kernel_rfl) ?_
  cases b1 : (decide (x5_2 > 0) : Bool) with
  | true =>
   have h := cT b1 h
   refine XU.run E0_ok 1 2 [3, 4, 5, 18, 19, 20] rfl (σ' := [(3, s0 1 lh1_2.length), (4, ii x4_1), (5, ii x5_2), (18, .bool true), (19, s0 1 lh1_2.length), (20, ii x5_2)]) (by kernel_rfl) ?_
   cases b2 : (inRow x5_2 lh1_2.length : Bool) with
   | false => cases (cF b2 h)
   | true =>
    have h := cT b2 h
    refine XU.rd E0_ok [3, 4, 5, 18, 21] rfl (v := pp 1 ((Int.toNat x5_2) * 1)) (v_idx (s := 1) (x := (src 49 (.tmp 19))) (y := (src 49 (.tmp 20))) (b := 1) (o := 0) (len := lh1_2.length) (cap := lh1_2.length) (ik := .i64) (i := x5_2) (off := (Int.toNat x5_2) * 1) (d := (some (path 12 21))) (by kernel_rfl) (by kernel_rfl) (by kernel_rfl) b2 (by omega)) (σ' := [(3, s0 1 lh1_2.length), (4, ii x4_1), (5, ii x5_2), (18, .bool true), (21, pp 1 ((Int.toNat x5_2) * 1))]) (by kernel_rfl) ?_
    refine XU.rd E0_ok [3, 4, 5, 18, 22] rfl (v := ii (List.getD lh1_2 (Int.toNat x5_2) 0)) (v_load1 (encI_ok .i64) (x := (src 49 (.tmp 21))) (b := 1) (off := (Int.toNat x5_2) * 1) (xs := lh1_2) (fz := 0) (e := 3) (es := 1) (d := (some (path 12 22))) (by kernel_rfl) (by kernel_rfl) (by kernel_rfl) (Int.toNat x5_2) 0 0 (by first | rfl | omega) (row_len (inRow_toNat b2) (by simp)) rfl rfl) (σ' := [(3, s0 1 lh1_2.length), (4, ii x4_1), (5, ii x5_2), (18, .bool true), (22, ii (List.getD lh1_2 (Int.toNat x5_2) 0))]) (by kernel_rfl) ?_
    refine XU.run E0_ok 1 3 [3, 4, 5, 18, 22, 23, 25] rfl (σ' := [(3, s0 1 lh1_2.length), (4, ii x4_1), (5, ii x5_2), (18, .bool true), (22, ii (List.getD lh1_2 (Int.toNat x5_2) 0)), (23, s0 1 lh1_2.length), (25, ii (w64 (x5_2 - 1)))]) (by kernel_rfl) ?_
    cases b3 : (inRow (w64 (x5_2 - 1)) lh1_2.length : Bool) with
    | false => cases (cF b3 h)
    | true =>
     have h := cT b3 h
     refine XU.rd E0_ok [3, 4, 5, 18, 22, 26] rfl (v := pp 1 ((Int.toNat (w64 (x5_2 - 1))) * 1)) (v_idx (s := 1) (x := (src 49 (.tmp 23))) (y := (src 49 (.tmp 25))) (b := 1) (o := 0) (len := lh1_2.length) (cap := lh1_2.length) (ik := .i64) (i := w64 (x5_2 - 1)) (off := (Int.toNat (w64 (x5_2 - 1))) * 1) (d := (some (path 12 26))) (by kernel_rfl) (by kernel_rfl) (by kernel_rfl) b3 (by omega)) (σ' := [(3, s0 1 lh1_2.length), (4, ii x4_1), (5, ii x5_2), (18, .bool true), (22, ii (List.getD lh1_2 (Int.toNat x5_2) 0)), (26, pp 1 ((Int.toNat (w64 (x5_2 - 1))) * 1))]) (by kernel_rfl) ?_
     refine XU.rd E0_ok [3, 4, 5, 18, 22, 27] rfl (v := ii (List.getD lh1_2 (Int.toNat (w64 (x5_2 - 1))) 0)) (v_load1 (encI_ok .i64) (x := (src 49 (.tmp 26))) (b := 1) (off := (Int.toNat (w64 (x5_2 - 1))) * 1) (xs := lh1_2) (fz := 0) (e := 3) (es := 1) (d := (some (path 12 27))) (by kernel_rfl) (by kernel_rfl) (by kernel_rfl) (Int.toNat (w64 (x5_2 - 1))) 0 0 (by first | rfl | omega) (row_len (inRow_toNat b3) (by simp)) rfl rfl) (σ' := [(3, s0 1 lh1_2.length), (4, ii x4_1), (5, ii x5_2), (18, .bool true), (22, ii (List.getD lh1_2 (Int.toNat x5_2) 0)), (27, ii (List.getD lh1_2 (Int.toNat (w64 (x5_2 - 1))) 0))]) (by kernel_rfl) ?_
     refine XU.run E0_ok 1 2 [3, 4, 5, 29] rfl (σ' := [(3, s0 1 lh1_2.length), (4, ii x4_1), (5, ii x5_2), (29, .bool (decide ((List.getD lh1_2 (Int.toNat x5_2) 0) > (List.getD lh1_2 (Int.toNat (w64 (x5_2 - 1))) 0))))]) (by kernel_rfl) ?_
     refine XU.done (by kernel_rfl) ?_
     show XQ _ _ _ _ _ _ _ _
     cases b4 : (decide ((List.getD lh1_2 (Int.toNat x5_2) 0) > (List.getD lh1_2 (Int.toNat (w64 (x5_2 - 1))) 0)) : Bool) with
     | true =>
      have h := cT b4 h
      refine XQ.cond (s := (.tmp 29)) (b := true) (by kernel_rfl) (by kernel_rfl) (fun _ => ?_) (fun q => by cases q)
      refine XQ.skip (by kernel_rfl) ?_
      show XQ _ _ _ _ _ _ _ _
      refine XQ.seq E0_ok (by kernel_rfl) ?_
      refine XQ.block (id := 3) (by kernel_rfl) ?_
      refine XQ.preP E0_ok [2, 3, 4] [0, 1, 5, 6, 7, 8, 9, 10, 11, 12, 13, 14] 15 [16, 17] (by kernel_rfl) (by kernel_rfl) (by kernel_rfl) ?_
      refine XP.step E0_ok 3 [3, 4, 5, 34, 36] rfl (σ' := [(3, s0 1 lh1_2.length), (4, ii x4_1), (5, ii x5_2), (34, s0 1 lh1_2.length), (36, ii (w64 (x5_2 - 1)))]) (by kernel_rfl) ?_
      refine XP.done (by kernel_rfl) ?_
      show XS _ _ _ _ _ _ _ _ _ _
      refine XS.step E0_ok 5 rfl [3, 4, 5, 32, 33, 34, 36, 37, 39] rfl (σ' := [(3, s0 1 lh1_2.length), (4, ii x4_1), (5, ii x5_2), (32, s0 1 lh1_2.length), (33, ii x5_2), (34, s0 1 lh1_2.length), (36, ii (w64 (x5_2 - 1))), (37, s0 1 lh1_2.length), (39, ii (w64 (x5_2 - 1)))]) (by kernel_rfl) ?_
      refine XS.rd E0_ok rfl [3, 4, 5, 32, 33, 34, 36, 40] rfl (v := pp 1 ((Int.toNat (w64 (x5_2 - 1))) * 1)) (v_idx (s := 1) (x := (src 49 (.tmp 37))) (y := (src 49 (.tmp 39))) (b := 1) (o := 0) (len := lh1_2.length) (cap := lh1_2.length) (ik := .i64) (i := w64 (x5_2 - 1)) (off := (Int.toNat (w64 (x5_2 - 1))) * 1) (d := (some (path 12 40))) (by kernel_rfl) (by kernel_rfl) (by kernel_rfl) b3 (by omega)) (σ' := [(3, s0 1 lh1_2.length), (4, ii x4_1), (5, ii x5_2), (32, s0 1 lh1_2.length), (33, ii x5_2), (34, s0 1 lh1_2.length), (36, ii (w64 (x5_2 - 1))), (40, pp 1 ((Int.toNat (w64 (x5_2 - 1))) * 1))]) (by kernel_rfl) ?_
      refine XS.rd E0_ok rfl [3, 4, 5, 32, 33, 34, 36, 41] rfl (v := ii (List.getD lh1_2 (Int.toNat (w64 (x5_2 - 1))) 0)) (v_load1 (encI_ok .i64) (x := (src 49 (.tmp 40))) (b := 1) (off := (Int.toNat (w64 (x5_2 - 1))) * 1) (xs := lh1_2) (fz := 0) (e := 3) (es := 1) (d := (some (path 12 41))) (by kernel_rfl) (by kernel_rfl) (by kernel_rfl) (Int.toNat (w64 (x5_2 - 1))) 0 0 (by first | rfl | omega) (row_len (inRow_toNat b3) (by simp)) rfl rfl) (σ' := [(3, s0 1 lh1_2.length), (4, ii x4_1), (5, ii x5_2), (32, s0 1 lh1_2.length), (33, ii x5_2), (34, s0 1 lh1_2.length), (36, ii (w64 (x5_2 - 1))), (41, ii (List.getD lh1_2 (Int.toNat (w64 (x5_2 - 1))) 0))]) (by kernel_rfl) ?_
      refine XS.step E0_ok 2 rfl [3, 4, 5, 32, 33, 34, 36, 41, 42, 43] rfl (σ' := [(3, s0 1 lh1_2.length), (4, ii x4_1), (5, ii x5_2), (32, s0 1 lh1_2.length), (33, ii x5_2), (34, s0 1 lh1_2.length), (36, ii (w64 (x5_2 - 1))), (41, ii (List.getD lh1_2 (Int.toNat (w64 (x5_2 - 1))) 0)), (42, s0 1 lh1_2.length), (43, ii x5_2)]) (by kernel_rfl) ?_
      refine XS.rd E0_ok rfl [3, 4, 5, 32, 33, 34, 36, 41, 44] rfl (v := pp 1 ((Int.toNat x5_2) * 1)) (v_idx (s := 1) (x := (src 49 (.tmp 42))) (y := (src 49 (.tmp 43))) (b := 1) (o := 0) (len := lh1_2.length) (cap := lh1_2.length) (ik := .i64) (i := x5_2) (off := (Int.toNat x5_2) * 1) (d := (some (path 12 44))) (by kernel_rfl) (by kernel_rfl) (by kernel_rfl) b2 (by omega)) (σ' := [(3, s0 1 lh1_2.length), (4, ii x4_1), (5, ii x5_2), (32, s0 1 lh1_2.length), (33, ii x5_2), (34, s0 1 lh1_2.length), (36, ii (w64 (x5_2 - 1))), (41, ii (List.getD lh1_2 (Int.toNat (w64 (x5_2 - 1))) 0)), (44, pp 1 ((Int.toNat x5_2) * 1))]) (by kernel_rfl) ?_
      refine XS.rd E0_ok rfl [3, 4, 5, 32, 33, 34, 36, 41, 45] rfl (v := ii (List.getD lh1_2 (Int.toNat x5_2) 0)) (v_load1 (encI_ok .i64) (x := (src 49 (.tmp 44))) (b := 1) (off := (Int.toNat x5_2) * 1) (xs := lh1_2) (fz := 0) (e := 3) (es := 1) (d := (some (path 12 45))) (by kernel_rfl) (by kernel_rfl) (by kernel_rfl) (Int.toNat x5_2) 0 0 (by first | rfl | omega) (row_len (inRow_toNat b2) (by simp)) rfl rfl) (σ' := [(3, s0 1 lh1_2.length), (4, ii x4_1), (5, ii x5_2), (32, s0 1 lh1_2.length), (33, ii x5_2), (34, s0 1 lh1_2.length), (36, ii (w64 (x5_2 - 1))), (41, ii (List.getD lh1_2 (Int.toNat (w64 (x5_2 - 1))) 0)), (45, ii (List.getD lh1_2 (Int.toNat x5_2) 0))]) (by kernel_rfl) ?_
      refine XS.rd E0_ok rfl [3, 4, 5, 34, 36, 41, 45, 46] rfl (v := pp 1 ((Int.toNat x5_2) * 1)) (v_idx (s := 1) (x := (src 49 (.tmp 32))) (y := (src 49 (.tmp 33))) (b := 1) (o := 0) (len := lh1_2.length) (cap := lh1_2.length) (ik := .i64) (i := x5_2) (off := (Int.toNat x5_2) * 1) (d := (some (path 12 46))) (by kernel_rfl) (by kernel_rfl) (by kernel_rfl) b2 (by omega)) (σ' := [(3, s0 1 lh1_2.length), (4, ii x4_1), (5, ii x5_2), (34, s0 1 lh1_2.length), (36, ii (w64 (x5_2 - 1))), (41, ii (List.getD lh1_2 (Int.toNat (w64 (x5_2 - 1))) 0)), (45, ii (List.getD lh1_2 (Int.toNat x5_2) 0)), (46, pp 1 ((Int.toNat x5_2) * 1))]) (by kernel_rfl) ?_
      refine XS.done (by kernel_rfl) ?_
      refine XR.ef E0_ok [3, 4, 5, 34, 36, 45] rfl (e_store (encI_ok .i64) (size := 1) (x := (src 49 (.tmp 46))) (y := (src 49 (.tmp 41))) (b := 1) (off := (Int.toNat x5_2) * 1) (xs := lh1_2) (e := 3) (es := 1) (d := none) (h' := [(1, rc (encI .i64) (List.set lh1_2 (Int.toNat x5_2) (List.getD lh1_2 (Int.toNat (w64 (x5_2 - 1))) 0)) 0 3 1), (0, rc (encI .i64) a z0 y0 1)]) (w := ii (List.getD lh1_2 (Int.toNat (w64 (x5_2 - 1))) 0)) (ws := [ii (List.getD lh1_2 (Int.toNat (w64 (x5_2 - 1))) 0)]) (a := List.getD lh1_2 (Int.toNat (w64 (x5_2 - 1))) 0) (by kernel_rfl) (by kernel_rfl) (by kernel_rfl) (Int.toNat x5_2) 0 0 (by first | rfl | omega) (row_len (inRow_toNat b2) (by simp)) (by kernel_rfl) rfl rfl rfl rfl rfl (by kernel_rfl)) (σ' := [(3, s0 1 lh1_2.length), (4, ii x4_1), (5, ii x5_2), (34, s0 1 lh1_2.length), (36, ii (w64 (x5_2 - 1))), (45, ii (List.getD lh1_2 (Int.toNat x5_2) 0))]) (by kernel_rfl) ?_
      refine XR.rd E0_ok [3, 4, 5, 45, 47] rfl (v := pp 1 ((Int.toNat (w64 (x5_2 - 1))) * 1)) (v_idx (s := 1) (x := (src 49 (.tmp 34))) (y := (src 49 (.tmp 36))) (b := 1) (o := 0) (len := lh1_2.length) (cap := lh1_2.length) (ik := .i64) (i := w64 (x5_2 - 1)) (off := (Int.toNat (w64 (x5_2 - 1))) * 1) (d := (some (path 12 47))) (by kernel_rfl) (by kernel_rfl) (by kernel_rfl) b3 (by omega)) (σ' := [(3, s0 1 lh1_2.length), (4, ii x4_1), (5, ii x5_2), (45, ii (List.getD lh1_2 (Int.toNat x5_2) 0)), (47, pp 1 ((Int.toNat (w64 (x5_2 - 1))) * 1))]) (by kernel_rfl) ?_
      refine XR.ef E0_ok [3, 4, 5] rfl (e_store (encI_ok .i64) (size := 1) (x := (src 49 (.tmp 47))) (y := (src 49 (.tmp 45))) (b := 1) (off := (Int.toNat (w64 (x5_2 - 1))) * 1) (xs := List.set lh1_2 (Int.toNat x5_2) (List.getD lh1_2 (Int.toNat (w64 (x5_2 - 1))) 0)) (e := 3) (es := 1) (d := none) (h' := [(1, rc (encI .i64) (List.set (List.set lh1_2 (Int.toNat x5_2) (List.getD lh1_2 (Int.toNat (w64 (x5_2 - 1))) 0)) (Int.toNat (w64 (x5_2 - 1))) (List.getD lh1_2 (Int.toNat x5_2) 0)) 0 3 1), (0, rc (encI .i64) a z0 y0 1)]) (w := ii (List.getD lh1_2 (Int.toNat x5_2) 0)) (ws := [ii (List.getD lh1_2 (Int.toNat x5_2) 0)]) (a := List.getD lh1_2 (Int.toNat x5_2) 0) (by kernel_rfl) (by kernel_rfl) (by kernel_rfl) (Int.toNat (w64 (x5_2 - 1))) 0 0 (by first | rfl | omega) (row_len (inRow_toNat b3) (by simp)) (by kernel_rfl) rfl rfl rfl rfl rfl (by kernel_rfl)) (σ' := [(3, s0 1 lh1_2.length), (4, ii x4_1), (5, ii x5_2)]) (by kernel_rfl) ?_
      refine XR.done (by kernel_rfl) ?_
      show XQ _ _ _ _ _ _ _ _
      refine XQ.region (by kernel_rfl) ?_
      refine XR.runS E0_ok 1 3 [(3, s0 1 lh1_2.length), (4, ii x4_1), (5, ii (w64 (x5_2 - 1)))] rfl (by kernel_rfl) ?_
      refine XR.done (by kernel_rfl) ?_
      show XL _ _ _ _ _ _ _ _ _
      refine XL.ren (σ' := [(3, s0 1 lh1_2.length), (4, ii x4_1), (5, ii (w64 (x5_2 - 1)))]) (h' := [(1, rc (encI .i64) (List.set (List.set lh1_2 (Int.toNat x5_2) (List.getD lh1_2 (Int.toNat (w64 (x5_2 - 1))) 0)) (Int.toNat (w64 (x5_2 - 1))) (List.getD lh1_2 (Int.toNat x5_2) 0)) 0 3 1), (0, rc (encI .i64) a z0 y0 1)]) (c' := 2) [0, 1] (by decide) rfl ⟨by kernel_rfl, by kernel_rfl, by kernel_rfl, trivial⟩ ⟨⟨_, _, rfl, rfl, .inl ⟨rfl, rowC_scal (encI_ok .i64) _⟩⟩, ⟨_, _, rfl, rfl, .inl ⟨rfl, rowC_scal (encI_ok .i64) _⟩⟩, trivial⟩ rfl ?_
      refine XL.conv (f92_2_ok m fuel z0 y0 a x4_1 (w64 (x5_2 - 1)) (List.set (List.set lh1_2 (Int.toNat x5_2) (List.getD lh1_2 (Int.toNat (w64 (x5_2 - 1))) 0)) (Int.toNat (w64 (x5_2 - 1))) (List.getD lh1_2 (Int.toNat x5_2) 0)) o h Q hQ) (by first | rfl | simp)
     | false =>
      have h := cF b4 h
      refine XQ.cond (s := (.tmp 29)) (b := false) (by kernel_rfl) (by kernel_rfl) (fun q => by cases q) (fun _ => ?_)
      refine XQ.ren (σ' := [(3, s0 1 lh1_2.length), (4, ii x4_1)]) (h' := [(1, rc (encI .i64) lh1_2 0 3 1), (0, rc (encI .i64) a z0 y0 1)]) (c' := 2) [0, 1] (by decide) rfl ⟨by kernel_rfl, by kernel_rfl, trivial⟩ ⟨⟨_, _, rfl, rfl, .inl ⟨rfl, rowC_scal (encI_ok .i64) _⟩⟩, ⟨_, _, rfl, rfl, .inl ⟨rfl, rowC_scal (encI_ok .i64) _⟩⟩, trivial⟩ rfl ?_
      refine XQ.exit (i := 2) (by kernel_rfl) ?_
      cases h
      exact hQ
  | false =>
   have h := cF b1 h
   refine XU.run E0_ok 1 11 [3, 4, 5, 29] rfl (σ' := [(3, s0 1 lh1_2.length), (4, ii x4_1), (5, ii x5_2), (29, .bool false)]) (by kernel_rfl) ?_
   refine XU.done (by kernel_rfl) ?_
   show XQ _ _ _ _ _ _ _ _
   refine XQ.cond (s := (.tmp 29)) (b := false) (by kernel_rfl) (by kernel_rfl) (fun q => by cases q) (fun _ => ?_)
   refine XQ.ren (σ' := [(3, s0 1 lh1_2.length), (4, ii x4_1)]) (h' := [(1, rc (encI .i64) lh1_2 0 3 1), (0, rc (encI .i64) a z0 y0 1)]) (c' := 2) [0, 1] (by decide) rfl ⟨by kernel_rfl, by kernel_rfl, trivial⟩ ⟨⟨_, _, rfl, rfl, .inl ⟨rfl, rowC_scal (encI_ok .i64) _⟩⟩, ⟨_, _, rfl, rfl, .inl ⟨rfl, rowC_scal (encI_ok .i64) _⟩⟩, trivial⟩ rfl ?_
   refine XQ.exit (i := 2) (by kernel_rfl) ?_
   cases h
   exact hQ

def f92_1 (m : Nat) : Nat → List Int → Int → List Int → Option (List Int)
 | 0, _, _, _ => none
 | fuel + 1, a, x4_1, lh1_1 =>
  cond (decide (x4_1 < ((lh1_1.length : Nat) : Int))) (
   (f92_2 m m a x4_1 x4_1 lh1_1).bind fun o2 =>
    f92_1 m fuel a (w64 (x4_1 + 1)) o2
  ) (
   some (lh1_1)
  )

theorem f92_1_ok (m : Nat) : ∀ (fuel : Nat) (z0 : Nat) (y0 : Nat) (a : List Int) (x4_1 : Int) (lh1_1 : List Int) (o : (List Int)), f92_1 m fuel a x4_1 lh1_1 = some o → ∀ Q : QP, Q (.exit 0) [(3, s0 1 o.length)] [(1, rc (encI .i64) o 0 3 1), (0, rc (encI .i64) a z0 y0 1)] 2 → XL E0 49 1 fuel f92_L1 [(3, s0 1 lh1_1.length), (4, ii x4_1)] [(1, rc (encI .i64) lh1_1 0 3 1), (0, rc (encI .i64) a z0 y0 1)] 2 Q
 | 0, z0, y0, a, x4_1, lh1_1, o, h, Q, hQ => by cases h
 | fuel + 1, z0, y0, a, x4_1, lh1_1, o, h, Q, hQ => by
  unfold f92_1 at h
  refine XL.succ E0_ok ?_
  refine XQ.seq E0_ok (by kernel_rfl) ?_
  refine XQ.seq E0_ok (by kernel_rfl) ?_
  refine XQ.region (by kernel_rfl) ?_
  refine XR.runS E0_ok 1 4 [(3, s0 1 lh1_1.length), (4, ii x4_1), (12, .bool (decide (x4_1 < ((lh1_1.length : Nat) : Int))))] rfl (by kernel_rfl) ?_
  refine XR.done (by kernel_rfl) ?_
  show XQ _ _ _ _ _ _ _ _
  cases b1 : (decide (x4_1 < ((lh1_1.length : Nat) : Int)) : Bool) with
  | true =>
   have h := cT b1 h
   refine XQ.cond (s := (.tmp 12)) (b := true) (by kernel_rfl) (by kernel_rfl) (fun _ => ?_) (fun q => by cases q)
   refine XQ.skip (by kernel_rfl) ?_
   show XQ _ _ _ _ _ _ _ _
   refine XQ.seq E0_ok (by kernel_rfl) ?_
   refine XQ.block (id := 1) (by kernel_rfl) ?_
   refine XQ.seq E0_ok (by kernel_rfl) ?_
   refine XQ.region (by kernel_rfl) ?_
   refine XR.runS E0_ok 1 2 [(3, s0 1 lh1_1.length), (4, ii x4_1), (5, ii x4_1)] rfl (by kernel_rfl) ?_
   refine XR.done (by kernel_rfl) ?_
   show XQ _ _ _ _ _ _ _ _
   refine XQ.block (id := 2) (by kernel_rfl) ?_
   refine XQ.loop m (by kernel_rfl) ?_
   obtain ⟨o2, o2_h, h⟩ := bS h
   refine XL.ren (σ' := [(3, s0 1 lh1_1.length), (4, ii x4_1), (5, ii x4_1)]) (h' := [(1, rc (encI .i64) lh1_1 0 3 1), (0, rc (encI .i64) a z0 y0 1)]) (c' := 2) [0, 1] (by decide) rfl ⟨by kernel_rfl, by kernel_rfl, by kernel_rfl, trivial⟩ ⟨⟨_, _, rfl, rfl, .inl ⟨rfl, rowC_scal (encI_ok .i64) _⟩⟩, ⟨_, _, rfl, rfl, .inl ⟨rfl, rowC_scal (encI_ok .i64) _⟩⟩, trivial⟩ rfl ?_
   refine XL.conv (f92_2_ok m m z0 y0 a x4_1 x4_1 lh1_1 o2 o2_h _ ?_) (by first | rfl | simp)
   show XQ _ _ _ _ _ _ _ _
   refine XQ.region (by kernel_rfl) ?_
   refine XR.runS E0_ok 1 3 [(3, s0 1 o2.length), (4, ii (w64 (x4_1 + 1)))] rfl (by kernel_rfl) ?_
   refine XR.done (by kernel_rfl) ?_
   show XL _ _ _ _ _ _ _ _ _
   refine XL.ren (σ' := [(3, s0 1 o2.length), (4, ii (w64 (x4_1 + 1)))]) (h' := [(1, rc (encI .i64) o2 0 3 1), (0, rc (encI .i64) a z0 y0 1)]) (c' := 2) [0, 1] (by decide) rfl ⟨by kernel_rfl, by kernel_rfl, trivial⟩ ⟨⟨_, _, rfl, rfl, .inl ⟨rfl, rowC_scal (encI_ok .i64) _⟩⟩, ⟨_, _, rfl, rfl, .inl ⟨rfl, rowC_scal (encI_ok .i64) _⟩⟩, trivial⟩ rfl ?_
   refine XL.conv (f92_1_ok m fuel z0 y0 a (w64 (x4_1 + 1)) o2 o h Q hQ) (by first | rfl | simp)
  | false =>
   have h := cF b1 h
   refine XQ.cond (s := (.tmp 12)) (b := false) (by kernel_rfl) (by kernel_rfl) (fun q => by cases q) (fun _ => ?_)
   refine XQ.ren (σ' := [(3, s0 1 lh1_1.length)]) (h' := [(1, rc (encI .i64) lh1_1 0 3 1), (0, rc (encI .i64) a z0 y0 1)]) (c' := 2) [0, 1] (by decide) rfl ⟨by kernel_rfl, trivial⟩ ⟨⟨_, _, rfl, rfl, .inl ⟨rfl, rowC_scal (encI_ok .i64) _⟩⟩, ⟨_, _, rfl, rfl, .inl ⟨rfl, rowC_scal (encI_ok .i64) _⟩⟩, trivial⟩ rfl ?_
   refine XQ.exit (i := 0) (by kernel_rfl) ?_
   cases h
   exact hQ

def f92 (m : Nat) (a : List Int) : Option (List Int) :=
 cond (fitsB (0 + a.length) 8) (
  (f92_1 m m a 0 a).bind fun o1 =>
   some (o1)
 ) none

theorem f92_ok (m : Nat) (z0 : Nat) (y0 : Nat) (a : List Int) (o : List Int) (h : f92 m a = some o) : KC E0 92 [s0 0 a.length] [(0, rc (encI .i64) a z0 y0 1)] 1 (fun v h' c' => v = s0 1 o.length ∧ h' = [(1, rc (encI .i64) o 0 3 1)] ++ [(0, rc (encI .i64) a z0 y0 1)] ∧ c' = 2) := by
 refine KC.bodyN E0_ok (F := Proofs.Tryd.f92) (by kernel_rfl) (code := f92_C92) (by kernel_rfl) (nt := 49) (by kernel_rfl) (rs := [.tmp 2]) (by kernel_rfl) (by kernel_rfl) (σ := [(0, s0 0 a.length)]) (by kernel_rfl) ?_
 unfold f92 at h
 refine XQ.seq E0_ok (by kernel_rfl) ?_
 refine XQ.region (by kernel_rfl) ?_
 refine XR.runS E0_ok 1 1 [(0, s0 0 a.length)] rfl (by kernel_rfl) ?_
 refine XR.done (by kernel_rfl) ?_
 show XQ _ _ _ _ _ _ _ _
 refine XQ.seq E0_ok (by kernel_rfl) ?_
 refine XQ.region (by kernel_rfl) ?_
 refine XR.runT E0_ok 1 2 [(6, s0 1 0), (7, s0 0 a.length)] [(1, rc (encI .i64) [] 0 3 1), (0, rc (encI .i64) a z0 y0 1)] 2 rfl (by kernel_rfl) ?_
 cases b1 : (fitsB (0 + a.length) 8 : Bool) with
 | false => cases (cF b1 h)
 | true =>
  have h := cT b1 h
  refine XR.efX E0_ok [8] rfl (d := (some (path 12 8))) (f := eAppend false 1 8 3 (src 49 (.tmp 6)) (src 49 (.tmp 7))) (by kernel_rfl) (fun _ => eAppendA_ok) (e_appendA (encI_ok .i64) (bytes := 8) (e := 3) (x := (src 49 (.tmp 6))) (y := (src 49 (.tmp 7))) (b := 1) (len := 0) (cap := 0) (xs := []) (n := a.length) (ys := a) (n' := a.length) (h' := [(2, rc (encI .i64) a 0 3 1), (0, rc (encI .i64) a z0 y0 1)]) (Y := s0 0 a.length) (by kernel_rfl) (by kernel_rfl) (by kernel_rfl) (fetch_all (encI_ok .i64) (ys := a) (fz := z0) (e := y0) (es := 1) (by kernel_rfl) (by simp) (Nat.le_refl _)) (by simp) rfl (by simp) (by simp) b1 (by first | (simp; done) | (simp; omega)) (by kernel_rfl)) (σ' := [(8, s0 2 a.length)]) (by kernel_rfl) ?_
  refine XR.runS E0_ok 1 1 [(3, s0 2 a.length)] rfl (by kernel_rfl) ?_
  refine XR.done (by kernel_rfl) ?_
  show XQ _ _ _ _ _ _ _ _
  refine XQ.seq E0_ok (by kernel_rfl) ?_
  refine XQ.seq E0_ok (by kernel_rfl) ?_
  refine XQ.region (by kernel_rfl) ?_
  refine XR.runS E0_ok 1 1 [(3, s0 2 a.length), (4, ii 0)] rfl (by kernel_rfl) ?_
  refine XR.done (by kernel_rfl) ?_
  show XQ _ _ _ _ _ _ _ _
  refine XQ.block (id := 0) (by kernel_rfl) ?_
  refine XQ.loop m (by kernel_rfl) ?_
  obtain ⟨o1, o1_h, h⟩ := bS h
  refine XL.ren (σ' := [(3, s0 1 a.length), (4, ii 0)]) (h' := [(1, rc (encI .i64) a 0 3 1), (0, rc (encI .i64) a z0 y0 1)]) (c' := 2) [0, 2] (by decide) rfl ⟨by kernel_rfl, by kernel_rfl, trivial⟩ ⟨⟨_, _, rfl, rfl, .inl ⟨rfl, rowC_scal (encI_ok .i64) _⟩⟩, ⟨_, _, rfl, rfl, .inl ⟨rfl, rowC_scal (encI_ok .i64) _⟩⟩, trivial⟩ rfl ?_
  refine XL.conv (f92_1_ok m m z0 y0 a 0 a o1 o1_h _ ?_) (by first | rfl | simp)
  show XQ _ _ _ _ _ _ _ _
  refine XQ.seq E0_ok (by kernel_rfl) ?_
  refine XQ.region (by kernel_rfl) ?_
  refine XR.runS E0_ok 1 2 [(2, s0 1 o1.length)] rfl (by kernel_rfl) ?_
  refine XR.done (by kernel_rfl) ?_
  show XQ _ _ _ _ _ _ _ _
  refine XQ.ren (σ' := [(2, s0 1 o1.length)]) (h' := [(1, rc (encI .i64) o1 0 3 1), (0, rc (encI .i64) a z0 y0 1)]) (c' := 2) [0, 1] (by decide) rfl ⟨by kernel_rfl, trivial⟩ ⟨⟨_, _, rfl, rfl, .inl ⟨rfl, rowC_scal (encI_ok .i64) _⟩⟩, ⟨_, _, rfl, rfl, .inl ⟨rfl, rowC_scal (encI_ok .i64) _⟩⟩, trivial⟩ rfl ?_
  refine XQ.ret (by kernel_rfl) ?_
  have h := Option.some.inj h
  subst h
  exact ⟨fun i q => (by cases q), s0 1 o1.length, (by kernel_rfl), (by kernel_rfl), (by kernel_rfl), rfl⟩

/-! vitola/vitolaref12.stands -/
noncomputable def f67_C67 : Code := Proofs.Tryd.f67.body.getD .skip
noncomputable def f67_C63 : Code := Proofs.Tryd.f63.body.getD .skip
noncomputable def f67_L1 : Code := lft (lft (rgt (lft (rgt (rgt (rgt f67_C67))))))
noncomputable def f67_L2 : Code := lft (lft (rgt (lft (rgt (rgt f67_C63)))))

def f67_1 (m : Nat) : Nat → List Int → Int → Int → Int → List Int → Option (Int × (List Int))
 | 0, _, _, _, _, _ => none
 | fuel + 1, a, b, x6_1, x7_1, lh1_1 =>
  cond (decide (x7_1 < ((lh1_1.length : Nat) : Int))) (
   cond (inRow x7_1 lh1_1.length) (
    f67_1 m fuel a b (w64 (x6_1 + (iMin (List.getD lh1_1 (Int.toNat x7_1) 0) b))) (w64 (x7_1 + 1)) lh1_1
   ) none
  ) (
   some (x6_1, lh1_1)
  )

theorem f67_1_ok (m : Nat) : ∀ (fuel : Nat) (z0 : Nat) (y0 : Nat) (a : List Int) (b : Int) (x6_1 : Int) (x7_1 : Int) (lh1_1 : List Int) (o : (Int × (List Int))), f67_1 m fuel a b x6_1 x7_1 lh1_1 = some o → ∀ Q : QP, Q (.exit 0) [(1, ii b), (5, s0 1 o.2.length), (6, ii o.1)] [(1, rc (encI .i64) o.2 0 3 1), (0, rc (encI .i64) a z0 y0 1)] 2 → XL E0 35 1 fuel f67_L1 [(1, ii b), (5, s0 1 lh1_1.length), (6, ii x6_1), (7, ii x7_1)] [(1, rc (encI .i64) lh1_1 0 3 1), (0, rc (encI .i64) a z0 y0 1)] 2 Q
 | 0, z0, y0, a, b, x6_1, x7_1, lh1_1, o, h, Q, hQ => by cases h
 | fuel + 1, z0, y0, a, b, x6_1, x7_1, lh1_1, o, h, Q, hQ => by
  unfold f67_1 at h
  refine XL.succ E0_ok ?_
  refine XQ.seq E0_ok (by kernel_rfl) ?_
  refine XQ.seq E0_ok (by kernel_rfl) ?_
  refine XQ.region (by kernel_rfl) ?_
  refine XR.runS E0_ok 1 4 [(1, ii b), (5, s0 1 lh1_1.length), (6, ii x6_1), (7, ii x7_1), (18, .bool (decide (x7_1 < ((lh1_1.length : Nat) : Int))))] rfl (by kernel_rfl) ?_
  refine XR.done (by kernel_rfl) ?_
  show XQ _ _ _ _ _ _ _ _
  cases b1 : (decide (x7_1 < ((lh1_1.length : Nat) : Int)) : Bool) with
  | true =>
   have h := cT b1 h
   refine XQ.cond (s := (.tmp 18)) (b := true) (by kernel_rfl) (by kernel_rfl) (fun _ => ?_) (fun q => by cases q)
   refine XQ.skip (by kernel_rfl) ?_
   show XQ _ _ _ _ _ _ _ _
   refine XQ.seq E0_ok (by kernel_rfl) ?_
   refine XQ.block (id := 1) (by kernel_rfl) ?_
   refine XQ.region (by kernel_rfl) ?_
   refine XR.runS E0_ok 1 3 [(1, ii b), (5, s0 1 lh1_1.length), (7, ii x7_1), (21, ii x6_1), (22, s0 1 lh1_1.length), (23, ii x7_1)] rfl (by kernel_rfl) ?_
   cases b2 : (inRow x7_1 lh1_1.length : Bool) with
   | false => cases (cF b2 h)
   | true =>
    have h := cT b2 h
    refine XR.rd E0_ok [1, 5, 7, 21, 24] rfl (v := pp 1 ((Int.toNat x7_1) * 1)) (v_idx (s := 1) (x := (src 35 (.tmp 22))) (y := (src 35 (.tmp 23))) (b := 1) (o := 0) (len := lh1_1.length) (cap := lh1_1.length) (ik := .i64) (i := x7_1) (off := (Int.toNat x7_1) * 1) (d := (some (path 12 24))) (by kernel_rfl) (by kernel_rfl) (by kernel_rfl) b2 (by omega)) (σ' := [(1, ii b), (5, s0 1 lh1_1.length), (7, ii x7_1), (21, ii x6_1), (24, pp 1 ((Int.toNat x7_1) * 1))]) (by kernel_rfl) ?_
    refine XR.rd E0_ok [1, 5, 7, 21, 25] rfl (v := ii (List.getD lh1_1 (Int.toNat x7_1) 0)) (v_load1 (encI_ok .i64) (x := (src 35 (.tmp 24))) (b := 1) (off := (Int.toNat x7_1) * 1) (xs := lh1_1) (fz := 0) (e := 3) (es := 1) (d := (some (path 12 25))) (by kernel_rfl) (by kernel_rfl) (by kernel_rfl) (Int.toNat x7_1) 0 0 (by first | rfl | omega) (row_len (inRow_toNat b2) (by simp)) rfl rfl) (σ' := [(1, ii b), (5, s0 1 lh1_1.length), (7, ii x7_1), (21, ii x6_1), (25, ii (List.getD lh1_1 (Int.toNat x7_1) 0))]) (by kernel_rfl) ?_
    refine XR.runS E0_ok 1 4 [(1, ii b), (5, s0 1 lh1_1.length), (6, ii (w64 (x6_1 + (iMin (List.getD lh1_1 (Int.toNat x7_1) 0) b)))), (7, ii x7_1)] rfl (by kernel_rfl) ?_
    refine XR.done (by kernel_rfl) ?_
    show XQ _ _ _ _ _ _ _ _
    refine XQ.region (by kernel_rfl) ?_
    refine XR.runS E0_ok 1 3 [(1, ii b), (5, s0 1 lh1_1.length), (6, ii (w64 (x6_1 + (iMin (List.getD lh1_1 (Int.toNat x7_1) 0) b)))), (7, ii (w64 (x7_1 + 1)))] rfl (by kernel_rfl) ?_
    refine XR.done (by kernel_rfl) ?_
    show XL _ _ _ _ _ _ _ _ _
    refine XL.ren (σ' := [(1, ii b), (5, s0 1 lh1_1.length), (6, ii (w64 (x6_1 + (iMin (List.getD lh1_1 (Int.toNat x7_1) 0) b)))), (7, ii (w64 (x7_1 + 1)))]) (h' := [(1, rc (encI .i64) lh1_1 0 3 1), (0, rc (encI .i64) a z0 y0 1)]) (c' := 2) [0, 1] (by decide) rfl ⟨by kernel_rfl, by kernel_rfl, by kernel_rfl, by kernel_rfl, trivial⟩ ⟨⟨_, _, rfl, rfl, .inl ⟨rfl, rowC_scal (encI_ok .i64) _⟩⟩, ⟨_, _, rfl, rfl, .inl ⟨rfl, rowC_scal (encI_ok .i64) _⟩⟩, trivial⟩ rfl ?_
    refine XL.conv (f67_1_ok m fuel z0 y0 a b (w64 (x6_1 + (iMin (List.getD lh1_1 (Int.toNat x7_1) 0) b))) (w64 (x7_1 + 1)) lh1_1 o h Q hQ) (by first | rfl | simp)
  | false =>
   have h := cF b1 h
   refine XQ.cond (s := (.tmp 18)) (b := false) (by kernel_rfl) (by kernel_rfl) (fun q => by cases q) (fun _ => ?_)
   refine XQ.ren (σ' := [(1, ii b), (5, s0 1 lh1_1.length), (6, ii x6_1)]) (h' := [(1, rc (encI .i64) lh1_1 0 3 1), (0, rc (encI .i64) a z0 y0 1)]) (c' := 2) [0, 1] (by decide) rfl ⟨by kernel_rfl, by kernel_rfl, by kernel_rfl, trivial⟩ ⟨⟨_, _, rfl, rfl, .inl ⟨rfl, rowC_scal (encI_ok .i64) _⟩⟩, ⟨_, _, rfl, rfl, .inl ⟨rfl, rowC_scal (encI_ok .i64) _⟩⟩, trivial⟩ rfl ?_
   refine XQ.exit (i := 0) (by kernel_rfl) ?_
   cases h
   exact hQ

def f67_2 (m : Nat) : Nat → List Int → Nat → Int → Int → List Int → Option (Int × (List Int))
 | 0, _, _, _, _, _ => none
 | fuel + 1, a, n0_2, x3_2, x4_2, lh1_2 =>
  cond (decide (x4_2 < ((n0_2 : Nat) : Int))) (
   cond (inRow x4_2 n0_2) (
    cond (decide (Int.toNat x4_2 < lh1_2.length)) (
     f67_2 m fuel a n0_2 (w64 (x3_2 + (List.getD lh1_2 (Int.toNat x4_2) 0))) (w64 (x4_2 + 1)) lh1_2
    ) none
   ) none
  ) (
   some (x3_2, lh1_2)
  )

theorem f67_2_ok (m : Nat) : ∀ (fuel : Nat) (z0 : Nat) (y0 : Nat) (a : List Int) (n0_2 : Nat) (x3_2 : Int) (x4_2 : Int) (lh1_2 : List Int) (o : (Int × (List Int))), f67_2 m fuel a n0_2 x3_2 x4_2 lh1_2 = some o → ∀ Q : QP, Q (.exit 0) [(3, ii o.1)] [(1, rc (encI .i64) o.2 0 3 1), (0, rc (encI .i64) a z0 y0 1)] 2 → XL E0 18 2 fuel f67_L2 [(0, sl 1 0 n0_2 lh1_2.length), (3, ii x3_2), (4, ii x4_2)] [(1, rc (encI .i64) lh1_2 0 3 1), (0, rc (encI .i64) a z0 y0 1)] 2 Q
 | 0, z0, y0, a, n0_2, x3_2, x4_2, lh1_2, o, h, Q, hQ => by cases h
 | fuel + 1, z0, y0, a, n0_2, x3_2, x4_2, lh1_2, o, h, Q, hQ => by
  unfold f67_2 at h
  refine XL.succ E0_ok ?_
  refine XQ.seq E0_ok (by kernel_rfl) ?_
  refine XQ.seq E0_ok (by kernel_rfl) ?_
  refine XQ.region (by kernel_rfl) ?_
  refine XR.runS E0_ok 1 4 [(0, sl 1 0 n0_2 lh1_2.length), (3, ii x3_2), (4, ii x4_2), (8, .bool (decide (x4_2 < ((n0_2 : Nat) : Int))))] rfl (by kernel_rfl) ?_
  refine XR.done (by kernel_rfl) ?_
  show XQ _ _ _ _ _ _ _ _
  cases b1 : (decide (x4_2 < ((n0_2 : Nat) : Int)) : Bool) with
  | true =>
   have h := cT b1 h
   refine XQ.cond (s := (.tmp 8)) (b := true) (by kernel_rfl) (by kernel_rfl) (fun _ => ?_) (fun q => by cases q)
   refine XQ.skip (by kernel_rfl) ?_
   show XQ _ _ _ _ _ _ _ _
   refine XQ.seq E0_ok (by kernel_rfl) ?_
   refine XQ.block (id := 1) (by kernel_rfl) ?_
   refine XQ.region (by kernel_rfl) ?_
   refine XR.runS E0_ok 1 3 [(0, sl 1 0 n0_2 lh1_2.length), (4, ii x4_2), (11, ii x3_2), (12, sl 1 0 n0_2 lh1_2.length), (13, ii x4_2)] rfl (by kernel_rfl) ?_
   cases b2 : (inRow x4_2 n0_2 : Bool) with
   | false => cases (cF b2 h)
   | true =>
    have h := cT b2 h
    refine XR.rd E0_ok [0, 4, 11, 14] rfl (v := pp 1 ((Int.toNat x4_2) * 1)) (v_idx (s := 1) (x := (src 18 (.tmp 12))) (y := (src 18 (.tmp 13))) (b := 1) (o := 0) (len := n0_2) (cap := lh1_2.length) (ik := .i64) (i := x4_2) (off := (Int.toNat x4_2) * 1) (d := (some (path 12 14))) (by kernel_rfl) (by kernel_rfl) (by kernel_rfl) b2 (by omega)) (σ' := [(0, sl 1 0 n0_2 lh1_2.length), (4, ii x4_2), (11, ii x3_2), (14, pp 1 ((Int.toNat x4_2) * 1))]) (by kernel_rfl) ?_
    cases b3 : (decide (Int.toNat x4_2 < lh1_2.length) : Bool) with
    | false => cases (cF b3 h)
    | true =>
     have h := cT b3 h
     refine XR.rd E0_ok [0, 4, 11, 15] rfl (v := ii (List.getD lh1_2 (Int.toNat x4_2) 0)) (v_load1 (encI_ok .i64) (x := (src 18 (.tmp 14))) (b := 1) (off := (Int.toNat x4_2) * 1) (xs := lh1_2) (fz := 0) (e := 3) (es := 1) (d := (some (path 12 15))) (by kernel_rfl) (by kernel_rfl) (by kernel_rfl) (Int.toNat x4_2) 0 0 (by first | rfl | omega) (row_len b3 (by simp)) rfl rfl) (σ' := [(0, sl 1 0 n0_2 lh1_2.length), (4, ii x4_2), (11, ii x3_2), (15, ii (List.getD lh1_2 (Int.toNat x4_2) 0))]) (by kernel_rfl) ?_
     refine XR.runS E0_ok 1 2 [(0, sl 1 0 n0_2 lh1_2.length), (3, ii (w64 (x3_2 + (List.getD lh1_2 (Int.toNat x4_2) 0)))), (4, ii x4_2)] rfl (by kernel_rfl) ?_
     refine XR.done (by kernel_rfl) ?_
     show XQ _ _ _ _ _ _ _ _
     refine XQ.region (by kernel_rfl) ?_
     refine XR.runS E0_ok 1 3 [(0, sl 1 0 n0_2 lh1_2.length), (3, ii (w64 (x3_2 + (List.getD lh1_2 (Int.toNat x4_2) 0)))), (4, ii (w64 (x4_2 + 1)))] rfl (by kernel_rfl) ?_
     refine XR.done (by kernel_rfl) ?_
     show XL _ _ _ _ _ _ _ _ _
     refine XL.ren (σ' := [(0, sl 1 0 n0_2 lh1_2.length), (3, ii (w64 (x3_2 + (List.getD lh1_2 (Int.toNat x4_2) 0)))), (4, ii (w64 (x4_2 + 1)))]) (h' := [(1, rc (encI .i64) lh1_2 0 3 1), (0, rc (encI .i64) a z0 y0 1)]) (c' := 2) [0, 1] (by decide) rfl ⟨by kernel_rfl, by kernel_rfl, by kernel_rfl, trivial⟩ ⟨⟨_, _, rfl, rfl, .inl ⟨rfl, rowC_scal (encI_ok .i64) _⟩⟩, ⟨_, _, rfl, rfl, .inl ⟨rfl, rowC_scal (encI_ok .i64) _⟩⟩, trivial⟩ rfl ?_
     refine XL.conv (f67_2_ok m fuel z0 y0 a n0_2 (w64 (x3_2 + (List.getD lh1_2 (Int.toNat x4_2) 0))) (w64 (x4_2 + 1)) lh1_2 o h Q hQ) (by first | rfl | simp)
  | false =>
   have h := cF b1 h
   refine XQ.cond (s := (.tmp 8)) (b := false) (by kernel_rfl) (by kernel_rfl) (fun q => by cases q) (fun _ => ?_)
   refine XQ.ren (σ' := [(3, ii x3_2)]) (h' := [(1, rc (encI .i64) lh1_2 0 3 1), (0, rc (encI .i64) a z0 y0 1)]) (c' := 2) [0, 1] (by decide) rfl ⟨by kernel_rfl, trivial⟩ ⟨⟨_, _, rfl, rfl, .inl ⟨rfl, rowC_scal (encI_ok .i64) _⟩⟩, ⟨_, _, rfl, rfl, .inl ⟨rfl, rowC_scal (encI_ok .i64) _⟩⟩, trivial⟩ rfl ?_
   refine XQ.exit (i := 0) (by kernel_rfl) ?_
   cases h
   exact hQ

def f67 (m : Nat) (a : List Int) (b : Int) : Option (Bool) :=
 (f92 m a).bind fun r1 =>
  (f67_1 m m a b (w64 (b * (w64 (b - 1)))) b r1).bind fun o1 =>
   cond (cutOK 0 b ((o1.2.length : Nat) : Int) o1.2.length) (
    (f67_2 m m a (Int.toNat b) 0 0 o1.2).bind fun o2 =>
     some (decide (o2.1 > o1.1))
   ) none

theorem f67_ok (m : Nat) (z0 : Nat) (y0 : Nat) (a : List Int) (b : Int) (o : Bool) (h : f67 m a b = some o) : KC E0 67 [s0 0 a.length, ii b] [(0, rc (encI .i64) a z0 y0 1)] 1 (fun v _ _ => v = .bool o) := by
 refine KC.bodyN E0_ok (F := Proofs.Tryd.f67) (by kernel_rfl) (code := f67_C67) (by kernel_rfl) (nt := 35) (by kernel_rfl) (rs := [.tmp 4]) (by kernel_rfl) (by kernel_rfl) (σ := [(0, s0 0 a.length), (1, ii b)]) (by kernel_rfl) ?_
 unfold f67 at h
 refine XQ.seq E0_ok (by kernel_rfl) ?_
 refine XQ.region (by kernel_rfl) ?_
 refine XR.runS E0_ok 1 1 [(0, s0 0 a.length), (1, ii b)] rfl (by kernel_rfl) ?_
 refine XR.done (by kernel_rfl) ?_
 show XQ _ _ _ _ _ _ _ _
 refine XQ.seq E0_ok (by kernel_rfl) ?_
 refine XQ.region (by kernel_rfl) ?_
 refine XR.runS E0_ok 1 1 [(1, ii b), (8, s0 0 a.length)] rfl (by kernel_rfl) ?_
 obtain ⟨r1, r1_h, h⟩ := bS h
 refine XR.call E0_ok [1, 9] rfl (K := 92) (args := [s0 0 a.length]) (d := (some (path 12 9))) (by kernel_rfl) (KC.liftH (n0 := 1) (m := 1) (args0 := [s0 0 a.length]) (h0 := [(0, rc (encI .i64) a (z0 + ((rowC (encI .i64) a).length + 1)) y0 1)]) (V := s0 1 r1.length) (V2 := s0 1 r1.length) (H := [(1, rc (encI .i64) r1 0 3 1)]) (H2 := [(1, rc (encI .i64) r1 0 3 1)]) [0] [2, 1] (f92_ok m (z0 + ((rowC (encI .i64) a).length + 1)) y0 a r1 r1_h) (by rfl) (by decide) rfl (by kernel_rfl) ⟨⟨_, _, rfl, rfl, .inl ⟨rfl, rowC_scal (encI_ok .i64) _⟩⟩, trivial⟩ (by decide) (by decide) (by kernel_rfl) ⟨⟨_, _, rfl, rfl, .inl ⟨rfl, rowC_scal (encI_ok .i64) _⟩⟩, trivial⟩ (by rfl)) ?_
 rintro _ _ _ ⟨rfl, rfl, rfl⟩
 refine XR.conv (σ' := [(1, ii b), (9, s0 1 r1.length)]) (h' := [(1, rc (encI .i64) r1 0 3 1), (0, rc (encI .i64) a z0 y0 1)]) (c' := 2) ?_ (by kernel_rfl)
 refine XR.runS E0_ok 1 1 [(1, ii b), (5, s0 1 r1.length)] rfl (by kernel_rfl) ?_
 refine XR.done (by kernel_rfl) ?_
 show XQ _ _ _ _ _ _ _ _
 refine XQ.seq E0_ok (by kernel_rfl) ?_
 refine XQ.region (by kernel_rfl) ?_
 refine XR.runS E0_ok 1 5 [(1, ii b), (5, s0 1 r1.length), (6, ii (w64 (b * (w64 (b - 1)))))] rfl (by kernel_rfl) ?_
 refine XR.done (by kernel_rfl) ?_
 show XQ _ _ _ _ _ _ _ _
 refine XQ.seq E0_ok (by kernel_rfl) ?_
 refine XQ.seq E0_ok (by kernel_rfl) ?_
 refine XQ.region (by kernel_rfl) ?_
 refine XR.runS E0_ok 1 2 [(1, ii b), (5, s0 1 r1.length), (6, ii (w64 (b * (w64 (b - 1))))), (7, ii b)] rfl (by kernel_rfl) ?_
 refine XR.done (by kernel_rfl) ?_
 show XQ _ _ _ _ _ _ _ _
 refine XQ.block (id := 0) (by kernel_rfl) ?_
 refine XQ.loop m (by kernel_rfl) ?_
 obtain ⟨o1, o1_h, h⟩ := bS h
 refine XL.ren (σ' := [(1, ii b), (5, s0 1 r1.length), (6, ii (w64 (b * (w64 (b - 1))))), (7, ii b)]) (h' := [(1, rc (encI .i64) r1 0 3 1), (0, rc (encI .i64) a z0 y0 1)]) (c' := 2) [0, 1] (by decide) rfl ⟨by kernel_rfl, by kernel_rfl, by kernel_rfl, by kernel_rfl, trivial⟩ ⟨⟨_, _, rfl, rfl, .inl ⟨rfl, rowC_scal (encI_ok .i64) _⟩⟩, ⟨_, _, rfl, rfl, .inl ⟨rfl, rowC_scal (encI_ok .i64) _⟩⟩, trivial⟩ rfl ?_
 refine XL.conv (f67_1_ok m m z0 y0 a b (w64 (b * (w64 (b - 1)))) b r1 o1 o1_h _ ?_) (by first | rfl | simp)
 show XQ _ _ _ _ _ _ _ _
 refine XQ.seq E0_ok (by kernel_rfl) ?_
 refine XQ.region (by kernel_rfl) ?_
 refine XR.runS E0_ok 1 2 [(6, ii o1.1), (29, s0 1 o1.2.length), (30, ii b)] rfl (by kernel_rfl) ?_
 cases b2 : (cutOK 0 b ((o1.2.length : Nat) : Int) o1.2.length : Bool) with
 | false => cases (cF b2 h)
 | true =>
  have h := cT b2 h
  refine XR.rd E0_ok [6, 31] rfl (v := sl 1 0 (Int.toNat b) o1.2.length) (v_cut (nt := 35) (s := 1) (x := (src 35 (.tmp 29))) (lo := none) (hi := (some (.tmp 30))) (mx := none) (b := 1) (o := 0) (len := o1.2.length) (cap := o1.2.length) (l := none) (u := (some b)) (m := none) (cs := rowC (encI .i64) o1.2) (fz := 0) (e := 3) (es := 1) (o' := 0) (len' := Int.toNat b) (cap' := o1.2.length) (d := (some (path 12 31))) (by kernel_rfl) (by kernel_rfl) (by kernel_rfl) (by kernel_rfl) (by kernel_rfl) (by kernel_rfl) (by kernel_rfl) rfl b2 (by simp only [Option.getD_none, Option.getD_some] <;> omega) (by simp only [Option.getD_none, Option.getD_some] <;> omega) (by simp only [Option.getD_none, Option.getD_some] <;> omega)) (σ' := [(6, ii o1.1), (31, sl 1 0 (Int.toNat b) o1.2.length)]) (by kernel_rfl) ?_
  refine XR.callK E0_ok [6, 32] rfl (K := 63) (args := [sl 1 0 (Int.toNat b) o1.2.length]) (d := (some (path 12 32))) (by kernel_rfl) ?_
  refine KC.bodyN E0_ok (F := Proofs.Tryd.f63) (by kernel_rfl) (code := f67_C63) (by kernel_rfl) (nt := 18) (by kernel_rfl) (rs := [.tmp 2]) (by kernel_rfl) (by kernel_rfl) (σ := [(0, sl 1 0 (Int.toNat b) o1.2.length)]) (by kernel_rfl) ?_
  refine XQ.seq E0_ok (by kernel_rfl) ?_
  refine XQ.region (by kernel_rfl) ?_
  refine XR.runS E0_ok 1 1 [(0, sl 1 0 (Int.toNat b) o1.2.length)] rfl (by kernel_rfl) ?_
  refine XR.done (by kernel_rfl) ?_
  show XQ _ _ _ _ _ _ _ _
  refine XQ.seq E0_ok (by kernel_rfl) ?_
  refine XQ.region (by kernel_rfl) ?_
  refine XR.runS E0_ok 1 1 [(0, sl 1 0 (Int.toNat b) o1.2.length), (3, ii 0)] rfl (by kernel_rfl) ?_
  refine XR.done (by kernel_rfl) ?_
  show XQ _ _ _ _ _ _ _ _
  refine XQ.seq E0_ok (by kernel_rfl) ?_
  refine XQ.seq E0_ok (by kernel_rfl) ?_
  refine XQ.region (by kernel_rfl) ?_
  refine XR.runS E0_ok 1 1 [(0, sl 1 0 (Int.toNat b) o1.2.length), (3, ii 0), (4, ii 0)] rfl (by kernel_rfl) ?_
  refine XR.done (by kernel_rfl) ?_
  show XQ _ _ _ _ _ _ _ _
  refine XQ.block (id := 0) (by kernel_rfl) ?_
  refine XQ.loop m (by kernel_rfl) ?_
  obtain ⟨o2, o2_h, h⟩ := bS h
  refine XL.ren (σ' := [(0, sl 1 0 (Int.toNat b) o1.2.length), (3, ii 0), (4, ii 0)]) (h' := [(1, rc (encI .i64) o1.2 0 3 1), (0, rc (encI .i64) a z0 y0 1)]) (c' := 2) [0, 1] (by decide) rfl ⟨by kernel_rfl, by kernel_rfl, by kernel_rfl, trivial⟩ ⟨⟨_, _, rfl, rfl, .inl ⟨rfl, rowC_scal (encI_ok .i64) _⟩⟩, ⟨_, _, rfl, rfl, .inl ⟨rfl, rowC_scal (encI_ok .i64) _⟩⟩, trivial⟩ rfl ?_
  refine XL.conv (f67_2_ok m m z0 y0 a (Int.toNat b) 0 0 o1.2 o2 o2_h _ ?_) (by first | rfl | simp)
  show XQ _ _ _ _ _ _ _ _
  refine XQ.seq E0_ok (by kernel_rfl) ?_
  refine XQ.region (by kernel_rfl) ?_
  refine XR.runS E0_ok 1 2 [(2, ii o2.1)] rfl (by kernel_rfl) ?_
  refine XR.done (by kernel_rfl) ?_
  show XQ _ _ _ _ _ _ _ _
  refine XQ.ret (by kernel_rfl) ?_
  refine ⟨fun i q => (by cases q), ii o2.1, (by kernel_rfl), ?_⟩
  refine XR.conv (σ' := [(6, ii o1.1), (32, ii o2.1)]) (h' := [(1, rc (encI .i64) o2.2 0 3 1), (0, rc (encI .i64) a z0 y0 1)]) (c' := 2) ?_ (by kernel_rfl)
  refine XR.runS E0_ok 1 3 [(4, .bool (decide (o2.1 > o1.1)))] rfl (by kernel_rfl) ?_
  refine XR.done (by kernel_rfl) ?_
  show XQ _ _ _ _ _ _ _ _
  refine XQ.ret (by kernel_rfl) ?_
  have h := Option.some.inj h
  subst h
  exact ⟨fun i q => (by cases q), .bool (decide (o2.1 > o1.1)), (by kernel_rfl), rfl⟩

/-! vitola/vitolaref12.why -/
noncomputable def f64_C64 : Code := Proofs.Tryd.f64.body.getD .skip
noncomputable def f64_L1 : Code := lft (lft (rgt (lft (rgt f64_C64))))

inductive Of64_1 where
 | r (x2_r1 : Int)
 | x0

def f64_1 (m : Nat) : Nat → List Int → Int → Option Of64_1
 | 0, _, _ => none
 | fuel + 1, a, x3_1 =>
  cond (decide (x3_1 ≤ ((a.length : Nat) : Int))) (
   (f67 m a x3_1).bind fun r3 =>
    cond (r3) (
     some (.r x3_1)
    ) (
     f64_1 m fuel a (w64 (x3_1 + 1))
    )
  ) (
   some (.x0)
  )

theorem f64_1_ok (m : Nat) : ∀ (fuel : Nat) (z0 : Nat) (y0 : Nat) (a : List Int) (x3_1 : Int) (o : Of64_1), f64_1 m fuel a x3_1 = some o → ∀ Q : QP, (match o with | .r x2_r1 => Q .ret [(2, ii x2_r1)] [(0, rc (encI .i64) a z0 y0 1)] 1 | .x0 => Q (.exit 0) [] [(0, rc (encI .i64) a z0 y0 1)] 1) → XL E0 14 1 fuel f64_L1 [(0, s0 0 a.length), (3, ii x3_1)] [(0, rc (encI .i64) a z0 y0 1)] 1 Q
 | 0, z0, y0, a, x3_1, o, h, Q, hQ => by cases h
 | fuel + 1, z0, y0, a, x3_1, o, h, Q, hQ => by
  unfold f64_1 at h
  refine XL.succ E0_ok ?_
  refine XQ.seq E0_ok (by kernel_rfl) ?_
  refine XQ.seq E0_ok (by kernel_rfl) ?_
  refine XQ.region (by kernel_rfl) ?_
  refine XR.runS E0_ok 1 4 [(0, s0 0 a.length), (3, ii x3_1), (7, .bool (decide (x3_1 ≤ ((a.length : Nat) : Int))))] rfl (by kernel_rfl) ?_
  refine XR.done (by kernel_rfl) ?_
  show XQ _ _ _ _ _ _ _ _
  cases b1 : (decide (x3_1 ≤ ((a.length : Nat) : Int)) : Bool) with
  | true =>
   have h := cT b1 h
   refine XQ.cond (s := (.tmp 7)) (b := true) (by kernel_rfl) (by kernel_rfl) (fun _ => ?_) (fun q => by cases q)
   refine XQ.skip (by kernel_rfl) ?_
   show XQ _ _ _ _ _ _ _ _
   refine XQ.seq E0_ok (by kernel_rfl) ?_
   refine XQ.block (id := 1) (by kernel_rfl) ?_
   refine XQ.seq E0_ok (by kernel_rfl) ?_
   refine XQ.region (by kernel_rfl) ?_
   refine XR.runS E0_ok 1 2 [(0, s0 0 a.length), (3, ii x3_1), (10, s0 0 a.length), (11, ii x3_1)] rfl (by kernel_rfl) ?_
   obtain ⟨r3, r3_h, h⟩ := bS h
   refine XR.call E0_ok [0, 3, 12] rfl (K := 67) (args := [s0 0 a.length, ii x3_1]) (d := (some (path 12 12))) (by kernel_rfl) (KQ.call (KC.quiet E0_ok (args0 := [s0 0 a.length, ii x3_1]) (h0 := [(0, rc (encI .i64) a (z0 + ((rowC (encI .i64) a).length + 1)) y0 1)]) (n := 1) (V := .bool r3) [0] (f67_ok m (z0 + ((rowC (encI .i64) a).length + 1)) y0 a x3_1 r3 r3_h) rfl (by rfl) (by decide) rfl (by kernel_rfl) ⟨⟨_, _, rfl, rfl, .inl ⟨rfl, rowC_scal (encI_ok .i64) _⟩⟩, trivial⟩) rfl) ?_
   rintro _ _ _ ⟨rfl, rfl, rfl⟩
   refine XR.conv (σ' := [(0, s0 0 a.length), (3, ii x3_1), (12, .bool r3)]) (h' := [(0, rc (encI .i64) a z0 y0 1)]) (c' := 1) ?_ (by kernel_rfl)
   refine XR.done (by kernel_rfl) ?_
   show XQ _ _ _ _ _ _ _ _
   cases b2 : (r3 : Bool) with
   | true =>
    have h := cT b2 h
    refine XQ.cond (s := (.tmp 12)) (b := true) (by kernel_rfl) (by kernel_rfl) (fun _ => ?_) (fun q => by cases q)
    refine XQ.seq E0_ok (by kernel_rfl) ?_
    refine XQ.region (by kernel_rfl) ?_
    refine XR.runS E0_ok 1 2 [(2, ii x3_1)] rfl (by kernel_rfl) ?_
    refine XR.done (by kernel_rfl) ?_
    show XQ _ _ _ _ _ _ _ _
    refine XQ.ren (σ' := [(2, ii x3_1)]) (h' := [(0, rc (encI .i64) a z0 y0 1)]) (c' := 1) [0] (by decide) rfl ⟨by kernel_rfl, trivial⟩ ⟨⟨_, _, rfl, rfl, .inl ⟨rfl, rowC_scal (encI_ok .i64) _⟩⟩, trivial⟩ rfl ?_
    refine XQ.ret (by kernel_rfl) ?_
    cases h
    exact hQ
   | false =>
    have h := cF b2 h
    refine XQ.cond (s := (.tmp 12)) (b := false) (by kernel_rfl) (by kernel_rfl) (fun q => by cases q) (fun _ => ?_)
    refine XQ.skip (by kernel_rfl) ?_
    show XQ _ _ _ _ _ _ _ _
    refine XQ.region (by kernel_rfl) ?_
    refine XR.runS E0_ok 1 3 [(0, s0 0 a.length), (3, ii (w64 (x3_1 + 1)))] rfl (by kernel_rfl) ?_
    refine XR.done (by kernel_rfl) ?_
    show XL _ _ _ _ _ _ _ _ _
    refine XL.ren (σ' := [(0, s0 0 a.length), (3, ii (w64 (x3_1 + 1)))]) (h' := [(0, rc (encI .i64) a z0 y0 1)]) (c' := 1) [0] (by decide) rfl ⟨by kernel_rfl, by kernel_rfl, trivial⟩ ⟨⟨_, _, rfl, rfl, .inl ⟨rfl, rowC_scal (encI_ok .i64) _⟩⟩, trivial⟩ rfl ?_
    refine XL.conv (f64_1_ok m fuel z0 y0 a (w64 (x3_1 + 1)) o h Q hQ) (by first | rfl | simp)
  | false =>
   have h := cF b1 h
   refine XQ.cond (s := (.tmp 7)) (b := false) (by kernel_rfl) (by kernel_rfl) (fun q => by cases q) (fun _ => ?_)
   refine XQ.ren (σ' := []) (h' := [(0, rc (encI .i64) a z0 y0 1)]) (c' := 1) [0] (by decide) rfl trivial ⟨⟨_, _, rfl, rfl, .inl ⟨rfl, rowC_scal (encI_ok .i64) _⟩⟩, trivial⟩ rfl ?_
   refine XQ.exit (i := 0) (by kernel_rfl) ?_
   cases h
   exact hQ

def f64 (m : Nat) (a : List Int) : Option (Int) :=
 (f64_1 m m a 1).bind fun o1 =>
  match o1 with
  | .r x2_r1 =>
   some (x2_r1)
  | .x0 =>
   some (0)

theorem f64_ok (m : Nat) (z0 : Nat) (y0 : Nat) (a : List Int) (o : Int) (h : f64 m a = some o) : KC E0 64 [s0 0 a.length] [(0, rc (encI .i64) a z0 y0 1)] 1 (fun v _ _ => v = ii o) := by
 refine KC.bodyN E0_ok (F := Proofs.Tryd.f64) (by kernel_rfl) (code := f64_C64) (by kernel_rfl) (nt := 14) (by kernel_rfl) (rs := [.tmp 2]) (by kernel_rfl) (by kernel_rfl) (σ := [(0, s0 0 a.length)]) (by kernel_rfl) ?_
 unfold f64 at h
 refine XQ.seq E0_ok (by kernel_rfl) ?_
 refine XQ.region (by kernel_rfl) ?_
 refine XR.runS E0_ok 1 1 [(0, s0 0 a.length)] rfl (by kernel_rfl) ?_
 refine XR.done (by kernel_rfl) ?_
 show XQ _ _ _ _ _ _ _ _
 refine XQ.seq E0_ok (by kernel_rfl) ?_
 refine XQ.seq E0_ok (by kernel_rfl) ?_
 refine XQ.region (by kernel_rfl) ?_
 refine XR.runS E0_ok 1 1 [(0, s0 0 a.length), (3, ii 1)] rfl (by kernel_rfl) ?_
 refine XR.done (by kernel_rfl) ?_
 show XQ _ _ _ _ _ _ _ _
 refine XQ.block (id := 0) (by kernel_rfl) ?_
 refine XQ.loop m (by kernel_rfl) ?_
 obtain ⟨o1, o1_h, h⟩ := bS h
 refine XL.ren (σ' := [(0, s0 0 a.length), (3, ii 1)]) (h' := [(0, rc (encI .i64) a z0 y0 1)]) (c' := 1) [0] (by decide) rfl ⟨by kernel_rfl, by kernel_rfl, trivial⟩ ⟨⟨_, _, rfl, rfl, .inl ⟨rfl, rowC_scal (encI_ok .i64) _⟩⟩, trivial⟩ rfl ?_
 cases o1 with
 | r x2_r1 =>
  dsimp only at h
  refine XL.conv (f64_1_ok m m z0 y0 a 1 (.r x2_r1) o1_h _ ?_) (by first | rfl | simp)
  have h := Option.some.inj h
  subst h
  exact ⟨fun i q => (by cases q), ii x2_r1, (by kernel_rfl), rfl⟩
 | x0 =>
  dsimp only at h
  refine XL.conv (f64_1_ok m m z0 y0 a 1 (.x0) o1_h _ ?_) (by first | rfl | simp)
  show XQ _ _ _ _ _ _ _ _
  refine XQ.seq E0_ok (by kernel_rfl) ?_
  refine XQ.region (by kernel_rfl) ?_
  refine XR.runS E0_ok 1 1 [(2, ii 0)] rfl (by kernel_rfl) ?_
  refine XR.done (by kernel_rfl) ?_
  show XQ _ _ _ _ _ _ _ _
  refine XQ.ret (by kernel_rfl) ?_
  have h := Option.some.inj h
  subst h
  exact ⟨fun i q => (by cases q), ii 0, (by kernel_rfl), rfl⟩

/-! vitola/vitolaref12.can -/
noncomputable def f60_C60 : Code := Proofs.Tryd.f60.body.getD .skip

def f60 (m : Nat) (a : List Int) : Option (Bool) :=
 (f63 m a).bind fun r1 =>
  cond ((Int.tmod r1 2) == 0) (
   (f64 m a).bind fun r2 =>
    some (r2 == 0)
  ) (
   some (false)
  )

theorem f60_ok (m : Nat) (z0 : Nat) (y0 : Nat) (a : List Int) (o : Bool) (h : f60 m a = some o) : KC E0 60 [s0 0 a.length] [(0, rc (encI .i64) a z0 y0 1)] 1 (fun v _ _ => v = .bool o) := by
 refine KC.bodyN E0_ok (F := Proofs.Tryd.f60) (by kernel_rfl) (code := f60_C60) (by kernel_rfl) (nt := 12) (by kernel_rfl) (rs := [.tmp 2]) (by kernel_rfl) (by kernel_rfl) (σ := [(0, s0 0 a.length)]) (by kernel_rfl) ?_
 unfold f60 at h
 refine XQ.seq E0_ok (by kernel_rfl) ?_
 refine XQ.region (by kernel_rfl) ?_
 refine XR.runS E0_ok 1 1 [(0, s0 0 a.length)] rfl (by kernel_rfl) ?_
 refine XR.done (by kernel_rfl) ?_
 show XQ _ _ _ _ _ _ _ _
 refine XQ.seq E0_ok (by kernel_rfl) ?_
 refine XQ.region (by kernel_rfl) ?_
 refine XR.runS E0_ok 1 1 [(0, s0 0 a.length), (3, s0 0 a.length)] rfl (by kernel_rfl) ?_
 obtain ⟨r1, r1_h, h⟩ := bS h
 refine XR.call E0_ok [0, 4] rfl (K := 63) (args := [s0 0 a.length]) (d := (some (path 12 4))) (by kernel_rfl) (KQ.call (KC.quiet E0_ok (args0 := [s0 0 a.length]) (h0 := [(0, rc (encI .i64) a (z0 + ((rowC (encI .i64) a).length + 1)) y0 1)]) (n := 1) (V := ii r1) [0] (f63_ok m (z0 + ((rowC (encI .i64) a).length + 1)) y0 a r1 r1_h) rfl (by rfl) (by decide) rfl (by kernel_rfl) ⟨⟨_, _, rfl, rfl, .inl ⟨rfl, rowC_scal (encI_ok .i64) _⟩⟩, trivial⟩) rfl) ?_
 rintro _ _ _ ⟨rfl, rfl, rfl⟩
 refine XR.conv (σ' := [(0, s0 0 a.length), (4, ii r1)]) (h' := [(0, rc (encI .i64) a z0 y0 1)]) (c' := 1) ?_ (by kernel_rfl)
 refine XR.runS E0_ok 1 3 [(0, s0 0 a.length), (7, .bool ((Int.tmod r1 2) == 0))] rfl (by kernel_rfl) ?_
 cases b1 : ((Int.tmod r1 2) == 0 : Bool) with
 | true =>
  have h := cT b1 h
  refine XR.runS E0_ok 1 1 [(7, .bool true), (8, s0 0 a.length)] rfl (by kernel_rfl) ?_
  obtain ⟨r2, r2_h, h⟩ := bS h
  refine XR.call E0_ok [7, 9] rfl (K := 64) (args := [s0 0 a.length]) (d := (some (path 12 9))) (by kernel_rfl) (KQ.call (KC.quiet E0_ok (args0 := [s0 0 a.length]) (h0 := [(0, rc (encI .i64) a (z0 + ((rowC (encI .i64) a).length + 1)) y0 1)]) (n := 1) (V := ii r2) [0] (f64_ok m (z0 + ((rowC (encI .i64) a).length + 1)) y0 a r2 r2_h) rfl (by rfl) (by decide) rfl (by kernel_rfl) ⟨⟨_, _, rfl, rfl, .inl ⟨rfl, rowC_scal (encI_ok .i64) _⟩⟩, trivial⟩) rfl) ?_
  rintro _ _ _ ⟨rfl, rfl, rfl⟩
  refine XR.conv (σ' := [(7, .bool true), (9, ii r2)]) (h' := [(0, rc (encI .i64) a z0 y0 1)]) (c' := 1) ?_ (by kernel_rfl)
  refine XR.runS E0_ok 1 3 [(2, .bool (r2 == 0))] rfl (by kernel_rfl) ?_
  refine XR.done (by kernel_rfl) ?_
  show XQ _ _ _ _ _ _ _ _
  refine XQ.ret (by kernel_rfl) ?_
  have h := Option.some.inj h
  subst h
  exact ⟨fun i q => (by cases q), .bool (r2 == 0), (by kernel_rfl), rfl⟩
 | false =>
  have h := cF b1 h
  refine XR.runS E0_ok 1 5 [(2, .bool false)] rfl (by kernel_rfl) ?_
  refine XR.done (by kernel_rfl) ?_
  show XQ _ _ _ _ _ _ _ _
  refine XQ.ret (by kernel_rfl) ?_
  have h := Option.some.inj h
  subst h
  exact ⟨fun i q => (by cases q), .bool false, (by kernel_rfl), rfl⟩

end Go.Xm
