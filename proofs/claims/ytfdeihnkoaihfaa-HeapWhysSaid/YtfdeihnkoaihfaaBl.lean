/- What these functions of the program compute, as functions in Lean, and the proofs that they do: vitolaref02.cut, vitolaref02.Finish. Conditions: none. -/
import Derived.Test.YtfdeihnkoaihfaaBe
namespace Go.Xm
open Go.RowKit
set_option linter.unusedVariables false
set_option linter.unusedSimpArgs false
set_option maxRecDepth 20000

/-! vitola/vitolaref02.cut -/
noncomputable def f70_C70 : Code := Proofs.Try.f70.body.getD .skip
noncomputable def f70_L1 : Code := lft (lft (rgt (lft (rgt (rgt f70_C70)))))

inductive Of70_1 where
  | r
  | x0 (lh1_x01 : List (Int × Int))

def f70_1 (m : Nat) : Nat → List (Int × Int) → Int → Int → List (Int × Int) → Option Of70_1
  | 0, _, _, _, _ => none
  | fuel + 1, a, b, x7_1, lh1_1 =>
    cond (decide (x7_1 < ((a.length : Nat) : Int))) (
      cond (inRow x7_1 a.length) (
        cond (decide (((List.getD a (Int.toNat x7_1) (0, 0)).1) > b)) (
          some (.r)
        ) (
          cond (fitsB (lh1_1.length + 1) 16) (
            f70_1 m fuel a b (w64 (x7_1 + 1)) (lh1_1 ++ [((List.getD a (Int.toNat x7_1) (0, 0)).1, iMin ((List.getD a (Int.toNat x7_1) (0, 0)).2) b)])
          ) none
        )
      ) none
    ) (
      some (.x0 lh1_1)
    )

theorem f70_1_ok (m : Nat) : ∀ (fuel : Nat) (z0 : Nat) (y0 : Nat) (a : List (Int × Int)) (b : Int) (x7_1 : Int) (lh1_1 : List (Int × Int)) (o : Of70_1), f70_1 m fuel a b x7_1 lh1_1 = some o → ∀ Q : QP, (match o with | .r => Q .ret [(4, .slice (some ⟨1, 0, none⟩) 0 0), (5, .bool false)] [(1, .cells (rowC encP []) 0 83 2), (0, .cells (rowC encP a) z0 y0 2)] 2 | .x0 lh1_x01 => Q (.exit 0) [(6, .slice (some ⟨1, 0, none⟩) lh1_x01.length lh1_x01.length)] [(1, .cells (rowC encP lh1_x01) 0 83 2), (0, .cells (rowC encP a) z0 y0 2)] 2) → XL E0 38 1 fuel f70_L1 [(0, .slice (some ⟨0, 0, none⟩) a.length a.length), (1, .int .i64 b), (6, .slice (some ⟨1, 0, none⟩) lh1_1.length lh1_1.length), (7, .int .i64 x7_1)] [(1, .cells (rowC encP lh1_1) 0 83 2), (0, .cells (rowC encP a) z0 y0 2)] 2 Q
  | 0, z0, y0, a, b, x7_1, lh1_1, o, h, Q, hQ => by cases h
  | fuel + 1, z0, y0, a, b, x7_1, lh1_1, o, h, Q, hQ => by
    unfold f70_1 at h
    refine XL.succ E0_ok ?_
    refine XQ.seq E0_ok (by kernel_rfl) ?_
    refine XQ.seq E0_ok (by kernel_rfl) ?_
    refine XQ.region (by kernel_rfl) ?_
    refine XR.run E0_ok 1 4 [0, 1, 6, 7, 11] rfl (σ' := [(0, .slice (some ⟨0, 0, none⟩) a.length a.length), (1, .int .i64 b), (6, .slice (some ⟨1, 0, none⟩) lh1_1.length lh1_1.length), (7, .int .i64 x7_1), (11, .bool (decide (x7_1 < ((a.length : Nat) : Int))))]) (h' := [(1, .cells (rowC encP lh1_1) 0 83 2), (0, .cells (rowC encP a) z0 y0 2)]) (c' := 2) (by kernel_rfl) ?_
    refine XR.done (by kernel_rfl) ?_
    show XQ _ _ _ _ _ _ _ _
    cases b1 : (decide (x7_1 < ((a.length : Nat) : Int)) : Bool) with
    | true =>
      have h := cT b1 h
      refine XQ.cond (s := (.tmp 11)) (b := true) (by kernel_rfl) (by kernel_rfl) (fun _ => ?_) (fun q => by cases q)
      refine XQ.skip (by kernel_rfl) ?_
      show XQ _ _ _ _ _ _ _ _
      refine XQ.seq E0_ok (by kernel_rfl) ?_
      refine XQ.block (id := 1) (by kernel_rfl) ?_
      refine XQ.seq E0_ok (by kernel_rfl) ?_
      refine XQ.seq E0_ok (by kernel_rfl) ?_
      refine XQ.region (by kernel_rfl) ?_
      refine XR.run E0_ok 1 2 [0, 1, 6, 7, 14, 15] rfl (σ' := [(0, .slice (some ⟨0, 0, none⟩) a.length a.length), (1, .int .i64 b), (6, .slice (some ⟨1, 0, none⟩) lh1_1.length lh1_1.length), (7, .int .i64 x7_1), (14, .slice (some ⟨0, 0, none⟩) a.length a.length), (15, .int .i64 x7_1)]) (h' := [(1, .cells (rowC encP lh1_1) 0 83 2), (0, .cells (rowC encP a) z0 y0 2)]) (c' := 2) (by kernel_rfl) ?_
      cases b2 : (inRow x7_1 a.length : Bool) with
      | false => cases (cF b2 h)
      | true =>
        have h := cT b2 h
        refine XR.rd E0_ok [0, 1, 6, 7, 16] rfl (v := .pointer (some ⟨0, (Int.toNat x7_1) * 2, none⟩)) (v_idx (s := 2) (x := (src 38 (.tmp 14))) (y := (src 38 (.tmp 15))) (b := 0) (o := 0) (len := a.length) (cap := a.length) (ik := .i64) (i := x7_1) (off := (Int.toNat x7_1) * 2) (d := (some (path 12 16))) (by kernel_rfl) (by kernel_rfl) (by kernel_rfl) b2 (by omega)) (σ' := [(0, .slice (some ⟨0, 0, none⟩) a.length a.length), (1, .int .i64 b), (6, .slice (some ⟨1, 0, none⟩) lh1_1.length lh1_1.length), (7, .int .i64 x7_1), (16, .pointer (some ⟨0, (Int.toNat x7_1) * 2, none⟩))]) (by kernel_rfl) ?_
        refine XR.run E0_ok 1 1 [0, 1, 6, 7, 17] rfl (σ' := [(0, .slice (some ⟨0, 0, none⟩) a.length a.length), (1, .int .i64 b), (6, .slice (some ⟨1, 0, none⟩) lh1_1.length lh1_1.length), (7, .int .i64 x7_1), (17, .pointer (some ⟨0, (Int.toNat x7_1) * 2, none⟩))]) (h' := [(1, .cells (rowC encP lh1_1) 0 83 2), (0, .cells (rowC encP a) z0 y0 2)]) (c' := 2) (by kernel_rfl) ?_
        refine XR.rd E0_ok [0, 1, 6, 7, 18] rfl (v := .int .i64 ((List.getD a (Int.toNat x7_1) (0, 0)).1)) (v_load1 encP_ok (x := (src 38 (.tmp 17))) (b := 0) (off := (Int.toNat x7_1) * 2) (xs := a) (fz := z0) (e := y0) (es := 2) (d := (some (path 12 18))) (by kernel_rfl) (by kernel_rfl) (by kernel_rfl) (Int.toNat x7_1) 0 (0, 0) (by first | rfl | omega) (row_len (inRow_toNat b2) (by simp)) rfl rfl) (σ' := [(0, .slice (some ⟨0, 0, none⟩) a.length a.length), (1, .int .i64 b), (6, .slice (some ⟨1, 0, none⟩) lh1_1.length lh1_1.length), (7, .int .i64 x7_1), (18, .int .i64 ((List.getD a (Int.toNat x7_1) (0, 0)).1))]) (by kernel_rfl) ?_
        refine XR.run E0_ok 1 2 [0, 1, 6, 7, 20] rfl (σ' := [(0, .slice (some ⟨0, 0, none⟩) a.length a.length), (1, .int .i64 b), (6, .slice (some ⟨1, 0, none⟩) lh1_1.length lh1_1.length), (7, .int .i64 x7_1), (20, .bool (decide (((List.getD a (Int.toNat x7_1) (0, 0)).1) > b)))]) (h' := [(1, .cells (rowC encP lh1_1) 0 83 2), (0, .cells (rowC encP a) z0 y0 2)]) (c' := 2) (by kernel_rfl) ?_
        refine XR.done (by kernel_rfl) ?_
        show XQ _ _ _ _ _ _ _ _
        cases b3 : (decide (((List.getD a (Int.toNat x7_1) (0, 0)).1) > b) : Bool) with
        | true =>
          have h := cT b3 h
          refine XQ.cond (s := (.tmp 20)) (b := true) (by kernel_rfl) (by kernel_rfl) (fun _ => ?_) (fun q => by cases q)
          refine XQ.seq E0_ok (by kernel_rfl) ?_
          refine XQ.region (by kernel_rfl) ?_
          refine XR.run E0_ok 1 2 [4, 5] rfl (σ' := [(4, .slice none 0 0), (5, .bool false)]) (h' := [(1, .cells (rowC encP lh1_1) 0 83 2), (0, .cells (rowC encP a) z0 y0 2)]) (c' := 2) (by kernel_rfl) ?_
          refine XR.done (by kernel_rfl) ?_
          show XQ _ _ _ _ _ _ _ _
          refine XQ.ghost 83 2 rfl (σ' := [(4, .slice (some ⟨2, 0, none⟩) 0 0), (5, .bool false)]) (h' := [(1, .cells (rowC encP lh1_1) 0 83 2), (0, .cells (rowC encP a) z0 y0 2)]) ⟨by kernel_rfl, by kernel_rfl, trivial⟩ ⟨⟨_, rfl, .inl rfl⟩, ⟨_, rfl, .inl rfl⟩, trivial⟩ ?_
          refine XQ.conv (σ' := [(4, .slice (some ⟨2, 0, none⟩) 0 0), (5, .bool false)]) (h' := [(2, .cells (rowC encP []) 0 83 2), (1, .cells (rowC encP lh1_1) 0 83 2), (0, .cells (rowC encP a) z0 y0 2)]) (c' := 3) ?_ (by kernel_rfl)
          refine XQ.ren (σ' := [(4, .slice (some ⟨1, 0, none⟩) 0 0), (5, .bool false)]) (h' := [(1, .cells (rowC encP []) 0 83 2), (0, .cells (rowC encP a) z0 y0 2)]) (c' := 2) [0, 2] (by decide) rfl ⟨by kernel_rfl, by kernel_rfl, trivial⟩ ⟨⟨_, _, rfl, rfl, .inl ⟨rfl, rowC_scal encP_ok _⟩⟩, ⟨_, _, rfl, rfl, .inl ⟨rfl, rowC_scal encP_ok _⟩⟩, trivial⟩ rfl ?_
          refine XQ.ret (by kernel_rfl) ?_
          cases h
          exact hQ
        | false =>
          have h := cF b3 h
          refine XQ.cond (s := (.tmp 20)) (b := false) (by kernel_rfl) (by kernel_rfl) (fun q => by cases q) (fun _ => ?_)
          refine XQ.skip (by kernel_rfl) ?_
          show XQ _ _ _ _ _ _ _ _
          refine XQ.preP E0_ok [0] [1, 2, 3, 4, 5, 6, 7, 8, 9, 10, 11, 12, 13] 14 [15, 16] (by kernel_rfl) (by kernel_rfl) (by kernel_rfl) ?_
          refine XP.step E0_ok 1 [0, 1, 7, 21] rfl (σ' := [(0, .slice (some ⟨0, 0, none⟩) a.length a.length), (1, .int .i64 b), (7, .int .i64 x7_1), (21, .slice (some ⟨1, 0, none⟩) lh1_1.length lh1_1.length)]) (by kernel_rfl) ?_
          refine XP.done (by kernel_rfl) ?_
          show XS _ _ _ _ _ _ _ _ _ _
          refine XS.step E0_ok 2 rfl [0, 1, 7, 21, 22, 23] rfl (σ' := [(0, .slice (some ⟨0, 0, none⟩) a.length a.length), (1, .int .i64 b), (7, .int .i64 x7_1), (21, .slice (some ⟨1, 0, none⟩) lh1_1.length lh1_1.length), (22, .slice (some ⟨0, 0, none⟩) a.length a.length), (23, .int .i64 x7_1)]) (by kernel_rfl) ?_
          refine XS.rd E0_ok rfl [0, 1, 7, 21, 24] rfl (v := .pointer (some ⟨0, (Int.toNat x7_1) * 2, none⟩)) (v_idx (s := 2) (x := (src 38 (.tmp 22))) (y := (src 38 (.tmp 23))) (b := 0) (o := 0) (len := a.length) (cap := a.length) (ik := .i64) (i := x7_1) (off := (Int.toNat x7_1) * 2) (d := (some (path 12 24))) (by kernel_rfl) (by kernel_rfl) (by kernel_rfl) b2 (by omega)) (σ' := [(0, .slice (some ⟨0, 0, none⟩) a.length a.length), (1, .int .i64 b), (7, .int .i64 x7_1), (21, .slice (some ⟨1, 0, none⟩) lh1_1.length lh1_1.length), (24, .pointer (some ⟨0, (Int.toNat x7_1) * 2, none⟩))]) (by kernel_rfl) ?_
          refine XS.step E0_ok 1 rfl [0, 1, 7, 21, 25] rfl (σ' := [(0, .slice (some ⟨0, 0, none⟩) a.length a.length), (1, .int .i64 b), (7, .int .i64 x7_1), (21, .slice (some ⟨1, 0, none⟩) lh1_1.length lh1_1.length), (25, .pointer (some ⟨0, (Int.toNat x7_1) * 2, none⟩))]) (by kernel_rfl) ?_
          refine XS.rd E0_ok rfl [0, 1, 7, 21, 26] rfl (v := .int .i64 ((List.getD a (Int.toNat x7_1) (0, 0)).1)) (v_load1 encP_ok (x := (src 38 (.tmp 25))) (b := 0) (off := (Int.toNat x7_1) * 2) (xs := a) (fz := z0) (e := y0) (es := 2) (d := (some (path 12 26))) (by kernel_rfl) (by kernel_rfl) (by kernel_rfl) (Int.toNat x7_1) 0 (0, 0) (by first | rfl | omega) (row_len (inRow_toNat b2) (by simp)) rfl rfl) (σ' := [(0, .slice (some ⟨0, 0, none⟩) a.length a.length), (1, .int .i64 b), (7, .int .i64 x7_1), (21, .slice (some ⟨1, 0, none⟩) lh1_1.length lh1_1.length), (26, .int .i64 ((List.getD a (Int.toNat x7_1) (0, 0)).1))]) (by kernel_rfl) ?_
          refine XS.step E0_ok 2 rfl [0, 1, 7, 21, 26, 27, 28] rfl (σ' := [(0, .slice (some ⟨0, 0, none⟩) a.length a.length), (1, .int .i64 b), (7, .int .i64 x7_1), (21, .slice (some ⟨1, 0, none⟩) lh1_1.length lh1_1.length), (26, .int .i64 ((List.getD a (Int.toNat x7_1) (0, 0)).1)), (27, .slice (some ⟨0, 0, none⟩) a.length a.length), (28, .int .i64 x7_1)]) (by kernel_rfl) ?_
          refine XS.rd E0_ok rfl [0, 1, 7, 21, 26, 29] rfl (v := .pointer (some ⟨0, (Int.toNat x7_1) * 2, none⟩)) (v_idx (s := 2) (x := (src 38 (.tmp 27))) (y := (src 38 (.tmp 28))) (b := 0) (o := 0) (len := a.length) (cap := a.length) (ik := .i64) (i := x7_1) (off := (Int.toNat x7_1) * 2) (d := (some (path 12 29))) (by kernel_rfl) (by kernel_rfl) (by kernel_rfl) b2 (by omega)) (σ' := [(0, .slice (some ⟨0, 0, none⟩) a.length a.length), (1, .int .i64 b), (7, .int .i64 x7_1), (21, .slice (some ⟨1, 0, none⟩) lh1_1.length lh1_1.length), (26, .int .i64 ((List.getD a (Int.toNat x7_1) (0, 0)).1)), (29, .pointer (some ⟨0, (Int.toNat x7_1) * 2, none⟩))]) (by kernel_rfl) ?_
          refine XS.step E0_ok 1 rfl [0, 1, 7, 21, 26, 30] rfl (σ' := [(0, .slice (some ⟨0, 0, none⟩) a.length a.length), (1, .int .i64 b), (7, .int .i64 x7_1), (21, .slice (some ⟨1, 0, none⟩) lh1_1.length lh1_1.length), (26, .int .i64 ((List.getD a (Int.toNat x7_1) (0, 0)).1)), (30, .pointer (some ⟨0, (Int.toNat x7_1) * 2 + 1, none⟩))]) (by kernel_rfl) ?_
          refine XS.rd E0_ok rfl [0, 1, 7, 21, 26, 31] rfl (v := .int .i64 ((List.getD a (Int.toNat x7_1) (0, 0)).2)) (v_load1 encP_ok (x := (src 38 (.tmp 30))) (b := 0) (off := (Int.toNat x7_1) * 2 + 1) (xs := a) (fz := z0) (e := y0) (es := 2) (d := (some (path 12 31))) (by kernel_rfl) (by kernel_rfl) (by kernel_rfl) (Int.toNat x7_1) 1 (0, 0) (by first | rfl | omega) (row_len (inRow_toNat b2) (by simp)) rfl rfl) (σ' := [(0, .slice (some ⟨0, 0, none⟩) a.length a.length), (1, .int .i64 b), (7, .int .i64 x7_1), (21, .slice (some ⟨1, 0, none⟩) lh1_1.length lh1_1.length), (26, .int .i64 ((List.getD a (Int.toNat x7_1) (0, 0)).1)), (31, .int .i64 ((List.getD a (Int.toNat x7_1) (0, 0)).2))]) (by kernel_rfl) ?_
          refine XS.step E0_ok 3 rfl [0, 1, 7, 21, 34] rfl (σ' := [(0, .slice (some ⟨0, 0, none⟩) a.length a.length), (1, .int .i64 b), (7, .int .i64 x7_1), (21, .slice (some ⟨1, 0, none⟩) lh1_1.length lh1_1.length), (34, .agg #[.int .i64 ((List.getD a (Int.toNat x7_1) (0, 0)).1), .int .i64 (iMin ((List.getD a (Int.toNat x7_1) (0, 0)).2) b)])]) (by kernel_rfl) ?_
          refine XS.done (by kernel_rfl) ?_
          refine XR.run E0_ok 1 1 [0, 1, 7, 21, 35] rfl (σ' := [(0, .slice (some ⟨0, 0, none⟩) a.length a.length), (1, .int .i64 b), (7, .int .i64 x7_1), (21, .slice (some ⟨1, 0, none⟩) lh1_1.length lh1_1.length), (35, .slice (some ⟨2, 0, none⟩) 1 1)]) (h' := [(2, .cells [.int .i64 ((List.getD a (Int.toNat x7_1) (0, 0)).1), .int .i64 (iMin ((List.getD a (Int.toNat x7_1) (0, 0)).2) b)] 0 83 2), (1, .cells (rowC encP lh1_1) 0 83 2), (0, .cells (rowC encP a) z0 y0 2)]) (c' := 3) (by kernel_rfl) ?_
          cases b4 : (fitsB (lh1_1.length + 1) 16 : Bool) with
          | false => cases (cF b4 h)
          | true =>
            have h := cT b4 h
            refine XR.ef E0_ok [0, 1, 7, 36] rfl (e_append encP_ok (bytes := 16) (e := 83) (x := (src 38 (.tmp 21))) (y := (src 38 (.tmp 35))) (b := 1) (len := lh1_1.length) (cap := lh1_1.length) (xs := lh1_1) (m := 0) (ys := [((List.getD a (Int.toNat x7_1) (0, 0)).1, iMin ((List.getD a (Int.toNat x7_1) (0, 0)).2) b)]) (d := (some (path 12 36))) (n' := (lh1_1 ++ [((List.getD a (Int.toNat x7_1) (0, 0)).1, iMin ((List.getD a (Int.toNat x7_1) (0, 0)).2) b)]).length) (h' := [(3, .cells (rowC encP (lh1_1 ++ [((List.getD a (Int.toNat x7_1) (0, 0)).1, iMin ((List.getD a (Int.toNat x7_1) (0, 0)).2) b)])) 0 83 2), (2, .cells [.int .i64 ((List.getD a (Int.toNat x7_1) (0, 0)).1), .int .i64 (iMin ((List.getD a (Int.toNat x7_1) (0, 0)).2) b)] 0 83 2), (0, .cells (rowC encP a) z0 y0 2)]) (by kernel_rfl) (by kernel_rfl) (by kernel_rfl) (by kernel_rfl) rfl (by simp) (by simp) b4 (by simp) (by kernel_rfl)) (σ' := [(0, .slice (some ⟨0, 0, none⟩) a.length a.length), (1, .int .i64 b), (7, .int .i64 x7_1), (36, .slice (some ⟨3, 0, none⟩) ((lh1_1 ++ [((List.getD a (Int.toNat x7_1) (0, 0)).1, iMin ((List.getD a (Int.toNat x7_1) (0, 0)).2) b)]).length) ((lh1_1 ++ [((List.getD a (Int.toNat x7_1) (0, 0)).1, iMin ((List.getD a (Int.toNat x7_1) (0, 0)).2) b)]).length))]) (by kernel_rfl) ?_
            refine XR.run E0_ok 1 1 [0, 1, 6, 7] rfl (σ' := [(0, .slice (some ⟨0, 0, none⟩) a.length a.length), (1, .int .i64 b), (6, .slice (some ⟨3, 0, none⟩) ((lh1_1 ++ [((List.getD a (Int.toNat x7_1) (0, 0)).1, iMin ((List.getD a (Int.toNat x7_1) (0, 0)).2) b)]).length) ((lh1_1 ++ [((List.getD a (Int.toNat x7_1) (0, 0)).1, iMin ((List.getD a (Int.toNat x7_1) (0, 0)).2) b)]).length)), (7, .int .i64 x7_1)]) (h' := [(3, .cells (rowC encP (lh1_1 ++ [((List.getD a (Int.toNat x7_1) (0, 0)).1, iMin ((List.getD a (Int.toNat x7_1) (0, 0)).2) b)])) 0 83 2), (2, .cells [.int .i64 ((List.getD a (Int.toNat x7_1) (0, 0)).1), .int .i64 (iMin ((List.getD a (Int.toNat x7_1) (0, 0)).2) b)] 0 83 2), (0, .cells (rowC encP a) z0 y0 2)]) (c' := 4) (by kernel_rfl) ?_
            refine XR.done (by kernel_rfl) ?_
            show XQ _ _ _ _ _ _ _ _
            refine XQ.region (by kernel_rfl) ?_
            refine XR.run E0_ok 1 3 [0, 1, 6, 7] rfl (σ' := [(0, .slice (some ⟨0, 0, none⟩) a.length a.length), (1, .int .i64 b), (6, .slice (some ⟨3, 0, none⟩) ((lh1_1 ++ [((List.getD a (Int.toNat x7_1) (0, 0)).1, iMin ((List.getD a (Int.toNat x7_1) (0, 0)).2) b)]).length) ((lh1_1 ++ [((List.getD a (Int.toNat x7_1) (0, 0)).1, iMin ((List.getD a (Int.toNat x7_1) (0, 0)).2) b)]).length)), (7, .int .i64 (w64 (x7_1 + 1)))]) (h' := [(3, .cells (rowC encP (lh1_1 ++ [((List.getD a (Int.toNat x7_1) (0, 0)).1, iMin ((List.getD a (Int.toNat x7_1) (0, 0)).2) b)])) 0 83 2), (2, .cells [.int .i64 ((List.getD a (Int.toNat x7_1) (0, 0)).1), .int .i64 (iMin ((List.getD a (Int.toNat x7_1) (0, 0)).2) b)] 0 83 2), (0, .cells (rowC encP a) z0 y0 2)]) (c' := 4) (by kernel_rfl) ?_
            refine XR.done (by kernel_rfl) ?_
            show XL _ _ _ _ _ _ _ _ _
            refine XL.ren (σ' := [(0, .slice (some ⟨0, 0, none⟩) a.length a.length), (1, .int .i64 b), (6, .slice (some ⟨1, 0, none⟩) ((lh1_1 ++ [((List.getD a (Int.toNat x7_1) (0, 0)).1, iMin ((List.getD a (Int.toNat x7_1) (0, 0)).2) b)]).length) ((lh1_1 ++ [((List.getD a (Int.toNat x7_1) (0, 0)).1, iMin ((List.getD a (Int.toNat x7_1) (0, 0)).2) b)]).length)), (7, .int .i64 (w64 (x7_1 + 1)))]) (h' := [(1, .cells (rowC encP (lh1_1 ++ [((List.getD a (Int.toNat x7_1) (0, 0)).1, iMin ((List.getD a (Int.toNat x7_1) (0, 0)).2) b)])) 0 83 2), (0, .cells (rowC encP a) z0 y0 2)]) (c' := 2) [0, 3] (by decide) rfl ⟨by kernel_rfl, by kernel_rfl, by kernel_rfl, by kernel_rfl, trivial⟩ ⟨⟨_, _, rfl, rfl, .inl ⟨rfl, rowC_scal encP_ok _⟩⟩, ⟨_, _, rfl, rfl, .inl ⟨rfl, rowC_scal encP_ok _⟩⟩, trivial⟩ rfl ?_
            refine XL.conv (f70_1_ok m fuel z0 y0 a b (w64 (x7_1 + 1)) (lh1_1 ++ [((List.getD a (Int.toNat x7_1) (0, 0)).1, iMin ((List.getD a (Int.toNat x7_1) (0, 0)).2) b)]) o h Q hQ) (by first | rfl | simp)
    | false =>
      have h := cF b1 h
      refine XQ.cond (s := (.tmp 11)) (b := false) (by kernel_rfl) (by kernel_rfl) (fun q => by cases q) (fun _ => ?_)
      refine XQ.ren (σ' := [(6, .slice (some ⟨1, 0, none⟩) lh1_1.length lh1_1.length)]) (h' := [(1, .cells (rowC encP lh1_1) 0 83 2), (0, .cells (rowC encP a) z0 y0 2)]) (c' := 2) [0, 1] (by decide) rfl ⟨by kernel_rfl, trivial⟩ ⟨⟨_, _, rfl, rfl, .inl ⟨rfl, rowC_scal encP_ok _⟩⟩, ⟨_, _, rfl, rfl, .inl ⟨rfl, rowC_scal encP_ok _⟩⟩, trivial⟩ rfl ?_
      refine XQ.exit (i := 0) (by kernel_rfl) ?_
      cases h
      exact hQ

def f70 (m : Nat) (a : List (Int × Int)) (b : Int) : Option ((List (Int × Int)) × Bool) :=
  (f70_1 m m a b 0 []).bind fun o1 =>
    match o1 with
    | .r =>
      some ([], false)
    | .x0 lh1_x01 =>
      some (lh1_x01, true)

theorem f70_ok (m : Nat) (z0 : Nat) (y0 : Nat) (a : List (Int × Int)) (b : Int) (o : (List (Int × Int)) × Bool) (h : f70 m a b = some o) : KC E0 70 [.slice (some ⟨0, 0, none⟩) a.length a.length, .int .i64 b] [(0, .cells (rowC encP a) z0 y0 2)] 1 (fun v h' c' => v = .tuple #[.slice (some ⟨1, 0, none⟩) o.1.length o.1.length, .bool o.2] ∧ h' = [(1, .cells (rowC encP o.1) 0 83 2)] ++ [(0, .cells (rowC encP a) z0 y0 2)] ∧ c' = 2) := by
  refine KC.bodyN E0_ok (F := Proofs.Try.f70) (by kernel_rfl) (code := f70_C70) (by kernel_rfl) (nt := 38) (by kernel_rfl) (rs := [.tmp 4, .tmp 5]) (by kernel_rfl) (by kernel_rfl) (σ := [(0, .slice (some ⟨0, 0, none⟩) a.length a.length), (1, .int .i64 b)]) (by kernel_rfl) ?_
  unfold f70 at h
  refine XQ.seq E0_ok (by kernel_rfl) ?_
  refine XQ.region (by kernel_rfl) ?_
  refine XR.run E0_ok 1 2 [0, 1] rfl (σ' := [(0, .slice (some ⟨0, 0, none⟩) a.length a.length), (1, .int .i64 b)]) (h' := [(0, .cells (rowC encP a) z0 y0 2)]) (c' := 1) (by kernel_rfl) ?_
  refine XR.done (by kernel_rfl) ?_
  show XQ _ _ _ _ _ _ _ _
  refine XQ.seq E0_ok (by kernel_rfl) ?_
  refine XQ.region (by kernel_rfl) ?_
  refine XR.run E0_ok 1 1 [0, 1, 6] rfl (σ' := [(0, .slice (some ⟨0, 0, none⟩) a.length a.length), (1, .int .i64 b), (6, .slice none 0 0)]) (h' := [(0, .cells (rowC encP a) z0 y0 2)]) (c' := 1) (by kernel_rfl) ?_
  refine XR.done (by kernel_rfl) ?_
  show XQ _ _ _ _ _ _ _ _
  refine XQ.ghost 83 2 rfl (σ' := [(0, .slice (some ⟨0, 0, none⟩) a.length a.length), (1, .int .i64 b), (6, .slice (some ⟨1, 0, none⟩) 0 0)]) (h' := [(0, .cells (rowC encP a) z0 y0 2)]) ⟨by kernel_rfl, by kernel_rfl, by kernel_rfl, trivial⟩ ⟨⟨_, rfl, .inl rfl⟩, trivial⟩ ?_
  refine XQ.conv (σ' := [(0, .slice (some ⟨0, 0, none⟩) a.length a.length), (1, .int .i64 b), (6, .slice (some ⟨1, 0, none⟩) 0 0)]) (h' := [(1, .cells (rowC encP []) 0 83 2), (0, .cells (rowC encP a) z0 y0 2)]) (c' := 2) ?_ (by kernel_rfl)
  refine XQ.seq E0_ok (by kernel_rfl) ?_
  refine XQ.seq E0_ok (by kernel_rfl) ?_
  refine XQ.region (by kernel_rfl) ?_
  refine XR.run E0_ok 1 1 [0, 1, 6, 7] rfl (σ' := [(0, .slice (some ⟨0, 0, none⟩) a.length a.length), (1, .int .i64 b), (6, .slice (some ⟨1, 0, none⟩) 0 0), (7, .int .i64 0)]) (h' := [(1, .cells (rowC encP []) 0 83 2), (0, .cells (rowC encP a) z0 y0 2)]) (c' := 2) (by kernel_rfl) ?_
  refine XR.done (by kernel_rfl) ?_
  show XQ _ _ _ _ _ _ _ _
  refine XQ.block (id := 0) (by kernel_rfl) ?_
  refine XQ.loop m (by kernel_rfl) ?_
  obtain ⟨o1, o1_h, h⟩ := bS h
  refine XL.ren (σ' := [(0, .slice (some ⟨0, 0, none⟩) a.length a.length), (1, .int .i64 b), (6, .slice (some ⟨1, 0, none⟩) 0 0), (7, .int .i64 0)]) (h' := [(1, .cells (rowC encP []) 0 83 2), (0, .cells (rowC encP a) z0 y0 2)]) (c' := 2) [0, 1] (by decide) rfl ⟨by kernel_rfl, by kernel_rfl, by kernel_rfl, by kernel_rfl, trivial⟩ ⟨⟨_, _, rfl, rfl, .inl ⟨rfl, rowC_scal encP_ok _⟩⟩, ⟨_, _, rfl, rfl, .inl ⟨rfl, rowC_scal encP_ok _⟩⟩, trivial⟩ rfl ?_
  cases o1 with
  | r =>
    dsimp only at h
    refine XL.conv (f70_1_ok m m z0 y0 a b 0 [] (.r) o1_h _ ?_) (by first | rfl | simp)
    have h := Option.some.inj h
    subst h
    exact ⟨fun i q => (by cases q), .tuple #[.slice (some ⟨1, 0, none⟩) 0 0, .bool false], (by kernel_rfl), (by kernel_rfl), (by kernel_rfl), rfl⟩
  | x0 lh1_x01 =>
    dsimp only at h
    refine XL.conv (f70_1_ok m m z0 y0 a b 0 [] (.x0 lh1_x01) o1_h _ ?_) (by first | rfl | simp)
    show XQ _ _ _ _ _ _ _ _
    refine XQ.seq E0_ok (by kernel_rfl) ?_
    refine XQ.region (by kernel_rfl) ?_
    refine XR.run E0_ok 1 3 [4, 5] rfl (σ' := [(4, .slice (some ⟨1, 0, none⟩) lh1_x01.length lh1_x01.length), (5, .bool true)]) (h' := [(1, .cells (rowC encP lh1_x01) 0 83 2), (0, .cells (rowC encP a) z0 y0 2)]) (c' := 2) (by kernel_rfl) ?_
    refine XR.done (by kernel_rfl) ?_
    show XQ _ _ _ _ _ _ _ _
    refine XQ.ren (σ' := [(4, .slice (some ⟨1, 0, none⟩) lh1_x01.length lh1_x01.length), (5, .bool true)]) (h' := [(1, .cells (rowC encP lh1_x01) 0 83 2), (0, .cells (rowC encP a) z0 y0 2)]) (c' := 2) [0, 1] (by decide) rfl ⟨by kernel_rfl, by kernel_rfl, trivial⟩ ⟨⟨_, _, rfl, rfl, .inl ⟨rfl, rowC_scal encP_ok _⟩⟩, ⟨_, _, rfl, rfl, .inl ⟨rfl, rowC_scal encP_ok _⟩⟩, trivial⟩ rfl ?_
    refine XQ.ret (by kernel_rfl) ?_
    have h := Option.some.inj h
    subst h
    exact ⟨fun i q => (by cases q), .tuple #[.slice (some ⟨1, 0, none⟩) lh1_x01.length lh1_x01.length, .bool true], (by kernel_rfl), (by kernel_rfl), (by kernel_rfl), rfl⟩

/-! vitola/vitolaref02.Finish -/
noncomputable def f32_C32 : Code := Proofs.Try.f32.body.getD .skip
noncomputable def f32_L1 : Code := lft (lft (rgt (lft (rgt (rgt (rgt (rgt f32_C32)))))))
noncomputable def f32_L2 : Code := lft (lft (rgt (lft (rgt (rgt (rgt (rgt f32_C32)))))))

inductive Of32_1 where
  | r (x4_r1 : Int)
  | x0

def f32_1 (m : Nat) : Nat → List (Int × Int) → Int → Int → Option Of32_1
  | 0, _, _, _ => none
  | fuel + 1, a, b, x7_1 =>
    cond (decide (x7_1 < 23)) (
      (f70 m a x7_1).bind fun r7 =>
        cond (r7.2) (
          (f60 m r7.1 b).bind fun r8 =>
            cond (r8) (
              some (.r x7_1)
            ) (
              f32_1 m fuel a b (w64 (x7_1 + 1))
            )
        ) (
          f32_1 m fuel a b (w64 (x7_1 + 1))
        )
    ) (
      some (.x0)
    )

theorem f32_1_ok (m : Nat) : ∀ (fuel : Nat) (z0 : Nat) (y0 : Nat) (a : List (Int × Int)) (b : Int) (x7_1 : Int) (o : Of32_1), f32_1 m fuel a b x7_1 = some o → ∀ Q : QP, (match o with | .r x4_r1 => Q .ret [(4, .int .i64 x4_r1), (5, .int .i64 0)] [(0, .cells (rowC encP a) z0 y0 2)] 1 | .x0 => Q (.exit 0) [] [(0, .cells (rowC encP a) z0 y0 2)] 1) → XL E0 41 1 fuel f32_L1 [(0, .slice (some ⟨0, 0, none⟩) a.length a.length), (1, .int .i64 b), (7, .int .i64 x7_1)] [(0, .cells (rowC encP a) z0 y0 2)] 1 Q
  | 0, z0, y0, a, b, x7_1, o, h, Q, hQ => by cases h
  | fuel + 1, z0, y0, a, b, x7_1, o, h, Q, hQ => by
    unfold f32_1 at h
    refine XL.succ E0_ok ?_
    refine XQ.seq E0_ok (by kernel_rfl) ?_
    refine XQ.seq E0_ok (by kernel_rfl) ?_
    refine XQ.region (by kernel_rfl) ?_
    refine XR.run E0_ok 1 2 [0, 1, 7, 25] rfl (σ' := [(0, .slice (some ⟨0, 0, none⟩) a.length a.length), (1, .int .i64 b), (7, .int .i64 x7_1), (25, .bool (decide (x7_1 < 23)))]) (h' := [(0, .cells (rowC encP a) z0 y0 2)]) (c' := 1) (by kernel_rfl) ?_
    refine XR.done (by kernel_rfl) ?_
    show XQ _ _ _ _ _ _ _ _
    cases b1 : (decide (x7_1 < 23) : Bool) with
    | true =>
      have h := cT b1 h
      refine XQ.cond (s := (.tmp 25)) (b := true) (by kernel_rfl) (by kernel_rfl) (fun _ => ?_) (fun q => by cases q)
      refine XQ.skip (by kernel_rfl) ?_
      show XQ _ _ _ _ _ _ _ _
      refine XQ.seq E0_ok (by kernel_rfl) ?_
      refine XQ.block (id := 1) (by kernel_rfl) ?_
      refine XQ.seq E0_ok (by kernel_rfl) ?_
      refine XQ.region (by kernel_rfl) ?_
      refine XR.run E0_ok 1 2 [0, 1, 7, 29, 30] rfl (σ' := [(0, .slice (some ⟨0, 0, none⟩) a.length a.length), (1, .int .i64 b), (7, .int .i64 x7_1), (29, .slice (some ⟨0, 0, none⟩) a.length a.length), (30, .int .i64 x7_1)]) (h' := [(0, .cells (rowC encP a) z0 y0 2)]) (c' := 1) (by kernel_rfl) ?_
      obtain ⟨r7, r7_h, h⟩ := bS h
      refine XR.call E0_ok [0, 1, 7, 31] rfl (K := 70) (args := [.slice (some ⟨0, 0, none⟩) a.length a.length, .int .i64 x7_1]) (d := (some (path 12 31))) (by kernel_rfl) (KC.liftH (n0 := 1) (m := 1) (args0 := [.slice (some ⟨0, 0, none⟩) a.length a.length, .int .i64 x7_1]) (h0 := [(0, .cells (rowC encP a) (z0 + ((rowC encP a).length + 1)) y0 2)]) (V := .tuple #[.slice (some ⟨1, 0, none⟩) r7.1.length r7.1.length, .bool r7.2]) (V2 := .tuple #[.slice (some ⟨1, 0, none⟩) r7.1.length r7.1.length, .bool r7.2]) (H := [(1, .cells (rowC encP r7.1) 0 83 2)]) (H2 := [(1, .cells (rowC encP r7.1) 0 83 2)]) [0] [2, 1] (f70_ok m (z0 + ((rowC encP a).length + 1)) y0 a x7_1 r7 r7_h) (by rfl) (by decide) rfl (by kernel_rfl) ⟨⟨_, _, rfl, rfl, .inl ⟨rfl, rowC_scal encP_ok _⟩⟩, trivial⟩ (by decide) (by decide) (by kernel_rfl) ⟨⟨_, _, rfl, rfl, .inl ⟨rfl, rowC_scal encP_ok _⟩⟩, trivial⟩ (by rfl)) ?_
      rintro _ _ _ ⟨rfl, rfl, rfl⟩
      refine XR.conv (σ' := [(0, .slice (some ⟨0, 0, none⟩) a.length a.length), (1, .int .i64 b), (7, .int .i64 x7_1), (31, .tuple #[.slice (some ⟨1, 0, none⟩) r7.1.length r7.1.length, .bool r7.2])]) (h' := [(1, .cells (rowC encP r7.1) 0 83 2), (0, .cells (rowC encP a) z0 y0 2)]) (c' := 2) ?_ (by kernel_rfl)
      refine XR.run E0_ok 1 5 [0, 1, 7, 8, 9] rfl (σ' := [(0, .slice (some ⟨0, 0, none⟩) a.length a.length), (1, .int .i64 b), (7, .int .i64 x7_1), (8, .slice (some ⟨1, 0, none⟩) r7.1.length r7.1.length), (9, .bool r7.2)]) (h' := [(1, .cells (rowC encP r7.1) 0 83 2), (0, .cells (rowC encP a) z0 y0 2)]) (c' := 2) (by kernel_rfl) ?_
      refine XR.done (by kernel_rfl) ?_
      show XQ _ _ _ _ _ _ _ _
      refine XQ.seq E0_ok (by kernel_rfl) ?_
      refine XQ.region (by kernel_rfl) ?_
      refine XR.run E0_ok 1 2 [0, 1, 7, 8, 35] rfl (σ' := [(0, .slice (some ⟨0, 0, none⟩) a.length a.length), (1, .int .i64 b), (7, .int .i64 x7_1), (8, .slice (some ⟨1, 0, none⟩) r7.1.length r7.1.length), (35, .bool r7.2)]) (h' := [(1, .cells (rowC encP r7.1) 0 83 2), (0, .cells (rowC encP a) z0 y0 2)]) (c' := 2) (by kernel_rfl) ?_
      cases b2 : (r7.2 : Bool) with
      | true =>
        have h := cT b2 h
        refine XR.run E0_ok 1 2 [0, 1, 7, 35, 36, 37] rfl (σ' := [(0, .slice (some ⟨0, 0, none⟩) a.length a.length), (1, .int .i64 b), (7, .int .i64 x7_1), (35, .bool true), (36, .slice (some ⟨1, 0, none⟩) r7.1.length r7.1.length), (37, .int .i64 b)]) (h' := [(1, .cells (rowC encP r7.1) 0 83 2), (0, .cells (rowC encP a) z0 y0 2)]) (c' := 2) (by kernel_rfl) ?_
        obtain ⟨r8, r8_h, h⟩ := bS h
        refine XR.call E0_ok [0, 1, 7, 35, 38] rfl (K := 60) (args := [.slice (some ⟨1, 0, none⟩) r7.1.length r7.1.length, .int .i64 b]) (d := (some (path 12 38))) (by kernel_rfl) (KQ.call (KC.quiet E0_ok (args0 := [.slice (some ⟨0, 0, none⟩) r7.1.length r7.1.length, .int .i64 b]) (h0 := [(0, .cells (rowC encP r7.1) (0 + ((rowC encP r7.1).length + 1)) 83 2)]) (n := 1) (V := .bool r8) [1] (f60_ok m (0 + ((rowC encP r7.1).length + 1)) 83 r7.1 b r8 r8_h) rfl (by rfl) (by decide) rfl (by kernel_rfl) ⟨⟨_, _, rfl, rfl, .inl ⟨rfl, rowC_scal encP_ok _⟩⟩, trivial⟩) rfl) ?_
        rintro _ _ _ ⟨rfl, rfl, rfl⟩
        refine XR.conv (σ' := [(0, .slice (some ⟨0, 0, none⟩) a.length a.length), (1, .int .i64 b), (7, .int .i64 x7_1), (35, .bool true), (38, .bool r8)]) (h' := [(1, .cells (rowC encP r7.1) 0 83 2), (0, .cells (rowC encP a) z0 y0 2)]) (c' := 2) ?_ (by kernel_rfl)
        refine XR.run E0_ok 1 1 [0, 1, 7, 39] rfl (σ' := [(0, .slice (some ⟨0, 0, none⟩) a.length a.length), (1, .int .i64 b), (7, .int .i64 x7_1), (39, .bool r8)]) (h' := [(1, .cells (rowC encP r7.1) 0 83 2), (0, .cells (rowC encP a) z0 y0 2)]) (c' := 2) (by kernel_rfl) ?_
        refine XR.done (by kernel_rfl) ?_
        show XQ _ _ _ _ _ _ _ _
        cases b3 : (r8 : Bool) with
        | true =>
          have h := cT b3 h
          refine XQ.cond (s := (.tmp 39)) (b := true) (by kernel_rfl) (by kernel_rfl) (fun _ => ?_) (fun q => by cases q)
          refine XQ.seq E0_ok (by kernel_rfl) ?_
          refine XQ.region (by kernel_rfl) ?_
          refine XR.run E0_ok 1 3 [4, 5] rfl (σ' := [(4, .int .i64 x7_1), (5, .int .i64 0)]) (h' := [(1, .cells (rowC encP r7.1) 0 83 2), (0, .cells (rowC encP a) z0 y0 2)]) (c' := 2) (by kernel_rfl) ?_
          refine XR.done (by kernel_rfl) ?_
          show XQ _ _ _ _ _ _ _ _
          refine XQ.ren (σ' := [(4, .int .i64 x7_1), (5, .int .i64 0)]) (h' := [(0, .cells (rowC encP a) z0 y0 2)]) (c' := 1) [0] (by decide) rfl ⟨by kernel_rfl, by kernel_rfl, trivial⟩ ⟨⟨_, _, rfl, rfl, .inl ⟨rfl, rowC_scal encP_ok _⟩⟩, trivial⟩ rfl ?_
          refine XQ.ret (by kernel_rfl) ?_
          cases h
          exact hQ
        | false =>
          have h := cF b3 h
          refine XQ.cond (s := (.tmp 39)) (b := false) (by kernel_rfl) (by kernel_rfl) (fun q => by cases q) (fun _ => ?_)
          refine XQ.skip (by kernel_rfl) ?_
          show XQ _ _ _ _ _ _ _ _
          refine XQ.region (by kernel_rfl) ?_
          refine XR.run E0_ok 1 3 [0, 1, 7] rfl (σ' := [(0, .slice (some ⟨0, 0, none⟩) a.length a.length), (1, .int .i64 b), (7, .int .i64 (w64 (x7_1 + 1)))]) (h' := [(1, .cells (rowC encP r7.1) 0 83 2), (0, .cells (rowC encP a) z0 y0 2)]) (c' := 2) (by kernel_rfl) ?_
          refine XR.done (by kernel_rfl) ?_
          show XL _ _ _ _ _ _ _ _ _
          refine XL.ren (σ' := [(0, .slice (some ⟨0, 0, none⟩) a.length a.length), (1, .int .i64 b), (7, .int .i64 (w64 (x7_1 + 1)))]) (h' := [(0, .cells (rowC encP a) z0 y0 2)]) (c' := 1) [0] (by decide) rfl ⟨by kernel_rfl, by kernel_rfl, by kernel_rfl, trivial⟩ ⟨⟨_, _, rfl, rfl, .inl ⟨rfl, rowC_scal encP_ok _⟩⟩, trivial⟩ rfl ?_
          refine XL.conv (f32_1_ok m fuel z0 y0 a b (w64 (x7_1 + 1)) o h Q hQ) (by first | rfl | simp)
      | false =>
        have h := cF b2 h
        refine XR.run E0_ok 1 4 [0, 1, 7, 39] rfl (σ' := [(0, .slice (some ⟨0, 0, none⟩) a.length a.length), (1, .int .i64 b), (7, .int .i64 x7_1), (39, .bool false)]) (h' := [(1, .cells (rowC encP r7.1) 0 83 2), (0, .cells (rowC encP a) z0 y0 2)]) (c' := 2) (by kernel_rfl) ?_
        refine XR.done (by kernel_rfl) ?_
        show XQ _ _ _ _ _ _ _ _
        refine XQ.cond (s := (.tmp 39)) (b := false) (by kernel_rfl) (by kernel_rfl) (fun q => by cases q) (fun _ => ?_)
        refine XQ.skip (by kernel_rfl) ?_
        show XQ _ _ _ _ _ _ _ _
        refine XQ.region (by kernel_rfl) ?_
        refine XR.run E0_ok 1 3 [0, 1, 7] rfl (σ' := [(0, .slice (some ⟨0, 0, none⟩) a.length a.length), (1, .int .i64 b), (7, .int .i64 (w64 (x7_1 + 1)))]) (h' := [(1, .cells (rowC encP r7.1) 0 83 2), (0, .cells (rowC encP a) z0 y0 2)]) (c' := 2) (by kernel_rfl) ?_
        refine XR.done (by kernel_rfl) ?_
        show XL _ _ _ _ _ _ _ _ _
        refine XL.ren (σ' := [(0, .slice (some ⟨0, 0, none⟩) a.length a.length), (1, .int .i64 b), (7, .int .i64 (w64 (x7_1 + 1)))]) (h' := [(0, .cells (rowC encP a) z0 y0 2)]) (c' := 1) [0] (by decide) rfl ⟨by kernel_rfl, by kernel_rfl, by kernel_rfl, trivial⟩ ⟨⟨_, _, rfl, rfl, .inl ⟨rfl, rowC_scal encP_ok _⟩⟩, trivial⟩ rfl ?_
        refine XL.conv (f32_1_ok m fuel z0 y0 a b (w64 (x7_1 + 1)) o h Q hQ) (by first | rfl | simp)
    | false =>
      have h := cF b1 h
      refine XQ.cond (s := (.tmp 25)) (b := false) (by kernel_rfl) (by kernel_rfl) (fun q => by cases q) (fun _ => ?_)
      refine XQ.ren (σ' := []) (h' := [(0, .cells (rowC encP a) z0 y0 2)]) (c' := 1) [0] (by decide) rfl trivial ⟨⟨_, _, rfl, rfl, .inl ⟨rfl, rowC_scal encP_ok _⟩⟩, trivial⟩ rfl ?_
      refine XQ.exit (i := 0) (by kernel_rfl) ?_
      cases h
      exact hQ

inductive Of32_2 where
  | r (x4_r2 : Int)
  | x0

def f32_2 (m : Nat) : Nat → List (Int × Int) → Int → Int → Option Of32_2
  | 0, _, _, _ => none
  | fuel + 1, a, b, x7_2 =>
    cond (decide (x7_2 < 23)) (
      (f70 m a x7_2).bind fun r13 =>
        cond (r13.2) (
          (f60 m r13.1 b).bind fun r14 =>
            cond (r14) (
              some (.r x7_2)
            ) (
              f32_2 m fuel a b (w64 (x7_2 + 1))
            )
        ) (
          f32_2 m fuel a b (w64 (x7_2 + 1))
        )
    ) (
      some (.x0)
    )

theorem f32_2_ok (m : Nat) : ∀ (fuel : Nat) (z0 : Nat) (y0 : Nat) (a : List (Int × Int)) (b : Int) (x7_2 : Int) (o : Of32_2), f32_2 m fuel a b x7_2 = some o → ∀ Q : QP, (match o with | .r x4_r2 => Q .ret [(4, .int .i64 x4_r2), (5, .int .i64 0)] [(0, .cells (rowC encP a) z0 y0 2)] 1 | .x0 => Q (.exit 0) [] [(0, .cells (rowC encP a) z0 y0 2)] 1) → XL E0 41 1 fuel f32_L2 [(0, .slice (some ⟨0, 0, none⟩) a.length a.length), (1, .int .i64 b), (7, .int .i64 x7_2)] [(0, .cells (rowC encP a) z0 y0 2)] 1 Q
  | 0, z0, y0, a, b, x7_2, o, h, Q, hQ => by cases h
  | fuel + 1, z0, y0, a, b, x7_2, o, h, Q, hQ => by
    unfold f32_2 at h
    refine XL.succ E0_ok ?_
    refine XQ.seq E0_ok (by kernel_rfl) ?_
    refine XQ.seq E0_ok (by kernel_rfl) ?_
    refine XQ.region (by kernel_rfl) ?_
    refine XR.run E0_ok 1 2 [0, 1, 7, 25] rfl (σ' := [(0, .slice (some ⟨0, 0, none⟩) a.length a.length), (1, .int .i64 b), (7, .int .i64 x7_2), (25, .bool (decide (x7_2 < 23)))]) (h' := [(0, .cells (rowC encP a) z0 y0 2)]) (c' := 1) (by kernel_rfl) ?_
    refine XR.done (by kernel_rfl) ?_
    show XQ _ _ _ _ _ _ _ _
    cases b1 : (decide (x7_2 < 23) : Bool) with
    | true =>
      have h := cT b1 h
      refine XQ.cond (s := (.tmp 25)) (b := true) (by kernel_rfl) (by kernel_rfl) (fun _ => ?_) (fun q => by cases q)
      refine XQ.skip (by kernel_rfl) ?_
      show XQ _ _ _ _ _ _ _ _
      refine XQ.seq E0_ok (by kernel_rfl) ?_
      refine XQ.block (id := 1) (by kernel_rfl) ?_
      refine XQ.seq E0_ok (by kernel_rfl) ?_
      refine XQ.region (by kernel_rfl) ?_
      refine XR.run E0_ok 1 2 [0, 1, 7, 29, 30] rfl (σ' := [(0, .slice (some ⟨0, 0, none⟩) a.length a.length), (1, .int .i64 b), (7, .int .i64 x7_2), (29, .slice (some ⟨0, 0, none⟩) a.length a.length), (30, .int .i64 x7_2)]) (h' := [(0, .cells (rowC encP a) z0 y0 2)]) (c' := 1) (by kernel_rfl) ?_
      obtain ⟨r13, r13_h, h⟩ := bS h
      refine XR.call E0_ok [0, 1, 7, 31] rfl (K := 70) (args := [.slice (some ⟨0, 0, none⟩) a.length a.length, .int .i64 x7_2]) (d := (some (path 12 31))) (by kernel_rfl) (KC.liftH (n0 := 1) (m := 1) (args0 := [.slice (some ⟨0, 0, none⟩) a.length a.length, .int .i64 x7_2]) (h0 := [(0, .cells (rowC encP a) (z0 + ((rowC encP a).length + 1)) y0 2)]) (V := .tuple #[.slice (some ⟨1, 0, none⟩) r13.1.length r13.1.length, .bool r13.2]) (V2 := .tuple #[.slice (some ⟨1, 0, none⟩) r13.1.length r13.1.length, .bool r13.2]) (H := [(1, .cells (rowC encP r13.1) 0 83 2)]) (H2 := [(1, .cells (rowC encP r13.1) 0 83 2)]) [0] [2, 1] (f70_ok m (z0 + ((rowC encP a).length + 1)) y0 a x7_2 r13 r13_h) (by rfl) (by decide) rfl (by kernel_rfl) ⟨⟨_, _, rfl, rfl, .inl ⟨rfl, rowC_scal encP_ok _⟩⟩, trivial⟩ (by decide) (by decide) (by kernel_rfl) ⟨⟨_, _, rfl, rfl, .inl ⟨rfl, rowC_scal encP_ok _⟩⟩, trivial⟩ (by rfl)) ?_
      rintro _ _ _ ⟨rfl, rfl, rfl⟩
      refine XR.conv (σ' := [(0, .slice (some ⟨0, 0, none⟩) a.length a.length), (1, .int .i64 b), (7, .int .i64 x7_2), (31, .tuple #[.slice (some ⟨1, 0, none⟩) r13.1.length r13.1.length, .bool r13.2])]) (h' := [(1, .cells (rowC encP r13.1) 0 83 2), (0, .cells (rowC encP a) z0 y0 2)]) (c' := 2) ?_ (by kernel_rfl)
      refine XR.run E0_ok 1 5 [0, 1, 7, 8, 9] rfl (σ' := [(0, .slice (some ⟨0, 0, none⟩) a.length a.length), (1, .int .i64 b), (7, .int .i64 x7_2), (8, .slice (some ⟨1, 0, none⟩) r13.1.length r13.1.length), (9, .bool r13.2)]) (h' := [(1, .cells (rowC encP r13.1) 0 83 2), (0, .cells (rowC encP a) z0 y0 2)]) (c' := 2) (by kernel_rfl) ?_
      refine XR.done (by kernel_rfl) ?_
      show XQ _ _ _ _ _ _ _ _
      refine XQ.seq E0_ok (by kernel_rfl) ?_
      refine XQ.region (by kernel_rfl) ?_
      refine XR.run E0_ok 1 2 [0, 1, 7, 8, 35] rfl (σ' := [(0, .slice (some ⟨0, 0, none⟩) a.length a.length), (1, .int .i64 b), (7, .int .i64 x7_2), (8, .slice (some ⟨1, 0, none⟩) r13.1.length r13.1.length), (35, .bool r13.2)]) (h' := [(1, .cells (rowC encP r13.1) 0 83 2), (0, .cells (rowC encP a) z0 y0 2)]) (c' := 2) (by kernel_rfl) ?_
      cases b2 : (r13.2 : Bool) with
      | true =>
        have h := cT b2 h
        refine XR.run E0_ok 1 2 [0, 1, 7, 35, 36, 37] rfl (σ' := [(0, .slice (some ⟨0, 0, none⟩) a.length a.length), (1, .int .i64 b), (7, .int .i64 x7_2), (35, .bool true), (36, .slice (some ⟨1, 0, none⟩) r13.1.length r13.1.length), (37, .int .i64 b)]) (h' := [(1, .cells (rowC encP r13.1) 0 83 2), (0, .cells (rowC encP a) z0 y0 2)]) (c' := 2) (by kernel_rfl) ?_
        obtain ⟨r14, r14_h, h⟩ := bS h
        refine XR.call E0_ok [0, 1, 7, 35, 38] rfl (K := 60) (args := [.slice (some ⟨1, 0, none⟩) r13.1.length r13.1.length, .int .i64 b]) (d := (some (path 12 38))) (by kernel_rfl) (KQ.call (KC.quiet E0_ok (args0 := [.slice (some ⟨0, 0, none⟩) r13.1.length r13.1.length, .int .i64 b]) (h0 := [(0, .cells (rowC encP r13.1) (0 + ((rowC encP r13.1).length + 1)) 83 2)]) (n := 1) (V := .bool r14) [1] (f60_ok m (0 + ((rowC encP r13.1).length + 1)) 83 r13.1 b r14 r14_h) rfl (by rfl) (by decide) rfl (by kernel_rfl) ⟨⟨_, _, rfl, rfl, .inl ⟨rfl, rowC_scal encP_ok _⟩⟩, trivial⟩) rfl) ?_
        rintro _ _ _ ⟨rfl, rfl, rfl⟩
        refine XR.conv (σ' := [(0, .slice (some ⟨0, 0, none⟩) a.length a.length), (1, .int .i64 b), (7, .int .i64 x7_2), (35, .bool true), (38, .bool r14)]) (h' := [(1, .cells (rowC encP r13.1) 0 83 2), (0, .cells (rowC encP a) z0 y0 2)]) (c' := 2) ?_ (by kernel_rfl)
        refine XR.run E0_ok 1 1 [0, 1, 7, 39] rfl (σ' := [(0, .slice (some ⟨0, 0, none⟩) a.length a.length), (1, .int .i64 b), (7, .int .i64 x7_2), (39, .bool r14)]) (h' := [(1, .cells (rowC encP r13.1) 0 83 2), (0, .cells (rowC encP a) z0 y0 2)]) (c' := 2) (by kernel_rfl) ?_
        refine XR.done (by kernel_rfl) ?_
        show XQ _ _ _ _ _ _ _ _
        cases b3 : (r14 : Bool) with
        | true =>
          have h := cT b3 h
          refine XQ.cond (s := (.tmp 39)) (b := true) (by kernel_rfl) (by kernel_rfl) (fun _ => ?_) (fun q => by cases q)
          refine XQ.seq E0_ok (by kernel_rfl) ?_
          refine XQ.region (by kernel_rfl) ?_
          refine XR.run E0_ok 1 3 [4, 5] rfl (σ' := [(4, .int .i64 x7_2), (5, .int .i64 0)]) (h' := [(1, .cells (rowC encP r13.1) 0 83 2), (0, .cells (rowC encP a) z0 y0 2)]) (c' := 2) (by kernel_rfl) ?_
          refine XR.done (by kernel_rfl) ?_
          show XQ _ _ _ _ _ _ _ _
          refine XQ.ren (σ' := [(4, .int .i64 x7_2), (5, .int .i64 0)]) (h' := [(0, .cells (rowC encP a) z0 y0 2)]) (c' := 1) [0] (by decide) rfl ⟨by kernel_rfl, by kernel_rfl, trivial⟩ ⟨⟨_, _, rfl, rfl, .inl ⟨rfl, rowC_scal encP_ok _⟩⟩, trivial⟩ rfl ?_
          refine XQ.ret (by kernel_rfl) ?_
          cases h
          exact hQ
        | false =>
          have h := cF b3 h
          refine XQ.cond (s := (.tmp 39)) (b := false) (by kernel_rfl) (by kernel_rfl) (fun q => by cases q) (fun _ => ?_)
          refine XQ.skip (by kernel_rfl) ?_
          show XQ _ _ _ _ _ _ _ _
          refine XQ.region (by kernel_rfl) ?_
          refine XR.run E0_ok 1 3 [0, 1, 7] rfl (σ' := [(0, .slice (some ⟨0, 0, none⟩) a.length a.length), (1, .int .i64 b), (7, .int .i64 (w64 (x7_2 + 1)))]) (h' := [(1, .cells (rowC encP r13.1) 0 83 2), (0, .cells (rowC encP a) z0 y0 2)]) (c' := 2) (by kernel_rfl) ?_
          refine XR.done (by kernel_rfl) ?_
          show XL _ _ _ _ _ _ _ _ _
          refine XL.ren (σ' := [(0, .slice (some ⟨0, 0, none⟩) a.length a.length), (1, .int .i64 b), (7, .int .i64 (w64 (x7_2 + 1)))]) (h' := [(0, .cells (rowC encP a) z0 y0 2)]) (c' := 1) [0] (by decide) rfl ⟨by kernel_rfl, by kernel_rfl, by kernel_rfl, trivial⟩ ⟨⟨_, _, rfl, rfl, .inl ⟨rfl, rowC_scal encP_ok _⟩⟩, trivial⟩ rfl ?_
          refine XL.conv (f32_2_ok m fuel z0 y0 a b (w64 (x7_2 + 1)) o h Q hQ) (by first | rfl | simp)
      | false =>
        have h := cF b2 h
        refine XR.run E0_ok 1 4 [0, 1, 7, 39] rfl (σ' := [(0, .slice (some ⟨0, 0, none⟩) a.length a.length), (1, .int .i64 b), (7, .int .i64 x7_2), (39, .bool false)]) (h' := [(1, .cells (rowC encP r13.1) 0 83 2), (0, .cells (rowC encP a) z0 y0 2)]) (c' := 2) (by kernel_rfl) ?_
        refine XR.done (by kernel_rfl) ?_
        show XQ _ _ _ _ _ _ _ _
        refine XQ.cond (s := (.tmp 39)) (b := false) (by kernel_rfl) (by kernel_rfl) (fun q => by cases q) (fun _ => ?_)
        refine XQ.skip (by kernel_rfl) ?_
        show XQ _ _ _ _ _ _ _ _
        refine XQ.region (by kernel_rfl) ?_
        refine XR.run E0_ok 1 3 [0, 1, 7] rfl (σ' := [(0, .slice (some ⟨0, 0, none⟩) a.length a.length), (1, .int .i64 b), (7, .int .i64 (w64 (x7_2 + 1)))]) (h' := [(1, .cells (rowC encP r13.1) 0 83 2), (0, .cells (rowC encP a) z0 y0 2)]) (c' := 2) (by kernel_rfl) ?_
        refine XR.done (by kernel_rfl) ?_
        show XL _ _ _ _ _ _ _ _ _
        refine XL.ren (σ' := [(0, .slice (some ⟨0, 0, none⟩) a.length a.length), (1, .int .i64 b), (7, .int .i64 (w64 (x7_2 + 1)))]) (h' := [(0, .cells (rowC encP a) z0 y0 2)]) (c' := 1) [0] (by decide) rfl ⟨by kernel_rfl, by kernel_rfl, by kernel_rfl, trivial⟩ ⟨⟨_, _, rfl, rfl, .inl ⟨rfl, rowC_scal encP_ok _⟩⟩, trivial⟩ rfl ?_
        refine XL.conv (f32_2_ok m fuel z0 y0 a b (w64 (x7_2 + 1)) o h Q hQ) (by first | rfl | simp)
    | false =>
      have h := cF b1 h
      refine XQ.cond (s := (.tmp 25)) (b := false) (by kernel_rfl) (by kernel_rfl) (fun q => by cases q) (fun _ => ?_)
      refine XQ.ren (σ' := []) (h' := [(0, .cells (rowC encP a) z0 y0 2)]) (c' := 1) [0] (by decide) rfl trivial ⟨⟨_, _, rfl, rfl, .inl ⟨rfl, rowC_scal encP_ok _⟩⟩, trivial⟩ rfl ?_
      refine XQ.exit (i := 0) (by kernel_rfl) ?_
      cases h
      exact hQ

def f32 (m : Nat) (a : List (Int × Int)) (b : Int) : Option (Int × Int) :=
  (f59 m a b).bind fun r1 =>
    cond (r1 == 0) (
      (f60 m a b).bind fun r2 =>
        cond ((cond (!r2) 12 r1 : Int) != 0) (
          some (0, cond (!r2) 12 r1)
        ) (
          (f32_1 m m a b 0).bind fun o1 =>
            match o1 with
            | .r x4_r1 =>
              some (x4_r1, 0)
            | .x0 =>
              some (23, 0)
        )
    ) (
      cond (r1 != 0) (
        some (0, r1)
      ) (
        (f32_2 m m a b 0).bind fun o2 =>
          match o2 with
          | .r x4_r2 =>
            some (x4_r2, 0)
          | .x0 =>
            some (23, 0)
      )
    )

theorem f32_ok (m : Nat) (z0 : Nat) (y0 : Nat) (a : List (Int × Int)) (b : Int) (o : Int × Int) (h : f32 m a b = some o) : KC E0 32 [.slice (some ⟨0, 0, none⟩) a.length a.length, .int .i64 b] [(0, .cells (rowC encP a) z0 y0 2)] 1 (fun v _ _ => v = .tuple #[.int .i64 o.1, .int .i64 o.2]) := by
  refine KC.bodyN E0_ok (F := Proofs.Try.f32) (by kernel_rfl) (code := f32_C32) (by kernel_rfl) (nt := 41) (by kernel_rfl) (rs := [.tmp 4, .tmp 5]) (by kernel_rfl) (by kernel_rfl) (σ := [(0, .slice (some ⟨0, 0, none⟩) a.length a.length), (1, .int .i64 b)]) (by kernel_rfl) ?_
  unfold f32 at h
  refine XQ.seq E0_ok (by kernel_rfl) ?_
  refine XQ.region (by kernel_rfl) ?_
  refine XR.run E0_ok 1 2 [0, 1] rfl (σ' := [(0, .slice (some ⟨0, 0, none⟩) a.length a.length), (1, .int .i64 b)]) (h' := [(0, .cells (rowC encP a) z0 y0 2)]) (c' := 1) (by kernel_rfl) ?_
  refine XR.done (by kernel_rfl) ?_
  show XQ _ _ _ _ _ _ _ _
  refine XQ.seq E0_ok (by kernel_rfl) ?_
  refine XQ.region (by kernel_rfl) ?_
  refine XR.run E0_ok 1 2 [0, 1, 10, 11] rfl (σ' := [(0, .slice (some ⟨0, 0, none⟩) a.length a.length), (1, .int .i64 b), (10, .slice (some ⟨0, 0, none⟩) a.length a.length), (11, .int .i64 b)]) (h' := [(0, .cells (rowC encP a) z0 y0 2)]) (c' := 1) (by kernel_rfl) ?_
  obtain ⟨r1, r1_h, h⟩ := bS h
  refine XR.call E0_ok [0, 1, 12] rfl (K := 59) (args := [.slice (some ⟨0, 0, none⟩) a.length a.length, .int .i64 b]) (d := (some (path 12 12))) (by kernel_rfl) (KQ.call (KC.quiet E0_ok (args0 := [.slice (some ⟨0, 0, none⟩) a.length a.length, .int .i64 b]) (h0 := [(0, .cells (rowC encP a) (z0 + ((rowC encP a).length + 1)) y0 2)]) (n := 1) (V := .int .i64 r1) [0] (f59_ok m (z0 + ((rowC encP a).length + 1)) y0 a b r1 r1_h) rfl (by rfl) (by decide) rfl (by kernel_rfl) ⟨⟨_, _, rfl, rfl, .inl ⟨rfl, rowC_scal encP_ok _⟩⟩, trivial⟩) rfl) ?_
  rintro _ _ _ ⟨rfl, rfl, rfl⟩
  refine XR.conv (σ' := [(0, .slice (some ⟨0, 0, none⟩) a.length a.length), (1, .int .i64 b), (12, .int .i64 r1)]) (h' := [(0, .cells (rowC encP a) z0 y0 2)]) (c' := 1) ?_ (by kernel_rfl)
  refine XR.run E0_ok 1 1 [0, 1, 6] rfl (σ' := [(0, .slice (some ⟨0, 0, none⟩) a.length a.length), (1, .int .i64 b), (6, .int .i64 r1)]) (h' := [(0, .cells (rowC encP a) z0 y0 2)]) (c' := 1) (by kernel_rfl) ?_
  refine XR.done (by kernel_rfl) ?_
  show XQ _ _ _ _ _ _ _ _
  refine XQ.seq E0_ok (by kernel_rfl) ?_
  refine XQ.seq E0_ok (by kernel_rfl) ?_
  refine XQ.region (by kernel_rfl) ?_
  refine XR.run E0_ok 1 3 [0, 1, 6, 15] rfl (σ' := [(0, .slice (some ⟨0, 0, none⟩) a.length a.length), (1, .int .i64 b), (6, .int .i64 r1), (15, .bool (r1 == 0))]) (h' := [(0, .cells (rowC encP a) z0 y0 2)]) (c' := 1) (by kernel_rfl) ?_
  cases b1 : (r1 == 0 : Bool) with
  | true =>
    have h := cT b1 h
    refine XR.run E0_ok 1 2 [0, 1, 6, 15, 16, 17] rfl (σ' := [(0, .slice (some ⟨0, 0, none⟩) a.length a.length), (1, .int .i64 b), (6, .int .i64 r1), (15, .bool true), (16, .slice (some ⟨0, 0, none⟩) a.length a.length), (17, .int .i64 b)]) (h' := [(0, .cells (rowC encP a) z0 y0 2)]) (c' := 1) (by kernel_rfl) ?_
    obtain ⟨r2, r2_h, h⟩ := bS h
    refine XR.call E0_ok [0, 1, 6, 15, 18] rfl (K := 60) (args := [.slice (some ⟨0, 0, none⟩) a.length a.length, .int .i64 b]) (d := (some (path 12 18))) (by kernel_rfl) (KQ.call (KC.quiet E0_ok (args0 := [.slice (some ⟨0, 0, none⟩) a.length a.length, .int .i64 b]) (h0 := [(0, .cells (rowC encP a) (z0 + ((rowC encP a).length + 1)) y0 2)]) (n := 1) (V := .bool r2) [0] (f60_ok m (z0 + ((rowC encP a).length + 1)) y0 a b r2 r2_h) rfl (by rfl) (by decide) rfl (by kernel_rfl) ⟨⟨_, _, rfl, rfl, .inl ⟨rfl, rowC_scal encP_ok _⟩⟩, trivial⟩) rfl) ?_
    rintro _ _ _ ⟨rfl, rfl, rfl⟩
    refine XR.conv (σ' := [(0, .slice (some ⟨0, 0, none⟩) a.length a.length), (1, .int .i64 b), (6, .int .i64 r1), (15, .bool true), (18, .bool r2)]) (h' := [(0, .cells (rowC encP a) z0 y0 2)]) (c' := 1) ?_ (by kernel_rfl)
    refine XR.run E0_ok 1 2 [0, 1, 6, 20] rfl (σ' := [(0, .slice (some ⟨0, 0, none⟩) a.length a.length), (1, .int .i64 b), (6, .int .i64 r1), (20, .bool (!r2))]) (h' := [(0, .cells (rowC encP a) z0 y0 2)]) (c' := 1) (by kernel_rfl) ?_
    refine XR.done (by kernel_rfl) ?_
    show XQ _ _ _ _ _ _ _ _
    refine XQ.meetC (σ' := [(0, .slice (some ⟨0, 0, none⟩) a.length a.length), (1, .int .i64 b), (6, .int .i64 (cond (!r2) 12 r1))]) (h' := [(0, .cells (rowC encP a) z0 y0 2)]) (c' := 1) ?_ ?_
    rotate_left
    · refine XQ.cond (s := (.tmp 20)) (b := !r2) (by kernel_rfl) (by kernel_rfl) (fun b2 => ?_) (fun b2 => ?_)
      · refine XQ.region (by kernel_rfl) ?_
        refine XR.run E0_ok 1 1 [0, 1, 6] rfl (σ' := [(0, .slice (some ⟨0, 0, none⟩) a.length a.length), (1, .int .i64 b), (6, .int .i64 12)]) (h' := [(0, .cells (rowC encP a) z0 y0 2)]) (c' := 1) (by kernel_rfl) ?_
        refine XR.done (by kernel_rfl) ?_
        refine ⟨rfl, ?_, ?_⟩
        · try rw [b2]
          exact ⟨by kernel_rfl, by kernel_rfl, by kernel_rfl, trivial⟩
        · try rw [b2]
          kernel_rfl
      · refine XQ.skip (by kernel_rfl) ?_
        refine ⟨rfl, ?_, ?_⟩
        · try rw [b2]
          exact ⟨by kernel_rfl, by kernel_rfl, by kernel_rfl, trivial⟩
        · try rw [b2]
          kernel_rfl
    show XQ _ _ _ _ _ _ _ _
    refine XQ.seq E0_ok (by kernel_rfl) ?_
    refine XQ.seq E0_ok (by kernel_rfl) ?_
    refine XQ.region (by kernel_rfl) ?_
    refine XR.run E0_ok 1 2 [0, 1, 6, 22] rfl (σ' := [(0, .slice (some ⟨0, 0, none⟩) a.length a.length), (1, .int .i64 b), (6, .int .i64 (cond (!r2) 12 r1)), (22, .bool ((cond (!r2) 12 r1 : Int) != 0))]) (h' := [(0, .cells (rowC encP a) z0 y0 2)]) (c' := 1) (by kernel_rfl) ?_
    refine XR.done (by kernel_rfl) ?_
    show XQ _ _ _ _ _ _ _ _
    cases b3 : ((cond (!r2) 12 r1 : Int) != 0 : Bool) with
    | true =>
      have h := cT b3 h
      refine XQ.cond (s := (.tmp 22)) (b := true) (by kernel_rfl) (by kernel_rfl) (fun _ => ?_) (fun q => by cases q)
      refine XQ.seq E0_ok (by kernel_rfl) ?_
      refine XQ.region (by kernel_rfl) ?_
      refine XR.run E0_ok 1 3 [4, 5] rfl (σ' := [(4, .int .i64 0), (5, .int .i64 (cond (!r2) 12 r1))]) (h' := [(0, .cells (rowC encP a) z0 y0 2)]) (c' := 1) (by kernel_rfl) ?_
      refine XR.done (by kernel_rfl) ?_
      show XQ _ _ _ _ _ _ _ _
      refine XQ.ret (by kernel_rfl) ?_
      have h := Option.some.inj h
      subst h
      exact ⟨fun i q => (by cases q), .tuple #[.int .i64 0, .int .i64 (cond (!r2) 12 r1)], (by kernel_rfl), rfl⟩
    | false =>
      have h := cF b3 h
      refine XQ.cond (s := (.tmp 22)) (b := false) (by kernel_rfl) (by kernel_rfl) (fun q => by cases q) (fun _ => ?_)
      refine XQ.skip (by kernel_rfl) ?_
      show XQ _ _ _ _ _ _ _ _
      refine XQ.seq E0_ok (by kernel_rfl) ?_
      refine XQ.seq E0_ok (by kernel_rfl) ?_
      refine XQ.region (by kernel_rfl) ?_
      refine XR.run E0_ok 1 1 [0, 1, 7] rfl (σ' := [(0, .slice (some ⟨0, 0, none⟩) a.length a.length), (1, .int .i64 b), (7, .int .i64 0)]) (h' := [(0, .cells (rowC encP a) z0 y0 2)]) (c' := 1) (by kernel_rfl) ?_
      refine XR.done (by kernel_rfl) ?_
      show XQ _ _ _ _ _ _ _ _
      refine XQ.block (id := 0) (by kernel_rfl) ?_
      refine XQ.loop m (by kernel_rfl) ?_
      obtain ⟨o1, o1_h, h⟩ := bS h
      refine XL.ren (σ' := [(0, .slice (some ⟨0, 0, none⟩) a.length a.length), (1, .int .i64 b), (7, .int .i64 0)]) (h' := [(0, .cells (rowC encP a) z0 y0 2)]) (c' := 1) [0] (by decide) rfl ⟨by kernel_rfl, by kernel_rfl, by kernel_rfl, trivial⟩ ⟨⟨_, _, rfl, rfl, .inl ⟨rfl, rowC_scal encP_ok _⟩⟩, trivial⟩ rfl ?_
      cases o1 with
      | r x4_r1 =>
        dsimp only at h
        refine XL.conv (f32_1_ok m m z0 y0 a b 0 (.r x4_r1) o1_h _ ?_) (by first | rfl | simp)
        have h := Option.some.inj h
        subst h
        exact ⟨fun i q => (by cases q), .tuple #[.int .i64 x4_r1, .int .i64 0], (by kernel_rfl), rfl⟩
      | x0 =>
        dsimp only at h
        refine XL.conv (f32_1_ok m m z0 y0 a b 0 (.x0) o1_h _ ?_) (by first | rfl | simp)
        show XQ _ _ _ _ _ _ _ _
        refine XQ.seq E0_ok (by kernel_rfl) ?_
        refine XQ.region (by kernel_rfl) ?_
        refine XR.run E0_ok 1 2 [4, 5] rfl (σ' := [(4, .int .i64 23), (5, .int .i64 0)]) (h' := [(0, .cells (rowC encP a) z0 y0 2)]) (c' := 1) (by kernel_rfl) ?_
        refine XR.done (by kernel_rfl) ?_
        show XQ _ _ _ _ _ _ _ _
        refine XQ.ret (by kernel_rfl) ?_
        have h := Option.some.inj h
        subst h
        exact ⟨fun i q => (by cases q), .tuple #[.int .i64 23, .int .i64 0], (by kernel_rfl), rfl⟩
  | false =>
    have h := cF b1 h
    refine XR.run E0_ok 1 5 [0, 1, 6, 20] rfl (σ' := [(0, .slice (some ⟨0, 0, none⟩) a.length a.length), (1, .int .i64 b), (6, .int .i64 r1), (20, .bool false)]) (h' := [(0, .cells (rowC encP a) z0 y0 2)]) (c' := 1) (by kernel_rfl) ?_
    refine XR.done (by kernel_rfl) ?_
    show XQ _ _ _ _ _ _ _ _
    refine XQ.cond (s := (.tmp 20)) (b := false) (by kernel_rfl) (by kernel_rfl) (fun q => by cases q) (fun _ => ?_)
    refine XQ.skip (by kernel_rfl) ?_
    show XQ _ _ _ _ _ _ _ _
    refine XQ.seq E0_ok (by kernel_rfl) ?_
    refine XQ.seq E0_ok (by kernel_rfl) ?_
    refine XQ.region (by kernel_rfl) ?_
    refine XR.run E0_ok 1 2 [0, 1, 6, 22] rfl (σ' := [(0, .slice (some ⟨0, 0, none⟩) a.length a.length), (1, .int .i64 b), (6, .int .i64 r1), (22, .bool (r1 != 0))]) (h' := [(0, .cells (rowC encP a) z0 y0 2)]) (c' := 1) (by kernel_rfl) ?_
    refine XR.done (by kernel_rfl) ?_
    show XQ _ _ _ _ _ _ _ _
    cases b5 : (r1 != 0 : Bool) with
    | true =>
      have h := cT b5 h
      refine XQ.cond (s := (.tmp 22)) (b := true) (by kernel_rfl) (by kernel_rfl) (fun _ => ?_) (fun q => by cases q)
      refine XQ.seq E0_ok (by kernel_rfl) ?_
      refine XQ.region (by kernel_rfl) ?_
      refine XR.run E0_ok 1 3 [4, 5] rfl (σ' := [(4, .int .i64 0), (5, .int .i64 r1)]) (h' := [(0, .cells (rowC encP a) z0 y0 2)]) (c' := 1) (by kernel_rfl) ?_
      refine XR.done (by kernel_rfl) ?_
      show XQ _ _ _ _ _ _ _ _
      refine XQ.ret (by kernel_rfl) ?_
      have h := Option.some.inj h
      subst h
      exact ⟨fun i q => (by cases q), .tuple #[.int .i64 0, .int .i64 r1], (by kernel_rfl), rfl⟩
    | false =>
      have h := cF b5 h
      refine XQ.cond (s := (.tmp 22)) (b := false) (by kernel_rfl) (by kernel_rfl) (fun q => by cases q) (fun _ => ?_)
      refine XQ.skip (by kernel_rfl) ?_
      show XQ _ _ _ _ _ _ _ _
      refine XQ.seq E0_ok (by kernel_rfl) ?_
      refine XQ.seq E0_ok (by kernel_rfl) ?_
      refine XQ.region (by kernel_rfl) ?_
      refine XR.run E0_ok 1 1 [0, 1, 7] rfl (σ' := [(0, .slice (some ⟨0, 0, none⟩) a.length a.length), (1, .int .i64 b), (7, .int .i64 0)]) (h' := [(0, .cells (rowC encP a) z0 y0 2)]) (c' := 1) (by kernel_rfl) ?_
      refine XR.done (by kernel_rfl) ?_
      show XQ _ _ _ _ _ _ _ _
      refine XQ.block (id := 0) (by kernel_rfl) ?_
      refine XQ.loop m (by kernel_rfl) ?_
      obtain ⟨o2, o2_h, h⟩ := bS h
      refine XL.ren (σ' := [(0, .slice (some ⟨0, 0, none⟩) a.length a.length), (1, .int .i64 b), (7, .int .i64 0)]) (h' := [(0, .cells (rowC encP a) z0 y0 2)]) (c' := 1) [0] (by decide) rfl ⟨by kernel_rfl, by kernel_rfl, by kernel_rfl, trivial⟩ ⟨⟨_, _, rfl, rfl, .inl ⟨rfl, rowC_scal encP_ok _⟩⟩, trivial⟩ rfl ?_
      cases o2 with
      | r x4_r2 =>
        dsimp only at h
        refine XL.conv (f32_2_ok m m z0 y0 a b 0 (.r x4_r2) o2_h _ ?_) (by first | rfl | simp)
        have h := Option.some.inj h
        subst h
        exact ⟨fun i q => (by cases q), .tuple #[.int .i64 x4_r2, .int .i64 0], (by kernel_rfl), rfl⟩
      | x0 =>
        dsimp only at h
        refine XL.conv (f32_2_ok m m z0 y0 a b 0 (.x0) o2_h _ ?_) (by first | rfl | simp)
        show XQ _ _ _ _ _ _ _ _
        refine XQ.seq E0_ok (by kernel_rfl) ?_
        refine XQ.region (by kernel_rfl) ?_
        refine XR.run E0_ok 1 2 [4, 5] rfl (σ' := [(4, .int .i64 23), (5, .int .i64 0)]) (h' := [(0, .cells (rowC encP a) z0 y0 2)]) (c' := 1) (by kernel_rfl) ?_
        refine XR.done (by kernel_rfl) ?_
        show XQ _ _ _ _ _ _ _ _
        refine XQ.ret (by kernel_rfl) ?_
        have h := Option.some.inj h
        subst h
        exact ⟨fun i q => (by cases q), .tuple #[.int .i64 23, .int .i64 0], (by kernel_rfl), rfl⟩

end Go.Xm
