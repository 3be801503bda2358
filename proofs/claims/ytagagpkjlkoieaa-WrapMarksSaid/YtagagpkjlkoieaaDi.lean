/- What these functions of the program compute, as functions in Lean, and the proofs that they do: vitolalaw05.WrapChain. Conditions: none. -/
import Derived.Test.YtagagpkjlkoieaaDg
namespace Go.Xm
open Go.RowKit
set_option linter.unusedVariables false
set_option linter.unusedSimpArgs false
set_option maxRecDepth 20000

/-! vitola/vitolalaw05.WrapChain -/
noncomputable def f10_C10 : Code := Proofs.Try.f10.body.getD .skip
noncomputable def f10_C45 : Code := Proofs.Try.f45.body.getD .skip
noncomputable def f10_L1 : Code := lft (lft (rgt (lft (rgt (rgt (rgt (rgt (rgt f10_C10))))))))

inductive Of10_1 where
  | r
  | x0 (x6_x01 : Int) (x7_x01 : Int) (xh0_0_x01 : Int) (xh0_1_x01 : Int) (xh0_2_x01 : Int) (lh1_x01 : List Int)

def f10_1 (m : Nat) : Nat → Int → Int → Int → Int → Int → Int → List Int → Option Of10_1
  | 0, _, _, _, _, _, _, _ => none
  | fuel + 1, x6_1, x7_1, x8_1, xh0_0_1, xh0_1_1, xh0_2_1, lh1_1 =>
    cond (decide (x8_1 ≥ 0)) (
      cond (inRow x8_1 lh1_1.length) (
        cond (decide ((List.getD lh1_1 (Int.toNat x8_1) 0) < 1)) (
          some (.r)
        ) (
          cond (decide ((List.getD lh1_1 (Int.toNat x8_1) 0) > 100)) (
            some (.r)
          ) (
            cond (decide (x6_1 > 100)) (
              some (.r)
            ) (
              f10_1 m fuel (w64 ((w64 ((List.getD lh1_1 (Int.toNat x8_1) 0) * x6_1)) + x7_1)) x6_1 (w64 (x8_1 - 1)) xh0_0_1 xh0_1_1 xh0_2_1 lh1_1
            )
          )
        )
      ) none
    ) (
      some (.x0 x6_1 x7_1 xh0_0_1 xh0_1_1 xh0_2_1 lh1_1)
    )

theorem f10_1_ok (m : Nat) : ∀ (fuel : Nat) (x6_1 : Int) (x7_1 : Int) (x8_1 : Int) (xh0_0_1 : Int) (xh0_1_1 : Int) (xh0_2_1 : Int) (lh1_1 : List Int) (o : Of10_1), f10_1 m fuel x6_1 x7_1 x8_1 xh0_0_1 xh0_1_1 xh0_2_1 lh1_1 = some o → ∀ Q : QP, (match o with | .r => Q .ret [(2, .bool false)] [] 0 | .x0 x6_x01 x7_x01 xh0_0_x01 xh0_1_x01 xh0_2_x01 lh1_x01 => Q (.exit 0) [(3, .pointer (some ⟨0, 0, none⟩)), (4, .slice (some ⟨1, 0, none⟩) lh1_x01.length lh1_x01.length), (6, .int .i64 x6_x01), (7, .int .i64 x7_x01)] [(1, .cells (rowC (encI .i64) lh1_x01) 0 3 1), (0, .cells [.int .i64 xh0_0_x01, .int .i64 xh0_1_x01, .int .i64 xh0_2_x01] 0 23 0)] 2) → XL E0 114 0 fuel f10_L1 [(3, .pointer (some ⟨0, 0, none⟩)), (4, .slice (some ⟨1, 0, none⟩) lh1_1.length lh1_1.length), (6, .int .i64 x6_1), (7, .int .i64 x7_1), (8, .int .i64 x8_1)] [(1, .cells (rowC (encI .i64) lh1_1) 0 3 1), (0, .cells [.int .i64 xh0_0_1, .int .i64 xh0_1_1, .int .i64 xh0_2_1] 0 23 0)] 2 Q
  | 0, x6_1, x7_1, x8_1, xh0_0_1, xh0_1_1, xh0_2_1, lh1_1, o, h, Q, hQ => by cases h
  | fuel + 1, x6_1, x7_1, x8_1, xh0_0_1, xh0_1_1, xh0_2_1, lh1_1, o, h, Q, hQ => by
    unfold f10_1 at h
    refine XL.succ E0_ok ?_
    refine XQ.seq E0_ok (by kernel_rfl) ?_
    refine XQ.seq E0_ok (by kernel_rfl) ?_
    refine XQ.region (by kernel_rfl) ?_
    refine XR.run E0_ok 1 2 [3, 4, 6, 7, 8, 40] rfl (σ' := [(3, .pointer (some ⟨0, 0, none⟩)), (4, .slice (some ⟨1, 0, none⟩) lh1_1.length lh1_1.length), (6, .int .i64 x6_1), (7, .int .i64 x7_1), (8, .int .i64 x8_1), (40, .bool (decide (x8_1 ≥ 0)))]) (h' := [(1, .cells (rowC (encI .i64) lh1_1) 0 3 1), (0, .cells [.int .i64 xh0_0_1, .int .i64 xh0_1_1, .int .i64 xh0_2_1] 0 23 0)]) (c' := 2) (by kernel_rfl) ?_
    refine XR.done (by kernel_rfl) ?_
    show XQ _ _ _ _ _ _ _ _
    cases b1 : (decide (x8_1 ≥ 0) : Bool) with
    | true =>
      have h := cT b1 h
      refine XQ.cond (s := (.tmp 40)) (b := true) (by kernel_rfl) (by kernel_rfl) (fun _ => ?_) (fun q => by cases q)
      refine XQ.skip (by kernel_rfl) ?_
      show XQ _ _ _ _ _ _ _ _
      refine XQ.seq E0_ok (by kernel_rfl) ?_
      refine XQ.block (id := 1) (by kernel_rfl) ?_
      refine XQ.seq E0_ok (by kernel_rfl) ?_
      refine XQ.seq E0_ok (by kernel_rfl) ?_
      refine XQ.region (by kernel_rfl) ?_
      refine XR.run E0_ok 1 2 [3, 4, 6, 7, 8, 43, 44] rfl (σ' := [(3, .pointer (some ⟨0, 0, none⟩)), (4, .slice (some ⟨1, 0, none⟩) lh1_1.length lh1_1.length), (6, .int .i64 x6_1), (7, .int .i64 x7_1), (8, .int .i64 x8_1), (43, .slice (some ⟨1, 0, none⟩) lh1_1.length lh1_1.length), (44, .int .i64 x8_1)]) (h' := [(1, .cells (rowC (encI .i64) lh1_1) 0 3 1), (0, .cells [.int .i64 xh0_0_1, .int .i64 xh0_1_1, .int .i64 xh0_2_1] 0 23 0)]) (c' := 2) (by kernel_rfl) ?_
      cases b2 : (inRow x8_1 lh1_1.length : Bool) with
      | false => cases (cF b2 h)
      | true =>
        have h := cT b2 h
        refine XR.rd E0_ok [3, 4, 6, 7, 8, 45] rfl (v := .pointer (some ⟨1, (Int.toNat x8_1) * 1, none⟩)) (v_idx (s := 1) (x := (src 114 (.tmp 43))) (y := (src 114 (.tmp 44))) (b := 1) (o := 0) (len := lh1_1.length) (cap := lh1_1.length) (ik := .i64) (i := x8_1) (off := (Int.toNat x8_1) * 1) (d := (some (path 12 45))) (by kernel_rfl) (by kernel_rfl) (by kernel_rfl) b2 (by omega)) (σ' := [(3, .pointer (some ⟨0, 0, none⟩)), (4, .slice (some ⟨1, 0, none⟩) lh1_1.length lh1_1.length), (6, .int .i64 x6_1), (7, .int .i64 x7_1), (8, .int .i64 x8_1), (45, .pointer (some ⟨1, (Int.toNat x8_1) * 1, none⟩))]) (by kernel_rfl) ?_
        refine XR.rd E0_ok [3, 4, 6, 7, 8, 46] rfl (v := .int .i64 (List.getD lh1_1 (Int.toNat x8_1) 0)) (v_load1 (encI_ok .i64) (x := (src 114 (.tmp 45))) (b := 1) (off := (Int.toNat x8_1) * 1) (xs := lh1_1) (fz := 0) (e := 3) (es := 1) (d := (some (path 12 46))) (by kernel_rfl) (by kernel_rfl) (by kernel_rfl) (Int.toNat x8_1) 0 0 (by first | rfl | omega) (row_len (inRow_toNat b2) (by simp)) rfl rfl) (σ' := [(3, .pointer (some ⟨0, 0, none⟩)), (4, .slice (some ⟨1, 0, none⟩) lh1_1.length lh1_1.length), (6, .int .i64 x6_1), (7, .int .i64 x7_1), (8, .int .i64 x8_1), (46, .int .i64 (List.getD lh1_1 (Int.toNat x8_1) 0))]) (by kernel_rfl) ?_
        refine XR.run E0_ok 1 2 [3, 4, 6, 7, 8, 48] rfl (σ' := [(3, .pointer (some ⟨0, 0, none⟩)), (4, .slice (some ⟨1, 0, none⟩) lh1_1.length lh1_1.length), (6, .int .i64 x6_1), (7, .int .i64 x7_1), (8, .int .i64 x8_1), (48, .bool (decide ((List.getD lh1_1 (Int.toNat x8_1) 0) < 1)))]) (h' := [(1, .cells (rowC (encI .i64) lh1_1) 0 3 1), (0, .cells [.int .i64 xh0_0_1, .int .i64 xh0_1_1, .int .i64 xh0_2_1] 0 23 0)]) (c' := 2) (by kernel_rfl) ?_
        cases b3 : (decide ((List.getD lh1_1 (Int.toNat x8_1) 0) < 1) : Bool) with
        | true =>
          have h := cT b3 h
          refine XR.run E0_ok 1 10 [3, 4, 6, 7, 8, 58] rfl (σ' := [(3, .pointer (some ⟨0, 0, none⟩)), (4, .slice (some ⟨1, 0, none⟩) lh1_1.length lh1_1.length), (6, .int .i64 x6_1), (7, .int .i64 x7_1), (8, .int .i64 x8_1), (58, .bool true)]) (h' := [(1, .cells (rowC (encI .i64) lh1_1) 0 3 1), (0, .cells [.int .i64 xh0_0_1, .int .i64 xh0_1_1, .int .i64 xh0_2_1] 0 23 0)]) (c' := 2) (by kernel_rfl) ?_
          refine XR.done (by kernel_rfl) ?_
          show XQ _ _ _ _ _ _ _ _
          refine XQ.cond (s := (.tmp 58)) (b := true) (by kernel_rfl) (by kernel_rfl) (fun _ => ?_) (fun q => by cases q)
          refine XQ.seq E0_ok (by kernel_rfl) ?_
          refine XQ.region (by kernel_rfl) ?_
          refine XR.run E0_ok 1 1 [2] rfl (σ' := [(2, .bool false)]) (h' := [(1, .cells (rowC (encI .i64) lh1_1) 0 3 1), (0, .cells [.int .i64 xh0_0_1, .int .i64 xh0_1_1, .int .i64 xh0_2_1] 0 23 0)]) (c' := 2) (by kernel_rfl) ?_
          refine XR.done (by kernel_rfl) ?_
          show XQ _ _ _ _ _ _ _ _
          refine XQ.ren (σ' := [(2, .bool false)]) (h' := []) (c' := 0) [] (by decide) rfl ⟨by kernel_rfl, trivial⟩ trivial rfl ?_
          refine XQ.ret (by kernel_rfl) ?_
          cases h
          exact hQ
        | false =>
          have h := cF b3 h
          refine XR.run E0_ok 1 2 [3, 4, 6, 7, 8, 48, 49, 50] rfl (σ' := [(3, .pointer (some ⟨0, 0, none⟩)), (4, .slice (some ⟨1, 0, none⟩) lh1_1.length lh1_1.length), (6, .int .i64 x6_1), (7, .int .i64 x7_1), (8, .int .i64 x8_1), (48, .bool false), (49, .slice (some ⟨1, 0, none⟩) lh1_1.length lh1_1.length), (50, .int .i64 x8_1)]) (h' := [(1, .cells (rowC (encI .i64) lh1_1) 0 3 1), (0, .cells [.int .i64 xh0_0_1, .int .i64 xh0_1_1, .int .i64 xh0_2_1] 0 23 0)]) (c' := 2) (by kernel_rfl) ?_
          refine XR.rd E0_ok [3, 4, 6, 7, 8, 48, 51] rfl (v := .pointer (some ⟨1, (Int.toNat x8_1) * 1, none⟩)) (v_idx (s := 1) (x := (src 114 (.tmp 49))) (y := (src 114 (.tmp 50))) (b := 1) (o := 0) (len := lh1_1.length) (cap := lh1_1.length) (ik := .i64) (i := x8_1) (off := (Int.toNat x8_1) * 1) (d := (some (path 12 51))) (by kernel_rfl) (by kernel_rfl) (by kernel_rfl) b2 (by omega)) (σ' := [(3, .pointer (some ⟨0, 0, none⟩)), (4, .slice (some ⟨1, 0, none⟩) lh1_1.length lh1_1.length), (6, .int .i64 x6_1), (7, .int .i64 x7_1), (8, .int .i64 x8_1), (48, .bool false), (51, .pointer (some ⟨1, (Int.toNat x8_1) * 1, none⟩))]) (by kernel_rfl) ?_
          refine XR.rd E0_ok [3, 4, 6, 7, 8, 48, 52] rfl (v := .int .i64 (List.getD lh1_1 (Int.toNat x8_1) 0)) (v_load1 (encI_ok .i64) (x := (src 114 (.tmp 51))) (b := 1) (off := (Int.toNat x8_1) * 1) (xs := lh1_1) (fz := 0) (e := 3) (es := 1) (d := (some (path 12 52))) (by kernel_rfl) (by kernel_rfl) (by kernel_rfl) (Int.toNat x8_1) 0 0 (by first | rfl | omega) (row_len (inRow_toNat b2) (by simp)) rfl rfl) (σ' := [(3, .pointer (some ⟨0, 0, none⟩)), (4, .slice (some ⟨1, 0, none⟩) lh1_1.length lh1_1.length), (6, .int .i64 x6_1), (7, .int .i64 x7_1), (8, .int .i64 x8_1), (48, .bool false), (52, .int .i64 (List.getD lh1_1 (Int.toNat x8_1) 0))]) (by kernel_rfl) ?_
          refine XR.run E0_ok 1 3 [3, 4, 6, 7, 8, 55] rfl (σ' := [(3, .pointer (some ⟨0, 0, none⟩)), (4, .slice (some ⟨1, 0, none⟩) lh1_1.length lh1_1.length), (6, .int .i64 x6_1), (7, .int .i64 x7_1), (8, .int .i64 x8_1), (55, .bool (decide ((List.getD lh1_1 (Int.toNat x8_1) 0) > 100)))]) (h' := [(1, .cells (rowC (encI .i64) lh1_1) 0 3 1), (0, .cells [.int .i64 xh0_0_1, .int .i64 xh0_1_1, .int .i64 xh0_2_1] 0 23 0)]) (c' := 2) (by kernel_rfl) ?_
          cases b4 : (decide ((List.getD lh1_1 (Int.toNat x8_1) 0) > 100) : Bool) with
          | true =>
            have h := cT b4 h
            refine XR.run E0_ok 1 3 [3, 4, 6, 7, 8, 58] rfl (σ' := [(3, .pointer (some ⟨0, 0, none⟩)), (4, .slice (some ⟨1, 0, none⟩) lh1_1.length lh1_1.length), (6, .int .i64 x6_1), (7, .int .i64 x7_1), (8, .int .i64 x8_1), (58, .bool true)]) (h' := [(1, .cells (rowC (encI .i64) lh1_1) 0 3 1), (0, .cells [.int .i64 xh0_0_1, .int .i64 xh0_1_1, .int .i64 xh0_2_1] 0 23 0)]) (c' := 2) (by kernel_rfl) ?_
            refine XR.done (by kernel_rfl) ?_
            show XQ _ _ _ _ _ _ _ _
            refine XQ.cond (s := (.tmp 58)) (b := true) (by kernel_rfl) (by kernel_rfl) (fun _ => ?_) (fun q => by cases q)
            refine XQ.seq E0_ok (by kernel_rfl) ?_
            refine XQ.region (by kernel_rfl) ?_
            refine XR.run E0_ok 1 1 [2] rfl (σ' := [(2, .bool false)]) (h' := [(1, .cells (rowC (encI .i64) lh1_1) 0 3 1), (0, .cells [.int .i64 xh0_0_1, .int .i64 xh0_1_1, .int .i64 xh0_2_1] 0 23 0)]) (c' := 2) (by kernel_rfl) ?_
            refine XR.done (by kernel_rfl) ?_
            show XQ _ _ _ _ _ _ _ _
            refine XQ.ren (σ' := [(2, .bool false)]) (h' := []) (c' := 0) [] (by decide) rfl ⟨by kernel_rfl, trivial⟩ trivial rfl ?_
            refine XQ.ret (by kernel_rfl) ?_
            cases h
            exact hQ
          | false =>
            have h := cF b4 h
            refine XR.run E0_ok 1 3 [3, 4, 6, 7, 8, 58] rfl (σ' := [(3, .pointer (some ⟨0, 0, none⟩)), (4, .slice (some ⟨1, 0, none⟩) lh1_1.length lh1_1.length), (6, .int .i64 x6_1), (7, .int .i64 x7_1), (8, .int .i64 x8_1), (58, .bool (decide (x6_1 > 100)))]) (h' := [(1, .cells (rowC (encI .i64) lh1_1) 0 3 1), (0, .cells [.int .i64 xh0_0_1, .int .i64 xh0_1_1, .int .i64 xh0_2_1] 0 23 0)]) (c' := 2) (by kernel_rfl) ?_
            refine XR.done (by kernel_rfl) ?_
            show XQ _ _ _ _ _ _ _ _
            cases b5 : (decide (x6_1 > 100) : Bool) with
            | true =>
              have h := cT b5 h
              refine XQ.cond (s := (.tmp 58)) (b := true) (by kernel_rfl) (by kernel_rfl) (fun _ => ?_) (fun q => by cases q)
              refine XQ.seq E0_ok (by kernel_rfl) ?_
              refine XQ.region (by kernel_rfl) ?_
              refine XR.run E0_ok 1 1 [2] rfl (σ' := [(2, .bool false)]) (h' := [(1, .cells (rowC (encI .i64) lh1_1) 0 3 1), (0, .cells [.int .i64 xh0_0_1, .int .i64 xh0_1_1, .int .i64 xh0_2_1] 0 23 0)]) (c' := 2) (by kernel_rfl) ?_
              refine XR.done (by kernel_rfl) ?_
              show XQ _ _ _ _ _ _ _ _
              refine XQ.ren (σ' := [(2, .bool false)]) (h' := []) (c' := 0) [] (by decide) rfl ⟨by kernel_rfl, trivial⟩ trivial rfl ?_
              refine XQ.ret (by kernel_rfl) ?_
              cases h
              exact hQ
            | false =>
              have h := cF b5 h
              refine XQ.cond (s := (.tmp 58)) (b := false) (by kernel_rfl) (by kernel_rfl) (fun q => by cases q) (fun _ => ?_)
              refine XQ.skip (by kernel_rfl) ?_
              show XQ _ _ _ _ _ _ _ _
              refine XQ.region (by kernel_rfl) ?_
              refine XR.run E0_ok 1 2 [3, 4, 6, 7, 8, 59, 60] rfl (σ' := [(3, .pointer (some ⟨0, 0, none⟩)), (4, .slice (some ⟨1, 0, none⟩) lh1_1.length lh1_1.length), (6, .int .i64 x6_1), (7, .int .i64 x7_1), (8, .int .i64 x8_1), (59, .slice (some ⟨1, 0, none⟩) lh1_1.length lh1_1.length), (60, .int .i64 x8_1)]) (h' := [(1, .cells (rowC (encI .i64) lh1_1) 0 3 1), (0, .cells [.int .i64 xh0_0_1, .int .i64 xh0_1_1, .int .i64 xh0_2_1] 0 23 0)]) (c' := 2) (by kernel_rfl) ?_
              refine XR.rd E0_ok [3, 4, 6, 7, 8, 61] rfl (v := .pointer (some ⟨1, (Int.toNat x8_1) * 1, none⟩)) (v_idx (s := 1) (x := (src 114 (.tmp 59))) (y := (src 114 (.tmp 60))) (b := 1) (o := 0) (len := lh1_1.length) (cap := lh1_1.length) (ik := .i64) (i := x8_1) (off := (Int.toNat x8_1) * 1) (d := (some (path 12 61))) (by kernel_rfl) (by kernel_rfl) (by kernel_rfl) b2 (by omega)) (σ' := [(3, .pointer (some ⟨0, 0, none⟩)), (4, .slice (some ⟨1, 0, none⟩) lh1_1.length lh1_1.length), (6, .int .i64 x6_1), (7, .int .i64 x7_1), (8, .int .i64 x8_1), (61, .pointer (some ⟨1, (Int.toNat x8_1) * 1, none⟩))]) (by kernel_rfl) ?_
              refine XR.rd E0_ok [3, 4, 6, 7, 8, 62] rfl (v := .int .i64 (List.getD lh1_1 (Int.toNat x8_1) 0)) (v_load1 (encI_ok .i64) (x := (src 114 (.tmp 61))) (b := 1) (off := (Int.toNat x8_1) * 1) (xs := lh1_1) (fz := 0) (e := 3) (es := 1) (d := (some (path 12 62))) (by kernel_rfl) (by kernel_rfl) (by kernel_rfl) (Int.toNat x8_1) 0 0 (by first | rfl | omega) (row_len (inRow_toNat b2) (by simp)) rfl rfl) (σ' := [(3, .pointer (some ⟨0, 0, none⟩)), (4, .slice (some ⟨1, 0, none⟩) lh1_1.length lh1_1.length), (6, .int .i64 x6_1), (7, .int .i64 x7_1), (8, .int .i64 x8_1), (62, .int .i64 (List.getD lh1_1 (Int.toNat x8_1) 0))]) (by kernel_rfl) ?_
              refine XR.run E0_ok 1 7 [3, 4, 6, 7, 8] rfl (σ' := [(3, .pointer (some ⟨0, 0, none⟩)), (4, .slice (some ⟨1, 0, none⟩) lh1_1.length lh1_1.length), (6, .int .i64 (w64 ((w64 ((List.getD lh1_1 (Int.toNat x8_1) 0) * x6_1)) + x7_1))), (7, .int .i64 x6_1), (8, .int .i64 x8_1)]) (h' := [(1, .cells (rowC (encI .i64) lh1_1) 0 3 1), (0, .cells [.int .i64 xh0_0_1, .int .i64 xh0_1_1, .int .i64 xh0_2_1] 0 23 0)]) (c' := 2) (by kernel_rfl) ?_
              refine XR.done (by kernel_rfl) ?_
              show XQ _ _ _ _ _ _ _ _
              refine XQ.region (by kernel_rfl) ?_
              refine XR.run E0_ok 1 3 [3, 4, 6, 7, 8] rfl (σ' := [(3, .pointer (some ⟨0, 0, none⟩)), (4, .slice (some ⟨1, 0, none⟩) lh1_1.length lh1_1.length), (6, .int .i64 (w64 ((w64 ((List.getD lh1_1 (Int.toNat x8_1) 0) * x6_1)) + x7_1))), (7, .int .i64 x6_1), (8, .int .i64 (w64 (x8_1 - 1)))]) (h' := [(1, .cells (rowC (encI .i64) lh1_1) 0 3 1), (0, .cells [.int .i64 xh0_0_1, .int .i64 xh0_1_1, .int .i64 xh0_2_1] 0 23 0)]) (c' := 2) (by kernel_rfl) ?_
              refine XR.done (by kernel_rfl) ?_
              show XL _ _ _ _ _ _ _ _ _
              refine XL.ren (σ' := [(3, .pointer (some ⟨0, 0, none⟩)), (4, .slice (some ⟨1, 0, none⟩) lh1_1.length lh1_1.length), (6, .int .i64 (w64 ((w64 ((List.getD lh1_1 (Int.toNat x8_1) 0) * x6_1)) + x7_1))), (7, .int .i64 x6_1), (8, .int .i64 (w64 (x8_1 - 1)))]) (h' := [(1, .cells (rowC (encI .i64) lh1_1) 0 3 1), (0, .cells [.int .i64 xh0_0_1, .int .i64 xh0_1_1, .int .i64 xh0_2_1] 0 23 0)]) (c' := 2) [0, 1] (by decide) rfl ⟨by kernel_rfl, by kernel_rfl, by kernel_rfl, by kernel_rfl, by kernel_rfl, trivial⟩ ⟨⟨_, _, rfl, rfl, .inl ⟨rfl, rowC_scal (encI_ok .i64) _⟩⟩, ⟨_, _, rfl, rfl, .inr ⟨_, _, _, _, rfl, rfl⟩⟩, trivial⟩ rfl ?_
              refine XL.conv (f10_1_ok m fuel (w64 ((w64 ((List.getD lh1_1 (Int.toNat x8_1) 0) * x6_1)) + x7_1)) x6_1 (w64 (x8_1 - 1)) xh0_0_1 xh0_1_1 xh0_2_1 lh1_1 o h Q hQ) (by first | rfl | simp)
    | false =>
      have h := cF b1 h
      refine XQ.cond (s := (.tmp 40)) (b := false) (by kernel_rfl) (by kernel_rfl) (fun q => by cases q) (fun _ => ?_)
      refine XQ.ren (σ' := [(3, .pointer (some ⟨0, 0, none⟩)), (4, .slice (some ⟨1, 0, none⟩) lh1_1.length lh1_1.length), (6, .int .i64 x6_1), (7, .int .i64 x7_1)]) (h' := [(1, .cells (rowC (encI .i64) lh1_1) 0 3 1), (0, .cells [.int .i64 xh0_0_1, .int .i64 xh0_1_1, .int .i64 xh0_2_1] 0 23 0)]) (c' := 2) [0, 1] (by decide) rfl ⟨by kernel_rfl, by kernel_rfl, by kernel_rfl, by kernel_rfl, trivial⟩ ⟨⟨_, _, rfl, rfl, .inl ⟨rfl, rowC_scal (encI_ok .i64) _⟩⟩, ⟨_, _, rfl, rfl, .inr ⟨_, _, _, _, rfl, rfl⟩⟩, trivial⟩ rfl ?_
      refine XQ.exit (i := 0) (by kernel_rfl) ?_
      cases h
      exact hQ

def f10 (m : Nat) (a_Marks : Int) (a_Step : Int) (a_Turns : Int) : Option (Bool) :=
  cond ((w64 (1 + (Int.tmod (w64 a_Marks) 100))) != 0) (
    (f47 m (w64 (1 + (Int.tmod (w64 a_Marks) 100))) (Int.tmod (w64 a_Step) (w64 (1 + (Int.tmod (w64 a_Marks) 100))))).bind fun r1 =>
      cond (r1 != 0) (
        (f41 m (w64 (1 + (Int.tmod (w64 a_Marks) 100))) (Int.tmod (w64 a_Step) (w64 (1 + (Int.tmod (w64 a_Marks) 100))))).bind fun r2 =>
          cond (r2.2 != 0) (
            some (false)
          ) (
            cond (decide (((r2.1.length : Nat) : Int) > 20)) (
              some (false)
            ) (
              (f47 m (w64 (1 + (Int.tmod (w64 a_Marks) 100))) (Int.tmod (w64 a_Step) (w64 (1 + (Int.tmod (w64 a_Marks) 100))))).bind fun r3 =>
                cond (r3 != 0) (
                  (f10_1 m m (w64 (Int.tdiv (w64 (1 + (Int.tmod (w64 a_Marks) 100))) r3)) 0 (w64 (((r2.1.length : Nat) : Int) - 1)) (w64 (1 + (Int.tmod (w64 a_Marks) 100))) (Int.tmod (w64 a_Step) (w64 (1 + (Int.tmod (w64 a_Marks) 100)))) (w64 (1 + (Int.tmod (w64 a_Turns) r1))) r2.1).bind fun o1 =>
                    match o1 with
                    | .r =>
                      some (false)
                    | .x0 x6_x01 x7_x01 xh0_0_x01 xh0_1_x01 xh0_2_x01 lh1_x01 =>
                      cond (decide (((lh1_x01.length : Nat) : Int) > 1)) (
                        cond (inRow (w64 (((lh1_x01.length : Nat) : Int) - 1)) lh1_x01.length) (
                          cond (decide ((List.getD lh1_x01 (Int.toNat (w64 (((lh1_x01.length : Nat) : Int) - 1))) 0) < 2)) (
                            some (false)
                          ) (
                            (f47 m xh0_0_x01 xh0_1_x01).bind fun r4 =>
                              cond (x6_x01 == xh0_0_x01) (
                                cond (x7_x01 == xh0_1_x01) (
                                  (f20 m xh0_0_x01 xh0_1_x01 r4).bind fun r5 =>
                                    cond (r5 == 0) (
                                      (f20 m xh0_0_x01 xh0_1_x01 (w64 (r4 + 1))).bind fun r6 =>
                                        cond (r6 == 3) (
                                          some (true)
                                        ) (
                                          some (false)
                                        )
                                    ) (
                                      some (false)
                                    )
                                ) (
                                  some (false)
                                )
                              ) (
                                some (false)
                              )
                          )
                        ) none
                      ) (
                        (f47 m xh0_0_x01 xh0_1_x01).bind fun r7 =>
                          cond (x6_x01 == xh0_0_x01) (
                            cond (x7_x01 == xh0_1_x01) (
                              (f20 m xh0_0_x01 xh0_1_x01 r7).bind fun r8 =>
                                cond (r8 == 0) (
                                  (f20 m xh0_0_x01 xh0_1_x01 (w64 (r7 + 1))).bind fun r9 =>
                                    cond (r9 == 3) (
                                      some (true)
                                    ) (
                                      some (false)
                                    )
                                ) (
                                  some (false)
                                )
                            ) (
                              some (false)
                            )
                          ) (
                            some (false)
                          )
                      )
                ) none
            )
          )
      ) none
  ) none

theorem f10_ok (m : Nat) (a_Marks : Int) (a_Step : Int) (a_Turns : Int) (o : Bool) (h : f10 m a_Marks a_Step a_Turns = some o) (w : World) (hI : anyInv w) : Calls Proofs.Try.prog 10 #[.agg #[.int .u8 a_Marks, .int .u8 a_Step, .int .u8 a_Turns]] w fun e w' => e = .returned (.bool o) ∧ Below w.heap.size w w' := by
  refine KC.calls (E := E0) (args := [.agg #[.int .u8 a_Marks, .int .u8 a_Step, .int .u8 a_Turns]]) (v := .bool o) rfl rfl (KC.bodyN E0_ok (F := Proofs.Try.f10) (by kernel_rfl) (code := f10_C10) (by kernel_rfl) (nt := 114) (by kernel_rfl) (rs := [.tmp 2]) (by kernel_rfl) (by kernel_rfl) (σ := [(0, .agg #[.int .u8 a_Marks, .int .u8 a_Step, .int .u8 a_Turns])]) (by kernel_rfl) ?_) w (anyInv_size hI) hI
  unfold f10 at h
  refine XQ.seq E0_ok (by kernel_rfl) ?_
  refine XQ.region (by kernel_rfl) ?_
  refine XR.run E0_ok 1 2 [1] rfl (σ' := [(1, .pointer (some ⟨0, 0, none⟩))]) (h' := [(0, .cells [.int .u8 a_Marks, .int .u8 a_Step, .int .u8 a_Turns] 0 52 0)]) (c' := 1) (by kernel_rfl) ?_
  refine XR.done (by kernel_rfl) ?_
  show XQ _ _ _ _ _ _ _ _
  refine XQ.seq E0_ok (by kernel_rfl) ?_
  refine XQ.region (by kernel_rfl) ?_
  refine XR.run E0_ok 1 1 [11] rfl (σ' := [(11, .agg #[.int .u8 a_Marks, .int .u8 a_Step, .int .u8 a_Turns])]) (h' := [(0, .cells [.int .u8 a_Marks, .int .u8 a_Step, .int .u8 a_Turns] 0 52 0)]) (c' := 1) (by kernel_rfl) ?_
  refine XR.callK E0_ok [12] rfl (K := 45) (args := [.agg #[.int .u8 a_Marks, .int .u8 a_Step, .int .u8 a_Turns], .int .i64 100]) (d := (some (path 12 12))) (by kernel_rfl) ?_
  refine KC.bodyN E0_ok (F := Proofs.Try.f45) (by kernel_rfl) (code := f10_C45) (by kernel_rfl) (nt := 32) (by kernel_rfl) (rs := [.cell 4 23]) (by kernel_rfl) (by kernel_rfl) (σ := [(0, .agg #[.int .u8 a_Marks, .int .u8 a_Step, .int .u8 a_Turns]), (1, .int .i64 100)]) (by kernel_rfl) ?_
  refine XQ.seq E0_ok (by kernel_rfl) ?_
  refine XQ.region (by kernel_rfl) ?_
  refine XR.run E0_ok 1 2 [1, 2, 4] rfl (σ' := [(1, .int .i64 100), (2, .pointer (some ⟨1, 0, none⟩)), (4, .pointer (some ⟨2, 0, none⟩))]) (h' := [(2, .cells [.int .i64 0, .int .i64 0, .int .i64 0] 0 23 0), (1, .cells [.int .u8 a_Marks, .int .u8 a_Step, .int .u8 a_Turns] 0 52 0), (0, .cells [.int .u8 a_Marks, .int .u8 a_Step, .int .u8 a_Turns] 0 52 0)]) (c' := 3) (by kernel_rfl) ?_
  refine XR.done (by kernel_rfl) ?_
  show XQ _ _ _ _ _ _ _ _
  refine XQ.seq E0_ok (by kernel_rfl) ?_
  refine XQ.region (by kernel_rfl) ?_
  refine XR.run E0_ok 1 9 [2, 4, 5] rfl (σ' := [(2, .pointer (some ⟨1, 0, none⟩)), (4, .pointer (some ⟨2, 0, none⟩)), (5, .pointer (some ⟨3, 0, none⟩))]) (h' := [(3, .cells [.int .i64 (w64 (1 + (Int.tmod (w64 a_Marks) 100))), .int .i64 0, .int .i64 0] 0 23 0), (2, .cells [.int .i64 0, .int .i64 0, .int .i64 0] 0 23 0), (1, .cells [.int .u8 a_Marks, .int .u8 a_Step, .int .u8 a_Turns] 0 52 0), (0, .cells [.int .u8 a_Marks, .int .u8 a_Step, .int .u8 a_Turns] 0 52 0)]) (c' := 4) (by kernel_rfl) ?_
  refine XR.done (by kernel_rfl) ?_
  show XQ _ _ _ _ _ _ _ _
  refine XQ.seq E0_ok (by kernel_rfl) ?_
  refine XQ.region (by kernel_rfl) ?_
  refine XR.run E0_ok 1 5 [2, 4, 5, 15, 17] rfl (σ' := [(2, .pointer (some ⟨1, 0, none⟩)), (4, .pointer (some ⟨2, 0, none⟩)), (5, .pointer (some ⟨3, 0, none⟩)), (15, .int .i64 (w64 a_Step)), (17, .int .i64 (w64 (1 + (Int.tmod (w64 a_Marks) 100))))]) (h' := [(3, .cells [.int .i64 (w64 (1 + (Int.tmod (w64 a_Marks) 100))), .int .i64 0, .int .i64 0] 0 23 0), (2, .cells [.int .i64 0, .int .i64 0, .int .i64 0] 0 23 0), (1, .cells [.int .u8 a_Marks, .int .u8 a_Step, .int .u8 a_Turns] 0 52 0), (0, .cells [.int .u8 a_Marks, .int .u8 a_Step, .int .u8 a_Turns] 0 52 0)]) (c' := 4) (by kernel_rfl) ?_
  cases b1 : ((w64 (1 + (Int.tmod (w64 a_Marks) 100))) != 0 : Bool) with
  | false => cases (cF b1 h)
  | true =>
    have h := cT b1 h
    have e2 : insV (headI ((gsOf E0 32 (opsOf (lft (rgt (rgt f10_C45))))).drop 5) (trS 32 [(2, .pointer (some ⟨1, 0, none⟩)), (4, .pointer (some ⟨2, 0, none⟩)), (5, .pointer (some ⟨3, 0, none⟩)), (15, .int .i64 (w64 a_Step)), (17, .int .i64 (w64 (1 + (Int.tmod (w64 a_Marks) 100))))])) (trS 32 [(2, .pointer (some ⟨1, 0, none⟩)), (4, .pointer (some ⟨2, 0, none⟩)), (5, .pointer (some ⟨3, 0, none⟩)), (15, .int .i64 (w64 a_Step)), (17, .int .i64 (w64 (1 + (Int.tmod (w64 a_Marks) 100))))]) [(3, .cells [.int .i64 (w64 (1 + (Int.tmod (w64 a_Marks) 100))), .int .i64 0, .int .i64 0] 0 23 0), (2, .cells [.int .i64 0, .int .i64 0, .int .i64 0] 0 23 0), (1, .cells [.int .u8 a_Marks, .int .u8 a_Step, .int .u8 a_Turns] 0 52 0), (0, .cells [.int .u8 a_Marks, .int .u8 a_Step, .int .u8 a_Turns] 0 52 0)] = (match ((w64 (1 + (Int.tmod (w64 a_Marks) 100))) != 0 : Bool) with | true => some (.int .i64 (Int.tmod (w64 a_Step) (w64 (1 + (Int.tmod (w64 a_Marks) 100))))) | false => none) := by kernel_rfl
    refine XR.rd E0_ok [2, 4, 5, 18] rfl (e2.trans (by rw [b1])) (σ' := [(2, .pointer (some ⟨1, 0, none⟩)), (4, .pointer (some ⟨2, 0, none⟩)), (5, .pointer (some ⟨3, 0, none⟩)), (18, .int .i64 (Int.tmod (w64 a_Step) (w64 (1 + (Int.tmod (w64 a_Marks) 100)))))]) (by kernel_rfl) ?_
    refine XR.run E0_ok 1 2 [2, 4, 5] rfl (σ' := [(2, .pointer (some ⟨1, 0, none⟩)), (4, .pointer (some ⟨2, 0, none⟩)), (5, .pointer (some ⟨3, 0, none⟩))]) (h' := [(3, .cells [.int .i64 (w64 (1 + (Int.tmod (w64 a_Marks) 100))), .int .i64 (Int.tmod (w64 a_Step) (w64 (1 + (Int.tmod (w64 a_Marks) 100)))), .int .i64 0] 0 23 0), (2, .cells [.int .i64 0, .int .i64 0, .int .i64 0] 0 23 0), (1, .cells [.int .u8 a_Marks, .int .u8 a_Step, .int .u8 a_Turns] 0 52 0), (0, .cells [.int .u8 a_Marks, .int .u8 a_Step, .int .u8 a_Turns] 0 52 0)]) (c' := 4) (by kernel_rfl) ?_
    refine XR.done (by kernel_rfl) ?_
    show XQ _ _ _ _ _ _ _ _
    refine XQ.seq E0_ok (by kernel_rfl) ?_
    refine XQ.qtail E0_ok [0, 1, 2, 3, 4, 5, 6, 7, 8, 9, 10] 11 [] (by kernel_rfl) (by kernel_rfl) (by kernel_rfl) ?_
    refine XU.run E0_ok 1 7 [4, 5, 22, 24, 26] rfl (σ' := [(4, .pointer (some ⟨2, 0, none⟩)), (5, .pointer (some ⟨3, 0, none⟩)), (22, .int .i64 (w64 a_Turns)), (24, .int .i64 (w64 (1 + (Int.tmod (w64 a_Marks) 100)))), (26, .int .i64 (Int.tmod (w64 a_Step) (w64 (1 + (Int.tmod (w64 a_Marks) 100)))))]) (by kernel_rfl) ?_
    obtain ⟨r1, r1_h, h⟩ := bS h
    refine XU.call E0_ok [4, 5, 22, 27] rfl (K := 47) (F := Proofs.Try.f47) (args := [.int .i64 (w64 (1 + (Int.tmod (w64 a_Marks) 100))), .int .i64 (Int.tmod (w64 a_Step) (w64 (1 + (Int.tmod (w64 a_Marks) 100))))]) (d := (some (path 12 27))) (v := .int .i64 r1) (by kernel_rfl) (by kernel_rfl) rfl rfl (fun w hI => f47_ok m (w64 (1 + (Int.tmod (w64 a_Marks) 100))) (Int.tmod (w64 a_Step) (w64 (1 + (Int.tmod (w64 a_Marks) 100)))) r1 r1_h w hI) (σ' := [(4, .pointer (some ⟨2, 0, none⟩)), (5, .pointer (some ⟨3, 0, none⟩)), (22, .int .i64 (w64 a_Turns)), (27, .int .i64 r1)]) (by kernel_rfl) ?_
    cases b3 : (r1 != 0 : Bool) with
    | false => cases (cF b3 h)
    | true =>
      have h := cT b3 h
      have e4 : insV (headI ((gsOf E0 32 (reOps (opsOf (lft (rgt (rgt (rgt f10_C45))))) [0, 1, 2, 3, 4, 5, 6, 7, 8, 9, 10])).drop 8) (trS 32 [(4, .pointer (some ⟨2, 0, none⟩)), (5, .pointer (some ⟨3, 0, none⟩)), (22, .int .i64 (w64 a_Turns)), (27, .int .i64 r1)])) (trS 32 [(4, .pointer (some ⟨2, 0, none⟩)), (5, .pointer (some ⟨3, 0, none⟩)), (22, .int .i64 (w64 a_Turns)), (27, .int .i64 r1)]) [(3, .cells [.int .i64 (w64 (1 + (Int.tmod (w64 a_Marks) 100))), .int .i64 (Int.tmod (w64 a_Step) (w64 (1 + (Int.tmod (w64 a_Marks) 100)))), .int .i64 0] 0 23 0), (2, .cells [.int .i64 0, .int .i64 0, .int .i64 0] 0 23 0), (1, .cells [.int .u8 a_Marks, .int .u8 a_Step, .int .u8 a_Turns] 0 52 0), (0, .cells [.int .u8 a_Marks, .int .u8 a_Step, .int .u8 a_Turns] 0 52 0)] = (match (r1 != 0 : Bool) with | true => some (.int .i64 (Int.tmod (w64 a_Turns) r1)) | false => none) := by kernel_rfl
      refine XU.rd E0_ok [4, 5, 28] rfl (e4.trans (by rw [b3])) (σ' := [(4, .pointer (some ⟨2, 0, none⟩)), (5, .pointer (some ⟨3, 0, none⟩)), (28, .int .i64 (Int.tmod (w64 a_Turns) r1))]) (by kernel_rfl) ?_
      refine XU.run E0_ok 1 2 [4, 5, 29, 30] rfl (σ' := [(4, .pointer (some ⟨2, 0, none⟩)), (5, .pointer (some ⟨3, 0, none⟩)), (29, .int .i64 (w64 (1 + (Int.tmod (w64 a_Turns) r1)))), (30, .pointer (some ⟨3, 2, none⟩))]) (by kernel_rfl) ?_
      refine XU.done (by kernel_rfl) ?_
      show XR _ _ _ _ _ _ _ _ _
      refine XR.run E0_ok 1 1 [4, 5] rfl (σ' := [(4, .pointer (some ⟨2, 0, none⟩)), (5, .pointer (some ⟨3, 0, none⟩))]) (h' := [(3, .cells [.int .i64 (w64 (1 + (Int.tmod (w64 a_Marks) 100))), .int .i64 (Int.tmod (w64 a_Step) (w64 (1 + (Int.tmod (w64 a_Marks) 100)))), .int .i64 (w64 (1 + (Int.tmod (w64 a_Turns) r1)))] 0 23 0), (2, .cells [.int .i64 0, .int .i64 0, .int .i64 0] 0 23 0), (1, .cells [.int .u8 a_Marks, .int .u8 a_Step, .int .u8 a_Turns] 0 52 0), (0, .cells [.int .u8 a_Marks, .int .u8 a_Step, .int .u8 a_Turns] 0 52 0)]) (c' := 4) (by kernel_rfl) ?_
      refine XR.done (by kernel_rfl) ?_
      show XQ _ _ _ _ _ _ _ _
      refine XQ.seq E0_ok (by kernel_rfl) ?_
      refine XQ.region (by kernel_rfl) ?_
      refine XR.run E0_ok 1 2 [4] rfl (σ' := [(4, .pointer (some ⟨2, 0, none⟩))]) (h' := [(3, .cells [.int .i64 (w64 (1 + (Int.tmod (w64 a_Marks) 100))), .int .i64 (Int.tmod (w64 a_Step) (w64 (1 + (Int.tmod (w64 a_Marks) 100)))), .int .i64 (w64 (1 + (Int.tmod (w64 a_Turns) r1)))] 0 23 0), (2, .cells [.int .i64 (w64 (1 + (Int.tmod (w64 a_Marks) 100))), .int .i64 (Int.tmod (w64 a_Step) (w64 (1 + (Int.tmod (w64 a_Marks) 100)))), .int .i64 (w64 (1 + (Int.tmod (w64 a_Turns) r1)))] 0 23 0), (1, .cells [.int .u8 a_Marks, .int .u8 a_Step, .int .u8 a_Turns] 0 52 0), (0, .cells [.int .u8 a_Marks, .int .u8 a_Step, .int .u8 a_Turns] 0 52 0)]) (c' := 4) (by kernel_rfl) ?_
      refine XR.done (by kernel_rfl) ?_
      show XQ _ _ _ _ _ _ _ _
      refine XQ.ret (by kernel_rfl) ?_
      refine ⟨fun i q => (by cases q), .agg #[.int .i64 (w64 (1 + (Int.tmod (w64 a_Marks) 100))), .int .i64 (Int.tmod (w64 a_Step) (w64 (1 + (Int.tmod (w64 a_Marks) 100)))), .int .i64 (w64 (1 + (Int.tmod (w64 a_Turns) r1)))], (by kernel_rfl), ?_⟩
      refine XR.conv (σ' := [(12, .agg #[.int .i64 (w64 (1 + (Int.tmod (w64 a_Marks) 100))), .int .i64 (Int.tmod (w64 a_Step) (w64 (1 + (Int.tmod (w64 a_Marks) 100)))), .int .i64 (w64 (1 + (Int.tmod (w64 a_Turns) r1)))])]) (h' := [(3, .cells [.int .i64 (w64 (1 + (Int.tmod (w64 a_Marks) 100))), .int .i64 (Int.tmod (w64 a_Step) (w64 (1 + (Int.tmod (w64 a_Marks) 100)))), .int .i64 (w64 (1 + (Int.tmod (w64 a_Turns) r1)))] 0 23 0), (2, .cells [.int .i64 (w64 (1 + (Int.tmod (w64 a_Marks) 100))), .int .i64 (Int.tmod (w64 a_Step) (w64 (1 + (Int.tmod (w64 a_Marks) 100)))), .int .i64 (w64 (1 + (Int.tmod (w64 a_Turns) r1)))] 0 23 0), (1, .cells [.int .u8 a_Marks, .int .u8 a_Step, .int .u8 a_Turns] 0 52 0), (0, .cells [.int .u8 a_Marks, .int .u8 a_Step, .int .u8 a_Turns] 0 52 0)]) (c' := 4) ?_ (by kernel_rfl)
      refine XR.run E0_ok 1 2 [3] rfl (σ' := [(3, .pointer (some ⟨4, 0, none⟩))]) (h' := [(4, .cells [.int .i64 (w64 (1 + (Int.tmod (w64 a_Marks) 100))), .int .i64 (Int.tmod (w64 a_Step) (w64 (1 + (Int.tmod (w64 a_Marks) 100)))), .int .i64 (w64 (1 + (Int.tmod (w64 a_Turns) r1)))] 0 23 0), (3, .cells [.int .i64 (w64 (1 + (Int.tmod (w64 a_Marks) 100))), .int .i64 (Int.tmod (w64 a_Step) (w64 (1 + (Int.tmod (w64 a_Marks) 100)))), .int .i64 (w64 (1 + (Int.tmod (w64 a_Turns) r1)))] 0 23 0), (2, .cells [.int .i64 (w64 (1 + (Int.tmod (w64 a_Marks) 100))), .int .i64 (Int.tmod (w64 a_Step) (w64 (1 + (Int.tmod (w64 a_Marks) 100)))), .int .i64 (w64 (1 + (Int.tmod (w64 a_Turns) r1)))] 0 23 0), (1, .cells [.int .u8 a_Marks, .int .u8 a_Step, .int .u8 a_Turns] 0 52 0), (0, .cells [.int .u8 a_Marks, .int .u8 a_Step, .int .u8 a_Turns] 0 52 0)]) (c' := 5) (by kernel_rfl) ?_
      refine XR.done (by kernel_rfl) ?_
      show XQ _ _ _ _ _ _ _ _
      refine XQ.seq E0_ok (by kernel_rfl) ?_
      refine XQ.region (by kernel_rfl) ?_
      refine XR.run E0_ok 1 4 [3, 15, 17] rfl (σ' := [(3, .pointer (some ⟨4, 0, none⟩)), (15, .int .i64 (w64 (1 + (Int.tmod (w64 a_Marks) 100)))), (17, .int .i64 (Int.tmod (w64 a_Step) (w64 (1 + (Int.tmod (w64 a_Marks) 100)))))]) (h' := [(4, .cells [.int .i64 (w64 (1 + (Int.tmod (w64 a_Marks) 100))), .int .i64 (Int.tmod (w64 a_Step) (w64 (1 + (Int.tmod (w64 a_Marks) 100)))), .int .i64 (w64 (1 + (Int.tmod (w64 a_Turns) r1)))] 0 23 0), (3, .cells [.int .i64 (w64 (1 + (Int.tmod (w64 a_Marks) 100))), .int .i64 (Int.tmod (w64 a_Step) (w64 (1 + (Int.tmod (w64 a_Marks) 100)))), .int .i64 (w64 (1 + (Int.tmod (w64 a_Turns) r1)))] 0 23 0), (2, .cells [.int .i64 (w64 (1 + (Int.tmod (w64 a_Marks) 100))), .int .i64 (Int.tmod (w64 a_Step) (w64 (1 + (Int.tmod (w64 a_Marks) 100)))), .int .i64 (w64 (1 + (Int.tmod (w64 a_Turns) r1)))] 0 23 0), (1, .cells [.int .u8 a_Marks, .int .u8 a_Step, .int .u8 a_Turns] 0 52 0), (0, .cells [.int .u8 a_Marks, .int .u8 a_Step, .int .u8 a_Turns] 0 52 0)]) (c' := 5) (by kernel_rfl) ?_
      obtain ⟨r2, r2_h, h⟩ := bS h
      refine XR.call E0_ok [3, 18] rfl (K := 41) (args := [.int .i64 (w64 (1 + (Int.tmod (w64 a_Marks) 100))), .int .i64 (Int.tmod (w64 a_Step) (w64 (1 + (Int.tmod (w64 a_Marks) 100))))]) (d := (some (path 12 18))) (by kernel_rfl) (KC.lift (V2 := .tuple #[.slice (some ⟨5, 0, none⟩) r2.1.length r2.1.length, .int .i64 r2.2]) (H2 := [(5, .cells (rowC (encI .i64) r2.1) 0 3 1)]) [1, 2, 3, 4, 5, 0] (f41_ok m (w64 (1 + (Int.tmod (w64 a_Marks) 100))) (Int.tmod (w64 a_Step) (w64 (1 + (Int.tmod (w64 a_Marks) 100)))) r2 r2_h) rfl (by decide) (by decide) (by kernel_rfl) ⟨⟨_, _, rfl, rfl, .inl ⟨rfl, rowC_scal (encI_ok .i64) _⟩⟩, trivial⟩ (by rfl)) ?_
      rintro _ _ _ ⟨rfl, rfl, rfl⟩
      refine XR.conv (σ' := [(3, .pointer (some ⟨4, 0, none⟩)), (18, .tuple #[.slice (some ⟨5, 0, none⟩) r2.1.length r2.1.length, .int .i64 r2.2])]) (h' := [(5, .cells (rowC (encI .i64) r2.1) 0 3 1), (4, .cells [.int .i64 (w64 (1 + (Int.tmod (w64 a_Marks) 100))), .int .i64 (Int.tmod (w64 a_Step) (w64 (1 + (Int.tmod (w64 a_Marks) 100)))), .int .i64 (w64 (1 + (Int.tmod (w64 a_Turns) r1)))] 0 23 0), (3, .cells [.int .i64 (w64 (1 + (Int.tmod (w64 a_Marks) 100))), .int .i64 (Int.tmod (w64 a_Step) (w64 (1 + (Int.tmod (w64 a_Marks) 100)))), .int .i64 (w64 (1 + (Int.tmod (w64 a_Turns) r1)))] 0 23 0), (2, .cells [.int .i64 (w64 (1 + (Int.tmod (w64 a_Marks) 100))), .int .i64 (Int.tmod (w64 a_Step) (w64 (1 + (Int.tmod (w64 a_Marks) 100)))), .int .i64 (w64 (1 + (Int.tmod (w64 a_Turns) r1)))] 0 23 0), (1, .cells [.int .u8 a_Marks, .int .u8 a_Step, .int .u8 a_Turns] 0 52 0), (0, .cells [.int .u8 a_Marks, .int .u8 a_Step, .int .u8 a_Turns] 0 52 0)]) (c' := 6) ?_ (by kernel_rfl)
      refine XR.run E0_ok 1 5 [3, 4, 5] rfl (σ' := [(3, .pointer (some ⟨4, 0, none⟩)), (4, .slice (some ⟨5, 0, none⟩) r2.1.length r2.1.length), (5, .int .i64 r2.2)]) (h' := [(5, .cells (rowC (encI .i64) r2.1) 0 3 1), (4, .cells [.int .i64 (w64 (1 + (Int.tmod (w64 a_Marks) 100))), .int .i64 (Int.tmod (w64 a_Step) (w64 (1 + (Int.tmod (w64 a_Marks) 100)))), .int .i64 (w64 (1 + (Int.tmod (w64 a_Turns) r1)))] 0 23 0), (3, .cells [.int .i64 (w64 (1 + (Int.tmod (w64 a_Marks) 100))), .int .i64 (Int.tmod (w64 a_Step) (w64 (1 + (Int.tmod (w64 a_Marks) 100)))), .int .i64 (w64 (1 + (Int.tmod (w64 a_Turns) r1)))] 0 23 0), (2, .cells [.int .i64 (w64 (1 + (Int.tmod (w64 a_Marks) 100))), .int .i64 (Int.tmod (w64 a_Step) (w64 (1 + (Int.tmod (w64 a_Marks) 100)))), .int .i64 (w64 (1 + (Int.tmod (w64 a_Turns) r1)))] 0 23 0), (1, .cells [.int .u8 a_Marks, .int .u8 a_Step, .int .u8 a_Turns] 0 52 0), (0, .cells [.int .u8 a_Marks, .int .u8 a_Step, .int .u8 a_Turns] 0 52 0)]) (c' := 6) (by kernel_rfl) ?_
      refine XR.done (by kernel_rfl) ?_
      show XQ _ _ _ _ _ _ _ _
      refine XQ.seq E0_ok (by kernel_rfl) ?_
      refine XQ.seq E0_ok (by kernel_rfl) ?_
      refine XQ.region (by kernel_rfl) ?_
      refine XR.run E0_ok 1 3 [3, 4, 23] rfl (σ' := [(3, .pointer (some ⟨4, 0, none⟩)), (4, .slice (some ⟨5, 0, none⟩) r2.1.length r2.1.length), (23, .bool (r2.2 != 0))]) (h' := [(5, .cells (rowC (encI .i64) r2.1) 0 3 1), (4, .cells [.int .i64 (w64 (1 + (Int.tmod (w64 a_Marks) 100))), .int .i64 (Int.tmod (w64 a_Step) (w64 (1 + (Int.tmod (w64 a_Marks) 100)))), .int .i64 (w64 (1 + (Int.tmod (w64 a_Turns) r1)))] 0 23 0), (3, .cells [.int .i64 (w64 (1 + (Int.tmod (w64 a_Marks) 100))), .int .i64 (Int.tmod (w64 a_Step) (w64 (1 + (Int.tmod (w64 a_Marks) 100)))), .int .i64 (w64 (1 + (Int.tmod (w64 a_Turns) r1)))] 0 23 0), (2, .cells [.int .i64 (w64 (1 + (Int.tmod (w64 a_Marks) 100))), .int .i64 (Int.tmod (w64 a_Step) (w64 (1 + (Int.tmod (w64 a_Marks) 100)))), .int .i64 (w64 (1 + (Int.tmod (w64 a_Turns) r1)))] 0 23 0), (1, .cells [.int .u8 a_Marks, .int .u8 a_Step, .int .u8 a_Turns] 0 52 0), (0, .cells [.int .u8 a_Marks, .int .u8 a_Step, .int .u8 a_Turns] 0 52 0)]) (c' := 6) (by kernel_rfl) ?_
      cases b5 : (r2.2 != 0 : Bool) with
      | true =>
        have h := cT b5 h
        refine XR.run E0_ok 1 4 [3, 4, 27] rfl (σ' := [(3, .pointer (some ⟨4, 0, none⟩)), (4, .slice (some ⟨5, 0, none⟩) r2.1.length r2.1.length), (27, .bool true)]) (h' := [(5, .cells (rowC (encI .i64) r2.1) 0 3 1), (4, .cells [.int .i64 (w64 (1 + (Int.tmod (w64 a_Marks) 100))), .int .i64 (Int.tmod (w64 a_Step) (w64 (1 + (Int.tmod (w64 a_Marks) 100)))), .int .i64 (w64 (1 + (Int.tmod (w64 a_Turns) r1)))] 0 23 0), (3, .cells [.int .i64 (w64 (1 + (Int.tmod (w64 a_Marks) 100))), .int .i64 (Int.tmod (w64 a_Step) (w64 (1 + (Int.tmod (w64 a_Marks) 100)))), .int .i64 (w64 (1 + (Int.tmod (w64 a_Turns) r1)))] 0 23 0), (2, .cells [.int .i64 (w64 (1 + (Int.tmod (w64 a_Marks) 100))), .int .i64 (Int.tmod (w64 a_Step) (w64 (1 + (Int.tmod (w64 a_Marks) 100)))), .int .i64 (w64 (1 + (Int.tmod (w64 a_Turns) r1)))] 0 23 0), (1, .cells [.int .u8 a_Marks, .int .u8 a_Step, .int .u8 a_Turns] 0 52 0), (0, .cells [.int .u8 a_Marks, .int .u8 a_Step, .int .u8 a_Turns] 0 52 0)]) (c' := 6) (by kernel_rfl) ?_
        refine XR.done (by kernel_rfl) ?_
        show XQ _ _ _ _ _ _ _ _
        refine XQ.cond (s := (.tmp 27)) (b := true) (by kernel_rfl) (by kernel_rfl) (fun _ => ?_) (fun q => by cases q)
        refine XQ.seq E0_ok (by kernel_rfl) ?_
        refine XQ.region (by kernel_rfl) ?_
        refine XR.run E0_ok 1 1 [2] rfl (σ' := [(2, .bool false)]) (h' := [(5, .cells (rowC (encI .i64) r2.1) 0 3 1), (4, .cells [.int .i64 (w64 (1 + (Int.tmod (w64 a_Marks) 100))), .int .i64 (Int.tmod (w64 a_Step) (w64 (1 + (Int.tmod (w64 a_Marks) 100)))), .int .i64 (w64 (1 + (Int.tmod (w64 a_Turns) r1)))] 0 23 0), (3, .cells [.int .i64 (w64 (1 + (Int.tmod (w64 a_Marks) 100))), .int .i64 (Int.tmod (w64 a_Step) (w64 (1 + (Int.tmod (w64 a_Marks) 100)))), .int .i64 (w64 (1 + (Int.tmod (w64 a_Turns) r1)))] 0 23 0), (2, .cells [.int .i64 (w64 (1 + (Int.tmod (w64 a_Marks) 100))), .int .i64 (Int.tmod (w64 a_Step) (w64 (1 + (Int.tmod (w64 a_Marks) 100)))), .int .i64 (w64 (1 + (Int.tmod (w64 a_Turns) r1)))] 0 23 0), (1, .cells [.int .u8 a_Marks, .int .u8 a_Step, .int .u8 a_Turns] 0 52 0), (0, .cells [.int .u8 a_Marks, .int .u8 a_Step, .int .u8 a_Turns] 0 52 0)]) (c' := 6) (by kernel_rfl) ?_
        refine XR.done (by kernel_rfl) ?_
        show XQ _ _ _ _ _ _ _ _
        refine XQ.ret (by kernel_rfl) ?_
        have h := Option.some.inj h
        subst h
        exact ⟨fun i q => (by cases q), .bool false, (by kernel_rfl), rfl⟩
      | false =>
        have h := cF b5 h
        refine XR.run E0_ok 1 4 [3, 4, 27] rfl (σ' := [(3, .pointer (some ⟨4, 0, none⟩)), (4, .slice (some ⟨5, 0, none⟩) r2.1.length r2.1.length), (27, .bool (decide (((r2.1.length : Nat) : Int) > 20)))]) (h' := [(5, .cells (rowC (encI .i64) r2.1) 0 3 1), (4, .cells [.int .i64 (w64 (1 + (Int.tmod (w64 a_Marks) 100))), .int .i64 (Int.tmod (w64 a_Step) (w64 (1 + (Int.tmod (w64 a_Marks) 100)))), .int .i64 (w64 (1 + (Int.tmod (w64 a_Turns) r1)))] 0 23 0), (3, .cells [.int .i64 (w64 (1 + (Int.tmod (w64 a_Marks) 100))), .int .i64 (Int.tmod (w64 a_Step) (w64 (1 + (Int.tmod (w64 a_Marks) 100)))), .int .i64 (w64 (1 + (Int.tmod (w64 a_Turns) r1)))] 0 23 0), (2, .cells [.int .i64 (w64 (1 + (Int.tmod (w64 a_Marks) 100))), .int .i64 (Int.tmod (w64 a_Step) (w64 (1 + (Int.tmod (w64 a_Marks) 100)))), .int .i64 (w64 (1 + (Int.tmod (w64 a_Turns) r1)))] 0 23 0), (1, .cells [.int .u8 a_Marks, .int .u8 a_Step, .int .u8 a_Turns] 0 52 0), (0, .cells [.int .u8 a_Marks, .int .u8 a_Step, .int .u8 a_Turns] 0 52 0)]) (c' := 6) (by kernel_rfl) ?_
        refine XR.done (by kernel_rfl) ?_
        show XQ _ _ _ _ _ _ _ _
        cases b6 : (decide (((r2.1.length : Nat) : Int) > 20) : Bool) with
        | true =>
          have h := cT b6 h
          refine XQ.cond (s := (.tmp 27)) (b := true) (by kernel_rfl) (by kernel_rfl) (fun _ => ?_) (fun q => by cases q)
          refine XQ.seq E0_ok (by kernel_rfl) ?_
          refine XQ.region (by kernel_rfl) ?_
          refine XR.run E0_ok 1 1 [2] rfl (σ' := [(2, .bool false)]) (h' := [(5, .cells (rowC (encI .i64) r2.1) 0 3 1), (4, .cells [.int .i64 (w64 (1 + (Int.tmod (w64 a_Marks) 100))), .int .i64 (Int.tmod (w64 a_Step) (w64 (1 + (Int.tmod (w64 a_Marks) 100)))), .int .i64 (w64 (1 + (Int.tmod (w64 a_Turns) r1)))] 0 23 0), (3, .cells [.int .i64 (w64 (1 + (Int.tmod (w64 a_Marks) 100))), .int .i64 (Int.tmod (w64 a_Step) (w64 (1 + (Int.tmod (w64 a_Marks) 100)))), .int .i64 (w64 (1 + (Int.tmod (w64 a_Turns) r1)))] 0 23 0), (2, .cells [.int .i64 (w64 (1 + (Int.tmod (w64 a_Marks) 100))), .int .i64 (Int.tmod (w64 a_Step) (w64 (1 + (Int.tmod (w64 a_Marks) 100)))), .int .i64 (w64 (1 + (Int.tmod (w64 a_Turns) r1)))] 0 23 0), (1, .cells [.int .u8 a_Marks, .int .u8 a_Step, .int .u8 a_Turns] 0 52 0), (0, .cells [.int .u8 a_Marks, .int .u8 a_Step, .int .u8 a_Turns] 0 52 0)]) (c' := 6) (by kernel_rfl) ?_
          refine XR.done (by kernel_rfl) ?_
          show XQ _ _ _ _ _ _ _ _
          refine XQ.ret (by kernel_rfl) ?_
          have h := Option.some.inj h
          subst h
          exact ⟨fun i q => (by cases q), .bool false, (by kernel_rfl), rfl⟩
        | false =>
          have h := cF b6 h
          refine XQ.cond (s := (.tmp 27)) (b := false) (by kernel_rfl) (by kernel_rfl) (fun q => by cases q) (fun _ => ?_)
          refine XQ.skip (by kernel_rfl) ?_
          show XQ _ _ _ _ _ _ _ _
          refine XQ.seq E0_ok (by kernel_rfl) ?_
          refine XQ.quiet E0_ok (by kernel_rfl) (by kernel_rfl) ?_
          refine XU.run E0_ok 1 6 [3, 4, 29, 31, 33] rfl (σ' := [(3, .pointer (some ⟨4, 0, none⟩)), (4, .slice (some ⟨5, 0, none⟩) r2.1.length r2.1.length), (29, .int .i64 (w64 (1 + (Int.tmod (w64 a_Marks) 100)))), (31, .int .i64 (w64 (1 + (Int.tmod (w64 a_Marks) 100)))), (33, .int .i64 (Int.tmod (w64 a_Step) (w64 (1 + (Int.tmod (w64 a_Marks) 100)))))]) (by kernel_rfl) ?_
          obtain ⟨r3, r3_h, h⟩ := bS h
          refine XU.call E0_ok [3, 4, 29, 34] rfl (K := 47) (F := Proofs.Try.f47) (args := [.int .i64 (w64 (1 + (Int.tmod (w64 a_Marks) 100))), .int .i64 (Int.tmod (w64 a_Step) (w64 (1 + (Int.tmod (w64 a_Marks) 100))))]) (d := (some (path 12 34))) (v := .int .i64 r3) (by kernel_rfl) (by kernel_rfl) rfl rfl (fun w hI => f47_ok m (w64 (1 + (Int.tmod (w64 a_Marks) 100))) (Int.tmod (w64 a_Step) (w64 (1 + (Int.tmod (w64 a_Marks) 100)))) r3 r3_h w hI) (σ' := [(3, .pointer (some ⟨4, 0, none⟩)), (4, .slice (some ⟨5, 0, none⟩) r2.1.length r2.1.length), (29, .int .i64 (w64 (1 + (Int.tmod (w64 a_Marks) 100)))), (34, .int .i64 r3)]) (by kernel_rfl) ?_
          cases b7 : (r3 != 0 : Bool) with
          | false => cases (cF b7 h)
          | true =>
            have h := cT b7 h
            have e8 : insV (headI ((gsOf E0 114 (opsOf (lft (rgt (rgt (rgt (rgt f10_C10))))))).drop 7) (trS 114 [(3, .pointer (some ⟨4, 0, none⟩)), (4, .slice (some ⟨5, 0, none⟩) r2.1.length r2.1.length), (29, .int .i64 (w64 (1 + (Int.tmod (w64 a_Marks) 100)))), (34, .int .i64 r3)])) (trS 114 [(3, .pointer (some ⟨4, 0, none⟩)), (4, .slice (some ⟨5, 0, none⟩) r2.1.length r2.1.length), (29, .int .i64 (w64 (1 + (Int.tmod (w64 a_Marks) 100)))), (34, .int .i64 r3)]) [(5, .cells (rowC (encI .i64) r2.1) 0 3 1), (4, .cells [.int .i64 (w64 (1 + (Int.tmod (w64 a_Marks) 100))), .int .i64 (Int.tmod (w64 a_Step) (w64 (1 + (Int.tmod (w64 a_Marks) 100)))), .int .i64 (w64 (1 + (Int.tmod (w64 a_Turns) r1)))] 0 23 0), (3, .cells [.int .i64 (w64 (1 + (Int.tmod (w64 a_Marks) 100))), .int .i64 (Int.tmod (w64 a_Step) (w64 (1 + (Int.tmod (w64 a_Marks) 100)))), .int .i64 (w64 (1 + (Int.tmod (w64 a_Turns) r1)))] 0 23 0), (2, .cells [.int .i64 (w64 (1 + (Int.tmod (w64 a_Marks) 100))), .int .i64 (Int.tmod (w64 a_Step) (w64 (1 + (Int.tmod (w64 a_Marks) 100)))), .int .i64 (w64 (1 + (Int.tmod (w64 a_Turns) r1)))] 0 23 0), (1, .cells [.int .u8 a_Marks, .int .u8 a_Step, .int .u8 a_Turns] 0 52 0), (0, .cells [.int .u8 a_Marks, .int .u8 a_Step, .int .u8 a_Turns] 0 52 0)] = (match (r3 != 0 : Bool) with | true => some (.int .i64 (w64 (Int.tdiv (w64 (1 + (Int.tmod (w64 a_Marks) 100))) r3))) | false => none) := by kernel_rfl
            refine XU.rd E0_ok [3, 4, 35] rfl (e8.trans (by rw [b7])) (σ' := [(3, .pointer (some ⟨4, 0, none⟩)), (4, .slice (some ⟨5, 0, none⟩) r2.1.length r2.1.length), (35, .int .i64 (w64 (Int.tdiv (w64 (1 + (Int.tmod (w64 a_Marks) 100))) r3)))]) (by kernel_rfl) ?_
            refine XU.run E0_ok 1 2 [3, 4, 6, 7] rfl (σ' := [(3, .pointer (some ⟨4, 0, none⟩)), (4, .slice (some ⟨5, 0, none⟩) r2.1.length r2.1.length), (6, .int .i64 (w64 (Int.tdiv (w64 (1 + (Int.tmod (w64 a_Marks) 100))) r3))), (7, .int .i64 0)]) (by kernel_rfl) ?_
            refine XU.done (by kernel_rfl) ?_
            show XQ _ _ _ _ _ _ _ _
            refine XQ.seq E0_ok (by kernel_rfl) ?_
            refine XQ.seq E0_ok (by kernel_rfl) ?_
            refine XQ.region (by kernel_rfl) ?_
            refine XR.run E0_ok 1 4 [3, 4, 6, 7, 8] rfl (σ' := [(3, .pointer (some ⟨4, 0, none⟩)), (4, .slice (some ⟨5, 0, none⟩) r2.1.length r2.1.length), (6, .int .i64 (w64 (Int.tdiv (w64 (1 + (Int.tmod (w64 a_Marks) 100))) r3))), (7, .int .i64 0), (8, .int .i64 (w64 (((r2.1.length : Nat) : Int) - 1)))]) (h' := [(5, .cells (rowC (encI .i64) r2.1) 0 3 1), (4, .cells [.int .i64 (w64 (1 + (Int.tmod (w64 a_Marks) 100))), .int .i64 (Int.tmod (w64 a_Step) (w64 (1 + (Int.tmod (w64 a_Marks) 100)))), .int .i64 (w64 (1 + (Int.tmod (w64 a_Turns) r1)))] 0 23 0), (3, .cells [.int .i64 (w64 (1 + (Int.tmod (w64 a_Marks) 100))), .int .i64 (Int.tmod (w64 a_Step) (w64 (1 + (Int.tmod (w64 a_Marks) 100)))), .int .i64 (w64 (1 + (Int.tmod (w64 a_Turns) r1)))] 0 23 0), (2, .cells [.int .i64 (w64 (1 + (Int.tmod (w64 a_Marks) 100))), .int .i64 (Int.tmod (w64 a_Step) (w64 (1 + (Int.tmod (w64 a_Marks) 100)))), .int .i64 (w64 (1 + (Int.tmod (w64 a_Turns) r1)))] 0 23 0), (1, .cells [.int .u8 a_Marks, .int .u8 a_Step, .int .u8 a_Turns] 0 52 0), (0, .cells [.int .u8 a_Marks, .int .u8 a_Step, .int .u8 a_Turns] 0 52 0)]) (c' := 6) (by kernel_rfl) ?_
            refine XR.done (by kernel_rfl) ?_
            show XQ _ _ _ _ _ _ _ _
            refine XQ.block (id := 0) (by kernel_rfl) ?_
            refine XQ.loop m (by kernel_rfl) ?_
            obtain ⟨o1, o1_h, h⟩ := bS h
            refine XL.ren (σ' := [(3, .pointer (some ⟨0, 0, none⟩)), (4, .slice (some ⟨1, 0, none⟩) r2.1.length r2.1.length), (6, .int .i64 (w64 (Int.tdiv (w64 (1 + (Int.tmod (w64 a_Marks) 100))) r3))), (7, .int .i64 0), (8, .int .i64 (w64 (((r2.1.length : Nat) : Int) - 1)))]) (h' := [(1, .cells (rowC (encI .i64) r2.1) 0 3 1), (0, .cells [.int .i64 (w64 (1 + (Int.tmod (w64 a_Marks) 100))), .int .i64 (Int.tmod (w64 a_Step) (w64 (1 + (Int.tmod (w64 a_Marks) 100)))), .int .i64 (w64 (1 + (Int.tmod (w64 a_Turns) r1)))] 0 23 0)]) (c' := 2) [4, 5] (by decide) rfl ⟨by kernel_rfl, by kernel_rfl, by kernel_rfl, by kernel_rfl, by kernel_rfl, trivial⟩ ⟨⟨_, _, rfl, rfl, .inl ⟨rfl, rowC_scal (encI_ok .i64) _⟩⟩, ⟨_, _, rfl, rfl, .inr ⟨_, _, _, _, rfl, rfl⟩⟩, trivial⟩ rfl ?_
            cases o1 with
            | r =>
              dsimp only at h
              refine XL.conv (f10_1_ok m m (w64 (Int.tdiv (w64 (1 + (Int.tmod (w64 a_Marks) 100))) r3)) 0 (w64 (((r2.1.length : Nat) : Int) - 1)) (w64 (1 + (Int.tmod (w64 a_Marks) 100))) (Int.tmod (w64 a_Step) (w64 (1 + (Int.tmod (w64 a_Marks) 100)))) (w64 (1 + (Int.tmod (w64 a_Turns) r1))) r2.1 (.r) o1_h _ ?_) (by first | rfl | simp)
              have h := Option.some.inj h
              subst h
              exact ⟨fun i q => (by cases q), .bool false, (by kernel_rfl), rfl⟩
            | x0 x6_x01 x7_x01 xh0_0_x01 xh0_1_x01 xh0_2_x01 lh1_x01 =>
              dsimp only at h
              refine XL.conv (f10_1_ok m m (w64 (Int.tdiv (w64 (1 + (Int.tmod (w64 a_Marks) 100))) r3)) 0 (w64 (((r2.1.length : Nat) : Int) - 1)) (w64 (1 + (Int.tmod (w64 a_Marks) 100))) (Int.tmod (w64 a_Step) (w64 (1 + (Int.tmod (w64 a_Marks) 100)))) (w64 (1 + (Int.tmod (w64 a_Turns) r1))) r2.1 (.x0 x6_x01 x7_x01 xh0_0_x01 xh0_1_x01 xh0_2_x01 lh1_x01) o1_h _ ?_) (by first | rfl | simp)
              show XQ _ _ _ _ _ _ _ _
              refine XQ.seq E0_ok (by kernel_rfl) ?_
              refine XQ.seq E0_ok (by kernel_rfl) ?_
              refine XQ.region (by kernel_rfl) ?_
              refine XR.run E0_ok 1 3 [3, 4, 6, 7, 9] rfl (σ' := [(3, .pointer (some ⟨0, 0, none⟩)), (4, .slice (some ⟨1, 0, none⟩) lh1_x01.length lh1_x01.length), (6, .int .i64 x6_x01), (7, .int .i64 x7_x01), (9, .int .i64 ((lh1_x01.length : Nat) : Int))]) (h' := [(1, .cells (rowC (encI .i64) lh1_x01) 0 3 1), (0, .cells [.int .i64 xh0_0_x01, .int .i64 xh0_1_x01, .int .i64 xh0_2_x01] 0 23 0)]) (c' := 2) (by kernel_rfl) ?_
              refine XR.done (by kernel_rfl) ?_
              show XQ _ _ _ _ _ _ _ _
              refine XQ.seq E0_ok (by kernel_rfl) ?_
              refine XQ.region (by kernel_rfl) ?_
              refine XR.run E0_ok 1 3 [3, 4, 6, 7, 9, 72] rfl (σ' := [(3, .pointer (some ⟨0, 0, none⟩)), (4, .slice (some ⟨1, 0, none⟩) lh1_x01.length lh1_x01.length), (6, .int .i64 x6_x01), (7, .int .i64 x7_x01), (9, .int .i64 ((lh1_x01.length : Nat) : Int)), (72, .bool (decide (((lh1_x01.length : Nat) : Int) > 1)))]) (h' := [(1, .cells (rowC (encI .i64) lh1_x01) 0 3 1), (0, .cells [.int .i64 xh0_0_x01, .int .i64 xh0_1_x01, .int .i64 xh0_2_x01] 0 23 0)]) (c' := 2) (by kernel_rfl) ?_
              cases b10 : (decide (((lh1_x01.length : Nat) : Int) > 1) : Bool) with
              | true =>
                have h := cT b10 h
                refine XR.run E0_ok 1 3 [3, 6, 7, 72, 73, 75] rfl (σ' := [(3, .pointer (some ⟨0, 0, none⟩)), (6, .int .i64 x6_x01), (7, .int .i64 x7_x01), (72, .bool true), (73, .slice (some ⟨1, 0, none⟩) lh1_x01.length lh1_x01.length), (75, .int .i64 (w64 (((lh1_x01.length : Nat) : Int) - 1)))]) (h' := [(1, .cells (rowC (encI .i64) lh1_x01) 0 3 1), (0, .cells [.int .i64 xh0_0_x01, .int .i64 xh0_1_x01, .int .i64 xh0_2_x01] 0 23 0)]) (c' := 2) (by kernel_rfl) ?_
                cases b11 : (inRow (w64 (((lh1_x01.length : Nat) : Int) - 1)) lh1_x01.length : Bool) with
                | false => cases (cF b11 h)
                | true =>
                  have h := cT b11 h
                  refine XR.rd E0_ok [3, 6, 7, 72, 76] rfl (v := .pointer (some ⟨1, (Int.toNat (w64 (((lh1_x01.length : Nat) : Int) - 1))) * 1, none⟩)) (v_idx (s := 1) (x := (src 114 (.tmp 73))) (y := (src 114 (.tmp 75))) (b := 1) (o := 0) (len := lh1_x01.length) (cap := lh1_x01.length) (ik := .i64) (i := w64 (((lh1_x01.length : Nat) : Int) - 1)) (off := (Int.toNat (w64 (((lh1_x01.length : Nat) : Int) - 1))) * 1) (d := (some (path 12 76))) (by kernel_rfl) (by kernel_rfl) (by kernel_rfl) b11 (by omega)) (σ' := [(3, .pointer (some ⟨0, 0, none⟩)), (6, .int .i64 x6_x01), (7, .int .i64 x7_x01), (72, .bool true), (76, .pointer (some ⟨1, (Int.toNat (w64 (((lh1_x01.length : Nat) : Int) - 1))) * 1, none⟩))]) (by kernel_rfl) ?_
                  refine XR.rd E0_ok [3, 6, 7, 72, 77] rfl (v := .int .i64 (List.getD lh1_x01 (Int.toNat (w64 (((lh1_x01.length : Nat) : Int) - 1))) 0)) (v_load1 (encI_ok .i64) (x := (src 114 (.tmp 76))) (b := 1) (off := (Int.toNat (w64 (((lh1_x01.length : Nat) : Int) - 1))) * 1) (xs := lh1_x01) (fz := 0) (e := 3) (es := 1) (d := (some (path 12 77))) (by kernel_rfl) (by kernel_rfl) (by kernel_rfl) (Int.toNat (w64 (((lh1_x01.length : Nat) : Int) - 1))) 0 0 (by first | rfl | omega) (row_len (inRow_toNat b11) (by simp)) rfl rfl) (σ' := [(3, .pointer (some ⟨0, 0, none⟩)), (6, .int .i64 x6_x01), (7, .int .i64 x7_x01), (72, .bool true), (77, .int .i64 (List.getD lh1_x01 (Int.toNat (w64 (((lh1_x01.length : Nat) : Int) - 1))) 0))]) (by kernel_rfl) ?_
                  refine XR.run E0_ok 1 2 [3, 6, 7, 79] rfl (σ' := [(3, .pointer (some ⟨0, 0, none⟩)), (6, .int .i64 x6_x01), (7, .int .i64 x7_x01), (79, .bool (decide ((List.getD lh1_x01 (Int.toNat (w64 (((lh1_x01.length : Nat) : Int) - 1))) 0) < 2)))]) (h' := [(1, .cells (rowC (encI .i64) lh1_x01) 0 3 1), (0, .cells [.int .i64 xh0_0_x01, .int .i64 xh0_1_x01, .int .i64 xh0_2_x01] 0 23 0)]) (c' := 2) (by kernel_rfl) ?_
                  refine XR.done (by kernel_rfl) ?_
                  show XQ _ _ _ _ _ _ _ _
                  cases b12 : (decide ((List.getD lh1_x01 (Int.toNat (w64 (((lh1_x01.length : Nat) : Int) - 1))) 0) < 2) : Bool) with
                  | true =>
                    have h := cT b12 h
                    refine XQ.cond (s := (.tmp 79)) (b := true) (by kernel_rfl) (by kernel_rfl) (fun _ => ?_) (fun q => by cases q)
                    refine XQ.seq E0_ok (by kernel_rfl) ?_
                    refine XQ.region (by kernel_rfl) ?_
                    refine XR.run E0_ok 1 1 [2] rfl (σ' := [(2, .bool false)]) (h' := [(1, .cells (rowC (encI .i64) lh1_x01) 0 3 1), (0, .cells [.int .i64 xh0_0_x01, .int .i64 xh0_1_x01, .int .i64 xh0_2_x01] 0 23 0)]) (c' := 2) (by kernel_rfl) ?_
                    refine XR.done (by kernel_rfl) ?_
                    show XQ _ _ _ _ _ _ _ _
                    refine XQ.ret (by kernel_rfl) ?_
                    have h := Option.some.inj h
                    subst h
                    exact ⟨fun i q => (by cases q), .bool false, (by kernel_rfl), rfl⟩
                  | false =>
                    have h := cF b12 h
                    refine XQ.cond (s := (.tmp 79)) (b := false) (by kernel_rfl) (by kernel_rfl) (fun q => by cases q) (fun _ => ?_)
                    refine XQ.skip (by kernel_rfl) ?_
                    show XQ _ _ _ _ _ _ _ _
                    refine XQ.seq E0_ok (by kernel_rfl) ?_
                    refine XQ.region (by kernel_rfl) ?_
                    refine XR.run E0_ok 1 4 [3, 6, 7, 81, 83] rfl (σ' := [(3, .pointer (some ⟨0, 0, none⟩)), (6, .int .i64 x6_x01), (7, .int .i64 x7_x01), (81, .int .i64 xh0_0_x01), (83, .int .i64 xh0_1_x01)]) (h' := [(1, .cells (rowC (encI .i64) lh1_x01) 0 3 1), (0, .cells [.int .i64 xh0_0_x01, .int .i64 xh0_1_x01, .int .i64 xh0_2_x01] 0 23 0)]) (c' := 2) (by kernel_rfl) ?_
                    obtain ⟨r4, r4_h, h⟩ := bS h
                    refine XR.call E0_ok [3, 6, 7, 84] rfl (K := 47) (args := [.int .i64 xh0_0_x01, .int .i64 xh0_1_x01]) (d := (some (path 12 84))) (by kernel_rfl) (KC.of_calls E0_ok (F := Proofs.Try.f47) (v := .int .i64 r4) (by kernel_rfl) rfl rfl (fun w hI => f47_ok m xh0_0_x01 xh0_1_x01 r4 r4_h w hI)) ?_
                    rintro _ _ _ ⟨rfl, rfl, rfl⟩
                    refine XR.conv (σ' := [(3, .pointer (some ⟨0, 0, none⟩)), (6, .int .i64 x6_x01), (7, .int .i64 x7_x01), (84, .int .i64 r4)]) (h' := [(1, .cells (rowC (encI .i64) lh1_x01) 0 3 1), (0, .cells [.int .i64 xh0_0_x01, .int .i64 xh0_1_x01, .int .i64 xh0_2_x01] 0 23 0)]) (c' := 2) ?_ (by kernel_rfl)
                    refine XR.run E0_ok 1 2 [3, 6, 7] rfl (σ' := [(3, .pointer (some ⟨0, 0, none⟩)), (6, .int .i64 x6_x01), (7, .int .i64 x7_x01)]) (h' := [(1, .cells (rowC (encI .i64) lh1_x01) 0 3 1), (0, .cells [.int .i64 xh0_0_x01, .int .i64 xh0_1_x01, .int .i64 r4] 0 23 0)]) (c' := 2) (by kernel_rfl) ?_
                    refine XR.done (by kernel_rfl) ?_
                    show XQ _ _ _ _ _ _ _ _
                    refine XQ.seq E0_ok (by kernel_rfl) ?_
                    refine XQ.region (by kernel_rfl) ?_
                    refine XR.run E0_ok 1 3 [3, 6, 7, 10] rfl (σ' := [(3, .pointer (some ⟨0, 0, none⟩)), (6, .int .i64 x6_x01), (7, .int .i64 x7_x01), (10, .pointer (some ⟨2, 0, none⟩))]) (h' := [(2, .cells [.int .i64 xh0_0_x01, .int .i64 xh0_1_x01, .int .i64 r4] 0 23 0), (1, .cells (rowC (encI .i64) lh1_x01) 0 3 1), (0, .cells [.int .i64 xh0_0_x01, .int .i64 xh0_1_x01, .int .i64 r4] 0 23 0)]) (c' := 3) (by kernel_rfl) ?_
                    refine XR.done (by kernel_rfl) ?_
                    show XQ _ _ _ _ _ _ _ _
                    refine XQ.seq E0_ok (by kernel_rfl) ?_
                    refine XQ.region (by kernel_rfl) ?_
                    refine XR.run E0_ok 1 5 [3, 6, 7, 10] rfl (σ' := [(3, .pointer (some ⟨0, 0, none⟩)), (6, .int .i64 x6_x01), (7, .int .i64 x7_x01), (10, .pointer (some ⟨2, 0, none⟩))]) (h' := [(2, .cells [.int .i64 xh0_0_x01, .int .i64 xh0_1_x01, .int .i64 (w64 (r4 + 1))] 0 23 0), (1, .cells (rowC (encI .i64) lh1_x01) 0 3 1), (0, .cells [.int .i64 xh0_0_x01, .int .i64 xh0_1_x01, .int .i64 r4] 0 23 0)]) (c' := 3) (by kernel_rfl) ?_
                    refine XR.done (by kernel_rfl) ?_
                    show XQ _ _ _ _ _ _ _ _
                    refine XQ.seq E0_ok (by kernel_rfl) ?_
                    refine XQ.region (by kernel_rfl) ?_
                    refine XR.run E0_ok 1 5 [3, 7, 10, 95] rfl (σ' := [(3, .pointer (some ⟨0, 0, none⟩)), (7, .int .i64 x7_x01), (10, .pointer (some ⟨2, 0, none⟩)), (95, .bool (x6_x01 == xh0_0_x01))]) (h' := [(2, .cells [.int .i64 xh0_0_x01, .int .i64 xh0_1_x01, .int .i64 (w64 (r4 + 1))] 0 23 0), (1, .cells (rowC (encI .i64) lh1_x01) 0 3 1), (0, .cells [.int .i64 xh0_0_x01, .int .i64 xh0_1_x01, .int .i64 r4] 0 23 0)]) (c' := 3) (by kernel_rfl) ?_
                    cases b13 : (x6_x01 == xh0_0_x01 : Bool) with
                    | true =>
                      have h := cT b13 h
                      refine XR.run E0_ok 1 6 [3, 10, 101] rfl (σ' := [(3, .pointer (some ⟨0, 0, none⟩)), (10, .pointer (some ⟨2, 0, none⟩)), (101, .bool (x7_x01 == xh0_1_x01))]) (h' := [(2, .cells [.int .i64 xh0_0_x01, .int .i64 xh0_1_x01, .int .i64 (w64 (r4 + 1))] 0 23 0), (1, .cells (rowC (encI .i64) lh1_x01) 0 3 1), (0, .cells [.int .i64 xh0_0_x01, .int .i64 xh0_1_x01, .int .i64 r4] 0 23 0)]) (c' := 3) (by kernel_rfl) ?_
                      cases b14 : (x7_x01 == xh0_1_x01 : Bool) with
                      | true =>
                        have h := cT b14 h
                        refine XR.run E0_ok 1 1 [10, 101, 102] rfl (σ' := [(10, .pointer (some ⟨2, 0, none⟩)), (101, .bool true), (102, .agg #[.int .i64 xh0_0_x01, .int .i64 xh0_1_x01, .int .i64 r4])]) (h' := [(2, .cells [.int .i64 xh0_0_x01, .int .i64 xh0_1_x01, .int .i64 (w64 (r4 + 1))] 0 23 0), (1, .cells (rowC (encI .i64) lh1_x01) 0 3 1), (0, .cells [.int .i64 xh0_0_x01, .int .i64 xh0_1_x01, .int .i64 r4] 0 23 0)]) (c' := 3) (by kernel_rfl) ?_
                        obtain ⟨r5, r5_h, h⟩ := bS h
                        refine XR.call E0_ok [10, 101, 103] rfl (K := 20) (args := [.agg #[.int .i64 xh0_0_x01, .int .i64 xh0_1_x01, .int .i64 r4]]) (d := (some (path 12 103))) (by kernel_rfl) (KC.of_calls E0_ok (F := Proofs.Try.f20) (v := .int .i64 r5) (by kernel_rfl) rfl rfl (fun w hI => f20_ok m xh0_0_x01 xh0_1_x01 r4 r5 r5_h w hI)) ?_
                        rintro _ _ _ ⟨rfl, rfl, rfl⟩
                        refine XR.conv (σ' := [(10, .pointer (some ⟨2, 0, none⟩)), (101, .bool true), (103, .int .i64 r5)]) (h' := [(2, .cells [.int .i64 xh0_0_x01, .int .i64 xh0_1_x01, .int .i64 (w64 (r4 + 1))] 0 23 0), (1, .cells (rowC (encI .i64) lh1_x01) 0 3 1), (0, .cells [.int .i64 xh0_0_x01, .int .i64 xh0_1_x01, .int .i64 r4] 0 23 0)]) (c' := 3) ?_ (by kernel_rfl)
                        refine XR.run E0_ok 1 3 [10, 106] rfl (σ' := [(10, .pointer (some ⟨2, 0, none⟩)), (106, .bool (r5 == 0))]) (h' := [(2, .cells [.int .i64 xh0_0_x01, .int .i64 xh0_1_x01, .int .i64 (w64 (r4 + 1))] 0 23 0), (1, .cells (rowC (encI .i64) lh1_x01) 0 3 1), (0, .cells [.int .i64 xh0_0_x01, .int .i64 xh0_1_x01, .int .i64 r4] 0 23 0)]) (c' := 3) (by kernel_rfl) ?_
                        cases b15 : (r5 == 0 : Bool) with
                        | true =>
                          have h := cT b15 h
                          refine XR.run E0_ok 1 1 [106, 107] rfl (σ' := [(106, .bool true), (107, .agg #[.int .i64 xh0_0_x01, .int .i64 xh0_1_x01, .int .i64 (w64 (r4 + 1))])]) (h' := [(2, .cells [.int .i64 xh0_0_x01, .int .i64 xh0_1_x01, .int .i64 (w64 (r4 + 1))] 0 23 0), (1, .cells (rowC (encI .i64) lh1_x01) 0 3 1), (0, .cells [.int .i64 xh0_0_x01, .int .i64 xh0_1_x01, .int .i64 r4] 0 23 0)]) (c' := 3) (by kernel_rfl) ?_
                          obtain ⟨r6, r6_h, h⟩ := bS h
                          refine XR.call E0_ok [106, 108] rfl (K := 20) (args := [.agg #[.int .i64 xh0_0_x01, .int .i64 xh0_1_x01, .int .i64 (w64 (r4 + 1))]]) (d := (some (path 12 108))) (by kernel_rfl) (KC.of_calls E0_ok (F := Proofs.Try.f20) (v := .int .i64 r6) (by kernel_rfl) rfl rfl (fun w hI => f20_ok m xh0_0_x01 xh0_1_x01 (w64 (r4 + 1)) r6 r6_h w hI)) ?_
                          rintro _ _ _ ⟨rfl, rfl, rfl⟩
                          refine XR.conv (σ' := [(106, .bool true), (108, .int .i64 r6)]) (h' := [(2, .cells [.int .i64 xh0_0_x01, .int .i64 xh0_1_x01, .int .i64 (w64 (r4 + 1))] 0 23 0), (1, .cells (rowC (encI .i64) lh1_x01) 0 3 1), (0, .cells [.int .i64 xh0_0_x01, .int .i64 xh0_1_x01, .int .i64 r4] 0 23 0)]) (c' := 3) ?_ (by kernel_rfl)
                          refine XR.run E0_ok 1 3 [111] rfl (σ' := [(111, .bool (r6 == 3))]) (h' := [(2, .cells [.int .i64 xh0_0_x01, .int .i64 xh0_1_x01, .int .i64 (w64 (r4 + 1))] 0 23 0), (1, .cells (rowC (encI .i64) lh1_x01) 0 3 1), (0, .cells [.int .i64 xh0_0_x01, .int .i64 xh0_1_x01, .int .i64 r4] 0 23 0)]) (c' := 3) (by kernel_rfl) ?_
                          cases b16 : (r6 == 3 : Bool) with
                          | true =>
                            have h := cT b16 h
                            refine XR.call E0_ok [111, 112] rfl (K := 28) (args := []) (d := (some (path 12 112))) (by kernel_rfl) (KC.of_calls E0_ok (F := Proofs.Try.f28) (v := .bool true) (by kernel_rfl) rfl rfl (works_ok)) ?_
                            rintro _ _ _ ⟨rfl, rfl, rfl⟩
                            refine XR.conv (σ' := [(111, .bool true), (112, .bool true)]) (h' := [(2, .cells [.int .i64 xh0_0_x01, .int .i64 xh0_1_x01, .int .i64 (w64 (r4 + 1))] 0 23 0), (1, .cells (rowC (encI .i64) lh1_x01) 0 3 1), (0, .cells [.int .i64 xh0_0_x01, .int .i64 xh0_1_x01, .int .i64 r4] 0 23 0)]) (c' := 3) ?_ (by kernel_rfl)
                            refine XR.run E0_ok 1 2 [2] rfl (σ' := [(2, .bool true)]) (h' := [(2, .cells [.int .i64 xh0_0_x01, .int .i64 xh0_1_x01, .int .i64 (w64 (r4 + 1))] 0 23 0), (1, .cells (rowC (encI .i64) lh1_x01) 0 3 1), (0, .cells [.int .i64 xh0_0_x01, .int .i64 xh0_1_x01, .int .i64 r4] 0 23 0)]) (c' := 3) (by kernel_rfl) ?_
                            refine XR.done (by kernel_rfl) ?_
                            show XQ _ _ _ _ _ _ _ _
                            refine XQ.ret (by kernel_rfl) ?_
                            have h := Option.some.inj h
                            subst h
                            exact ⟨fun i q => (by cases q), .bool true, (by kernel_rfl), rfl⟩
                          | false =>
                            have h := cF b16 h
                            refine XR.run E0_ok 1 3 [2] rfl (σ' := [(2, .bool false)]) (h' := [(2, .cells [.int .i64 xh0_0_x01, .int .i64 xh0_1_x01, .int .i64 (w64 (r4 + 1))] 0 23 0), (1, .cells (rowC (encI .i64) lh1_x01) 0 3 1), (0, .cells [.int .i64 xh0_0_x01, .int .i64 xh0_1_x01, .int .i64 r4] 0 23 0)]) (c' := 3) (by kernel_rfl) ?_
                            refine XR.done (by kernel_rfl) ?_
                            show XQ _ _ _ _ _ _ _ _
                            refine XQ.ret (by kernel_rfl) ?_
                            have h := Option.some.inj h
                            subst h
                            exact ⟨fun i q => (by cases q), .bool false, (by kernel_rfl), rfl⟩
                        | false =>
                          have h := cF b15 h
                          refine XR.run E0_ok 1 8 [2] rfl (σ' := [(2, .bool false)]) (h' := [(2, .cells [.int .i64 xh0_0_x01, .int .i64 xh0_1_x01, .int .i64 (w64 (r4 + 1))] 0 23 0), (1, .cells (rowC (encI .i64) lh1_x01) 0 3 1), (0, .cells [.int .i64 xh0_0_x01, .int .i64 xh0_1_x01, .int .i64 r4] 0 23 0)]) (c' := 3) (by kernel_rfl) ?_
                          refine XR.done (by kernel_rfl) ?_
                          show XQ _ _ _ _ _ _ _ _
                          refine XQ.ret (by kernel_rfl) ?_
                          have h := Option.some.inj h
                          subst h
                          exact ⟨fun i q => (by cases q), .bool false, (by kernel_rfl), rfl⟩
                      | false =>
                        have h := cF b14 h
                        refine XR.run E0_ok 1 13 [2] rfl (σ' := [(2, .bool false)]) (h' := [(2, .cells [.int .i64 xh0_0_x01, .int .i64 xh0_1_x01, .int .i64 (w64 (r4 + 1))] 0 23 0), (1, .cells (rowC (encI .i64) lh1_x01) 0 3 1), (0, .cells [.int .i64 xh0_0_x01, .int .i64 xh0_1_x01, .int .i64 r4] 0 23 0)]) (c' := 3) (by kernel_rfl) ?_
                        refine XR.done (by kernel_rfl) ?_
                        show XQ _ _ _ _ _ _ _ _
                        refine XQ.ret (by kernel_rfl) ?_
                        have h := Option.some.inj h
                        subst h
                        exact ⟨fun i q => (by cases q), .bool false, (by kernel_rfl), rfl⟩
                    | false =>
                      have h := cF b13 h
                      refine XR.run E0_ok 1 19 [2] rfl (σ' := [(2, .bool false)]) (h' := [(2, .cells [.int .i64 xh0_0_x01, .int .i64 xh0_1_x01, .int .i64 (w64 (r4 + 1))] 0 23 0), (1, .cells (rowC (encI .i64) lh1_x01) 0 3 1), (0, .cells [.int .i64 xh0_0_x01, .int .i64 xh0_1_x01, .int .i64 r4] 0 23 0)]) (c' := 3) (by kernel_rfl) ?_
                      refine XR.done (by kernel_rfl) ?_
                      show XQ _ _ _ _ _ _ _ _
                      refine XQ.ret (by kernel_rfl) ?_
                      have h := Option.some.inj h
                      subst h
                      exact ⟨fun i q => (by cases q), .bool false, (by kernel_rfl), rfl⟩
              | false =>
                have h := cF b10 h
                refine XR.run E0_ok 1 7 [3, 6, 7, 79] rfl (σ' := [(3, .pointer (some ⟨0, 0, none⟩)), (6, .int .i64 x6_x01), (7, .int .i64 x7_x01), (79, .bool false)]) (h' := [(1, .cells (rowC (encI .i64) lh1_x01) 0 3 1), (0, .cells [.int .i64 xh0_0_x01, .int .i64 xh0_1_x01, .int .i64 xh0_2_x01] 0 23 0)]) (c' := 2) (by kernel_rfl) ?_
                refine XR.done (by kernel_rfl) ?_
                show XQ _ _ _ _ _ _ _ _
                refine XQ.cond (s := (.tmp 79)) (b := false) (by kernel_rfl) (by kernel_rfl) (fun q => by cases q) (fun _ => ?_)
                refine XQ.skip (by kernel_rfl) ?_
                show XQ _ _ _ _ _ _ _ _
                refine XQ.seq E0_ok (by kernel_rfl) ?_
                refine XQ.region (by kernel_rfl) ?_
                refine XR.run E0_ok 1 4 [3, 6, 7, 81, 83] rfl (σ' := [(3, .pointer (some ⟨0, 0, none⟩)), (6, .int .i64 x6_x01), (7, .int .i64 x7_x01), (81, .int .i64 xh0_0_x01), (83, .int .i64 xh0_1_x01)]) (h' := [(1, .cells (rowC (encI .i64) lh1_x01) 0 3 1), (0, .cells [.int .i64 xh0_0_x01, .int .i64 xh0_1_x01, .int .i64 xh0_2_x01] 0 23 0)]) (c' := 2) (by kernel_rfl) ?_
                obtain ⟨r7, r7_h, h⟩ := bS h
                refine XR.call E0_ok [3, 6, 7, 84] rfl (K := 47) (args := [.int .i64 xh0_0_x01, .int .i64 xh0_1_x01]) (d := (some (path 12 84))) (by kernel_rfl) (KC.of_calls E0_ok (F := Proofs.Try.f47) (v := .int .i64 r7) (by kernel_rfl) rfl rfl (fun w hI => f47_ok m xh0_0_x01 xh0_1_x01 r7 r7_h w hI)) ?_
                rintro _ _ _ ⟨rfl, rfl, rfl⟩
                refine XR.conv (σ' := [(3, .pointer (some ⟨0, 0, none⟩)), (6, .int .i64 x6_x01), (7, .int .i64 x7_x01), (84, .int .i64 r7)]) (h' := [(1, .cells (rowC (encI .i64) lh1_x01) 0 3 1), (0, .cells [.int .i64 xh0_0_x01, .int .i64 xh0_1_x01, .int .i64 xh0_2_x01] 0 23 0)]) (c' := 2) ?_ (by kernel_rfl)
                refine XR.run E0_ok 1 2 [3, 6, 7] rfl (σ' := [(3, .pointer (some ⟨0, 0, none⟩)), (6, .int .i64 x6_x01), (7, .int .i64 x7_x01)]) (h' := [(1, .cells (rowC (encI .i64) lh1_x01) 0 3 1), (0, .cells [.int .i64 xh0_0_x01, .int .i64 xh0_1_x01, .int .i64 r7] 0 23 0)]) (c' := 2) (by kernel_rfl) ?_
                refine XR.done (by kernel_rfl) ?_
                show XQ _ _ _ _ _ _ _ _
                refine XQ.seq E0_ok (by kernel_rfl) ?_
                refine XQ.region (by kernel_rfl) ?_
                refine XR.run E0_ok 1 3 [3, 6, 7, 10] rfl (σ' := [(3, .pointer (some ⟨0, 0, none⟩)), (6, .int .i64 x6_x01), (7, .int .i64 x7_x01), (10, .pointer (some ⟨2, 0, none⟩))]) (h' := [(2, .cells [.int .i64 xh0_0_x01, .int .i64 xh0_1_x01, .int .i64 r7] 0 23 0), (1, .cells (rowC (encI .i64) lh1_x01) 0 3 1), (0, .cells [.int .i64 xh0_0_x01, .int .i64 xh0_1_x01, .int .i64 r7] 0 23 0)]) (c' := 3) (by kernel_rfl) ?_
                refine XR.done (by kernel_rfl) ?_
                show XQ _ _ _ _ _ _ _ _
                refine XQ.seq E0_ok (by kernel_rfl) ?_
                refine XQ.region (by kernel_rfl) ?_
                refine XR.run E0_ok 1 5 [3, 6, 7, 10] rfl (σ' := [(3, .pointer (some ⟨0, 0, none⟩)), (6, .int .i64 x6_x01), (7, .int .i64 x7_x01), (10, .pointer (some ⟨2, 0, none⟩))]) (h' := [(2, .cells [.int .i64 xh0_0_x01, .int .i64 xh0_1_x01, .int .i64 (w64 (r7 + 1))] 0 23 0), (1, .cells (rowC (encI .i64) lh1_x01) 0 3 1), (0, .cells [.int .i64 xh0_0_x01, .int .i64 xh0_1_x01, .int .i64 r7] 0 23 0)]) (c' := 3) (by kernel_rfl) ?_
                refine XR.done (by kernel_rfl) ?_
                show XQ _ _ _ _ _ _ _ _
                refine XQ.seq E0_ok (by kernel_rfl) ?_
                refine XQ.region (by kernel_rfl) ?_
                refine XR.run E0_ok 1 5 [3, 7, 10, 95] rfl (σ' := [(3, .pointer (some ⟨0, 0, none⟩)), (7, .int .i64 x7_x01), (10, .pointer (some ⟨2, 0, none⟩)), (95, .bool (x6_x01 == xh0_0_x01))]) (h' := [(2, .cells [.int .i64 xh0_0_x01, .int .i64 xh0_1_x01, .int .i64 (w64 (r7 + 1))] 0 23 0), (1, .cells (rowC (encI .i64) lh1_x01) 0 3 1), (0, .cells [.int .i64 xh0_0_x01, .int .i64 xh0_1_x01, .int .i64 r7] 0 23 0)]) (c' := 3) (by kernel_rfl) ?_
                cases b17 : (x6_x01 == xh0_0_x01 : Bool) with
                | true =>
                  have h := cT b17 h
                  refine XR.run E0_ok 1 6 [3, 10, 101] rfl (σ' := [(3, .pointer (some ⟨0, 0, none⟩)), (10, .pointer (some ⟨2, 0, none⟩)), (101, .bool (x7_x01 == xh0_1_x01))]) (h' := [(2, .cells [.int .i64 xh0_0_x01, .int .i64 xh0_1_x01, .int .i64 (w64 (r7 + 1))] 0 23 0), (1, .cells (rowC (encI .i64) lh1_x01) 0 3 1), (0, .cells [.int .i64 xh0_0_x01, .int .i64 xh0_1_x01, .int .i64 r7] 0 23 0)]) (c' := 3) (by kernel_rfl) ?_
                  cases b18 : (x7_x01 == xh0_1_x01 : Bool) with
                  | true =>
                    have h := cT b18 h
                    refine XR.run E0_ok 1 1 [10, 101, 102] rfl (σ' := [(10, .pointer (some ⟨2, 0, none⟩)), (101, .bool true), (102, .agg #[.int .i64 xh0_0_x01, .int .i64 xh0_1_x01, .int .i64 r7])]) (h' := [(2, .cells [.int .i64 xh0_0_x01, .int .i64 xh0_1_x01, .int .i64 (w64 (r7 + 1))] 0 23 0), (1, .cells (rowC (encI .i64) lh1_x01) 0 3 1), (0, .cells [.int .i64 xh0_0_x01, .int .i64 xh0_1_x01, .int .i64 r7] 0 23 0)]) (c' := 3) (by kernel_rfl) ?_
                    obtain ⟨r8, r8_h, h⟩ := bS h
                    refine XR.call E0_ok [10, 101, 103] rfl (K := 20) (args := [.agg #[.int .i64 xh0_0_x01, .int .i64 xh0_1_x01, .int .i64 r7]]) (d := (some (path 12 103))) (by kernel_rfl) (KC.of_calls E0_ok (F := Proofs.Try.f20) (v := .int .i64 r8) (by kernel_rfl) rfl rfl (fun w hI => f20_ok m xh0_0_x01 xh0_1_x01 r7 r8 r8_h w hI)) ?_
                    rintro _ _ _ ⟨rfl, rfl, rfl⟩
                    refine XR.conv (σ' := [(10, .pointer (some ⟨2, 0, none⟩)), (101, .bool true), (103, .int .i64 r8)]) (h' := [(2, .cells [.int .i64 xh0_0_x01, .int .i64 xh0_1_x01, .int .i64 (w64 (r7 + 1))] 0 23 0), (1, .cells (rowC (encI .i64) lh1_x01) 0 3 1), (0, .cells [.int .i64 xh0_0_x01, .int .i64 xh0_1_x01, .int .i64 r7] 0 23 0)]) (c' := 3) ?_ (by kernel_rfl)
                    refine XR.run E0_ok 1 3 [10, 106] rfl (σ' := [(10, .pointer (some ⟨2, 0, none⟩)), (106, .bool (r8 == 0))]) (h' := [(2, .cells [.int .i64 xh0_0_x01, .int .i64 xh0_1_x01, .int .i64 (w64 (r7 + 1))] 0 23 0), (1, .cells (rowC (encI .i64) lh1_x01) 0 3 1), (0, .cells [.int .i64 xh0_0_x01, .int .i64 xh0_1_x01, .int .i64 r7] 0 23 0)]) (c' := 3) (by kernel_rfl) ?_
                    cases b19 : (r8 == 0 : Bool) with
                    | true =>
                      have h := cT b19 h
                      refine XR.run E0_ok 1 1 [106, 107] rfl (σ' := [(106, .bool true), (107, .agg #[.int .i64 xh0_0_x01, .int .i64 xh0_1_x01, .int .i64 (w64 (r7 + 1))])]) (h' := [(2, .cells [.int .i64 xh0_0_x01, .int .i64 xh0_1_x01, .int .i64 (w64 (r7 + 1))] 0 23 0), (1, .cells (rowC (encI .i64) lh1_x01) 0 3 1), (0, .cells [.int .i64 xh0_0_x01, .int .i64 xh0_1_x01, .int .i64 r7] 0 23 0)]) (c' := 3) (by kernel_rfl) ?_
                      obtain ⟨r9, r9_h, h⟩ := bS h
                      refine XR.call E0_ok [106, 108] rfl (K := 20) (args := [.agg #[.int .i64 xh0_0_x01, .int .i64 xh0_1_x01, .int .i64 (w64 (r7 + 1))]]) (d := (some (path 12 108))) (by kernel_rfl) (KC.of_calls E0_ok (F := Proofs.Try.f20) (v := .int .i64 r9) (by kernel_rfl) rfl rfl (fun w hI => f20_ok m xh0_0_x01 xh0_1_x01 (w64 (r7 + 1)) r9 r9_h w hI)) ?_
                      rintro _ _ _ ⟨rfl, rfl, rfl⟩
                      refine XR.conv (σ' := [(106, .bool true), (108, .int .i64 r9)]) (h' := [(2, .cells [.int .i64 xh0_0_x01, .int .i64 xh0_1_x01, .int .i64 (w64 (r7 + 1))] 0 23 0), (1, .cells (rowC (encI .i64) lh1_x01) 0 3 1), (0, .cells [.int .i64 xh0_0_x01, .int .i64 xh0_1_x01, .int .i64 r7] 0 23 0)]) (c' := 3) ?_ (by kernel_rfl)
                      refine XR.run E0_ok 1 3 [111] rfl (σ' := [(111, .bool (r9 == 3))]) (h' := [(2, .cells [.int .i64 xh0_0_x01, .int .i64 xh0_1_x01, .int .i64 (w64 (r7 + 1))] 0 23 0), (1, .cells (rowC (encI .i64) lh1_x01) 0 3 1), (0, .cells [.int .i64 xh0_0_x01, .int .i64 xh0_1_x01, .int .i64 r7] 0 23 0)]) (c' := 3) (by kernel_rfl) ?_
                      cases b20 : (r9 == 3 : Bool) with
                      | true =>
                        have h := cT b20 h
                        refine XR.call E0_ok [111, 112] rfl (K := 28) (args := []) (d := (some (path 12 112))) (by kernel_rfl) (KC.of_calls E0_ok (F := Proofs.Try.f28) (v := .bool true) (by kernel_rfl) rfl rfl (works_ok)) ?_
                        rintro _ _ _ ⟨rfl, rfl, rfl⟩
                        refine XR.conv (σ' := [(111, .bool true), (112, .bool true)]) (h' := [(2, .cells [.int .i64 xh0_0_x01, .int .i64 xh0_1_x01, .int .i64 (w64 (r7 + 1))] 0 23 0), (1, .cells (rowC (encI .i64) lh1_x01) 0 3 1), (0, .cells [.int .i64 xh0_0_x01, .int .i64 xh0_1_x01, .int .i64 r7] 0 23 0)]) (c' := 3) ?_ (by kernel_rfl)
                        refine XR.run E0_ok 1 2 [2] rfl (σ' := [(2, .bool true)]) (h' := [(2, .cells [.int .i64 xh0_0_x01, .int .i64 xh0_1_x01, .int .i64 (w64 (r7 + 1))] 0 23 0), (1, .cells (rowC (encI .i64) lh1_x01) 0 3 1), (0, .cells [.int .i64 xh0_0_x01, .int .i64 xh0_1_x01, .int .i64 r7] 0 23 0)]) (c' := 3) (by kernel_rfl) ?_
                        refine XR.done (by kernel_rfl) ?_
                        show XQ _ _ _ _ _ _ _ _
                        refine XQ.ret (by kernel_rfl) ?_
                        have h := Option.some.inj h
                        subst h
                        exact ⟨fun i q => (by cases q), .bool true, (by kernel_rfl), rfl⟩
                      | false =>
                        have h := cF b20 h
                        refine XR.run E0_ok 1 3 [2] rfl (σ' := [(2, .bool false)]) (h' := [(2, .cells [.int .i64 xh0_0_x01, .int .i64 xh0_1_x01, .int .i64 (w64 (r7 + 1))] 0 23 0), (1, .cells (rowC (encI .i64) lh1_x01) 0 3 1), (0, .cells [.int .i64 xh0_0_x01, .int .i64 xh0_1_x01, .int .i64 r7] 0 23 0)]) (c' := 3) (by kernel_rfl) ?_
                        refine XR.done (by kernel_rfl) ?_
                        show XQ _ _ _ _ _ _ _ _
                        refine XQ.ret (by kernel_rfl) ?_
                        have h := Option.some.inj h
                        subst h
                        exact ⟨fun i q => (by cases q), .bool false, (by kernel_rfl), rfl⟩
                    | false =>
                      have h := cF b19 h
                      refine XR.run E0_ok 1 8 [2] rfl (σ' := [(2, .bool false)]) (h' := [(2, .cells [.int .i64 xh0_0_x01, .int .i64 xh0_1_x01, .int .i64 (w64 (r7 + 1))] 0 23 0), (1, .cells (rowC (encI .i64) lh1_x01) 0 3 1), (0, .cells [.int .i64 xh0_0_x01, .int .i64 xh0_1_x01, .int .i64 r7] 0 23 0)]) (c' := 3) (by kernel_rfl) ?_
                      refine XR.done (by kernel_rfl) ?_
                      show XQ _ _ _ _ _ _ _ _
                      refine XQ.ret (by kernel_rfl) ?_
                      have h := Option.some.inj h
                      subst h
                      exact ⟨fun i q => (by cases q), .bool false, (by kernel_rfl), rfl⟩
                  | false =>
                    have h := cF b18 h
                    refine XR.run E0_ok 1 13 [2] rfl (σ' := [(2, .bool false)]) (h' := [(2, .cells [.int .i64 xh0_0_x01, .int .i64 xh0_1_x01, .int .i64 (w64 (r7 + 1))] 0 23 0), (1, .cells (rowC (encI .i64) lh1_x01) 0 3 1), (0, .cells [.int .i64 xh0_0_x01, .int .i64 xh0_1_x01, .int .i64 r7] 0 23 0)]) (c' := 3) (by kernel_rfl) ?_
                    refine XR.done (by kernel_rfl) ?_
                    show XQ _ _ _ _ _ _ _ _
                    refine XQ.ret (by kernel_rfl) ?_
                    have h := Option.some.inj h
                    subst h
                    exact ⟨fun i q => (by cases q), .bool false, (by kernel_rfl), rfl⟩
                | false =>
                  have h := cF b17 h
                  refine XR.run E0_ok 1 19 [2] rfl (σ' := [(2, .bool false)]) (h' := [(2, .cells [.int .i64 xh0_0_x01, .int .i64 xh0_1_x01, .int .i64 (w64 (r7 + 1))] 0 23 0), (1, .cells (rowC (encI .i64) lh1_x01) 0 3 1), (0, .cells [.int .i64 xh0_0_x01, .int .i64 xh0_1_x01, .int .i64 r7] 0 23 0)]) (c' := 3) (by kernel_rfl) ?_
                  refine XR.done (by kernel_rfl) ?_
                  show XQ _ _ _ _ _ _ _ _
                  refine XQ.ret (by kernel_rfl) ?_
                  have h := Option.some.inj h
                  subst h
                  exact ⟨fun i q => (by cases q), .bool false, (by kernel_rfl), rfl⟩

end Go.Xm
