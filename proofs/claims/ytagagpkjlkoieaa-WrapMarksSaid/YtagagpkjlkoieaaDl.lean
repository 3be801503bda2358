/- What these functions of the program compute, as functions in Lean, and the proofs that they do: vitolalaw05.WrapMarks. Conditions: none. -/
import Derived.Test.YtagagpkjlkoieaaDk
namespace Go.Xm
open Go.RowKit
set_option linter.unusedVariables false
set_option linter.unusedSimpArgs false
set_option maxRecDepth 20000

/-! vitola/vitolalaw05.WrapMarks -/
noncomputable def f13_C13 : Code := Proofs.Try.f13.body.getD .skip
noncomputable def f13_C45 : Code := Proofs.Try.f45.body.getD .skip
noncomputable def f13_L1 : Code := lft (lft (rgt (lft (rgt (rgt (rgt (rgt (rgt f13_C13))))))))

inductive Of13_1 where
  | r
  | x0 (xh0_0_x01 : Int) (xh0_1_x01 : Int) (xh0_2_x01 : Int) (lh1_x01 : List Int)

def f13_1 (m : Nat) : Nat → Int → Int → Int → Int → Int → Int → List Int → List Int → Option Of13_1
  | 0, _, _, _, _, _, _, _, _ => none
  | fuel + 1, b, x38_1, x39_1, xh0_0_1, xh0_1_1, xh0_2_1, lh1_1, lh2_1 =>
    cond (decide (x39_1 < x38_1)) (
      cond (inRow x39_1 lh2_1.length) (
        cond (decide ((List.getD lh2_1 (Int.toNat x39_1) 0) < 0)) (
          some (.r)
        ) (
          cond (decide ((List.getD lh2_1 (Int.toNat x39_1) 0) ≥ ((lh1_1.length : Nat) : Int))) (
            some (.r)
          ) (
            cond (decide (x39_1 > 0)) (
              cond (inRow (List.getD lh2_1 (Int.toNat x39_1) 0) lh1_1.length) (
                cond (inRow (w64 (x39_1 - 1)) lh2_1.length) (
                  cond (inRow (List.getD lh2_1 (Int.toNat (w64 (x39_1 - 1))) 0) lh1_1.length) (
                    cond (decide ((List.getD lh1_1 (Int.toNat (List.getD lh2_1 (Int.toNat x39_1) 0)) 0) ≤ (List.getD lh1_1 (Int.toNat (List.getD lh2_1 (Int.toNat (w64 (x39_1 - 1))) 0)) 0))) (
                      some (.r)
                    ) (
                      (f16 m xh0_0_1 xh0_1_1 xh0_2_1 (List.getD lh2_1 (Int.toNat x39_1) 0)).bind fun r7 =>
                        cond (r7.2 != 0) (
                          some (.r)
                        ) (
                          cond (r7.1 != (List.getD lh1_1 (Int.toNat (List.getD lh2_1 (Int.toNat x39_1) 0)) 0)) (
                            some (.r)
                          ) (
                            f13_1 m fuel b x38_1 (w64 (x39_1 + 1)) xh0_0_1 xh0_1_1 xh0_2_1 lh1_1 lh2_1
                          )
                        )
                    )
                  ) none
                ) none
              ) none
            ) (
              (f16 m xh0_0_1 xh0_1_1 xh0_2_1 (List.getD lh2_1 (Int.toNat x39_1) 0)).bind fun r8 =>
                cond (r8.2 != 0) (
                  some (.r)
                ) (
                  cond (inRow (List.getD lh2_1 (Int.toNat x39_1) 0) lh1_1.length) (
                    cond (r8.1 != (List.getD lh1_1 (Int.toNat (List.getD lh2_1 (Int.toNat x39_1) 0)) 0)) (
                      some (.r)
                    ) (
                      f13_1 m fuel b x38_1 (w64 (x39_1 + 1)) xh0_0_1 xh0_1_1 xh0_2_1 lh1_1 lh2_1
                    )
                  ) none
                )
            )
          )
        )
      ) none
    ) (
      some (.x0 xh0_0_1 xh0_1_1 xh0_2_1 lh1_1)
    )

theorem f13_1_ok (m : Nat) : ∀ (fuel : Nat) (b : Int) (x38_1 : Int) (x39_1 : Int) (xh0_0_1 : Int) (xh0_1_1 : Int) (xh0_2_1 : Int) (lh1_1 : List Int) (lh2_1 : List Int) (o : Of13_1), f13_1 m fuel b x38_1 x39_1 xh0_0_1 xh0_1_1 xh0_2_1 lh1_1 lh2_1 = some o → ∀ Q : QP, (match o with | .r => Q .ret [(4, .bool false)] [] 0 | .x0 xh0_0_x01 xh0_1_x01 xh0_2_x01 lh1_x01 => Q (.exit 0) [(1, .int .u8 b), (5, .pointer (some ⟨0, 0, none⟩)), (6, .slice (some ⟨1, 0, none⟩) lh1_x01.length lh1_x01.length)] [(1, .cells (rowC (encI .i64) lh1_x01) 0 3 1), (0, .cells [.int .i64 xh0_0_x01, .int .i64 xh0_1_x01, .int .i64 xh0_2_x01] 0 23 0)] 2) → XL E0 134 0 fuel f13_L1 [(1, .int .u8 b), (5, .pointer (some ⟨0, 0, none⟩)), (6, .slice (some ⟨1, 0, none⟩) lh1_1.length lh1_1.length), (7, .slice (some ⟨2, 0, none⟩) lh2_1.length lh2_1.length), (37, .slice (some ⟨2, 0, none⟩) lh2_1.length lh2_1.length), (38, .int .i64 x38_1), (39, .int .i64 x39_1)] [(2, .cells (rowC (encI .i64) lh2_1) 0 3 1), (1, .cells (rowC (encI .i64) lh1_1) 0 3 1), (0, .cells [.int .i64 xh0_0_1, .int .i64 xh0_1_1, .int .i64 xh0_2_1] 0 23 0)] 3 Q
  | 0, b, x38_1, x39_1, xh0_0_1, xh0_1_1, xh0_2_1, lh1_1, lh2_1, o, h, Q, hQ => by cases h
  | fuel + 1, b, x38_1, x39_1, xh0_0_1, xh0_1_1, xh0_2_1, lh1_1, lh2_1, o, h, Q, hQ => by
    unfold f13_1 at h
    refine XL.succ E0_ok ?_
    refine XQ.seq E0_ok (by kernel_rfl) ?_
    refine XQ.region (by kernel_rfl) ?_
    refine XR.run E0_ok 1 1 [1, 5, 6, 7, 37, 38, 39, 40] rfl (σ' := [(1, .int .u8 b), (5, .pointer (some ⟨0, 0, none⟩)), (6, .slice (some ⟨1, 0, none⟩) lh1_1.length lh1_1.length), (7, .slice (some ⟨2, 0, none⟩) lh2_1.length lh2_1.length), (37, .slice (some ⟨2, 0, none⟩) lh2_1.length lh2_1.length), (38, .int .i64 x38_1), (39, .int .i64 x39_1), (40, .bool (decide (x39_1 < x38_1)))]) (h' := [(2, .cells (rowC (encI .i64) lh2_1) 0 3 1), (1, .cells (rowC (encI .i64) lh1_1) 0 3 1), (0, .cells [.int .i64 xh0_0_1, .int .i64 xh0_1_1, .int .i64 xh0_2_1] 0 23 0)]) (c' := 3) (by kernel_rfl) ?_
    refine XR.done (by kernel_rfl) ?_
    show XQ _ _ _ _ _ _ _ _
    refine XQ.seq E0_ok (by kernel_rfl) ?_
    cases b1 : (decide (x39_1 < x38_1) : Bool) with
    | true =>
      have h := cT b1 h
      refine XQ.cond (s := (.tmp 40)) (b := true) (by kernel_rfl) (by kernel_rfl) (fun _ => ?_) (fun q => by cases q)
      refine XQ.skip (by kernel_rfl) ?_
      show XQ _ _ _ _ _ _ _ _
      refine XQ.seq E0_ok (by kernel_rfl) ?_
      refine XQ.block (id := 1) (by kernel_rfl) ?_
      refine XQ.seq E0_ok (by kernel_rfl) ?_
      refine XQ.region (by kernel_rfl) ?_
      refine XR.run E0_ok 1 1 [1, 5, 6, 7, 37, 38, 39, 41] rfl (σ' := [(1, .int .u8 b), (5, .pointer (some ⟨0, 0, none⟩)), (6, .slice (some ⟨1, 0, none⟩) lh1_1.length lh1_1.length), (7, .slice (some ⟨2, 0, none⟩) lh2_1.length lh2_1.length), (37, .slice (some ⟨2, 0, none⟩) lh2_1.length lh2_1.length), (38, .int .i64 x38_1), (39, .int .i64 x39_1), (41, .int .i64 x39_1)]) (h' := [(2, .cells (rowC (encI .i64) lh2_1) 0 3 1), (1, .cells (rowC (encI .i64) lh1_1) 0 3 1), (0, .cells [.int .i64 xh0_0_1, .int .i64 xh0_1_1, .int .i64 xh0_2_1] 0 23 0)]) (c' := 3) (by kernel_rfl) ?_
      cases b2 : (inRow x39_1 lh2_1.length : Bool) with
      | false => cases (cF b2 h)
      | true =>
        have h := cT b2 h
        refine XR.rd E0_ok [1, 5, 6, 7, 37, 38, 39, 41, 42] rfl (v := .pointer (some ⟨2, (Int.toNat x39_1) * 1, none⟩)) (v_idx (s := 1) (x := (src 134 (.tmp 37))) (y := (src 134 (.tmp 39))) (b := 2) (o := 0) (len := lh2_1.length) (cap := lh2_1.length) (ik := .i64) (i := x39_1) (off := (Int.toNat x39_1) * 1) (d := (some (path 12 42))) (by kernel_rfl) (by kernel_rfl) (by kernel_rfl) b2 (by omega)) (σ' := [(1, .int .u8 b), (5, .pointer (some ⟨0, 0, none⟩)), (6, .slice (some ⟨1, 0, none⟩) lh1_1.length lh1_1.length), (7, .slice (some ⟨2, 0, none⟩) lh2_1.length lh2_1.length), (37, .slice (some ⟨2, 0, none⟩) lh2_1.length lh2_1.length), (38, .int .i64 x38_1), (39, .int .i64 x39_1), (41, .int .i64 x39_1), (42, .pointer (some ⟨2, (Int.toNat x39_1) * 1, none⟩))]) (by kernel_rfl) ?_
        refine XR.rd E0_ok [1, 5, 6, 7, 37, 38, 39, 41, 43] rfl (v := .int .i64 (List.getD lh2_1 (Int.toNat x39_1) 0)) (v_load1 (encI_ok .i64) (x := (src 134 (.tmp 42))) (b := 2) (off := (Int.toNat x39_1) * 1) (xs := lh2_1) (fz := 0) (e := 3) (es := 1) (d := (some (path 12 43))) (by kernel_rfl) (by kernel_rfl) (by kernel_rfl) (Int.toNat x39_1) 0 0 (by first | rfl | omega) (row_len (inRow_toNat b2) (by simp)) rfl rfl) (σ' := [(1, .int .u8 b), (5, .pointer (some ⟨0, 0, none⟩)), (6, .slice (some ⟨1, 0, none⟩) lh1_1.length lh1_1.length), (7, .slice (some ⟨2, 0, none⟩) lh2_1.length lh2_1.length), (37, .slice (some ⟨2, 0, none⟩) lh2_1.length lh2_1.length), (38, .int .i64 x38_1), (39, .int .i64 x39_1), (41, .int .i64 x39_1), (43, .int .i64 (List.getD lh2_1 (Int.toNat x39_1) 0))]) (by kernel_rfl) ?_
        refine XR.run E0_ok 1 2 [1, 5, 6, 7, 9, 10, 37, 38, 39] rfl (σ' := [(1, .int .u8 b), (5, .pointer (some ⟨0, 0, none⟩)), (6, .slice (some ⟨1, 0, none⟩) lh1_1.length lh1_1.length), (7, .slice (some ⟨2, 0, none⟩) lh2_1.length lh2_1.length), (9, .int .i64 x39_1), (10, .int .i64 (List.getD lh2_1 (Int.toNat x39_1) 0)), (37, .slice (some ⟨2, 0, none⟩) lh2_1.length lh2_1.length), (38, .int .i64 x38_1), (39, .int .i64 x39_1)]) (h' := [(2, .cells (rowC (encI .i64) lh2_1) 0 3 1), (1, .cells (rowC (encI .i64) lh1_1) 0 3 1), (0, .cells [.int .i64 xh0_0_1, .int .i64 xh0_1_1, .int .i64 xh0_2_1] 0 23 0)]) (c' := 3) (by kernel_rfl) ?_
        refine XR.done (by kernel_rfl) ?_
        show XQ _ _ _ _ _ _ _ _
        refine XQ.seq E0_ok (by kernel_rfl) ?_
        refine XQ.seq E0_ok (by kernel_rfl) ?_
        refine XQ.quiet E0_ok (by kernel_rfl) (by kernel_rfl) ?_
        refine XU.run E0_ok 1 3 [1, 5, 6, 7, 9, 10, 37, 38, 39, 46] rfl (σ' := [(1, .int .u8 b), (5, .pointer (some ⟨0, 0, none⟩)), (6, .slice (some ⟨1, 0, none⟩) lh1_1.length lh1_1.length), (7, .slice (some ⟨2, 0, none⟩) lh2_1.length lh2_1.length), (9, .int .i64 x39_1), (10, .int .i64 (List.getD lh2_1 (Int.toNat x39_1) 0)), (37, .slice (some ⟨2, 0, none⟩) lh2_1.length lh2_1.length), (38, .int .i64 x38_1), (39, .int .i64 x39_1), (46, .bool (decide ((List.getD lh2_1 (Int.toNat x39_1) 0) < 0)))]) (by kernel_rfl) ?_
        cases b3 : (decide ((List.getD lh2_1 (Int.toNat x39_1) 0) < 0) : Bool) with
        | true =>
          have h := cT b3 h
          refine XU.run E0_ok 1 24 [1, 5, 6, 7, 10, 37, 38, 39, 70] rfl (σ' := [(1, .int .u8 b), (5, .pointer (some ⟨0, 0, none⟩)), (6, .slice (some ⟨1, 0, none⟩) lh1_1.length lh1_1.length), (7, .slice (some ⟨2, 0, none⟩) lh2_1.length lh2_1.length), (10, .int .i64 (List.getD lh2_1 (Int.toNat x39_1) 0)), (37, .slice (some ⟨2, 0, none⟩) lh2_1.length lh2_1.length), (38, .int .i64 x38_1), (39, .int .i64 x39_1), (70, .bool true)]) (by kernel_rfl) ?_
          refine XU.done (by kernel_rfl) ?_
          show XQ _ _ _ _ _ _ _ _
          refine XQ.cond (s := (.tmp 70)) (b := true) (by kernel_rfl) (by kernel_rfl) (fun _ => ?_) (fun q => by cases q)
          refine XQ.seq E0_ok (by kernel_rfl) ?_
          refine XQ.region (by kernel_rfl) ?_
          refine XR.run E0_ok 1 1 [4] rfl (σ' := [(4, .bool false)]) (h' := [(2, .cells (rowC (encI .i64) lh2_1) 0 3 1), (1, .cells (rowC (encI .i64) lh1_1) 0 3 1), (0, .cells [.int .i64 xh0_0_1, .int .i64 xh0_1_1, .int .i64 xh0_2_1] 0 23 0)]) (c' := 3) (by kernel_rfl) ?_
          refine XR.done (by kernel_rfl) ?_
          show XQ _ _ _ _ _ _ _ _
          refine XQ.ren (σ' := [(4, .bool false)]) (h' := []) (c' := 0) [] (by decide) rfl ⟨by kernel_rfl, trivial⟩ trivial rfl ?_
          refine XQ.ret (by kernel_rfl) ?_
          cases h
          exact hQ
        | false =>
          have h := cF b3 h
          refine XU.run E0_ok 1 6 [1, 5, 6, 7, 9, 10, 37, 38, 39, 52] rfl (σ' := [(1, .int .u8 b), (5, .pointer (some ⟨0, 0, none⟩)), (6, .slice (some ⟨1, 0, none⟩) lh1_1.length lh1_1.length), (7, .slice (some ⟨2, 0, none⟩) lh2_1.length lh2_1.length), (9, .int .i64 x39_1), (10, .int .i64 (List.getD lh2_1 (Int.toNat x39_1) 0)), (37, .slice (some ⟨2, 0, none⟩) lh2_1.length lh2_1.length), (38, .int .i64 x38_1), (39, .int .i64 x39_1), (52, .bool (decide ((List.getD lh2_1 (Int.toNat x39_1) 0) ≥ ((lh1_1.length : Nat) : Int))))]) (by kernel_rfl) ?_
          cases b4 : (decide ((List.getD lh2_1 (Int.toNat x39_1) 0) ≥ ((lh1_1.length : Nat) : Int)) : Bool) with
          | true =>
            have h := cT b4 h
            refine XU.run E0_ok 1 18 [1, 5, 6, 7, 10, 37, 38, 39, 70] rfl (σ' := [(1, .int .u8 b), (5, .pointer (some ⟨0, 0, none⟩)), (6, .slice (some ⟨1, 0, none⟩) lh1_1.length lh1_1.length), (7, .slice (some ⟨2, 0, none⟩) lh2_1.length lh2_1.length), (10, .int .i64 (List.getD lh2_1 (Int.toNat x39_1) 0)), (37, .slice (some ⟨2, 0, none⟩) lh2_1.length lh2_1.length), (38, .int .i64 x38_1), (39, .int .i64 x39_1), (70, .bool true)]) (by kernel_rfl) ?_
            refine XU.done (by kernel_rfl) ?_
            show XQ _ _ _ _ _ _ _ _
            refine XQ.cond (s := (.tmp 70)) (b := true) (by kernel_rfl) (by kernel_rfl) (fun _ => ?_) (fun q => by cases q)
            refine XQ.seq E0_ok (by kernel_rfl) ?_
            refine XQ.region (by kernel_rfl) ?_
            refine XR.run E0_ok 1 1 [4] rfl (σ' := [(4, .bool false)]) (h' := [(2, .cells (rowC (encI .i64) lh2_1) 0 3 1), (1, .cells (rowC (encI .i64) lh1_1) 0 3 1), (0, .cells [.int .i64 xh0_0_1, .int .i64 xh0_1_1, .int .i64 xh0_2_1] 0 23 0)]) (c' := 3) (by kernel_rfl) ?_
            refine XR.done (by kernel_rfl) ?_
            show XQ _ _ _ _ _ _ _ _
            refine XQ.ren (σ' := [(4, .bool false)]) (h' := []) (c' := 0) [] (by decide) rfl ⟨by kernel_rfl, trivial⟩ trivial rfl ?_
            refine XQ.ret (by kernel_rfl) ?_
            cases h
            exact hQ
          | false =>
            have h := cF b4 h
            refine XU.run E0_ok 1 3 [1, 5, 6, 7, 9, 10, 37, 38, 39, 52, 55] rfl (σ' := [(1, .int .u8 b), (5, .pointer (some ⟨0, 0, none⟩)), (6, .slice (some ⟨1, 0, none⟩) lh1_1.length lh1_1.length), (7, .slice (some ⟨2, 0, none⟩) lh2_1.length lh2_1.length), (9, .int .i64 x39_1), (10, .int .i64 (List.getD lh2_1 (Int.toNat x39_1) 0)), (37, .slice (some ⟨2, 0, none⟩) lh2_1.length lh2_1.length), (38, .int .i64 x38_1), (39, .int .i64 x39_1), (52, .bool false), (55, .bool (decide (x39_1 > 0)))]) (by kernel_rfl) ?_
            cases b5 : (decide (x39_1 > 0) : Bool) with
            | true =>
              have h := cT b5 h
              refine XU.run E0_ok 1 2 [1, 5, 6, 7, 9, 10, 37, 38, 39, 52, 55, 56, 57] rfl (σ' := [(1, .int .u8 b), (5, .pointer (some ⟨0, 0, none⟩)), (6, .slice (some ⟨1, 0, none⟩) lh1_1.length lh1_1.length), (7, .slice (some ⟨2, 0, none⟩) lh2_1.length lh2_1.length), (9, .int .i64 x39_1), (10, .int .i64 (List.getD lh2_1 (Int.toNat x39_1) 0)), (37, .slice (some ⟨2, 0, none⟩) lh2_1.length lh2_1.length), (38, .int .i64 x38_1), (39, .int .i64 x39_1), (52, .bool false), (55, .bool true), (56, .slice (some ⟨1, 0, none⟩) lh1_1.length lh1_1.length), (57, .int .i64 (List.getD lh2_1 (Int.toNat x39_1) 0))]) (by kernel_rfl) ?_
              cases b6 : (inRow (List.getD lh2_1 (Int.toNat x39_1) 0) lh1_1.length : Bool) with
              | false => cases (cF b6 h)
              | true =>
                have h := cT b6 h
                refine XU.rd E0_ok [1, 5, 6, 7, 9, 10, 37, 38, 39, 52, 55, 58] rfl (v := .pointer (some ⟨1, (Int.toNat (List.getD lh2_1 (Int.toNat x39_1) 0)) * 1, none⟩)) (v_idx (s := 1) (x := (src 134 (.tmp 56))) (y := (src 134 (.tmp 57))) (b := 1) (o := 0) (len := lh1_1.length) (cap := lh1_1.length) (ik := .i64) (i := List.getD lh2_1 (Int.toNat x39_1) 0) (off := (Int.toNat (List.getD lh2_1 (Int.toNat x39_1) 0)) * 1) (d := (some (path 12 58))) (by kernel_rfl) (by kernel_rfl) (by kernel_rfl) b6 (by omega)) (σ' := [(1, .int .u8 b), (5, .pointer (some ⟨0, 0, none⟩)), (6, .slice (some ⟨1, 0, none⟩) lh1_1.length lh1_1.length), (7, .slice (some ⟨2, 0, none⟩) lh2_1.length lh2_1.length), (9, .int .i64 x39_1), (10, .int .i64 (List.getD lh2_1 (Int.toNat x39_1) 0)), (37, .slice (some ⟨2, 0, none⟩) lh2_1.length lh2_1.length), (38, .int .i64 x38_1), (39, .int .i64 x39_1), (52, .bool false), (55, .bool true), (58, .pointer (some ⟨1, (Int.toNat (List.getD lh2_1 (Int.toNat x39_1) 0)) * 1, none⟩))]) (by kernel_rfl) ?_
                refine XU.rd E0_ok [1, 5, 6, 7, 9, 10, 37, 38, 39, 52, 55, 59] rfl (v := .int .i64 (List.getD lh1_1 (Int.toNat (List.getD lh2_1 (Int.toNat x39_1) 0)) 0)) (v_load1 (encI_ok .i64) (x := (src 134 (.tmp 58))) (b := 1) (off := (Int.toNat (List.getD lh2_1 (Int.toNat x39_1) 0)) * 1) (xs := lh1_1) (fz := 0) (e := 3) (es := 1) (d := (some (path 12 59))) (by kernel_rfl) (by kernel_rfl) (by kernel_rfl) (Int.toNat (List.getD lh2_1 (Int.toNat x39_1) 0)) 0 0 (by first | rfl | omega) (row_len (inRow_toNat b6) (by simp)) rfl rfl) (σ' := [(1, .int .u8 b), (5, .pointer (some ⟨0, 0, none⟩)), (6, .slice (some ⟨1, 0, none⟩) lh1_1.length lh1_1.length), (7, .slice (some ⟨2, 0, none⟩) lh2_1.length lh2_1.length), (9, .int .i64 x39_1), (10, .int .i64 (List.getD lh2_1 (Int.toNat x39_1) 0)), (37, .slice (some ⟨2, 0, none⟩) lh2_1.length lh2_1.length), (38, .int .i64 x38_1), (39, .int .i64 x39_1), (52, .bool false), (55, .bool true), (59, .int .i64 (List.getD lh1_1 (Int.toNat (List.getD lh2_1 (Int.toNat x39_1) 0)) 0))]) (by kernel_rfl) ?_
                refine XU.run E0_ok 1 4 [1, 5, 6, 7, 10, 37, 38, 39, 52, 55, 59, 60, 61, 63] rfl (σ' := [(1, .int .u8 b), (5, .pointer (some ⟨0, 0, none⟩)), (6, .slice (some ⟨1, 0, none⟩) lh1_1.length lh1_1.length), (7, .slice (some ⟨2, 0, none⟩) lh2_1.length lh2_1.length), (10, .int .i64 (List.getD lh2_1 (Int.toNat x39_1) 0)), (37, .slice (some ⟨2, 0, none⟩) lh2_1.length lh2_1.length), (38, .int .i64 x38_1), (39, .int .i64 x39_1), (52, .bool false), (55, .bool true), (59, .int .i64 (List.getD lh1_1 (Int.toNat (List.getD lh2_1 (Int.toNat x39_1) 0)) 0)), (60, .slice (some ⟨1, 0, none⟩) lh1_1.length lh1_1.length), (61, .slice (some ⟨2, 0, none⟩) lh2_1.length lh2_1.length), (63, .int .i64 (w64 (x39_1 - 1)))]) (by kernel_rfl) ?_
                cases b7 : (inRow (w64 (x39_1 - 1)) lh2_1.length : Bool) with
                | false => cases (cF b7 h)
                | true =>
                  have h := cT b7 h
                  refine XU.rd E0_ok [1, 5, 6, 7, 10, 37, 38, 39, 52, 55, 59, 60, 64] rfl (v := .pointer (some ⟨2, (Int.toNat (w64 (x39_1 - 1))) * 1, none⟩)) (v_idx (s := 1) (x := (src 134 (.tmp 61))) (y := (src 134 (.tmp 63))) (b := 2) (o := 0) (len := lh2_1.length) (cap := lh2_1.length) (ik := .i64) (i := w64 (x39_1 - 1)) (off := (Int.toNat (w64 (x39_1 - 1))) * 1) (d := (some (path 12 64))) (by kernel_rfl) (by kernel_rfl) (by kernel_rfl) b7 (by omega)) (σ' := [(1, .int .u8 b), (5, .pointer (some ⟨0, 0, none⟩)), (6, .slice (some ⟨1, 0, none⟩) lh1_1.length lh1_1.length), (7, .slice (some ⟨2, 0, none⟩) lh2_1.length lh2_1.length), (10, .int .i64 (List.getD lh2_1 (Int.toNat x39_1) 0)), (37, .slice (some ⟨2, 0, none⟩) lh2_1.length lh2_1.length), (38, .int .i64 x38_1), (39, .int .i64 x39_1), (52, .bool false), (55, .bool true), (59, .int .i64 (List.getD lh1_1 (Int.toNat (List.getD lh2_1 (Int.toNat x39_1) 0)) 0)), (60, .slice (some ⟨1, 0, none⟩) lh1_1.length lh1_1.length), (64, .pointer (some ⟨2, (Int.toNat (w64 (x39_1 - 1))) * 1, none⟩))]) (by kernel_rfl) ?_
                  refine XU.rd E0_ok [1, 5, 6, 7, 10, 37, 38, 39, 52, 55, 59, 60, 65] rfl (v := .int .i64 (List.getD lh2_1 (Int.toNat (w64 (x39_1 - 1))) 0)) (v_load1 (encI_ok .i64) (x := (src 134 (.tmp 64))) (b := 2) (off := (Int.toNat (w64 (x39_1 - 1))) * 1) (xs := lh2_1) (fz := 0) (e := 3) (es := 1) (d := (some (path 12 65))) (by kernel_rfl) (by kernel_rfl) (by kernel_rfl) (Int.toNat (w64 (x39_1 - 1))) 0 0 (by first | rfl | omega) (row_len (inRow_toNat b7) (by simp)) rfl rfl) (σ' := [(1, .int .u8 b), (5, .pointer (some ⟨0, 0, none⟩)), (6, .slice (some ⟨1, 0, none⟩) lh1_1.length lh1_1.length), (7, .slice (some ⟨2, 0, none⟩) lh2_1.length lh2_1.length), (10, .int .i64 (List.getD lh2_1 (Int.toNat x39_1) 0)), (37, .slice (some ⟨2, 0, none⟩) lh2_1.length lh2_1.length), (38, .int .i64 x38_1), (39, .int .i64 x39_1), (52, .bool false), (55, .bool true), (59, .int .i64 (List.getD lh1_1 (Int.toNat (List.getD lh2_1 (Int.toNat x39_1) 0)) 0)), (60, .slice (some ⟨1, 0, none⟩) lh1_1.length lh1_1.length), (65, .int .i64 (List.getD lh2_1 (Int.toNat (w64 (x39_1 - 1))) 0))]) (by kernel_rfl) ?_
                  cases b8 : (inRow (List.getD lh2_1 (Int.toNat (w64 (x39_1 - 1))) 0) lh1_1.length : Bool) with
                  | false => cases (cF b8 h)
                  | true =>
                    have h := cT b8 h
                    refine XU.rd E0_ok [1, 5, 6, 7, 10, 37, 38, 39, 52, 55, 59, 66] rfl (v := .pointer (some ⟨1, (Int.toNat (List.getD lh2_1 (Int.toNat (w64 (x39_1 - 1))) 0)) * 1, none⟩)) (v_idx (s := 1) (x := (src 134 (.tmp 60))) (y := (src 134 (.tmp 65))) (b := 1) (o := 0) (len := lh1_1.length) (cap := lh1_1.length) (ik := .i64) (i := List.getD lh2_1 (Int.toNat (w64 (x39_1 - 1))) 0) (off := (Int.toNat (List.getD lh2_1 (Int.toNat (w64 (x39_1 - 1))) 0)) * 1) (d := (some (path 12 66))) (by kernel_rfl) (by kernel_rfl) (by kernel_rfl) b8 (by omega)) (σ' := [(1, .int .u8 b), (5, .pointer (some ⟨0, 0, none⟩)), (6, .slice (some ⟨1, 0, none⟩) lh1_1.length lh1_1.length), (7, .slice (some ⟨2, 0, none⟩) lh2_1.length lh2_1.length), (10, .int .i64 (List.getD lh2_1 (Int.toNat x39_1) 0)), (37, .slice (some ⟨2, 0, none⟩) lh2_1.length lh2_1.length), (38, .int .i64 x38_1), (39, .int .i64 x39_1), (52, .bool false), (55, .bool true), (59, .int .i64 (List.getD lh1_1 (Int.toNat (List.getD lh2_1 (Int.toNat x39_1) 0)) 0)), (66, .pointer (some ⟨1, (Int.toNat (List.getD lh2_1 (Int.toNat (w64 (x39_1 - 1))) 0)) * 1, none⟩))]) (by kernel_rfl) ?_
                    refine XU.rd E0_ok [1, 5, 6, 7, 10, 37, 38, 39, 52, 55, 59, 67] rfl (v := .int .i64 (List.getD lh1_1 (Int.toNat (List.getD lh2_1 (Int.toNat (w64 (x39_1 - 1))) 0)) 0)) (v_load1 (encI_ok .i64) (x := (src 134 (.tmp 66))) (b := 1) (off := (Int.toNat (List.getD lh2_1 (Int.toNat (w64 (x39_1 - 1))) 0)) * 1) (xs := lh1_1) (fz := 0) (e := 3) (es := 1) (d := (some (path 12 67))) (by kernel_rfl) (by kernel_rfl) (by kernel_rfl) (Int.toNat (List.getD lh2_1 (Int.toNat (w64 (x39_1 - 1))) 0)) 0 0 (by first | rfl | omega) (row_len (inRow_toNat b8) (by simp)) rfl rfl) (σ' := [(1, .int .u8 b), (5, .pointer (some ⟨0, 0, none⟩)), (6, .slice (some ⟨1, 0, none⟩) lh1_1.length lh1_1.length), (7, .slice (some ⟨2, 0, none⟩) lh2_1.length lh2_1.length), (10, .int .i64 (List.getD lh2_1 (Int.toNat x39_1) 0)), (37, .slice (some ⟨2, 0, none⟩) lh2_1.length lh2_1.length), (38, .int .i64 x38_1), (39, .int .i64 x39_1), (52, .bool false), (55, .bool true), (59, .int .i64 (List.getD lh1_1 (Int.toNat (List.getD lh2_1 (Int.toNat x39_1) 0)) 0)), (67, .int .i64 (List.getD lh1_1 (Int.toNat (List.getD lh2_1 (Int.toNat (w64 (x39_1 - 1))) 0)) 0))]) (by kernel_rfl) ?_
                    refine XU.run E0_ok 1 3 [1, 5, 6, 7, 10, 37, 38, 39, 70] rfl (σ' := [(1, .int .u8 b), (5, .pointer (some ⟨0, 0, none⟩)), (6, .slice (some ⟨1, 0, none⟩) lh1_1.length lh1_1.length), (7, .slice (some ⟨2, 0, none⟩) lh2_1.length lh2_1.length), (10, .int .i64 (List.getD lh2_1 (Int.toNat x39_1) 0)), (37, .slice (some ⟨2, 0, none⟩) lh2_1.length lh2_1.length), (38, .int .i64 x38_1), (39, .int .i64 x39_1), (70, .bool (decide ((List.getD lh1_1 (Int.toNat (List.getD lh2_1 (Int.toNat x39_1) 0)) 0) ≤ (List.getD lh1_1 (Int.toNat (List.getD lh2_1 (Int.toNat (w64 (x39_1 - 1))) 0)) 0))))]) (by kernel_rfl) ?_
                    refine XU.done (by kernel_rfl) ?_
                    show XQ _ _ _ _ _ _ _ _
                    cases b9 : (decide ((List.getD lh1_1 (Int.toNat (List.getD lh2_1 (Int.toNat x39_1) 0)) 0) ≤ (List.getD lh1_1 (Int.toNat (List.getD lh2_1 (Int.toNat (w64 (x39_1 - 1))) 0)) 0)) : Bool) with
                    | true =>
                      have h := cT b9 h
                      refine XQ.cond (s := (.tmp 70)) (b := true) (by kernel_rfl) (by kernel_rfl) (fun _ => ?_) (fun q => by cases q)
                      refine XQ.seq E0_ok (by kernel_rfl) ?_
                      refine XQ.region (by kernel_rfl) ?_
                      refine XR.run E0_ok 1 1 [4] rfl (σ' := [(4, .bool false)]) (h' := [(2, .cells (rowC (encI .i64) lh2_1) 0 3 1), (1, .cells (rowC (encI .i64) lh1_1) 0 3 1), (0, .cells [.int .i64 xh0_0_1, .int .i64 xh0_1_1, .int .i64 xh0_2_1] 0 23 0)]) (c' := 3) (by kernel_rfl) ?_
                      refine XR.done (by kernel_rfl) ?_
                      show XQ _ _ _ _ _ _ _ _
                      refine XQ.ren (σ' := [(4, .bool false)]) (h' := []) (c' := 0) [] (by decide) rfl ⟨by kernel_rfl, trivial⟩ trivial rfl ?_
                      refine XQ.ret (by kernel_rfl) ?_
                      cases h
                      exact hQ
                    | false =>
                      have h := cF b9 h
                      refine XQ.cond (s := (.tmp 70)) (b := false) (by kernel_rfl) (by kernel_rfl) (fun q => by cases q) (fun _ => ?_)
                      refine XQ.skip (by kernel_rfl) ?_
                      show XQ _ _ _ _ _ _ _ _
                      refine XQ.seq E0_ok (by kernel_rfl) ?_
                      refine XQ.region (by kernel_rfl) ?_
                      refine XR.run E0_ok 1 2 [1, 5, 6, 7, 10, 37, 38, 39, 72, 73] rfl (σ' := [(1, .int .u8 b), (5, .pointer (some ⟨0, 0, none⟩)), (6, .slice (some ⟨1, 0, none⟩) lh1_1.length lh1_1.length), (7, .slice (some ⟨2, 0, none⟩) lh2_1.length lh2_1.length), (10, .int .i64 (List.getD lh2_1 (Int.toNat x39_1) 0)), (37, .slice (some ⟨2, 0, none⟩) lh2_1.length lh2_1.length), (38, .int .i64 x38_1), (39, .int .i64 x39_1), (72, .agg #[.int .i64 xh0_0_1, .int .i64 xh0_1_1, .int .i64 xh0_2_1]), (73, .int .i64 (List.getD lh2_1 (Int.toNat x39_1) 0))]) (h' := [(2, .cells (rowC (encI .i64) lh2_1) 0 3 1), (1, .cells (rowC (encI .i64) lh1_1) 0 3 1), (0, .cells [.int .i64 xh0_0_1, .int .i64 xh0_1_1, .int .i64 xh0_2_1] 0 23 0)]) (c' := 3) (by kernel_rfl) ?_
                      obtain ⟨r7, r7_h, h⟩ := bS h
                      refine XR.call E0_ok [1, 5, 6, 7, 10, 37, 38, 39, 74] rfl (K := 16) (args := [.agg #[.int .i64 xh0_0_1, .int .i64 xh0_1_1, .int .i64 xh0_2_1], .int .i64 (List.getD lh2_1 (Int.toNat x39_1) 0)]) (d := (some (path 12 74))) (by kernel_rfl) (KC.of_calls E0_ok (F := Proofs.Try.f16) (v := .tuple #[.int .i64 r7.1, .int .i64 r7.2]) (by kernel_rfl) rfl rfl (fun w hI => f16_ok m xh0_0_1 xh0_1_1 xh0_2_1 (List.getD lh2_1 (Int.toNat x39_1) 0) r7 r7_h w hI)) ?_
                      rintro _ _ _ ⟨rfl, rfl, rfl⟩
                      refine XR.conv (σ' := [(1, .int .u8 b), (5, .pointer (some ⟨0, 0, none⟩)), (6, .slice (some ⟨1, 0, none⟩) lh1_1.length lh1_1.length), (7, .slice (some ⟨2, 0, none⟩) lh2_1.length lh2_1.length), (10, .int .i64 (List.getD lh2_1 (Int.toNat x39_1) 0)), (37, .slice (some ⟨2, 0, none⟩) lh2_1.length lh2_1.length), (38, .int .i64 x38_1), (39, .int .i64 x39_1), (74, .tuple #[.int .i64 r7.1, .int .i64 r7.2])]) (h' := [(2, .cells (rowC (encI .i64) lh2_1) 0 3 1), (1, .cells (rowC (encI .i64) lh1_1) 0 3 1), (0, .cells [.int .i64 xh0_0_1, .int .i64 xh0_1_1, .int .i64 xh0_2_1] 0 23 0)]) (c' := 3) ?_ (by kernel_rfl)
                      refine XR.run E0_ok 1 5 [1, 5, 6, 7, 10, 11, 12, 37, 38, 39] rfl (σ' := [(1, .int .u8 b), (5, .pointer (some ⟨0, 0, none⟩)), (6, .slice (some ⟨1, 0, none⟩) lh1_1.length lh1_1.length), (7, .slice (some ⟨2, 0, none⟩) lh2_1.length lh2_1.length), (10, .int .i64 (List.getD lh2_1 (Int.toNat x39_1) 0)), (11, .int .i64 r7.1), (12, .int .i64 r7.2), (37, .slice (some ⟨2, 0, none⟩) lh2_1.length lh2_1.length), (38, .int .i64 x38_1), (39, .int .i64 x39_1)]) (h' := [(2, .cells (rowC (encI .i64) lh2_1) 0 3 1), (1, .cells (rowC (encI .i64) lh1_1) 0 3 1), (0, .cells [.int .i64 xh0_0_1, .int .i64 xh0_1_1, .int .i64 xh0_2_1] 0 23 0)]) (c' := 3) (by kernel_rfl) ?_
                      refine XR.done (by kernel_rfl) ?_
                      show XQ _ _ _ _ _ _ _ _
                      refine XQ.seq E0_ok (by kernel_rfl) ?_
                      refine XQ.region (by kernel_rfl) ?_
                      refine XR.run E0_ok 1 3 [1, 5, 6, 7, 10, 11, 37, 38, 39, 79] rfl (σ' := [(1, .int .u8 b), (5, .pointer (some ⟨0, 0, none⟩)), (6, .slice (some ⟨1, 0, none⟩) lh1_1.length lh1_1.length), (7, .slice (some ⟨2, 0, none⟩) lh2_1.length lh2_1.length), (10, .int .i64 (List.getD lh2_1 (Int.toNat x39_1) 0)), (11, .int .i64 r7.1), (37, .slice (some ⟨2, 0, none⟩) lh2_1.length lh2_1.length), (38, .int .i64 x38_1), (39, .int .i64 x39_1), (79, .bool (r7.2 != 0))]) (h' := [(2, .cells (rowC (encI .i64) lh2_1) 0 3 1), (1, .cells (rowC (encI .i64) lh1_1) 0 3 1), (0, .cells [.int .i64 xh0_0_1, .int .i64 xh0_1_1, .int .i64 xh0_2_1] 0 23 0)]) (c' := 3) (by kernel_rfl) ?_
                      cases b10 : (r7.2 != 0 : Bool) with
                      | true =>
                        have h := cT b10 h
                        refine XR.run E0_ok 1 7 [1, 5, 6, 7, 37, 38, 39, 86] rfl (σ' := [(1, .int .u8 b), (5, .pointer (some ⟨0, 0, none⟩)), (6, .slice (some ⟨1, 0, none⟩) lh1_1.length lh1_1.length), (7, .slice (some ⟨2, 0, none⟩) lh2_1.length lh2_1.length), (37, .slice (some ⟨2, 0, none⟩) lh2_1.length lh2_1.length), (38, .int .i64 x38_1), (39, .int .i64 x39_1), (86, .bool true)]) (h' := [(2, .cells (rowC (encI .i64) lh2_1) 0 3 1), (1, .cells (rowC (encI .i64) lh1_1) 0 3 1), (0, .cells [.int .i64 xh0_0_1, .int .i64 xh0_1_1, .int .i64 xh0_2_1] 0 23 0)]) (c' := 3) (by kernel_rfl) ?_
                        refine XR.done (by kernel_rfl) ?_
                        show XQ _ _ _ _ _ _ _ _
                        refine XQ.cond (s := (.tmp 86)) (b := true) (by kernel_rfl) (by kernel_rfl) (fun _ => ?_) (fun q => by cases q)
                        refine XQ.seq E0_ok (by kernel_rfl) ?_
                        refine XQ.region (by kernel_rfl) ?_
                        refine XR.run E0_ok 1 1 [4] rfl (σ' := [(4, .bool false)]) (h' := [(2, .cells (rowC (encI .i64) lh2_1) 0 3 1), (1, .cells (rowC (encI .i64) lh1_1) 0 3 1), (0, .cells [.int .i64 xh0_0_1, .int .i64 xh0_1_1, .int .i64 xh0_2_1] 0 23 0)]) (c' := 3) (by kernel_rfl) ?_
                        refine XR.done (by kernel_rfl) ?_
                        show XQ _ _ _ _ _ _ _ _
                        refine XQ.ren (σ' := [(4, .bool false)]) (h' := []) (c' := 0) [] (by decide) rfl ⟨by kernel_rfl, trivial⟩ trivial rfl ?_
                        refine XQ.ret (by kernel_rfl) ?_
                        cases h
                        exact hQ
                      | false =>
                        have h := cF b10 h
                        refine XR.run E0_ok 1 3 [1, 5, 6, 7, 37, 38, 39, 79, 80, 81, 82] rfl (σ' := [(1, .int .u8 b), (5, .pointer (some ⟨0, 0, none⟩)), (6, .slice (some ⟨1, 0, none⟩) lh1_1.length lh1_1.length), (7, .slice (some ⟨2, 0, none⟩) lh2_1.length lh2_1.length), (37, .slice (some ⟨2, 0, none⟩) lh2_1.length lh2_1.length), (38, .int .i64 x38_1), (39, .int .i64 x39_1), (79, .bool false), (80, .int .i64 r7.1), (81, .slice (some ⟨1, 0, none⟩) lh1_1.length lh1_1.length), (82, .int .i64 (List.getD lh2_1 (Int.toNat x39_1) 0))]) (h' := [(2, .cells (rowC (encI .i64) lh2_1) 0 3 1), (1, .cells (rowC (encI .i64) lh1_1) 0 3 1), (0, .cells [.int .i64 xh0_0_1, .int .i64 xh0_1_1, .int .i64 xh0_2_1] 0 23 0)]) (c' := 3) (by kernel_rfl) ?_
                        refine XR.rd E0_ok [1, 5, 6, 7, 37, 38, 39, 79, 80, 83] rfl (v := .pointer (some ⟨1, (Int.toNat (List.getD lh2_1 (Int.toNat x39_1) 0)) * 1, none⟩)) (v_idx (s := 1) (x := (src 134 (.tmp 81))) (y := (src 134 (.tmp 82))) (b := 1) (o := 0) (len := lh1_1.length) (cap := lh1_1.length) (ik := .i64) (i := List.getD lh2_1 (Int.toNat x39_1) 0) (off := (Int.toNat (List.getD lh2_1 (Int.toNat x39_1) 0)) * 1) (d := (some (path 12 83))) (by kernel_rfl) (by kernel_rfl) (by kernel_rfl) b6 (by omega)) (σ' := [(1, .int .u8 b), (5, .pointer (some ⟨0, 0, none⟩)), (6, .slice (some ⟨1, 0, none⟩) lh1_1.length lh1_1.length), (7, .slice (some ⟨2, 0, none⟩) lh2_1.length lh2_1.length), (37, .slice (some ⟨2, 0, none⟩) lh2_1.length lh2_1.length), (38, .int .i64 x38_1), (39, .int .i64 x39_1), (79, .bool false), (80, .int .i64 r7.1), (83, .pointer (some ⟨1, (Int.toNat (List.getD lh2_1 (Int.toNat x39_1) 0)) * 1, none⟩))]) (by kernel_rfl) ?_
                        refine XR.rd E0_ok [1, 5, 6, 7, 37, 38, 39, 79, 80, 84] rfl (v := .int .i64 (List.getD lh1_1 (Int.toNat (List.getD lh2_1 (Int.toNat x39_1) 0)) 0)) (v_load1 (encI_ok .i64) (x := (src 134 (.tmp 83))) (b := 1) (off := (Int.toNat (List.getD lh2_1 (Int.toNat x39_1) 0)) * 1) (xs := lh1_1) (fz := 0) (e := 3) (es := 1) (d := (some (path 12 84))) (by kernel_rfl) (by kernel_rfl) (by kernel_rfl) (Int.toNat (List.getD lh2_1 (Int.toNat x39_1) 0)) 0 0 (by first | rfl | omega) (row_len (inRow_toNat b6) (by simp)) rfl rfl) (σ' := [(1, .int .u8 b), (5, .pointer (some ⟨0, 0, none⟩)), (6, .slice (some ⟨1, 0, none⟩) lh1_1.length lh1_1.length), (7, .slice (some ⟨2, 0, none⟩) lh2_1.length lh2_1.length), (37, .slice (some ⟨2, 0, none⟩) lh2_1.length lh2_1.length), (38, .int .i64 x38_1), (39, .int .i64 x39_1), (79, .bool false), (80, .int .i64 r7.1), (84, .int .i64 (List.getD lh1_1 (Int.toNat (List.getD lh2_1 (Int.toNat x39_1) 0)) 0))]) (by kernel_rfl) ?_
                        refine XR.run E0_ok 1 2 [1, 5, 6, 7, 37, 38, 39, 86] rfl (σ' := [(1, .int .u8 b), (5, .pointer (some ⟨0, 0, none⟩)), (6, .slice (some ⟨1, 0, none⟩) lh1_1.length lh1_1.length), (7, .slice (some ⟨2, 0, none⟩) lh2_1.length lh2_1.length), (37, .slice (some ⟨2, 0, none⟩) lh2_1.length lh2_1.length), (38, .int .i64 x38_1), (39, .int .i64 x39_1), (86, .bool (r7.1 != (List.getD lh1_1 (Int.toNat (List.getD lh2_1 (Int.toNat x39_1) 0)) 0)))]) (h' := [(2, .cells (rowC (encI .i64) lh2_1) 0 3 1), (1, .cells (rowC (encI .i64) lh1_1) 0 3 1), (0, .cells [.int .i64 xh0_0_1, .int .i64 xh0_1_1, .int .i64 xh0_2_1] 0 23 0)]) (c' := 3) (by kernel_rfl) ?_
                        refine XR.done (by kernel_rfl) ?_
                        show XQ _ _ _ _ _ _ _ _
                        cases b11 : (r7.1 != (List.getD lh1_1 (Int.toNat (List.getD lh2_1 (Int.toNat x39_1) 0)) 0) : Bool) with
                        | true =>
                          have h := cT b11 h
                          refine XQ.cond (s := (.tmp 86)) (b := true) (by kernel_rfl) (by kernel_rfl) (fun _ => ?_) (fun q => by cases q)
                          refine XQ.seq E0_ok (by kernel_rfl) ?_
                          refine XQ.region (by kernel_rfl) ?_
                          refine XR.run E0_ok 1 1 [4] rfl (σ' := [(4, .bool false)]) (h' := [(2, .cells (rowC (encI .i64) lh2_1) 0 3 1), (1, .cells (rowC (encI .i64) lh1_1) 0 3 1), (0, .cells [.int .i64 xh0_0_1, .int .i64 xh0_1_1, .int .i64 xh0_2_1] 0 23 0)]) (c' := 3) (by kernel_rfl) ?_
                          refine XR.done (by kernel_rfl) ?_
                          show XQ _ _ _ _ _ _ _ _
                          refine XQ.ren (σ' := [(4, .bool false)]) (h' := []) (c' := 0) [] (by decide) rfl ⟨by kernel_rfl, trivial⟩ trivial rfl ?_
                          refine XQ.ret (by kernel_rfl) ?_
                          cases h
                          exact hQ
                        | false =>
                          have h := cF b11 h
                          refine XQ.cond (s := (.tmp 86)) (b := false) (by kernel_rfl) (by kernel_rfl) (fun q => by cases q) (fun _ => ?_)
                          refine XQ.skip (by kernel_rfl) ?_
                          show XQ _ _ _ _ _ _ _ _
                          refine XQ.region (by kernel_rfl) ?_
                          refine XR.run E0_ok 1 2 [1, 5, 6, 7, 37, 38, 39] rfl (σ' := [(1, .int .u8 b), (5, .pointer (some ⟨0, 0, none⟩)), (6, .slice (some ⟨1, 0, none⟩) lh1_1.length lh1_1.length), (7, .slice (some ⟨2, 0, none⟩) lh2_1.length lh2_1.length), (37, .slice (some ⟨2, 0, none⟩) lh2_1.length lh2_1.length), (38, .int .i64 x38_1), (39, .int .i64 (w64 (x39_1 + 1)))]) (h' := [(2, .cells (rowC (encI .i64) lh2_1) 0 3 1), (1, .cells (rowC (encI .i64) lh1_1) 0 3 1), (0, .cells [.int .i64 xh0_0_1, .int .i64 xh0_1_1, .int .i64 xh0_2_1] 0 23 0)]) (c' := 3) (by kernel_rfl) ?_
                          refine XR.done (by kernel_rfl) ?_
                          show XL _ _ _ _ _ _ _ _ _
                          refine XL.ren (σ' := [(1, .int .u8 b), (5, .pointer (some ⟨0, 0, none⟩)), (6, .slice (some ⟨1, 0, none⟩) lh1_1.length lh1_1.length), (7, .slice (some ⟨2, 0, none⟩) lh2_1.length lh2_1.length), (37, .slice (some ⟨2, 0, none⟩) lh2_1.length lh2_1.length), (38, .int .i64 x38_1), (39, .int .i64 (w64 (x39_1 + 1)))]) (h' := [(2, .cells (rowC (encI .i64) lh2_1) 0 3 1), (1, .cells (rowC (encI .i64) lh1_1) 0 3 1), (0, .cells [.int .i64 xh0_0_1, .int .i64 xh0_1_1, .int .i64 xh0_2_1] 0 23 0)]) (c' := 3) [0, 1, 2] (by decide) rfl ⟨by kernel_rfl, by kernel_rfl, by kernel_rfl, by kernel_rfl, by kernel_rfl, by kernel_rfl, by kernel_rfl, trivial⟩ ⟨⟨_, _, rfl, rfl, .inl ⟨rfl, rowC_scal (encI_ok .i64) _⟩⟩, ⟨_, _, rfl, rfl, .inl ⟨rfl, rowC_scal (encI_ok .i64) _⟩⟩, ⟨_, _, rfl, rfl, .inr ⟨_, _, _, _, rfl, rfl⟩⟩, trivial⟩ rfl ?_
                          refine XL.conv (f13_1_ok m fuel b x38_1 (w64 (x39_1 + 1)) xh0_0_1 xh0_1_1 xh0_2_1 lh1_1 lh2_1 o h Q hQ) (by first | rfl | simp)
            | false =>
              have h := cF b5 h
              refine XU.run E0_ok 1 15 [1, 5, 6, 7, 10, 37, 38, 39, 70] rfl (σ' := [(1, .int .u8 b), (5, .pointer (some ⟨0, 0, none⟩)), (6, .slice (some ⟨1, 0, none⟩) lh1_1.length lh1_1.length), (7, .slice (some ⟨2, 0, none⟩) lh2_1.length lh2_1.length), (10, .int .i64 (List.getD lh2_1 (Int.toNat x39_1) 0)), (37, .slice (some ⟨2, 0, none⟩) lh2_1.length lh2_1.length), (38, .int .i64 x38_1), (39, .int .i64 x39_1), (70, .bool false)]) (by kernel_rfl) ?_
              refine XU.done (by kernel_rfl) ?_
              show XQ _ _ _ _ _ _ _ _
              refine XQ.cond (s := (.tmp 70)) (b := false) (by kernel_rfl) (by kernel_rfl) (fun q => by cases q) (fun _ => ?_)
              refine XQ.skip (by kernel_rfl) ?_
              show XQ _ _ _ _ _ _ _ _
              refine XQ.seq E0_ok (by kernel_rfl) ?_
              refine XQ.region (by kernel_rfl) ?_
              refine XR.run E0_ok 1 2 [1, 5, 6, 7, 10, 37, 38, 39, 72, 73] rfl (σ' := [(1, .int .u8 b), (5, .pointer (some ⟨0, 0, none⟩)), (6, .slice (some ⟨1, 0, none⟩) lh1_1.length lh1_1.length), (7, .slice (some ⟨2, 0, none⟩) lh2_1.length lh2_1.length), (10, .int .i64 (List.getD lh2_1 (Int.toNat x39_1) 0)), (37, .slice (some ⟨2, 0, none⟩) lh2_1.length lh2_1.length), (38, .int .i64 x38_1), (39, .int .i64 x39_1), (72, .agg #[.int .i64 xh0_0_1, .int .i64 xh0_1_1, .int .i64 xh0_2_1]), (73, .int .i64 (List.getD lh2_1 (Int.toNat x39_1) 0))]) (h' := [(2, .cells (rowC (encI .i64) lh2_1) 0 3 1), (1, .cells (rowC (encI .i64) lh1_1) 0 3 1), (0, .cells [.int .i64 xh0_0_1, .int .i64 xh0_1_1, .int .i64 xh0_2_1] 0 23 0)]) (c' := 3) (by kernel_rfl) ?_
              obtain ⟨r8, r8_h, h⟩ := bS h
              refine XR.call E0_ok [1, 5, 6, 7, 10, 37, 38, 39, 74] rfl (K := 16) (args := [.agg #[.int .i64 xh0_0_1, .int .i64 xh0_1_1, .int .i64 xh0_2_1], .int .i64 (List.getD lh2_1 (Int.toNat x39_1) 0)]) (d := (some (path 12 74))) (by kernel_rfl) (KC.of_calls E0_ok (F := Proofs.Try.f16) (v := .tuple #[.int .i64 r8.1, .int .i64 r8.2]) (by kernel_rfl) rfl rfl (fun w hI => f16_ok m xh0_0_1 xh0_1_1 xh0_2_1 (List.getD lh2_1 (Int.toNat x39_1) 0) r8 r8_h w hI)) ?_
              rintro _ _ _ ⟨rfl, rfl, rfl⟩
              refine XR.conv (σ' := [(1, .int .u8 b), (5, .pointer (some ⟨0, 0, none⟩)), (6, .slice (some ⟨1, 0, none⟩) lh1_1.length lh1_1.length), (7, .slice (some ⟨2, 0, none⟩) lh2_1.length lh2_1.length), (10, .int .i64 (List.getD lh2_1 (Int.toNat x39_1) 0)), (37, .slice (some ⟨2, 0, none⟩) lh2_1.length lh2_1.length), (38, .int .i64 x38_1), (39, .int .i64 x39_1), (74, .tuple #[.int .i64 r8.1, .int .i64 r8.2])]) (h' := [(2, .cells (rowC (encI .i64) lh2_1) 0 3 1), (1, .cells (rowC (encI .i64) lh1_1) 0 3 1), (0, .cells [.int .i64 xh0_0_1, .int .i64 xh0_1_1, .int .i64 xh0_2_1] 0 23 0)]) (c' := 3) ?_ (by kernel_rfl)
              refine XR.run E0_ok 1 5 [1, 5, 6, 7, 10, 11, 12, 37, 38, 39] rfl (σ' := [(1, .int .u8 b), (5, .pointer (some ⟨0, 0, none⟩)), (6, .slice (some ⟨1, 0, none⟩) lh1_1.length lh1_1.length), (7, .slice (some ⟨2, 0, none⟩) lh2_1.length lh2_1.length), (10, .int .i64 (List.getD lh2_1 (Int.toNat x39_1) 0)), (11, .int .i64 r8.1), (12, .int .i64 r8.2), (37, .slice (some ⟨2, 0, none⟩) lh2_1.length lh2_1.length), (38, .int .i64 x38_1), (39, .int .i64 x39_1)]) (h' := [(2, .cells (rowC (encI .i64) lh2_1) 0 3 1), (1, .cells (rowC (encI .i64) lh1_1) 0 3 1), (0, .cells [.int .i64 xh0_0_1, .int .i64 xh0_1_1, .int .i64 xh0_2_1] 0 23 0)]) (c' := 3) (by kernel_rfl) ?_
              refine XR.done (by kernel_rfl) ?_
              show XQ _ _ _ _ _ _ _ _
              refine XQ.seq E0_ok (by kernel_rfl) ?_
              refine XQ.region (by kernel_rfl) ?_
              refine XR.run E0_ok 1 3 [1, 5, 6, 7, 10, 11, 37, 38, 39, 79] rfl (σ' := [(1, .int .u8 b), (5, .pointer (some ⟨0, 0, none⟩)), (6, .slice (some ⟨1, 0, none⟩) lh1_1.length lh1_1.length), (7, .slice (some ⟨2, 0, none⟩) lh2_1.length lh2_1.length), (10, .int .i64 (List.getD lh2_1 (Int.toNat x39_1) 0)), (11, .int .i64 r8.1), (37, .slice (some ⟨2, 0, none⟩) lh2_1.length lh2_1.length), (38, .int .i64 x38_1), (39, .int .i64 x39_1), (79, .bool (r8.2 != 0))]) (h' := [(2, .cells (rowC (encI .i64) lh2_1) 0 3 1), (1, .cells (rowC (encI .i64) lh1_1) 0 3 1), (0, .cells [.int .i64 xh0_0_1, .int .i64 xh0_1_1, .int .i64 xh0_2_1] 0 23 0)]) (c' := 3) (by kernel_rfl) ?_
              cases b12 : (r8.2 != 0 : Bool) with
              | true =>
                have h := cT b12 h
                refine XR.run E0_ok 1 7 [1, 5, 6, 7, 37, 38, 39, 86] rfl (σ' := [(1, .int .u8 b), (5, .pointer (some ⟨0, 0, none⟩)), (6, .slice (some ⟨1, 0, none⟩) lh1_1.length lh1_1.length), (7, .slice (some ⟨2, 0, none⟩) lh2_1.length lh2_1.length), (37, .slice (some ⟨2, 0, none⟩) lh2_1.length lh2_1.length), (38, .int .i64 x38_1), (39, .int .i64 x39_1), (86, .bool true)]) (h' := [(2, .cells (rowC (encI .i64) lh2_1) 0 3 1), (1, .cells (rowC (encI .i64) lh1_1) 0 3 1), (0, .cells [.int .i64 xh0_0_1, .int .i64 xh0_1_1, .int .i64 xh0_2_1] 0 23 0)]) (c' := 3) (by kernel_rfl) ?_
                refine XR.done (by kernel_rfl) ?_
                show XQ _ _ _ _ _ _ _ _
                refine XQ.cond (s := (.tmp 86)) (b := true) (by kernel_rfl) (by kernel_rfl) (fun _ => ?_) (fun q => by cases q)
                refine XQ.seq E0_ok (by kernel_rfl) ?_
                refine XQ.region (by kernel_rfl) ?_
                refine XR.run E0_ok 1 1 [4] rfl (σ' := [(4, .bool false)]) (h' := [(2, .cells (rowC (encI .i64) lh2_1) 0 3 1), (1, .cells (rowC (encI .i64) lh1_1) 0 3 1), (0, .cells [.int .i64 xh0_0_1, .int .i64 xh0_1_1, .int .i64 xh0_2_1] 0 23 0)]) (c' := 3) (by kernel_rfl) ?_
                refine XR.done (by kernel_rfl) ?_
                show XQ _ _ _ _ _ _ _ _
                refine XQ.ren (σ' := [(4, .bool false)]) (h' := []) (c' := 0) [] (by decide) rfl ⟨by kernel_rfl, trivial⟩ trivial rfl ?_
                refine XQ.ret (by kernel_rfl) ?_
                cases h
                exact hQ
              | false =>
                have h := cF b12 h
                refine XR.run E0_ok 1 3 [1, 5, 6, 7, 37, 38, 39, 79, 80, 81, 82] rfl (σ' := [(1, .int .u8 b), (5, .pointer (some ⟨0, 0, none⟩)), (6, .slice (some ⟨1, 0, none⟩) lh1_1.length lh1_1.length), (7, .slice (some ⟨2, 0, none⟩) lh2_1.length lh2_1.length), (37, .slice (some ⟨2, 0, none⟩) lh2_1.length lh2_1.length), (38, .int .i64 x38_1), (39, .int .i64 x39_1), (79, .bool false), (80, .int .i64 r8.1), (81, .slice (some ⟨1, 0, none⟩) lh1_1.length lh1_1.length), (82, .int .i64 (List.getD lh2_1 (Int.toNat x39_1) 0))]) (h' := [(2, .cells (rowC (encI .i64) lh2_1) 0 3 1), (1, .cells (rowC (encI .i64) lh1_1) 0 3 1), (0, .cells [.int .i64 xh0_0_1, .int .i64 xh0_1_1, .int .i64 xh0_2_1] 0 23 0)]) (c' := 3) (by kernel_rfl) ?_
                cases b13 : (inRow (List.getD lh2_1 (Int.toNat x39_1) 0) lh1_1.length : Bool) with
                | false => cases (cF b13 h)
                | true =>
                  have h := cT b13 h
                  refine XR.rd E0_ok [1, 5, 6, 7, 37, 38, 39, 79, 80, 83] rfl (v := .pointer (some ⟨1, (Int.toNat (List.getD lh2_1 (Int.toNat x39_1) 0)) * 1, none⟩)) (v_idx (s := 1) (x := (src 134 (.tmp 81))) (y := (src 134 (.tmp 82))) (b := 1) (o := 0) (len := lh1_1.length) (cap := lh1_1.length) (ik := .i64) (i := List.getD lh2_1 (Int.toNat x39_1) 0) (off := (Int.toNat (List.getD lh2_1 (Int.toNat x39_1) 0)) * 1) (d := (some (path 12 83))) (by kernel_rfl) (by kernel_rfl) (by kernel_rfl) b13 (by omega)) (σ' := [(1, .int .u8 b), (5, .pointer (some ⟨0, 0, none⟩)), (6, .slice (some ⟨1, 0, none⟩) lh1_1.length lh1_1.length), (7, .slice (some ⟨2, 0, none⟩) lh2_1.length lh2_1.length), (37, .slice (some ⟨2, 0, none⟩) lh2_1.length lh2_1.length), (38, .int .i64 x38_1), (39, .int .i64 x39_1), (79, .bool false), (80, .int .i64 r8.1), (83, .pointer (some ⟨1, (Int.toNat (List.getD lh2_1 (Int.toNat x39_1) 0)) * 1, none⟩))]) (by kernel_rfl) ?_
                  refine XR.rd E0_ok [1, 5, 6, 7, 37, 38, 39, 79, 80, 84] rfl (v := .int .i64 (List.getD lh1_1 (Int.toNat (List.getD lh2_1 (Int.toNat x39_1) 0)) 0)) (v_load1 (encI_ok .i64) (x := (src 134 (.tmp 83))) (b := 1) (off := (Int.toNat (List.getD lh2_1 (Int.toNat x39_1) 0)) * 1) (xs := lh1_1) (fz := 0) (e := 3) (es := 1) (d := (some (path 12 84))) (by kernel_rfl) (by kernel_rfl) (by kernel_rfl) (Int.toNat (List.getD lh2_1 (Int.toNat x39_1) 0)) 0 0 (by first | rfl | omega) (row_len (inRow_toNat b13) (by simp)) rfl rfl) (σ' := [(1, .int .u8 b), (5, .pointer (some ⟨0, 0, none⟩)), (6, .slice (some ⟨1, 0, none⟩) lh1_1.length lh1_1.length), (7, .slice (some ⟨2, 0, none⟩) lh2_1.length lh2_1.length), (37, .slice (some ⟨2, 0, none⟩) lh2_1.length lh2_1.length), (38, .int .i64 x38_1), (39, .int .i64 x39_1), (79, .bool false), (80, .int .i64 r8.1), (84, .int .i64 (List.getD lh1_1 (Int.toNat (List.getD lh2_1 (Int.toNat x39_1) 0)) 0))]) (by kernel_rfl) ?_
                  refine XR.run E0_ok 1 2 [1, 5, 6, 7, 37, 38, 39, 86] rfl (σ' := [(1, .int .u8 b), (5, .pointer (some ⟨0, 0, none⟩)), (6, .slice (some ⟨1, 0, none⟩) lh1_1.length lh1_1.length), (7, .slice (some ⟨2, 0, none⟩) lh2_1.length lh2_1.length), (37, .slice (some ⟨2, 0, none⟩) lh2_1.length lh2_1.length), (38, .int .i64 x38_1), (39, .int .i64 x39_1), (86, .bool (r8.1 != (List.getD lh1_1 (Int.toNat (List.getD lh2_1 (Int.toNat x39_1) 0)) 0)))]) (h' := [(2, .cells (rowC (encI .i64) lh2_1) 0 3 1), (1, .cells (rowC (encI .i64) lh1_1) 0 3 1), (0, .cells [.int .i64 xh0_0_1, .int .i64 xh0_1_1, .int .i64 xh0_2_1] 0 23 0)]) (c' := 3) (by kernel_rfl) ?_
                  refine XR.done (by kernel_rfl) ?_
                  show XQ _ _ _ _ _ _ _ _
                  cases b14 : (r8.1 != (List.getD lh1_1 (Int.toNat (List.getD lh2_1 (Int.toNat x39_1) 0)) 0) : Bool) with
                  | true =>
                    have h := cT b14 h
                    refine XQ.cond (s := (.tmp 86)) (b := true) (by kernel_rfl) (by kernel_rfl) (fun _ => ?_) (fun q => by cases q)
                    refine XQ.seq E0_ok (by kernel_rfl) ?_
                    refine XQ.region (by kernel_rfl) ?_
                    refine XR.run E0_ok 1 1 [4] rfl (σ' := [(4, .bool false)]) (h' := [(2, .cells (rowC (encI .i64) lh2_1) 0 3 1), (1, .cells (rowC (encI .i64) lh1_1) 0 3 1), (0, .cells [.int .i64 xh0_0_1, .int .i64 xh0_1_1, .int .i64 xh0_2_1] 0 23 0)]) (c' := 3) (by kernel_rfl) ?_
                    refine XR.done (by kernel_rfl) ?_
                    show XQ _ _ _ _ _ _ _ _
                    refine XQ.ren (σ' := [(4, .bool false)]) (h' := []) (c' := 0) [] (by decide) rfl ⟨by kernel_rfl, trivial⟩ trivial rfl ?_
                    refine XQ.ret (by kernel_rfl) ?_
                    cases h
                    exact hQ
                  | false =>
                    have h := cF b14 h
                    refine XQ.cond (s := (.tmp 86)) (b := false) (by kernel_rfl) (by kernel_rfl) (fun q => by cases q) (fun _ => ?_)
                    refine XQ.skip (by kernel_rfl) ?_
                    show XQ _ _ _ _ _ _ _ _
                    refine XQ.region (by kernel_rfl) ?_
                    refine XR.run E0_ok 1 2 [1, 5, 6, 7, 37, 38, 39] rfl (σ' := [(1, .int .u8 b), (5, .pointer (some ⟨0, 0, none⟩)), (6, .slice (some ⟨1, 0, none⟩) lh1_1.length lh1_1.length), (7, .slice (some ⟨2, 0, none⟩) lh2_1.length lh2_1.length), (37, .slice (some ⟨2, 0, none⟩) lh2_1.length lh2_1.length), (38, .int .i64 x38_1), (39, .int .i64 (w64 (x39_1 + 1)))]) (h' := [(2, .cells (rowC (encI .i64) lh2_1) 0 3 1), (1, .cells (rowC (encI .i64) lh1_1) 0 3 1), (0, .cells [.int .i64 xh0_0_1, .int .i64 xh0_1_1, .int .i64 xh0_2_1] 0 23 0)]) (c' := 3) (by kernel_rfl) ?_
                    refine XR.done (by kernel_rfl) ?_
                    show XL _ _ _ _ _ _ _ _ _
                    refine XL.ren (σ' := [(1, .int .u8 b), (5, .pointer (some ⟨0, 0, none⟩)), (6, .slice (some ⟨1, 0, none⟩) lh1_1.length lh1_1.length), (7, .slice (some ⟨2, 0, none⟩) lh2_1.length lh2_1.length), (37, .slice (some ⟨2, 0, none⟩) lh2_1.length lh2_1.length), (38, .int .i64 x38_1), (39, .int .i64 (w64 (x39_1 + 1)))]) (h' := [(2, .cells (rowC (encI .i64) lh2_1) 0 3 1), (1, .cells (rowC (encI .i64) lh1_1) 0 3 1), (0, .cells [.int .i64 xh0_0_1, .int .i64 xh0_1_1, .int .i64 xh0_2_1] 0 23 0)]) (c' := 3) [0, 1, 2] (by decide) rfl ⟨by kernel_rfl, by kernel_rfl, by kernel_rfl, by kernel_rfl, by kernel_rfl, by kernel_rfl, by kernel_rfl, trivial⟩ ⟨⟨_, _, rfl, rfl, .inl ⟨rfl, rowC_scal (encI_ok .i64) _⟩⟩, ⟨_, _, rfl, rfl, .inl ⟨rfl, rowC_scal (encI_ok .i64) _⟩⟩, ⟨_, _, rfl, rfl, .inr ⟨_, _, _, _, rfl, rfl⟩⟩, trivial⟩ rfl ?_
                    refine XL.conv (f13_1_ok m fuel b x38_1 (w64 (x39_1 + 1)) xh0_0_1 xh0_1_1 xh0_2_1 lh1_1 lh2_1 o h Q hQ) (by first | rfl | simp)
    | false =>
      have h := cF b1 h
      refine XQ.cond (s := (.tmp 40)) (b := false) (by kernel_rfl) (by kernel_rfl) (fun q => by cases q) (fun _ => ?_)
      refine XQ.ren (σ' := [(1, .int .u8 b), (5, .pointer (some ⟨0, 0, none⟩)), (6, .slice (some ⟨1, 0, none⟩) lh1_1.length lh1_1.length)]) (h' := [(1, .cells (rowC (encI .i64) lh1_1) 0 3 1), (0, .cells [.int .i64 xh0_0_1, .int .i64 xh0_1_1, .int .i64 xh0_2_1] 0 23 0)]) (c' := 2) [0, 1] (by decide) rfl ⟨by kernel_rfl, by kernel_rfl, by kernel_rfl, trivial⟩ ⟨⟨_, _, rfl, rfl, .inl ⟨rfl, rowC_scal (encI_ok .i64) _⟩⟩, ⟨_, _, rfl, rfl, .inr ⟨_, _, _, _, rfl, rfl⟩⟩, trivial⟩ rfl ?_
      refine XQ.exit (i := 0) (by kernel_rfl) ?_
      cases h
      exact hQ

def f13 (m : Nat) (a_Marks : Int) (a_Step : Int) (a_Turns : Int) (b : Int) : Option (Bool) :=
  cond ((w64 (1 + (Int.tmod (w64 a_Marks) 100))) != 0) (
    (f47 m (w64 (1 + (Int.tmod (w64 a_Marks) 100))) (Int.tmod (w64 a_Step) (w64 (1 + (Int.tmod (w64 a_Marks) 100))))).bind fun r1 =>
      cond (r1 != 0) (
        (f46 m (w64 (1 + (Int.tmod (w64 a_Marks) 100))) (Int.tmod (w64 a_Step) (w64 (1 + (Int.tmod (w64 a_Marks) 100)))) (w64 (1 + (Int.tmod (w64 a_Turns) r1)))).bind fun r2 =>
          (f29 m (w64 (1 + (Int.tmod (w64 a_Marks) 100))) (Int.tmod (w64 a_Step) (w64 (1 + (Int.tmod (w64 a_Marks) 100)))) (w64 (1 + (Int.tmod (w64 a_Turns) r1)))).bind fun r3 =>
            cond (r3.2 != 0) (
              some (false)
            ) (
              cond (((r3.1.length : Nat) : Int) != ((r2.length : Nat) : Int)) (
                some (false)
              ) (
                (f13_1 m m b ((r3.1.length : Nat) : Int) 0 (w64 (1 + (Int.tmod (w64 a_Marks) 100))) (Int.tmod (w64 a_Step) (w64 (1 + (Int.tmod (w64 a_Marks) 100)))) (w64 (1 + (Int.tmod (w64 a_Turns) r1))) r2 r3.1).bind fun o1 =>
                  match o1 with
                  | .r =>
                    some (false)
                  | .x0 xh0_0_x01 xh0_1_x01 xh0_2_x01 lh1_x01 =>
                    cond (xh0_0_x01 != 0) (
                      (f18 m xh0_0_x01 xh0_1_x01 xh0_2_x01 (Int.tmod (w64 b) xh0_0_x01)).bind fun r9 =>
                        (f54 m lh1_x01 (Int.tmod (w64 b) xh0_0_x01)).bind fun r10 =>
                          cond (decide (r10 < 0)) (
                            cond (r9.2 == 12) (
                              cond (r9.1 == 0) (
                                some (true)
                              ) (
                                some (false)
                              )
                            ) (
                              some (false)
                            )
                          ) (
                            (f16 m xh0_0_x01 xh0_1_x01 xh0_2_x01 xh0_2_x01).bind fun r11 =>
                              cond (r9.2 == 0) (
                                cond (r9.1 == r10) (
                                  cond (r11.2 == 2) (
                                    some (true)
                                  ) (
                                    some (false)
                                  )
                                ) (
                                  some (false)
                                )
                              ) (
                                some (false)
                              )
                          )
                    ) none
              )
            )
      ) none
  ) none

theorem f13_ok (m : Nat) (a_Marks : Int) (a_Step : Int) (a_Turns : Int) (b : Int) (o : Bool) (h : f13 m a_Marks a_Step a_Turns b = some o) (w : World) (hI : anyInv w) : Calls Proofs.Try.prog 13 #[.agg #[.int .u8 a_Marks, .int .u8 a_Step, .int .u8 a_Turns], .int .u8 b] w fun e w' => e = .returned (.bool o) ∧ Below w.heap.size w w' := by
  refine KC.calls (E := E0) (args := [.agg #[.int .u8 a_Marks, .int .u8 a_Step, .int .u8 a_Turns], .int .u8 b]) (v := .bool o) rfl rfl (KC.bodyN E0_ok (F := Proofs.Try.f13) (by kernel_rfl) (code := f13_C13) (by kernel_rfl) (nt := 134) (by kernel_rfl) (rs := [.tmp 4]) (by kernel_rfl) (by kernel_rfl) (σ := [(0, .agg #[.int .u8 a_Marks, .int .u8 a_Step, .int .u8 a_Turns]), (1, .int .u8 b)]) (by kernel_rfl) ?_) w (anyInv_size hI) hI
  unfold f13 at h
  refine XQ.seq E0_ok (by kernel_rfl) ?_
  refine XQ.region (by kernel_rfl) ?_
  refine XR.run E0_ok 1 2 [1, 2] rfl (σ' := [(1, .int .u8 b), (2, .pointer (some ⟨0, 0, none⟩))]) (h' := [(0, .cells [.int .u8 a_Marks, .int .u8 a_Step, .int .u8 a_Turns] 0 52 0)]) (c' := 1) (by kernel_rfl) ?_
  refine XR.done (by kernel_rfl) ?_
  show XQ _ _ _ _ _ _ _ _
  refine XQ.seq E0_ok (by kernel_rfl) ?_
  refine XQ.region (by kernel_rfl) ?_
  refine XR.run E0_ok 1 1 [1, 19] rfl (σ' := [(1, .int .u8 b), (19, .agg #[.int .u8 a_Marks, .int .u8 a_Step, .int .u8 a_Turns])]) (h' := [(0, .cells [.int .u8 a_Marks, .int .u8 a_Step, .int .u8 a_Turns] 0 52 0)]) (c' := 1) (by kernel_rfl) ?_
  refine XR.callK E0_ok [1, 20] rfl (K := 45) (args := [.agg #[.int .u8 a_Marks, .int .u8 a_Step, .int .u8 a_Turns], .int .i64 100]) (d := (some (path 12 20))) (by kernel_rfl) ?_
  refine KC.bodyN E0_ok (F := Proofs.Try.f45) (by kernel_rfl) (code := f13_C45) (by kernel_rfl) (nt := 32) (by kernel_rfl) (rs := [.cell 4 23]) (by kernel_rfl) (by kernel_rfl) (σ := [(0, .agg #[.int .u8 a_Marks, .int .u8 a_Step, .int .u8 a_Turns]), (1, .int .i64 100)]) (by kernel_rfl) ?_
  refine XQ.seq E0_ok (by kernel_rfl) ?_
  refine XQ.region (by kernel_rfl) ?_
  refine XR.run E0_ok 1 2 [1, 2, 4] rfl (σ' := [(1, .int .i64 100), (2, .pointer (some ⟨1, 0, none⟩)), (4, .pointer (some ⟨2, 0, none⟩))]) (h' := [(2, .cells [.int .i64 0, .int .i64 0, .int .i64 0] 0 23 0), (1, .cells [.int .u8 a_Marks, .int .u8 a_Step, .int .u8 a_Turns] 0 52 0), (0, .cells [.int .u8 a_Marks, .int .u8 a_Step, .int .u8 a_Turns] 0 52 0)]) (c' := 3) (by kernel_rfl) ?_
  refine XR.done (by kernel_rfl) ?_
  show XQ _ _ _ _ _ _ _ _
  refine XQ.seq E0_ok (by kernel_rfl) ?_
  refine XQ.region (by kernel_rfl) ?_
  refine XR.run E0_ok 1 9 [2, 4, 5] rfl (σ' := [(2, .pointer (some ⟨1, 0, none⟩)), (4, .pointer (some ⟨2, 0, none⟩)), (5, .pointer (some ⟨3, 0, none⟩))]) (h' := [(3, .cells [.int .i64 (w64 (1 + (Int.tmod (w64 a_Marks) 100))), .int .i64 0, .int .i64 0] 0 23 0), (2, .cells [.int .i64 0, .int .i64 0, .int .i64 0] 0 23 0), (1, .cells [.int .u8 a_Marks, .int .u8 a_Step, .int .u8 a_Turns] 0 52 0), (0, .cells [.int .u8 a_Marks, .int .u8 a_Step, .int .u8 a_Turns] 0 52 0)]) (c' := 4) (by kernel_rfl) ?_
  refine XR.done (by kernel_rfl) ?_
  show XQ _ _ _ _ _ _ _ _
  refine XQ.seq E0_ok (by kernel_rfl) ?_
  refine XQ.region (by kernel_rfl) ?_
  refine XR.run E0_ok 1 5 [2, 4, 5, 15, 17] rfl (σ' := [(2, .pointer (some ⟨1, 0, none⟩)), (4, .pointer (some ⟨2, 0, none⟩)), (5, .pointer (some ⟨3, 0, none⟩)), (15, .int .i64 (w64 a_Step)), (17, .int .i64 (w64 (1 + (Int.tmod (w64 a_Marks) 100))))]) (h' := [(3, .cells [.int .i64 (w64 (1 + (Int.tmod (w64 a_Marks) 100))), .int .i64 0, .int .i64 0] 0 23 0), (2, .cells [.int .i64 0, .int .i64 0, .int .i64 0] 0 23 0), (1, .cells [.int .u8 a_Marks, .int .u8 a_Step, .int .u8 a_Turns] 0 52 0), (0, .cells [.int .u8 a_Marks, .int .u8 a_Step, .int .u8 a_Turns] 0 52 0)]) (c' := 4) (by kernel_rfl) ?_
  cases b1 : ((w64 (1 + (Int.tmod (w64 a_Marks) 100))) != 0 : Bool) with
  | false => cases (cF b1 h)
  | true =>
    have h := cT b1 h
    have e2 : insV (headI ((gsOf E0 32 (opsOf (lft (rgt (rgt f13_C45))))).drop 5) (trS 32 [(2, .pointer (some ⟨1, 0, none⟩)), (4, .pointer (some ⟨2, 0, none⟩)), (5, .pointer (some ⟨3, 0, none⟩)), (15, .int .i64 (w64 a_Step)), (17, .int .i64 (w64 (1 + (Int.tmod (w64 a_Marks) 100))))])) (trS 32 [(2, .pointer (some ⟨1, 0, none⟩)), (4, .pointer (some ⟨2, 0, none⟩)), (5, .pointer (some ⟨3, 0, none⟩)), (15, .int .i64 (w64 a_Step)), (17, .int .i64 (w64 (1 + (Int.tmod (w64 a_Marks) 100))))]) [(3, .cells [.int .i64 (w64 (1 + (Int.tmod (w64 a_Marks) 100))), .int .i64 0, .int .i64 0] 0 23 0), (2, .cells [.int .i64 0, .int .i64 0, .int .i64 0] 0 23 0), (1, .cells [.int .u8 a_Marks, .int .u8 a_Step, .int .u8 a_Turns] 0 52 0), (0, .cells [.int .u8 a_Marks, .int .u8 a_Step, .int .u8 a_Turns] 0 52 0)] = (match ((w64 (1 + (Int.tmod (w64 a_Marks) 100))) != 0 : Bool) with | true => some (.int .i64 (Int.tmod (w64 a_Step) (w64 (1 + (Int.tmod (w64 a_Marks) 100))))) | false => none) := by kernel_rfl
    refine XR.rd E0_ok [2, 4, 5, 18] rfl (e2.trans (by rw [b1])) (σ' := [(2, .pointer (some ⟨1, 0, none⟩)), (4, .pointer (some ⟨2, 0, none⟩)), (5, .pointer (some ⟨3, 0, none⟩)), (18, .int .i64 (Int.tmod (w64 a_Step) (w64 (1 + (Int.tmod (w64 a_Marks) 100)))))]) (by kernel_rfl) ?_
    refine XR.run E0_ok 1 2 [2, 4, 5] rfl (σ' := [(2, .pointer (some ⟨1, 0, none⟩)), (4, .pointer (some ⟨2, 0, none⟩)), (5, .pointer (some ⟨3, 0, none⟩))]) (h' := [(3, .cells [.int .i64 (w64 (1 + (Int.tmod (w64 a_Marks) 100))), .int .i64 (Int.tmod (w64 a_Step) (w64 (1 + (Int.tmod (w64 a_Marks) 100)))), .int .i64 0] 0 23 0), (2, .cells [.int .i64 0, .int .i64 0, .int .i64 0] 0 23 0), (1, .cells [.int .u8 a_Marks, .int .u8 a_Step, .int .u8 a_Turns] 0 52 0), (0, .cells [.int .u8 a_Marks, .int .u8 a_Step, .int .u8 a_Turns] 0 52 0)]) (c' := 4) (by kernel_rfl) ?_
    refine XR.done (by kernel_rfl) ?_
    show XQ _ _ _ _ _ _ _ _
    refine XQ.seq E0_ok (by kernel_rfl) ?_
    refine XQ.qtail E0_ok [0, 1, 2, 3, 4, 5, 6, 7, 8, 9, 10] 11 [] (by kernel_rfl) (by kernel_rfl) (by kernel_rfl) ?_
    refine XU.run E0_ok 1 7 [4, 5, 22, 24, 26] rfl (σ' := [(4, .pointer (some ⟨2, 0, none⟩)), (5, .pointer (some ⟨3, 0, none⟩)), (22, .int .i64 (w64 a_Turns)), (24, .int .i64 (w64 (1 + (Int.tmod (w64 a_Marks) 100)))), (26, .int .i64 (Int.tmod (w64 a_Step) (w64 (1 + (Int.tmod (w64 a_Marks) 100)))))]) (by kernel_rfl) ?_
    obtain ⟨r1, r1_h, h⟩ := bS h
    refine XU.call E0_ok [4, 5, 22, 27] rfl (K := 47) (F := Proofs.Try.f47) (args := [.int .i64 (w64 (1 + (Int.tmod (w64 a_Marks) 100))), .int .i64 (Int.tmod (w64 a_Step) (w64 (1 + (Int.tmod (w64 a_Marks) 100))))]) (d := (some (path 12 27))) (v := .int .i64 r1) (by kernel_rfl) (by kernel_rfl) rfl rfl (fun w hI => f47_ok m (w64 (1 + (Int.tmod (w64 a_Marks) 100))) (Int.tmod (w64 a_Step) (w64 (1 + (Int.tmod (w64 a_Marks) 100)))) r1 r1_h w hI) (σ' := [(4, .pointer (some ⟨2, 0, none⟩)), (5, .pointer (some ⟨3, 0, none⟩)), (22, .int .i64 (w64 a_Turns)), (27, .int .i64 r1)]) (by kernel_rfl) ?_
    cases b3 : (r1 != 0 : Bool) with
    | false => cases (cF b3 h)
    | true =>
      have h := cT b3 h
      have e4 : insV (headI ((gsOf E0 32 (reOps (opsOf (lft (rgt (rgt (rgt f13_C45))))) [0, 1, 2, 3, 4, 5, 6, 7, 8, 9, 10])).drop 8) (trS 32 [(4, .pointer (some ⟨2, 0, none⟩)), (5, .pointer (some ⟨3, 0, none⟩)), (22, .int .i64 (w64 a_Turns)), (27, .int .i64 r1)])) (trS 32 [(4, .pointer (some ⟨2, 0, none⟩)), (5, .pointer (some ⟨3, 0, none⟩)), (22, .int .i64 (w64 a_Turns)), (27, .int .i64 r1)]) [(3, .cells [.int .i64 (w64 (1 + (Int.tmod (w64 a_Marks) 100))), .int .i64 (Int.tmod (w64 a_Step) (w64 (1 + (Int.tmod (w64 a_Marks) 100)))), .int .i64 0] 0 23 0), (2, .cells [.int .i64 0, .int .i64 0, .int .i64 0] 0 23 0), (1, .cells [.int .u8 a_Marks, .int .u8 a_Step, .int .u8 a_Turns] 0 52 0), (0, .cells [.int .u8 a_Marks, .int .u8 a_Step, .int .u8 a_Turns] 0 52 0)] = (match (r1 != 0 : Bool) with | true => some (.int .i64 (Int.tmod (w64 a_Turns) r1)) | false => none) := by kernel_rfl
      refine XU.rd E0_ok [4, 5, 28] rfl (e4.trans (by rw [b3])) (σ' := [(4, .pointer (some ⟨2, 0, none⟩)), (5, .pointer (some ⟨3, 0, none⟩)), (28, .int .i64 (Int.tmod (w64 a_Turns) r1))]) (by kernel_rfl) ?_
      refine XU.run E0_ok 1 2 [4, 5, 29, 30] rfl (σ' := [(4, .pointer (some ⟨2, 0, none⟩)), (5, .pointer (some ⟨3, 0, none⟩)), (29, .int .i64 (w64 (1 + (Int.tmod (w64 a_Turns) r1)))), (30, .pointer (some ⟨3, 2, none⟩))]) (by kernel_rfl) ?_
      refine XU.done (by kernel_rfl) ?_
      show XR _ _ _ _ _ _ _ _ _
      refine XR.run E0_ok 1 1 [4, 5] rfl (σ' := [(4, .pointer (some ⟨2, 0, none⟩)), (5, .pointer (some ⟨3, 0, none⟩))]) (h' := [(3, .cells [.int .i64 (w64 (1 + (Int.tmod (w64 a_Marks) 100))), .int .i64 (Int.tmod (w64 a_Step) (w64 (1 + (Int.tmod (w64 a_Marks) 100)))), .int .i64 (w64 (1 + (Int.tmod (w64 a_Turns) r1)))] 0 23 0), (2, .cells [.int .i64 0, .int .i64 0, .int .i64 0] 0 23 0), (1, .cells [.int .u8 a_Marks, .int .u8 a_Step, .int .u8 a_Turns] 0 52 0), (0, .cells [.int .u8 a_Marks, .int .u8 a_Step, .int .u8 a_Turns] 0 52 0)]) (c' := 4) (by kernel_rfl) ?_
      refine XR.done (by kernel_rfl) ?_
      show XQ _ _ _ _ _ _ _ _
      refine XQ.seq E0_ok (by kernel_rfl) ?_
      refine XQ.region (by kernel_rfl) ?_
      refine XR.run E0_ok 1 2 [4] rfl (σ' := [(4, .pointer (some ⟨2, 0, none⟩))]) (h' := [(3, .cells [.int .i64 (w64 (1 + (Int.tmod (w64 a_Marks) 100))), .int .i64 (Int.tmod (w64 a_Step) (w64 (1 + (Int.tmod (w64 a_Marks) 100)))), .int .i64 (w64 (1 + (Int.tmod (w64 a_Turns) r1)))] 0 23 0), (2, .cells [.int .i64 (w64 (1 + (Int.tmod (w64 a_Marks) 100))), .int .i64 (Int.tmod (w64 a_Step) (w64 (1 + (Int.tmod (w64 a_Marks) 100)))), .int .i64 (w64 (1 + (Int.tmod (w64 a_Turns) r1)))] 0 23 0), (1, .cells [.int .u8 a_Marks, .int .u8 a_Step, .int .u8 a_Turns] 0 52 0), (0, .cells [.int .u8 a_Marks, .int .u8 a_Step, .int .u8 a_Turns] 0 52 0)]) (c' := 4) (by kernel_rfl) ?_
      refine XR.done (by kernel_rfl) ?_
      show XQ _ _ _ _ _ _ _ _
      refine XQ.ret (by kernel_rfl) ?_
      refine ⟨fun i q => (by cases q), .agg #[.int .i64 (w64 (1 + (Int.tmod (w64 a_Marks) 100))), .int .i64 (Int.tmod (w64 a_Step) (w64 (1 + (Int.tmod (w64 a_Marks) 100)))), .int .i64 (w64 (1 + (Int.tmod (w64 a_Turns) r1)))], (by kernel_rfl), ?_⟩
      refine XR.conv (σ' := [(1, .int .u8 b), (20, .agg #[.int .i64 (w64 (1 + (Int.tmod (w64 a_Marks) 100))), .int .i64 (Int.tmod (w64 a_Step) (w64 (1 + (Int.tmod (w64 a_Marks) 100)))), .int .i64 (w64 (1 + (Int.tmod (w64 a_Turns) r1)))])]) (h' := [(3, .cells [.int .i64 (w64 (1 + (Int.tmod (w64 a_Marks) 100))), .int .i64 (Int.tmod (w64 a_Step) (w64 (1 + (Int.tmod (w64 a_Marks) 100)))), .int .i64 (w64 (1 + (Int.tmod (w64 a_Turns) r1)))] 0 23 0), (2, .cells [.int .i64 (w64 (1 + (Int.tmod (w64 a_Marks) 100))), .int .i64 (Int.tmod (w64 a_Step) (w64 (1 + (Int.tmod (w64 a_Marks) 100)))), .int .i64 (w64 (1 + (Int.tmod (w64 a_Turns) r1)))] 0 23 0), (1, .cells [.int .u8 a_Marks, .int .u8 a_Step, .int .u8 a_Turns] 0 52 0), (0, .cells [.int .u8 a_Marks, .int .u8 a_Step, .int .u8 a_Turns] 0 52 0)]) (c' := 4) ?_ (by kernel_rfl)
      refine XR.run E0_ok 1 2 [1, 5] rfl (σ' := [(1, .int .u8 b), (5, .pointer (some ⟨4, 0, none⟩))]) (h' := [(4, .cells [.int .i64 (w64 (1 + (Int.tmod (w64 a_Marks) 100))), .int .i64 (Int.tmod (w64 a_Step) (w64 (1 + (Int.tmod (w64 a_Marks) 100)))), .int .i64 (w64 (1 + (Int.tmod (w64 a_Turns) r1)))] 0 23 0), (3, .cells [.int .i64 (w64 (1 + (Int.tmod (w64 a_Marks) 100))), .int .i64 (Int.tmod (w64 a_Step) (w64 (1 + (Int.tmod (w64 a_Marks) 100)))), .int .i64 (w64 (1 + (Int.tmod (w64 a_Turns) r1)))] 0 23 0), (2, .cells [.int .i64 (w64 (1 + (Int.tmod (w64 a_Marks) 100))), .int .i64 (Int.tmod (w64 a_Step) (w64 (1 + (Int.tmod (w64 a_Marks) 100)))), .int .i64 (w64 (1 + (Int.tmod (w64 a_Turns) r1)))] 0 23 0), (1, .cells [.int .u8 a_Marks, .int .u8 a_Step, .int .u8 a_Turns] 0 52 0), (0, .cells [.int .u8 a_Marks, .int .u8 a_Step, .int .u8 a_Turns] 0 52 0)]) (c' := 5) (by kernel_rfl) ?_
      refine XR.done (by kernel_rfl) ?_
      show XQ _ _ _ _ _ _ _ _
      refine XQ.seq E0_ok (by kernel_rfl) ?_
      refine XQ.region (by kernel_rfl) ?_
      refine XR.run E0_ok 1 1 [1, 5, 21] rfl (σ' := [(1, .int .u8 b), (5, .pointer (some ⟨4, 0, none⟩)), (21, .agg #[.int .i64 (w64 (1 + (Int.tmod (w64 a_Marks) 100))), .int .i64 (Int.tmod (w64 a_Step) (w64 (1 + (Int.tmod (w64 a_Marks) 100)))), .int .i64 (w64 (1 + (Int.tmod (w64 a_Turns) r1)))])]) (h' := [(4, .cells [.int .i64 (w64 (1 + (Int.tmod (w64 a_Marks) 100))), .int .i64 (Int.tmod (w64 a_Step) (w64 (1 + (Int.tmod (w64 a_Marks) 100)))), .int .i64 (w64 (1 + (Int.tmod (w64 a_Turns) r1)))] 0 23 0), (3, .cells [.int .i64 (w64 (1 + (Int.tmod (w64 a_Marks) 100))), .int .i64 (Int.tmod (w64 a_Step) (w64 (1 + (Int.tmod (w64 a_Marks) 100)))), .int .i64 (w64 (1 + (Int.tmod (w64 a_Turns) r1)))] 0 23 0), (2, .cells [.int .i64 (w64 (1 + (Int.tmod (w64 a_Marks) 100))), .int .i64 (Int.tmod (w64 a_Step) (w64 (1 + (Int.tmod (w64 a_Marks) 100)))), .int .i64 (w64 (1 + (Int.tmod (w64 a_Turns) r1)))] 0 23 0), (1, .cells [.int .u8 a_Marks, .int .u8 a_Step, .int .u8 a_Turns] 0 52 0), (0, .cells [.int .u8 a_Marks, .int .u8 a_Step, .int .u8 a_Turns] 0 52 0)]) (c' := 5) (by kernel_rfl) ?_
      obtain ⟨r2, r2_h, h⟩ := bS h
      refine XR.call E0_ok [1, 5, 22] rfl (K := 46) (args := [.agg #[.int .i64 (w64 (1 + (Int.tmod (w64 a_Marks) 100))), .int .i64 (Int.tmod (w64 a_Step) (w64 (1 + (Int.tmod (w64 a_Marks) 100)))), .int .i64 (w64 (1 + (Int.tmod (w64 a_Turns) r1)))]]) (d := (some (path 12 22))) (by kernel_rfl) (KC.lift (V2 := .slice (some ⟨5, 0, none⟩) r2.length r2.length) (H2 := [(5, .cells (rowC (encI .i64) r2) 0 3 1)]) [1, 2, 3, 4, 5, 0] (f46_ok m (w64 (1 + (Int.tmod (w64 a_Marks) 100))) (Int.tmod (w64 a_Step) (w64 (1 + (Int.tmod (w64 a_Marks) 100)))) (w64 (1 + (Int.tmod (w64 a_Turns) r1))) r2 r2_h) rfl (by decide) (by decide) (by kernel_rfl) ⟨⟨_, _, rfl, rfl, .inl ⟨rfl, rowC_scal (encI_ok .i64) _⟩⟩, trivial⟩ (by rfl)) ?_
      rintro _ _ _ ⟨rfl, rfl, rfl⟩
      refine XR.conv (σ' := [(1, .int .u8 b), (5, .pointer (some ⟨4, 0, none⟩)), (22, .slice (some ⟨5, 0, none⟩) r2.length r2.length)]) (h' := [(5, .cells (rowC (encI .i64) r2) 0 3 1), (4, .cells [.int .i64 (w64 (1 + (Int.tmod (w64 a_Marks) 100))), .int .i64 (Int.tmod (w64 a_Step) (w64 (1 + (Int.tmod (w64 a_Marks) 100)))), .int .i64 (w64 (1 + (Int.tmod (w64 a_Turns) r1)))] 0 23 0), (3, .cells [.int .i64 (w64 (1 + (Int.tmod (w64 a_Marks) 100))), .int .i64 (Int.tmod (w64 a_Step) (w64 (1 + (Int.tmod (w64 a_Marks) 100)))), .int .i64 (w64 (1 + (Int.tmod (w64 a_Turns) r1)))] 0 23 0), (2, .cells [.int .i64 (w64 (1 + (Int.tmod (w64 a_Marks) 100))), .int .i64 (Int.tmod (w64 a_Step) (w64 (1 + (Int.tmod (w64 a_Marks) 100)))), .int .i64 (w64 (1 + (Int.tmod (w64 a_Turns) r1)))] 0 23 0), (1, .cells [.int .u8 a_Marks, .int .u8 a_Step, .int .u8 a_Turns] 0 52 0), (0, .cells [.int .u8 a_Marks, .int .u8 a_Step, .int .u8 a_Turns] 0 52 0)]) (c' := 6) ?_ (by kernel_rfl)
      refine XR.run E0_ok 1 1 [1, 5, 6] rfl (σ' := [(1, .int .u8 b), (5, .pointer (some ⟨4, 0, none⟩)), (6, .slice (some ⟨5, 0, none⟩) r2.length r2.length)]) (h' := [(5, .cells (rowC (encI .i64) r2) 0 3 1), (4, .cells [.int .i64 (w64 (1 + (Int.tmod (w64 a_Marks) 100))), .int .i64 (Int.tmod (w64 a_Step) (w64 (1 + (Int.tmod (w64 a_Marks) 100)))), .int .i64 (w64 (1 + (Int.tmod (w64 a_Turns) r1)))] 0 23 0), (3, .cells [.int .i64 (w64 (1 + (Int.tmod (w64 a_Marks) 100))), .int .i64 (Int.tmod (w64 a_Step) (w64 (1 + (Int.tmod (w64 a_Marks) 100)))), .int .i64 (w64 (1 + (Int.tmod (w64 a_Turns) r1)))] 0 23 0), (2, .cells [.int .i64 (w64 (1 + (Int.tmod (w64 a_Marks) 100))), .int .i64 (Int.tmod (w64 a_Step) (w64 (1 + (Int.tmod (w64 a_Marks) 100)))), .int .i64 (w64 (1 + (Int.tmod (w64 a_Turns) r1)))] 0 23 0), (1, .cells [.int .u8 a_Marks, .int .u8 a_Step, .int .u8 a_Turns] 0 52 0), (0, .cells [.int .u8 a_Marks, .int .u8 a_Step, .int .u8 a_Turns] 0 52 0)]) (c' := 6) (by kernel_rfl) ?_
      refine XR.done (by kernel_rfl) ?_
      show XQ _ _ _ _ _ _ _ _
      refine XQ.seq E0_ok (by kernel_rfl) ?_
      refine XQ.region (by kernel_rfl) ?_
      refine XR.run E0_ok 1 1 [1, 5, 6, 24] rfl (σ' := [(1, .int .u8 b), (5, .pointer (some ⟨4, 0, none⟩)), (6, .slice (some ⟨5, 0, none⟩) r2.length r2.length), (24, .agg #[.int .i64 (w64 (1 + (Int.tmod (w64 a_Marks) 100))), .int .i64 (Int.tmod (w64 a_Step) (w64 (1 + (Int.tmod (w64 a_Marks) 100)))), .int .i64 (w64 (1 + (Int.tmod (w64 a_Turns) r1)))])]) (h' := [(5, .cells (rowC (encI .i64) r2) 0 3 1), (4, .cells [.int .i64 (w64 (1 + (Int.tmod (w64 a_Marks) 100))), .int .i64 (Int.tmod (w64 a_Step) (w64 (1 + (Int.tmod (w64 a_Marks) 100)))), .int .i64 (w64 (1 + (Int.tmod (w64 a_Turns) r1)))] 0 23 0), (3, .cells [.int .i64 (w64 (1 + (Int.tmod (w64 a_Marks) 100))), .int .i64 (Int.tmod (w64 a_Step) (w64 (1 + (Int.tmod (w64 a_Marks) 100)))), .int .i64 (w64 (1 + (Int.tmod (w64 a_Turns) r1)))] 0 23 0), (2, .cells [.int .i64 (w64 (1 + (Int.tmod (w64 a_Marks) 100))), .int .i64 (Int.tmod (w64 a_Step) (w64 (1 + (Int.tmod (w64 a_Marks) 100)))), .int .i64 (w64 (1 + (Int.tmod (w64 a_Turns) r1)))] 0 23 0), (1, .cells [.int .u8 a_Marks, .int .u8 a_Step, .int .u8 a_Turns] 0 52 0), (0, .cells [.int .u8 a_Marks, .int .u8 a_Step, .int .u8 a_Turns] 0 52 0)]) (c' := 6) (by kernel_rfl) ?_
      obtain ⟨r3, r3_h, h⟩ := bS h
      refine XR.call E0_ok [1, 5, 6, 25] rfl (K := 29) (args := [.agg #[.int .i64 (w64 (1 + (Int.tmod (w64 a_Marks) 100))), .int .i64 (Int.tmod (w64 a_Step) (w64 (1 + (Int.tmod (w64 a_Marks) 100)))), .int .i64 (w64 (1 + (Int.tmod (w64 a_Turns) r1)))]]) (d := (some (path 12 25))) (by kernel_rfl) (KC.lift (V2 := .tuple #[.slice (some ⟨6, 0, none⟩) r3.1.length r3.1.length, .int .i64 r3.2]) (H2 := [(6, .cells (rowC (encI .i64) r3.1) 0 3 1)]) [1, 2, 3, 4, 5, 6, 0] (f29_ok m (w64 (1 + (Int.tmod (w64 a_Marks) 100))) (Int.tmod (w64 a_Step) (w64 (1 + (Int.tmod (w64 a_Marks) 100)))) (w64 (1 + (Int.tmod (w64 a_Turns) r1))) r3 r3_h) rfl (by decide) (by decide) (by kernel_rfl) ⟨⟨_, _, rfl, rfl, .inl ⟨rfl, rowC_scal (encI_ok .i64) _⟩⟩, trivial⟩ (by rfl)) ?_
      rintro _ _ _ ⟨rfl, rfl, rfl⟩
      refine XR.conv (σ' := [(1, .int .u8 b), (5, .pointer (some ⟨4, 0, none⟩)), (6, .slice (some ⟨5, 0, none⟩) r2.length r2.length), (25, .tuple #[.slice (some ⟨6, 0, none⟩) r3.1.length r3.1.length, .int .i64 r3.2])]) (h' := [(6, .cells (rowC (encI .i64) r3.1) 0 3 1), (5, .cells (rowC (encI .i64) r2) 0 3 1), (4, .cells [.int .i64 (w64 (1 + (Int.tmod (w64 a_Marks) 100))), .int .i64 (Int.tmod (w64 a_Step) (w64 (1 + (Int.tmod (w64 a_Marks) 100)))), .int .i64 (w64 (1 + (Int.tmod (w64 a_Turns) r1)))] 0 23 0), (3, .cells [.int .i64 (w64 (1 + (Int.tmod (w64 a_Marks) 100))), .int .i64 (Int.tmod (w64 a_Step) (w64 (1 + (Int.tmod (w64 a_Marks) 100)))), .int .i64 (w64 (1 + (Int.tmod (w64 a_Turns) r1)))] 0 23 0), (2, .cells [.int .i64 (w64 (1 + (Int.tmod (w64 a_Marks) 100))), .int .i64 (Int.tmod (w64 a_Step) (w64 (1 + (Int.tmod (w64 a_Marks) 100)))), .int .i64 (w64 (1 + (Int.tmod (w64 a_Turns) r1)))] 0 23 0), (1, .cells [.int .u8 a_Marks, .int .u8 a_Step, .int .u8 a_Turns] 0 52 0), (0, .cells [.int .u8 a_Marks, .int .u8 a_Step, .int .u8 a_Turns] 0 52 0)]) (c' := 7) ?_ (by kernel_rfl)
      refine XR.run E0_ok 1 5 [1, 5, 6, 7, 8] rfl (σ' := [(1, .int .u8 b), (5, .pointer (some ⟨4, 0, none⟩)), (6, .slice (some ⟨5, 0, none⟩) r2.length r2.length), (7, .slice (some ⟨6, 0, none⟩) r3.1.length r3.1.length), (8, .int .i64 r3.2)]) (h' := [(6, .cells (rowC (encI .i64) r3.1) 0 3 1), (5, .cells (rowC (encI .i64) r2) 0 3 1), (4, .cells [.int .i64 (w64 (1 + (Int.tmod (w64 a_Marks) 100))), .int .i64 (Int.tmod (w64 a_Step) (w64 (1 + (Int.tmod (w64 a_Marks) 100)))), .int .i64 (w64 (1 + (Int.tmod (w64 a_Turns) r1)))] 0 23 0), (3, .cells [.int .i64 (w64 (1 + (Int.tmod (w64 a_Marks) 100))), .int .i64 (Int.tmod (w64 a_Step) (w64 (1 + (Int.tmod (w64 a_Marks) 100)))), .int .i64 (w64 (1 + (Int.tmod (w64 a_Turns) r1)))] 0 23 0), (2, .cells [.int .i64 (w64 (1 + (Int.tmod (w64 a_Marks) 100))), .int .i64 (Int.tmod (w64 a_Step) (w64 (1 + (Int.tmod (w64 a_Marks) 100)))), .int .i64 (w64 (1 + (Int.tmod (w64 a_Turns) r1)))] 0 23 0), (1, .cells [.int .u8 a_Marks, .int .u8 a_Step, .int .u8 a_Turns] 0 52 0), (0, .cells [.int .u8 a_Marks, .int .u8 a_Step, .int .u8 a_Turns] 0 52 0)]) (c' := 7) (by kernel_rfl) ?_
      refine XR.done (by kernel_rfl) ?_
      show XQ _ _ _ _ _ _ _ _
      refine XQ.seq E0_ok (by kernel_rfl) ?_
      refine XQ.seq E0_ok (by kernel_rfl) ?_
      refine XQ.region (by kernel_rfl) ?_
      refine XR.run E0_ok 1 3 [1, 5, 6, 7, 30] rfl (σ' := [(1, .int .u8 b), (5, .pointer (some ⟨4, 0, none⟩)), (6, .slice (some ⟨5, 0, none⟩) r2.length r2.length), (7, .slice (some ⟨6, 0, none⟩) r3.1.length r3.1.length), (30, .bool (r3.2 != 0))]) (h' := [(6, .cells (rowC (encI .i64) r3.1) 0 3 1), (5, .cells (rowC (encI .i64) r2) 0 3 1), (4, .cells [.int .i64 (w64 (1 + (Int.tmod (w64 a_Marks) 100))), .int .i64 (Int.tmod (w64 a_Step) (w64 (1 + (Int.tmod (w64 a_Marks) 100)))), .int .i64 (w64 (1 + (Int.tmod (w64 a_Turns) r1)))] 0 23 0), (3, .cells [.int .i64 (w64 (1 + (Int.tmod (w64 a_Marks) 100))), .int .i64 (Int.tmod (w64 a_Step) (w64 (1 + (Int.tmod (w64 a_Marks) 100)))), .int .i64 (w64 (1 + (Int.tmod (w64 a_Turns) r1)))] 0 23 0), (2, .cells [.int .i64 (w64 (1 + (Int.tmod (w64 a_Marks) 100))), .int .i64 (Int.tmod (w64 a_Step) (w64 (1 + (Int.tmod (w64 a_Marks) 100)))), .int .i64 (w64 (1 + (Int.tmod (w64 a_Turns) r1)))] 0 23 0), (1, .cells [.int .u8 a_Marks, .int .u8 a_Step, .int .u8 a_Turns] 0 52 0), (0, .cells [.int .u8 a_Marks, .int .u8 a_Step, .int .u8 a_Turns] 0 52 0)]) (c' := 7) (by kernel_rfl) ?_
      cases b5 : (r3.2 != 0 : Bool) with
      | true =>
        have h := cT b5 h
        refine XR.run E0_ok 1 6 [1, 5, 6, 7, 36] rfl (σ' := [(1, .int .u8 b), (5, .pointer (some ⟨4, 0, none⟩)), (6, .slice (some ⟨5, 0, none⟩) r2.length r2.length), (7, .slice (some ⟨6, 0, none⟩) r3.1.length r3.1.length), (36, .bool true)]) (h' := [(6, .cells (rowC (encI .i64) r3.1) 0 3 1), (5, .cells (rowC (encI .i64) r2) 0 3 1), (4, .cells [.int .i64 (w64 (1 + (Int.tmod (w64 a_Marks) 100))), .int .i64 (Int.tmod (w64 a_Step) (w64 (1 + (Int.tmod (w64 a_Marks) 100)))), .int .i64 (w64 (1 + (Int.tmod (w64 a_Turns) r1)))] 0 23 0), (3, .cells [.int .i64 (w64 (1 + (Int.tmod (w64 a_Marks) 100))), .int .i64 (Int.tmod (w64 a_Step) (w64 (1 + (Int.tmod (w64 a_Marks) 100)))), .int .i64 (w64 (1 + (Int.tmod (w64 a_Turns) r1)))] 0 23 0), (2, .cells [.int .i64 (w64 (1 + (Int.tmod (w64 a_Marks) 100))), .int .i64 (Int.tmod (w64 a_Step) (w64 (1 + (Int.tmod (w64 a_Marks) 100)))), .int .i64 (w64 (1 + (Int.tmod (w64 a_Turns) r1)))] 0 23 0), (1, .cells [.int .u8 a_Marks, .int .u8 a_Step, .int .u8 a_Turns] 0 52 0), (0, .cells [.int .u8 a_Marks, .int .u8 a_Step, .int .u8 a_Turns] 0 52 0)]) (c' := 7) (by kernel_rfl) ?_
        refine XR.done (by kernel_rfl) ?_
        show XQ _ _ _ _ _ _ _ _
        refine XQ.cond (s := (.tmp 36)) (b := true) (by kernel_rfl) (by kernel_rfl) (fun _ => ?_) (fun q => by cases q)
        refine XQ.seq E0_ok (by kernel_rfl) ?_
        refine XQ.region (by kernel_rfl) ?_
        refine XR.run E0_ok 1 1 [4] rfl (σ' := [(4, .bool false)]) (h' := [(6, .cells (rowC (encI .i64) r3.1) 0 3 1), (5, .cells (rowC (encI .i64) r2) 0 3 1), (4, .cells [.int .i64 (w64 (1 + (Int.tmod (w64 a_Marks) 100))), .int .i64 (Int.tmod (w64 a_Step) (w64 (1 + (Int.tmod (w64 a_Marks) 100)))), .int .i64 (w64 (1 + (Int.tmod (w64 a_Turns) r1)))] 0 23 0), (3, .cells [.int .i64 (w64 (1 + (Int.tmod (w64 a_Marks) 100))), .int .i64 (Int.tmod (w64 a_Step) (w64 (1 + (Int.tmod (w64 a_Marks) 100)))), .int .i64 (w64 (1 + (Int.tmod (w64 a_Turns) r1)))] 0 23 0), (2, .cells [.int .i64 (w64 (1 + (Int.tmod (w64 a_Marks) 100))), .int .i64 (Int.tmod (w64 a_Step) (w64 (1 + (Int.tmod (w64 a_Marks) 100)))), .int .i64 (w64 (1 + (Int.tmod (w64 a_Turns) r1)))] 0 23 0), (1, .cells [.int .u8 a_Marks, .int .u8 a_Step, .int .u8 a_Turns] 0 52 0), (0, .cells [.int .u8 a_Marks, .int .u8 a_Step, .int .u8 a_Turns] 0 52 0)]) (c' := 7) (by kernel_rfl) ?_
        refine XR.done (by kernel_rfl) ?_
        show XQ _ _ _ _ _ _ _ _
        refine XQ.ret (by kernel_rfl) ?_
        have h := Option.some.inj h
        subst h
        exact ⟨fun i q => (by cases q), .bool false, (by kernel_rfl), rfl⟩
      | false =>
        have h := cF b5 h
        refine XR.run E0_ok 1 6 [1, 5, 6, 7, 36] rfl (σ' := [(1, .int .u8 b), (5, .pointer (some ⟨4, 0, none⟩)), (6, .slice (some ⟨5, 0, none⟩) r2.length r2.length), (7, .slice (some ⟨6, 0, none⟩) r3.1.length r3.1.length), (36, .bool (((r3.1.length : Nat) : Int) != ((r2.length : Nat) : Int)))]) (h' := [(6, .cells (rowC (encI .i64) r3.1) 0 3 1), (5, .cells (rowC (encI .i64) r2) 0 3 1), (4, .cells [.int .i64 (w64 (1 + (Int.tmod (w64 a_Marks) 100))), .int .i64 (Int.tmod (w64 a_Step) (w64 (1 + (Int.tmod (w64 a_Marks) 100)))), .int .i64 (w64 (1 + (Int.tmod (w64 a_Turns) r1)))] 0 23 0), (3, .cells [.int .i64 (w64 (1 + (Int.tmod (w64 a_Marks) 100))), .int .i64 (Int.tmod (w64 a_Step) (w64 (1 + (Int.tmod (w64 a_Marks) 100)))), .int .i64 (w64 (1 + (Int.tmod (w64 a_Turns) r1)))] 0 23 0), (2, .cells [.int .i64 (w64 (1 + (Int.tmod (w64 a_Marks) 100))), .int .i64 (Int.tmod (w64 a_Step) (w64 (1 + (Int.tmod (w64 a_Marks) 100)))), .int .i64 (w64 (1 + (Int.tmod (w64 a_Turns) r1)))] 0 23 0), (1, .cells [.int .u8 a_Marks, .int .u8 a_Step, .int .u8 a_Turns] 0 52 0), (0, .cells [.int .u8 a_Marks, .int .u8 a_Step, .int .u8 a_Turns] 0 52 0)]) (c' := 7) (by kernel_rfl) ?_
        refine XR.done (by kernel_rfl) ?_
        show XQ _ _ _ _ _ _ _ _
        cases b6 : (((r3.1.length : Nat) : Int) != ((r2.length : Nat) : Int) : Bool) with
        | true =>
          have h := cT b6 h
          refine XQ.cond (s := (.tmp 36)) (b := true) (by kernel_rfl) (by kernel_rfl) (fun _ => ?_) (fun q => by cases q)
          refine XQ.seq E0_ok (by kernel_rfl) ?_
          refine XQ.region (by kernel_rfl) ?_
          refine XR.run E0_ok 1 1 [4] rfl (σ' := [(4, .bool false)]) (h' := [(6, .cells (rowC (encI .i64) r3.1) 0 3 1), (5, .cells (rowC (encI .i64) r2) 0 3 1), (4, .cells [.int .i64 (w64 (1 + (Int.tmod (w64 a_Marks) 100))), .int .i64 (Int.tmod (w64 a_Step) (w64 (1 + (Int.tmod (w64 a_Marks) 100)))), .int .i64 (w64 (1 + (Int.tmod (w64 a_Turns) r1)))] 0 23 0), (3, .cells [.int .i64 (w64 (1 + (Int.tmod (w64 a_Marks) 100))), .int .i64 (Int.tmod (w64 a_Step) (w64 (1 + (Int.tmod (w64 a_Marks) 100)))), .int .i64 (w64 (1 + (Int.tmod (w64 a_Turns) r1)))] 0 23 0), (2, .cells [.int .i64 (w64 (1 + (Int.tmod (w64 a_Marks) 100))), .int .i64 (Int.tmod (w64 a_Step) (w64 (1 + (Int.tmod (w64 a_Marks) 100)))), .int .i64 (w64 (1 + (Int.tmod (w64 a_Turns) r1)))] 0 23 0), (1, .cells [.int .u8 a_Marks, .int .u8 a_Step, .int .u8 a_Turns] 0 52 0), (0, .cells [.int .u8 a_Marks, .int .u8 a_Step, .int .u8 a_Turns] 0 52 0)]) (c' := 7) (by kernel_rfl) ?_
          refine XR.done (by kernel_rfl) ?_
          show XQ _ _ _ _ _ _ _ _
          refine XQ.ret (by kernel_rfl) ?_
          have h := Option.some.inj h
          subst h
          exact ⟨fun i q => (by cases q), .bool false, (by kernel_rfl), rfl⟩
        | false =>
          have h := cF b6 h
          refine XQ.cond (s := (.tmp 36)) (b := false) (by kernel_rfl) (by kernel_rfl) (fun q => by cases q) (fun _ => ?_)
          refine XQ.skip (by kernel_rfl) ?_
          show XQ _ _ _ _ _ _ _ _
          refine XQ.seq E0_ok (by kernel_rfl) ?_
          refine XQ.seq E0_ok (by kernel_rfl) ?_
          refine XQ.region (by kernel_rfl) ?_
          refine XR.run E0_ok 1 3 [1, 5, 6, 7, 37, 38, 39] rfl (σ' := [(1, .int .u8 b), (5, .pointer (some ⟨4, 0, none⟩)), (6, .slice (some ⟨5, 0, none⟩) r2.length r2.length), (7, .slice (some ⟨6, 0, none⟩) r3.1.length r3.1.length), (37, .slice (some ⟨6, 0, none⟩) r3.1.length r3.1.length), (38, .int .i64 ((r3.1.length : Nat) : Int)), (39, .int .i64 0)]) (h' := [(6, .cells (rowC (encI .i64) r3.1) 0 3 1), (5, .cells (rowC (encI .i64) r2) 0 3 1), (4, .cells [.int .i64 (w64 (1 + (Int.tmod (w64 a_Marks) 100))), .int .i64 (Int.tmod (w64 a_Step) (w64 (1 + (Int.tmod (w64 a_Marks) 100)))), .int .i64 (w64 (1 + (Int.tmod (w64 a_Turns) r1)))] 0 23 0), (3, .cells [.int .i64 (w64 (1 + (Int.tmod (w64 a_Marks) 100))), .int .i64 (Int.tmod (w64 a_Step) (w64 (1 + (Int.tmod (w64 a_Marks) 100)))), .int .i64 (w64 (1 + (Int.tmod (w64 a_Turns) r1)))] 0 23 0), (2, .cells [.int .i64 (w64 (1 + (Int.tmod (w64 a_Marks) 100))), .int .i64 (Int.tmod (w64 a_Step) (w64 (1 + (Int.tmod (w64 a_Marks) 100)))), .int .i64 (w64 (1 + (Int.tmod (w64 a_Turns) r1)))] 0 23 0), (1, .cells [.int .u8 a_Marks, .int .u8 a_Step, .int .u8 a_Turns] 0 52 0), (0, .cells [.int .u8 a_Marks, .int .u8 a_Step, .int .u8 a_Turns] 0 52 0)]) (c' := 7) (by kernel_rfl) ?_
          refine XR.done (by kernel_rfl) ?_
          show XQ _ _ _ _ _ _ _ _
          refine XQ.block (id := 0) (by kernel_rfl) ?_
          refine XQ.loop m (by kernel_rfl) ?_
          obtain ⟨o1, o1_h, h⟩ := bS h
          refine XL.ren (σ' := [(1, .int .u8 b), (5, .pointer (some ⟨0, 0, none⟩)), (6, .slice (some ⟨1, 0, none⟩) r2.length r2.length), (7, .slice (some ⟨2, 0, none⟩) r3.1.length r3.1.length), (37, .slice (some ⟨2, 0, none⟩) r3.1.length r3.1.length), (38, .int .i64 ((r3.1.length : Nat) : Int)), (39, .int .i64 0)]) (h' := [(2, .cells (rowC (encI .i64) r3.1) 0 3 1), (1, .cells (rowC (encI .i64) r2) 0 3 1), (0, .cells [.int .i64 (w64 (1 + (Int.tmod (w64 a_Marks) 100))), .int .i64 (Int.tmod (w64 a_Step) (w64 (1 + (Int.tmod (w64 a_Marks) 100)))), .int .i64 (w64 (1 + (Int.tmod (w64 a_Turns) r1)))] 0 23 0)]) (c' := 3) [4, 5, 6] (by decide) rfl ⟨by kernel_rfl, by kernel_rfl, by kernel_rfl, by kernel_rfl, by kernel_rfl, by kernel_rfl, by kernel_rfl, trivial⟩ ⟨⟨_, _, rfl, rfl, .inl ⟨rfl, rowC_scal (encI_ok .i64) _⟩⟩, ⟨_, _, rfl, rfl, .inl ⟨rfl, rowC_scal (encI_ok .i64) _⟩⟩, ⟨_, _, rfl, rfl, .inr ⟨_, _, _, _, rfl, rfl⟩⟩, trivial⟩ rfl ?_
          cases o1 with
          | r =>
            dsimp only at h
            refine XL.conv (f13_1_ok m m b ((r3.1.length : Nat) : Int) 0 (w64 (1 + (Int.tmod (w64 a_Marks) 100))) (Int.tmod (w64 a_Step) (w64 (1 + (Int.tmod (w64 a_Marks) 100)))) (w64 (1 + (Int.tmod (w64 a_Turns) r1))) r2 r3.1 (.r) o1_h _ ?_) (by first | rfl | simp)
            have h := Option.some.inj h
            subst h
            exact ⟨fun i q => (by cases q), .bool false, (by kernel_rfl), rfl⟩
          | x0 xh0_0_x01 xh0_1_x01 xh0_2_x01 lh1_x01 =>
            dsimp only at h
            refine XL.conv (f13_1_ok m m b ((r3.1.length : Nat) : Int) 0 (w64 (1 + (Int.tmod (w64 a_Marks) 100))) (Int.tmod (w64 a_Step) (w64 (1 + (Int.tmod (w64 a_Marks) 100)))) (w64 (1 + (Int.tmod (w64 a_Turns) r1))) r2 r3.1 (.x0 xh0_0_x01 xh0_1_x01 xh0_2_x01 lh1_x01) o1_h _ ?_) (by first | rfl | simp)
            show XQ _ _ _ _ _ _ _ _
            refine XQ.seq E0_ok (by kernel_rfl) ?_
            refine XQ.region (by kernel_rfl) ?_
            refine XR.run E0_ok 1 4 [5, 6, 89, 91] rfl (σ' := [(5, .pointer (some ⟨0, 0, none⟩)), (6, .slice (some ⟨1, 0, none⟩) lh1_x01.length lh1_x01.length), (89, .int .i64 (w64 b)), (91, .int .i64 xh0_0_x01)]) (h' := [(1, .cells (rowC (encI .i64) lh1_x01) 0 3 1), (0, .cells [.int .i64 xh0_0_x01, .int .i64 xh0_1_x01, .int .i64 xh0_2_x01] 0 23 0)]) (c' := 2) (by kernel_rfl) ?_
            cases b8 : (xh0_0_x01 != 0 : Bool) with
            | false => cases (cF b8 h)
            | true =>
              have h := cT b8 h
              have e9 : insV (headI ((gsOf E0 134 (opsOf (lft (rgt (rgt (rgt (rgt (rgt (rgt f13_C13))))))))).drop 4) (trS 134 [(5, .pointer (some ⟨0, 0, none⟩)), (6, .slice (some ⟨1, 0, none⟩) lh1_x01.length lh1_x01.length), (89, .int .i64 (w64 b)), (91, .int .i64 xh0_0_x01)])) (trS 134 [(5, .pointer (some ⟨0, 0, none⟩)), (6, .slice (some ⟨1, 0, none⟩) lh1_x01.length lh1_x01.length), (89, .int .i64 (w64 b)), (91, .int .i64 xh0_0_x01)]) [(1, .cells (rowC (encI .i64) lh1_x01) 0 3 1), (0, .cells [.int .i64 xh0_0_x01, .int .i64 xh0_1_x01, .int .i64 xh0_2_x01] 0 23 0)] = (match (xh0_0_x01 != 0 : Bool) with | true => some (.int .i64 (Int.tmod (w64 b) xh0_0_x01)) | false => none) := by kernel_rfl
              refine XR.rd E0_ok [5, 6, 92] rfl (e9.trans (by rw [b8])) (σ' := [(5, .pointer (some ⟨0, 0, none⟩)), (6, .slice (some ⟨1, 0, none⟩) lh1_x01.length lh1_x01.length), (92, .int .i64 (Int.tmod (w64 b) xh0_0_x01))]) (by kernel_rfl) ?_
              refine XR.run E0_ok 1 1 [5, 6, 13] rfl (σ' := [(5, .pointer (some ⟨0, 0, none⟩)), (6, .slice (some ⟨1, 0, none⟩) lh1_x01.length lh1_x01.length), (13, .int .i64 (Int.tmod (w64 b) xh0_0_x01))]) (h' := [(1, .cells (rowC (encI .i64) lh1_x01) 0 3 1), (0, .cells [.int .i64 xh0_0_x01, .int .i64 xh0_1_x01, .int .i64 xh0_2_x01] 0 23 0)]) (c' := 2) (by kernel_rfl) ?_
              refine XR.done (by kernel_rfl) ?_
              show XQ _ _ _ _ _ _ _ _
              refine XQ.seq E0_ok (by kernel_rfl) ?_
              refine XQ.region (by kernel_rfl) ?_
              refine XR.run E0_ok 1 2 [5, 6, 13, 94, 95] rfl (σ' := [(5, .pointer (some ⟨0, 0, none⟩)), (6, .slice (some ⟨1, 0, none⟩) lh1_x01.length lh1_x01.length), (13, .int .i64 (Int.tmod (w64 b) xh0_0_x01)), (94, .agg #[.int .i64 xh0_0_x01, .int .i64 xh0_1_x01, .int .i64 xh0_2_x01]), (95, .int .i64 (Int.tmod (w64 b) xh0_0_x01))]) (h' := [(1, .cells (rowC (encI .i64) lh1_x01) 0 3 1), (0, .cells [.int .i64 xh0_0_x01, .int .i64 xh0_1_x01, .int .i64 xh0_2_x01] 0 23 0)]) (c' := 2) (by kernel_rfl) ?_
              obtain ⟨r9, r9_h, h⟩ := bS h
              refine XR.call E0_ok [5, 6, 13, 96] rfl (K := 18) (args := [.agg #[.int .i64 xh0_0_x01, .int .i64 xh0_1_x01, .int .i64 xh0_2_x01], .int .i64 (Int.tmod (w64 b) xh0_0_x01)]) (d := (some (path 12 96))) (by kernel_rfl) (KC.of_calls E0_ok (F := Proofs.Try.f18) (v := .tuple #[.int .i64 r9.1, .int .i64 r9.2]) (by kernel_rfl) rfl rfl (fun w hI => f18_ok m xh0_0_x01 xh0_1_x01 xh0_2_x01 (Int.tmod (w64 b) xh0_0_x01) r9 r9_h w hI)) ?_
              rintro _ _ _ ⟨rfl, rfl, rfl⟩
              refine XR.conv (σ' := [(5, .pointer (some ⟨0, 0, none⟩)), (6, .slice (some ⟨1, 0, none⟩) lh1_x01.length lh1_x01.length), (13, .int .i64 (Int.tmod (w64 b) xh0_0_x01)), (96, .tuple #[.int .i64 r9.1, .int .i64 r9.2])]) (h' := [(1, .cells (rowC (encI .i64) lh1_x01) 0 3 1), (0, .cells [.int .i64 xh0_0_x01, .int .i64 xh0_1_x01, .int .i64 xh0_2_x01] 0 23 0)]) (c' := 2) ?_ (by kernel_rfl)
              refine XR.run E0_ok 1 5 [5, 6, 13, 14, 15] rfl (σ' := [(5, .pointer (some ⟨0, 0, none⟩)), (6, .slice (some ⟨1, 0, none⟩) lh1_x01.length lh1_x01.length), (13, .int .i64 (Int.tmod (w64 b) xh0_0_x01)), (14, .int .i64 r9.1), (15, .int .i64 r9.2)]) (h' := [(1, .cells (rowC (encI .i64) lh1_x01) 0 3 1), (0, .cells [.int .i64 xh0_0_x01, .int .i64 xh0_1_x01, .int .i64 xh0_2_x01] 0 23 0)]) (c' := 2) (by kernel_rfl) ?_
              refine XR.done (by kernel_rfl) ?_
              show XQ _ _ _ _ _ _ _ _
              refine XQ.seq E0_ok (by kernel_rfl) ?_
              refine XQ.region (by kernel_rfl) ?_
              refine XR.run E0_ok 1 2 [5, 14, 15, 99, 100] rfl (σ' := [(5, .pointer (some ⟨0, 0, none⟩)), (14, .int .i64 r9.1), (15, .int .i64 r9.2), (99, .slice (some ⟨1, 0, none⟩) lh1_x01.length lh1_x01.length), (100, .int .i64 (Int.tmod (w64 b) xh0_0_x01))]) (h' := [(1, .cells (rowC (encI .i64) lh1_x01) 0 3 1), (0, .cells [.int .i64 xh0_0_x01, .int .i64 xh0_1_x01, .int .i64 xh0_2_x01] 0 23 0)]) (c' := 2) (by kernel_rfl) ?_
              obtain ⟨r10, r10_h, h⟩ := bS h
              refine XR.call E0_ok [5, 14, 15, 101] rfl (K := 54) (args := [.slice (some ⟨1, 0, none⟩) lh1_x01.length lh1_x01.length, .int .i64 (Int.tmod (w64 b) xh0_0_x01)]) (d := (some (path 12 101))) (by kernel_rfl) (KQ.call (KC.quiet E0_ok (args0 := [.slice (some ⟨0, 0, none⟩) lh1_x01.length lh1_x01.length, .int .i64 (Int.tmod (w64 b) xh0_0_x01)]) (h0 := [(0, .cells (rowC (encI .i64) lh1_x01) (0 + ((rowC (encI .i64) lh1_x01).length + 1)) 3 1)]) (n := 1) (V := .int .i64 r10) [1] (f54_ok m (0 + ((rowC (encI .i64) lh1_x01).length + 1)) lh1_x01 (Int.tmod (w64 b) xh0_0_x01) r10 r10_h) rfl (by rfl) (by decide) rfl (by kernel_rfl) ⟨⟨_, _, rfl, rfl, .inl ⟨rfl, rowC_scal (encI_ok .i64) _⟩⟩, trivial⟩) rfl) ?_
              rintro _ _ _ ⟨rfl, rfl, rfl⟩
              refine XR.conv (σ' := [(5, .pointer (some ⟨0, 0, none⟩)), (14, .int .i64 r9.1), (15, .int .i64 r9.2), (101, .int .i64 r10)]) (h' := [(1, .cells (rowC (encI .i64) lh1_x01) 0 3 1), (0, .cells [.int .i64 xh0_0_x01, .int .i64 xh0_1_x01, .int .i64 xh0_2_x01] 0 23 0)]) (c' := 2) ?_ (by kernel_rfl)
              refine XR.run E0_ok 1 1 [5, 14, 15, 16] rfl (σ' := [(5, .pointer (some ⟨0, 0, none⟩)), (14, .int .i64 r9.1), (15, .int .i64 r9.2), (16, .int .i64 r10)]) (h' := [(1, .cells (rowC (encI .i64) lh1_x01) 0 3 1), (0, .cells [.int .i64 xh0_0_x01, .int .i64 xh0_1_x01, .int .i64 xh0_2_x01] 0 23 0)]) (c' := 2) (by kernel_rfl) ?_
              refine XR.done (by kernel_rfl) ?_
              show XQ _ _ _ _ _ _ _ _
              refine XQ.seq E0_ok (by kernel_rfl) ?_
              refine XQ.seq E0_ok (by kernel_rfl) ?_
              refine XQ.region (by kernel_rfl) ?_
              refine XR.run E0_ok 1 2 [5, 14, 15, 16, 103] rfl (σ' := [(5, .pointer (some ⟨0, 0, none⟩)), (14, .int .i64 r9.1), (15, .int .i64 r9.2), (16, .int .i64 r10), (103, .bool (decide (r10 < 0)))]) (h' := [(1, .cells (rowC (encI .i64) lh1_x01) 0 3 1), (0, .cells [.int .i64 xh0_0_x01, .int .i64 xh0_1_x01, .int .i64 xh0_2_x01] 0 23 0)]) (c' := 2) (by kernel_rfl) ?_
              refine XR.done (by kernel_rfl) ?_
              show XQ _ _ _ _ _ _ _ _
              cases b10 : (decide (r10 < 0) : Bool) with
              | true =>
                have h := cT b10 h
                refine XQ.cond (s := (.tmp 103)) (b := true) (by kernel_rfl) (by kernel_rfl) (fun _ => ?_) (fun q => by cases q)
                refine XQ.seq E0_ok (by kernel_rfl) ?_
                refine XQ.region (by kernel_rfl) ?_
                refine XR.run E0_ok 1 3 [14, 106] rfl (σ' := [(14, .int .i64 r9.1), (106, .bool (r9.2 == 12))]) (h' := [(1, .cells (rowC (encI .i64) lh1_x01) 0 3 1), (0, .cells [.int .i64 xh0_0_x01, .int .i64 xh0_1_x01, .int .i64 xh0_2_x01] 0 23 0)]) (c' := 2) (by kernel_rfl) ?_
                cases b11 : (r9.2 == 12 : Bool) with
                | true =>
                  have h := cT b11 h
                  refine XR.run E0_ok 1 4 [110] rfl (σ' := [(110, .bool (r9.1 == 0))]) (h' := [(1, .cells (rowC (encI .i64) lh1_x01) 0 3 1), (0, .cells [.int .i64 xh0_0_x01, .int .i64 xh0_1_x01, .int .i64 xh0_2_x01] 0 23 0)]) (c' := 2) (by kernel_rfl) ?_
                  cases b12 : (r9.1 == 0 : Bool) with
                  | true =>
                    have h := cT b12 h
                    refine XR.call E0_ok [110, 111] rfl (K := 28) (args := []) (d := (some (path 12 111))) (by kernel_rfl) (KC.of_calls E0_ok (F := Proofs.Try.f28) (v := .bool true) (by kernel_rfl) rfl rfl (works_ok)) ?_
                    rintro _ _ _ ⟨rfl, rfl, rfl⟩
                    refine XR.conv (σ' := [(110, .bool true), (111, .bool true)]) (h' := [(1, .cells (rowC (encI .i64) lh1_x01) 0 3 1), (0, .cells [.int .i64 xh0_0_x01, .int .i64 xh0_1_x01, .int .i64 xh0_2_x01] 0 23 0)]) (c' := 2) ?_ (by kernel_rfl)
                    refine XR.run E0_ok 1 2 [4] rfl (σ' := [(4, .bool true)]) (h' := [(1, .cells (rowC (encI .i64) lh1_x01) 0 3 1), (0, .cells [.int .i64 xh0_0_x01, .int .i64 xh0_1_x01, .int .i64 xh0_2_x01] 0 23 0)]) (c' := 2) (by kernel_rfl) ?_
                    refine XR.done (by kernel_rfl) ?_
                    show XQ _ _ _ _ _ _ _ _
                    refine XQ.ret (by kernel_rfl) ?_
                    have h := Option.some.inj h
                    subst h
                    exact ⟨fun i q => (by cases q), .bool true, (by kernel_rfl), rfl⟩
                  | false =>
                    have h := cF b12 h
                    refine XR.run E0_ok 1 3 [4] rfl (σ' := [(4, .bool false)]) (h' := [(1, .cells (rowC (encI .i64) lh1_x01) 0 3 1), (0, .cells [.int .i64 xh0_0_x01, .int .i64 xh0_1_x01, .int .i64 xh0_2_x01] 0 23 0)]) (c' := 2) (by kernel_rfl) ?_
                    refine XR.done (by kernel_rfl) ?_
                    show XQ _ _ _ _ _ _ _ _
                    refine XQ.ret (by kernel_rfl) ?_
                    have h := Option.some.inj h
                    subst h
                    exact ⟨fun i q => (by cases q), .bool false, (by kernel_rfl), rfl⟩
                | false =>
                  have h := cF b11 h
                  refine XR.run E0_ok 1 7 [4] rfl (σ' := [(4, .bool false)]) (h' := [(1, .cells (rowC (encI .i64) lh1_x01) 0 3 1), (0, .cells [.int .i64 xh0_0_x01, .int .i64 xh0_1_x01, .int .i64 xh0_2_x01] 0 23 0)]) (c' := 2) (by kernel_rfl) ?_
                  refine XR.done (by kernel_rfl) ?_
                  show XQ _ _ _ _ _ _ _ _
                  refine XQ.ret (by kernel_rfl) ?_
                  have h := Option.some.inj h
                  subst h
                  exact ⟨fun i q => (by cases q), .bool false, (by kernel_rfl), rfl⟩
              | false =>
                have h := cF b10 h
                refine XQ.cond (s := (.tmp 103)) (b := false) (by kernel_rfl) (by kernel_rfl) (fun q => by cases q) (fun _ => ?_)
                refine XQ.skip (by kernel_rfl) ?_
                show XQ _ _ _ _ _ _ _ _
                refine XQ.seq E0_ok (by kernel_rfl) ?_
                refine XQ.region (by kernel_rfl) ?_
                refine XR.run E0_ok 1 3 [14, 15, 16, 114, 116] rfl (σ' := [(14, .int .i64 r9.1), (15, .int .i64 r9.2), (16, .int .i64 r10), (114, .agg #[.int .i64 xh0_0_x01, .int .i64 xh0_1_x01, .int .i64 xh0_2_x01]), (116, .int .i64 xh0_2_x01)]) (h' := [(1, .cells (rowC (encI .i64) lh1_x01) 0 3 1), (0, .cells [.int .i64 xh0_0_x01, .int .i64 xh0_1_x01, .int .i64 xh0_2_x01] 0 23 0)]) (c' := 2) (by kernel_rfl) ?_
                obtain ⟨r11, r11_h, h⟩ := bS h
                refine XR.call E0_ok [14, 15, 16, 117] rfl (K := 16) (args := [.agg #[.int .i64 xh0_0_x01, .int .i64 xh0_1_x01, .int .i64 xh0_2_x01], .int .i64 xh0_2_x01]) (d := (some (path 12 117))) (by kernel_rfl) (KC.of_calls E0_ok (F := Proofs.Try.f16) (v := .tuple #[.int .i64 r11.1, .int .i64 r11.2]) (by kernel_rfl) rfl rfl (fun w hI => f16_ok m xh0_0_x01 xh0_1_x01 xh0_2_x01 xh0_2_x01 r11 r11_h w hI)) ?_
                rintro _ _ _ ⟨rfl, rfl, rfl⟩
                refine XR.conv (σ' := [(14, .int .i64 r9.1), (15, .int .i64 r9.2), (16, .int .i64 r10), (117, .tuple #[.int .i64 r11.1, .int .i64 r11.2])]) (h' := [(1, .cells (rowC (encI .i64) lh1_x01) 0 3 1), (0, .cells [.int .i64 xh0_0_x01, .int .i64 xh0_1_x01, .int .i64 xh0_2_x01] 0 23 0)]) (c' := 2) ?_ (by kernel_rfl)
                refine XR.run E0_ok 1 5 [14, 15, 16, 18] rfl (σ' := [(14, .int .i64 r9.1), (15, .int .i64 r9.2), (16, .int .i64 r10), (18, .int .i64 r11.2)]) (h' := [(1, .cells (rowC (encI .i64) lh1_x01) 0 3 1), (0, .cells [.int .i64 xh0_0_x01, .int .i64 xh0_1_x01, .int .i64 xh0_2_x01] 0 23 0)]) (c' := 2) (by kernel_rfl) ?_
                refine XR.done (by kernel_rfl) ?_
                show XQ _ _ _ _ _ _ _ _
                refine XQ.seq E0_ok (by kernel_rfl) ?_
                refine XQ.region (by kernel_rfl) ?_
                refine XR.run E0_ok 1 3 [14, 16, 18, 122] rfl (σ' := [(14, .int .i64 r9.1), (16, .int .i64 r10), (18, .int .i64 r11.2), (122, .bool (r9.2 == 0))]) (h' := [(1, .cells (rowC (encI .i64) lh1_x01) 0 3 1), (0, .cells [.int .i64 xh0_0_x01, .int .i64 xh0_1_x01, .int .i64 xh0_2_x01] 0 23 0)]) (c' := 2) (by kernel_rfl) ?_
                cases b13 : (r9.2 == 0 : Bool) with
                | true =>
                  have h := cT b13 h
                  refine XR.run E0_ok 1 5 [18, 127] rfl (σ' := [(18, .int .i64 r11.2), (127, .bool (r9.1 == r10))]) (h' := [(1, .cells (rowC (encI .i64) lh1_x01) 0 3 1), (0, .cells [.int .i64 xh0_0_x01, .int .i64 xh0_1_x01, .int .i64 xh0_2_x01] 0 23 0)]) (c' := 2) (by kernel_rfl) ?_
                  cases b14 : (r9.1 == r10 : Bool) with
                  | true =>
                    have h := cT b14 h
                    refine XR.run E0_ok 1 4 [131] rfl (σ' := [(131, .bool (r11.2 == 2))]) (h' := [(1, .cells (rowC (encI .i64) lh1_x01) 0 3 1), (0, .cells [.int .i64 xh0_0_x01, .int .i64 xh0_1_x01, .int .i64 xh0_2_x01] 0 23 0)]) (c' := 2) (by kernel_rfl) ?_
                    cases b15 : (r11.2 == 2 : Bool) with
                    | true =>
                      have h := cT b15 h
                      refine XR.call E0_ok [131, 132] rfl (K := 28) (args := []) (d := (some (path 12 132))) (by kernel_rfl) (KC.of_calls E0_ok (F := Proofs.Try.f28) (v := .bool true) (by kernel_rfl) rfl rfl (works_ok)) ?_
                      rintro _ _ _ ⟨rfl, rfl, rfl⟩
                      refine XR.conv (σ' := [(131, .bool true), (132, .bool true)]) (h' := [(1, .cells (rowC (encI .i64) lh1_x01) 0 3 1), (0, .cells [.int .i64 xh0_0_x01, .int .i64 xh0_1_x01, .int .i64 xh0_2_x01] 0 23 0)]) (c' := 2) ?_ (by kernel_rfl)
                      refine XR.run E0_ok 1 2 [4] rfl (σ' := [(4, .bool true)]) (h' := [(1, .cells (rowC (encI .i64) lh1_x01) 0 3 1), (0, .cells [.int .i64 xh0_0_x01, .int .i64 xh0_1_x01, .int .i64 xh0_2_x01] 0 23 0)]) (c' := 2) (by kernel_rfl) ?_
                      refine XR.done (by kernel_rfl) ?_
                      show XQ _ _ _ _ _ _ _ _
                      refine XQ.ret (by kernel_rfl) ?_
                      have h := Option.some.inj h
                      subst h
                      exact ⟨fun i q => (by cases q), .bool true, (by kernel_rfl), rfl⟩
                    | false =>
                      have h := cF b15 h
                      refine XR.run E0_ok 1 3 [4] rfl (σ' := [(4, .bool false)]) (h' := [(1, .cells (rowC (encI .i64) lh1_x01) 0 3 1), (0, .cells [.int .i64 xh0_0_x01, .int .i64 xh0_1_x01, .int .i64 xh0_2_x01] 0 23 0)]) (c' := 2) (by kernel_rfl) ?_
                      refine XR.done (by kernel_rfl) ?_
                      show XQ _ _ _ _ _ _ _ _
                      refine XQ.ret (by kernel_rfl) ?_
                      have h := Option.some.inj h
                      subst h
                      exact ⟨fun i q => (by cases q), .bool false, (by kernel_rfl), rfl⟩
                  | false =>
                    have h := cF b14 h
                    refine XR.run E0_ok 1 7 [4] rfl (σ' := [(4, .bool false)]) (h' := [(1, .cells (rowC (encI .i64) lh1_x01) 0 3 1), (0, .cells [.int .i64 xh0_0_x01, .int .i64 xh0_1_x01, .int .i64 xh0_2_x01] 0 23 0)]) (c' := 2) (by kernel_rfl) ?_
                    refine XR.done (by kernel_rfl) ?_
                    show XQ _ _ _ _ _ _ _ _
                    refine XQ.ret (by kernel_rfl) ?_
                    have h := Option.some.inj h
                    subst h
                    exact ⟨fun i q => (by cases q), .bool false, (by kernel_rfl), rfl⟩
                | false =>
                  have h := cF b13 h
                  refine XR.run E0_ok 1 12 [4] rfl (σ' := [(4, .bool false)]) (h' := [(1, .cells (rowC (encI .i64) lh1_x01) 0 3 1), (0, .cells [.int .i64 xh0_0_x01, .int .i64 xh0_1_x01, .int .i64 xh0_2_x01] 0 23 0)]) (c' := 2) (by kernel_rfl) ?_
                  refine XR.done (by kernel_rfl) ?_
                  show XQ _ _ _ _ _ _ _ _
                  refine XQ.ret (by kernel_rfl) ?_
                  have h := Option.some.inj h
                  subst h
                  exact ⟨fun i q => (by cases q), .bool false, (by kernel_rfl), rfl⟩

end Go.Xm
