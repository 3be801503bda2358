/- What these functions of the program compute, as functions in Lean, and the proofs that they do: vitolaref02.Apart, vitolaref02.Hours. Conditions: none. -/
import Derived.Test.YtfdeihnkoaihfaaBw
namespace Go.Xm
open Go.RowKit
set_option linter.unusedVariables false
set_option linter.unusedSimpArgs false
set_option maxRecDepth 20000

/-! vitola/vitolaref02.Apart -/
noncomputable def f38_C38 : Code := Proofs.Try.f38.body.getD .skip
noncomputable def f38_C81 : Code := Proofs.Try.f81.body.getD .skip
noncomputable def f38_L1 : Code := lft (lft (rgt (lft (rgt (rgt (rgt (rgt (rgt (rgt f38_C38)))))))))
noncomputable def f38_L2 : Code := lft (lft (rgt (lft (rgt (rgt (rgt f38_C81))))))
noncomputable def f38_L3 : Code := lft (lft (rgt (lft (rgt (rgt (rgt (rgt (rgt (rgt f38_C38)))))))))
noncomputable def f38_L4 : Code := lft (lft (rgt (lft (rgt (lft (lft (rgt f38_L3)))))))

def f38_1 (m : Nat) : Nat → List (Int × Int) → Option Unit
  | 0, _ => none
  | fuel + 1, a =>
    cond (decide ((0 : Int) < ((a.length : Nat) : Int))) (
      some (())
    ) (
      some (())
    )

theorem f38_1_ok (m : Nat) : ∀ (fuel : Nat) (z0 : Nat) (y0 : Nat) (a : List (Int × Int)) (o : Unit), f38_1 m fuel a = some o → ∀ Q : QP, Q (.exit 0) [(5, s0 1 0)] [(1, rc (encI .i64) [] 0 3 1), (0, rc encP a z0 y0 2)] 2 → XL E0 76 1 fuel f38_L1 [(0, s0 0 a.length), (5, s0 1 0), (6, s0 2 0), (7, ii 0), (8, ii 0)] [(2, rc encP [] 0 83 2), (1, rc (encI .i64) [] 0 3 1), (0, rc encP a z0 y0 2)] 3 Q
  | 0, z0, y0, a, o, h, Q, hQ => by cases h
  | fuel + 1, z0, y0, a, o, h, Q, hQ => by
    unfold f38_1 at h
    refine XL.succ E0_ok ?_
    refine XQ.seq E0_ok (by kernel_rfl) ?_
    refine XQ.seq E0_ok (by kernel_rfl) ?_
    refine XQ.region (by kernel_rfl) ?_
    refine XR.runS E0_ok 1 5 [(0, s0 0 a.length), (5, s0 1 0), (6, s0 2 0), (7, ii 0), (8, ii 0), (23, .bool (decide ((0 : Int) < ((a.length : Nat) : Int))))] rfl (by kernel_rfl) ?_
    cases b1 : (decide ((0 : Int) < ((a.length : Nat) : Int)) : Bool) with
    | true =>
      have h := cT b1 h
      refine XR.runS E0_ok 1 3 [(0, s0 0 a.length), (5, s0 1 0), (6, s0 2 0), (7, ii 0), (8, ii 0), (26, .bool false)] rfl (by kernel_rfl) ?_
      refine XR.done (by kernel_rfl) ?_
      show XQ _ _ _ _ _ _ _ _
      refine XQ.cond (s := (.tmp 26)) (b := false) (by kernel_rfl) (by kernel_rfl) (fun q => by cases q) (fun _ => ?_)
      refine XQ.ren (σ' := [(5, s0 1 0)]) (h' := [(1, rc (encI .i64) [] 0 3 1), (0, rc encP a z0 y0 2)]) (c' := 2) [0, 1] (by decide) rfl ⟨by kernel_rfl, trivial⟩ ⟨⟨_, _, rfl, rfl, .inl ⟨rfl, rowC_scal (encI_ok .i64) _⟩⟩, ⟨_, _, rfl, rfl, .inl ⟨rfl, rowC_scal encP_ok _⟩⟩, trivial⟩ rfl ?_
      refine XQ.exit (i := 0) (by kernel_rfl) ?_
      cases h
      exact hQ
    | false =>
      have h := cF b1 h
      refine XR.runS E0_ok 1 3 [(0, s0 0 a.length), (5, s0 1 0), (6, s0 2 0), (7, ii 0), (8, ii 0), (26, .bool false)] rfl (by kernel_rfl) ?_
      refine XR.done (by kernel_rfl) ?_
      show XQ _ _ _ _ _ _ _ _
      refine XQ.cond (s := (.tmp 26)) (b := false) (by kernel_rfl) (by kernel_rfl) (fun q => by cases q) (fun _ => ?_)
      refine XQ.ren (σ' := [(5, s0 1 0)]) (h' := [(1, rc (encI .i64) [] 0 3 1), (0, rc encP a z0 y0 2)]) (c' := 2) [0, 1] (by decide) rfl ⟨by kernel_rfl, trivial⟩ ⟨⟨_, _, rfl, rfl, .inl ⟨rfl, rowC_scal (encI_ok .i64) _⟩⟩, ⟨_, _, rfl, rfl, .inl ⟨rfl, rowC_scal encP_ok _⟩⟩, trivial⟩ rfl ?_
      refine XQ.exit (i := 0) (by kernel_rfl) ?_
      cases h
      exact hQ

def f38_2 (m : Nat) : Nat → List (Int × Int) → Int → Option Int
  | 0, _, _ => none
  | fuel + 1, a, x7_2 =>
    some (x7_2)

theorem f38_2_ok (m : Nat) : ∀ (fuel : Nat) (z0 : Nat) (y0 : Nat) (a : List (Int × Int)) (x7_2 : Int) (o : Int), f38_2 m fuel a x7_2 = some o → ∀ Q : QP, Q (.exit 0) [(0, s0 0 a.length), (1, s0 3 0), (2, ii 0), (7, ii o)] [(3, rc encP [] 0 83 2), (2, rc encP [] 0 83 2), (1, rc (encI .i64) [] 0 3 1), (0, rc encP a z0 y0 2)] 4 → XL E0 50 3 fuel f38_L2 [(0, s0 0 a.length), (1, s0 3 0), (2, ii 0), (7, ii x7_2), (8, ii 0)] [(3, rc encP [] 0 83 2), (2, rc encP [] 0 83 2), (1, rc (encI .i64) [] 0 3 1), (0, rc encP a z0 y0 2)] 4 Q
  | 0, z0, y0, a, x7_2, o, h, Q, hQ => by cases h
  | fuel + 1, z0, y0, a, x7_2, o, h, Q, hQ => by
    unfold f38_2 at h
    refine XL.succ E0_ok ?_
    refine XQ.seq E0_ok (by kernel_rfl) ?_
    refine XQ.seq E0_ok (by kernel_rfl) ?_
    refine XQ.region (by kernel_rfl) ?_
    refine XR.runS E0_ok 1 4 [(0, s0 0 a.length), (1, s0 3 0), (2, ii 0), (7, ii x7_2), (8, ii 0), (21, .bool false)] rfl (by kernel_rfl) ?_
    refine XR.done (by kernel_rfl) ?_
    show XQ _ _ _ _ _ _ _ _
    refine XQ.cond (s := (.tmp 21)) (b := false) (by kernel_rfl) (by kernel_rfl) (fun q => by cases q) (fun _ => ?_)
    refine XQ.ren (σ' := [(0, s0 0 a.length), (1, s0 3 0), (2, ii 0), (7, ii x7_2)]) (h' := [(3, rc encP [] 0 83 2), (2, rc encP [] 0 83 2), (1, rc (encI .i64) [] 0 3 1), (0, rc encP a z0 y0 2)]) (c' := 4) [0, 1, 2, 3] (by decide) rfl ⟨by kernel_rfl, by kernel_rfl, by kernel_rfl, by kernel_rfl, trivial⟩ ⟨⟨_, _, rfl, rfl, .inl ⟨rfl, rowC_scal encP_ok _⟩⟩, ⟨_, _, rfl, rfl, .inl ⟨rfl, rowC_scal encP_ok _⟩⟩, ⟨_, _, rfl, rfl, .inl ⟨rfl, rowC_scal (encI_ok .i64) _⟩⟩, ⟨_, _, rfl, rfl, .inl ⟨rfl, rowC_scal encP_ok _⟩⟩, trivial⟩ rfl ?_
    refine XQ.exit (i := 0) (by kernel_rfl) ?_
    cases h
    exact hQ

def f38_4 (m : Nat) : Nat → List (Int × Int) → Int → Int → List Int → List (Int × Int) → Bool → Int → Option Bool
  | 0, _, _, _, _, _, _, _ => none
  | fuel + 1, a, x7_3, x8_3, lh1_3, lh2_3, b9_4, x10_4 =>
    cond (decide (x10_4 < ((lh2_3.length : Nat) : Int))) (
      cond (b9_4) (
        cond (inRow x10_4 lh2_3.length) (
          cond (inRow x8_3 a.length) (
            (f82 m ((List.getD lh2_3 (Int.toNat x10_4) (0, 0)).1) ((List.getD lh2_3 (Int.toNat x10_4) (0, 0)).2) ((List.getD a (Int.toNat x8_3) (0, 0)).1) ((List.getD a (Int.toNat x8_3) (0, 0)).2)).bind fun r12 =>
              f38_4 m fuel a x7_3 x8_3 lh1_3 lh2_3 (!r12) (w64 (x10_4 + 1))
          ) none
        ) none
      ) (
        f38_4 m fuel a x7_3 x8_3 lh1_3 lh2_3 false (w64 (x10_4 + 1))
      )
    ) (
      some (b9_4)
    )

theorem f38_4_ok (m : Nat) : ∀ (fuel : Nat) (z0 : Nat) (y0 : Nat) (a : List (Int × Int)) (x7_3 : Int) (x8_3 : Int) (lh1_3 : List Int) (lh2_3 : List (Int × Int)) (b9_4 : Bool) (x10_4 : Int) (o : Bool), f38_4 m fuel a x7_3 x8_3 lh1_3 lh2_3 b9_4 x10_4 = some o → ∀ Q : QP, Q (.exit 2) [(0, s0 0 a.length), (5, s0 1 lh1_3.length), (6, s0 2 lh2_3.length), (7, ii x7_3), (8, ii x8_3), (9, .bool o)] [(2, rc encP lh2_3 0 83 2), (1, rc (encI .i64) lh1_3 0 3 1), (0, rc encP a z0 y0 2)] 3 → XL E0 76 1 fuel f38_L4 [(0, s0 0 a.length), (5, s0 1 lh1_3.length), (6, s0 2 lh2_3.length), (7, ii x7_3), (8, ii x8_3), (9, .bool b9_4), (10, ii x10_4)] [(2, rc encP lh2_3 0 83 2), (1, rc (encI .i64) lh1_3 0 3 1), (0, rc encP a z0 y0 2)] 3 Q
  | 0, z0, y0, a, x7_3, x8_3, lh1_3, lh2_3, b9_4, x10_4, o, h, Q, hQ => by cases h
  | fuel + 1, z0, y0, a, x7_3, x8_3, lh1_3, lh2_3, b9_4, x10_4, o, h, Q, hQ => by
    unfold f38_4 at h
    refine XL.succ E0_ok ?_
    refine XQ.seq E0_ok (by kernel_rfl) ?_
    refine XQ.seq E0_ok (by kernel_rfl) ?_
    refine XQ.region (by kernel_rfl) ?_
    refine XR.runS E0_ok 1 4 [(0, s0 0 a.length), (5, s0 1 lh1_3.length), (6, s0 2 lh2_3.length), (7, ii x7_3), (8, ii x8_3), (9, .bool b9_4), (10, ii x10_4), (32, .bool (decide (x10_4 < ((lh2_3.length : Nat) : Int))))] rfl (by kernel_rfl) ?_
    refine XR.done (by kernel_rfl) ?_
    show XQ _ _ _ _ _ _ _ _
    cases b1 : (decide (x10_4 < ((lh2_3.length : Nat) : Int)) : Bool) with
    | true =>
      have h := cT b1 h
      refine XQ.cond (s := (.tmp 32)) (b := true) (by kernel_rfl) (by kernel_rfl) (fun _ => ?_) (fun q => by cases q)
      refine XQ.skip (by kernel_rfl) ?_
      show XQ _ _ _ _ _ _ _ _
      refine XQ.seq E0_ok (by kernel_rfl) ?_
      refine XQ.block (id := 3) (by kernel_rfl) ?_
      refine XQ.quiet E0_ok (by kernel_rfl) (by kernel_rfl) ?_
      refine XU.run E0_ok 1 2 [0, 5, 6, 7, 8, 10, 36] rfl (σ' := [(0, s0 0 a.length), (5, s0 1 lh1_3.length), (6, s0 2 lh2_3.length), (7, ii x7_3), (8, ii x8_3), (10, ii x10_4), (36, .bool b9_4)]) (by kernel_rfl) ?_
      cases b2 : (b9_4 : Bool) with
      | true =>
        have h := cT b2 h
        refine XU.run E0_ok 1 2 [0, 5, 6, 7, 8, 10, 36, 37, 38] rfl (σ' := [(0, s0 0 a.length), (5, s0 1 lh1_3.length), (6, s0 2 lh2_3.length), (7, ii x7_3), (8, ii x8_3), (10, ii x10_4), (36, .bool true), (37, s0 2 lh2_3.length), (38, ii x10_4)]) (by kernel_rfl) ?_
        cases b3 : (inRow x10_4 lh2_3.length : Bool) with
        | false => cases (cF b3 h)
        | true =>
          have h := cT b3 h
          refine XU.rd E0_ok [0, 5, 6, 7, 8, 10, 36, 39] rfl (v := pp 2 ((Int.toNat x10_4) * 2)) (v_idx (s := 2) (x := (src 76 (.tmp 37))) (y := (src 76 (.tmp 38))) (b := 2) (o := 0) (len := lh2_3.length) (cap := lh2_3.length) (ik := .i64) (i := x10_4) (off := (Int.toNat x10_4) * 2) (d := (some (path 12 39))) (by kernel_rfl) (by kernel_rfl) (by kernel_rfl) b3 (by omega)) (σ' := [(0, s0 0 a.length), (5, s0 1 lh1_3.length), (6, s0 2 lh2_3.length), (7, ii x7_3), (8, ii x8_3), (10, ii x10_4), (36, .bool true), (39, pp 2 ((Int.toNat x10_4) * 2))]) (by kernel_rfl) ?_
          refine XU.rd E0_ok [0, 5, 6, 7, 8, 10, 36, 40] rfl (v := .agg #[ii ((List.getD lh2_3 (Int.toNat x10_4) (0, 0)).1), ii ((List.getD lh2_3 (Int.toNat x10_4) (0, 0)).2)]) (v_loadN encP_ok (x := (src 76 (.tmp 39))) (b := 2) (off := (Int.toNat x10_4) * 2) (xs := lh2_3) (fz := 0) (e := 83) (es := 2) (d := (some (path 12 40))) (by kernel_rfl) (by kernel_rfl) (by kernel_rfl) (Int.toNat x10_4) (0, 0) (by first | rfl | omega) (row_len (inRow_toNat b3) (by simp)) rfl) (σ' := [(0, s0 0 a.length), (5, s0 1 lh1_3.length), (6, s0 2 lh2_3.length), (7, ii x7_3), (8, ii x8_3), (10, ii x10_4), (36, .bool true), (40, .agg #[ii ((List.getD lh2_3 (Int.toNat x10_4) (0, 0)).1), ii ((List.getD lh2_3 (Int.toNat x10_4) (0, 0)).2)])]) (by kernel_rfl) ?_
          refine XU.run E0_ok 1 2 [0, 5, 6, 7, 8, 10, 36, 40, 41, 42] rfl (σ' := [(0, s0 0 a.length), (5, s0 1 lh1_3.length), (6, s0 2 lh2_3.length), (7, ii x7_3), (8, ii x8_3), (10, ii x10_4), (36, .bool true), (40, .agg #[ii ((List.getD lh2_3 (Int.toNat x10_4) (0, 0)).1), ii ((List.getD lh2_3 (Int.toNat x10_4) (0, 0)).2)]), (41, s0 0 a.length), (42, ii x8_3)]) (by kernel_rfl) ?_
          cases b4 : (inRow x8_3 a.length : Bool) with
          | false => cases (cF b4 h)
          | true =>
            have h := cT b4 h
            refine XU.rd E0_ok [0, 5, 6, 7, 8, 10, 36, 40, 43] rfl (v := pp 0 ((Int.toNat x8_3) * 2)) (v_idx (s := 2) (x := (src 76 (.tmp 41))) (y := (src 76 (.tmp 42))) (b := 0) (o := 0) (len := a.length) (cap := a.length) (ik := .i64) (i := x8_3) (off := (Int.toNat x8_3) * 2) (d := (some (path 12 43))) (by kernel_rfl) (by kernel_rfl) (by kernel_rfl) b4 (by omega)) (σ' := [(0, s0 0 a.length), (5, s0 1 lh1_3.length), (6, s0 2 lh2_3.length), (7, ii x7_3), (8, ii x8_3), (10, ii x10_4), (36, .bool true), (40, .agg #[ii ((List.getD lh2_3 (Int.toNat x10_4) (0, 0)).1), ii ((List.getD lh2_3 (Int.toNat x10_4) (0, 0)).2)]), (43, pp 0 ((Int.toNat x8_3) * 2))]) (by kernel_rfl) ?_
            refine XU.rd E0_ok [0, 5, 6, 7, 8, 10, 36, 40, 44] rfl (v := .agg #[ii ((List.getD a (Int.toNat x8_3) (0, 0)).1), ii ((List.getD a (Int.toNat x8_3) (0, 0)).2)]) (v_loadN encP_ok (x := (src 76 (.tmp 43))) (b := 0) (off := (Int.toNat x8_3) * 2) (xs := a) (fz := z0) (e := y0) (es := 2) (d := (some (path 12 44))) (by kernel_rfl) (by kernel_rfl) (by kernel_rfl) (Int.toNat x8_3) (0, 0) (by first | rfl | omega) (row_len (inRow_toNat b4) (by simp)) rfl) (σ' := [(0, s0 0 a.length), (5, s0 1 lh1_3.length), (6, s0 2 lh2_3.length), (7, ii x7_3), (8, ii x8_3), (10, ii x10_4), (36, .bool true), (40, .agg #[ii ((List.getD lh2_3 (Int.toNat x10_4) (0, 0)).1), ii ((List.getD lh2_3 (Int.toNat x10_4) (0, 0)).2)]), (44, .agg #[ii ((List.getD a (Int.toNat x8_3) (0, 0)).1), ii ((List.getD a (Int.toNat x8_3) (0, 0)).2)])]) (by kernel_rfl) ?_
            obtain ⟨r12, r12_h, h⟩ := bS h
            refine XU.call E0_ok [0, 5, 6, 7, 8, 10, 36, 45] rfl (K := 82) (F := Proofs.Try.f82) (args := [.agg #[ii ((List.getD lh2_3 (Int.toNat x10_4) (0, 0)).1), ii ((List.getD lh2_3 (Int.toNat x10_4) (0, 0)).2)], .agg #[ii ((List.getD a (Int.toNat x8_3) (0, 0)).1), ii ((List.getD a (Int.toNat x8_3) (0, 0)).2)]]) (d := (some (path 12 45))) (v := .bool r12) (by kernel_rfl) (by kernel_rfl) rfl rfl (fun w hI => f82_ok m ((List.getD lh2_3 (Int.toNat x10_4) (0, 0)).1) ((List.getD lh2_3 (Int.toNat x10_4) (0, 0)).2) ((List.getD a (Int.toNat x8_3) (0, 0)).1) ((List.getD a (Int.toNat x8_3) (0, 0)).2) r12 r12_h w hI) (σ' := [(0, s0 0 a.length), (5, s0 1 lh1_3.length), (6, s0 2 lh2_3.length), (7, ii x7_3), (8, ii x8_3), (10, ii x10_4), (36, .bool true), (45, .bool r12)]) (by kernel_rfl) ?_
            refine XU.run E0_ok 1 3 [0, 5, 6, 7, 8, 9, 10] rfl (σ' := [(0, s0 0 a.length), (5, s0 1 lh1_3.length), (6, s0 2 lh2_3.length), (7, ii x7_3), (8, ii x8_3), (9, .bool (!r12)), (10, ii x10_4)]) (by kernel_rfl) ?_
            refine XU.done (by kernel_rfl) ?_
            show XQ _ _ _ _ _ _ _ _
            refine XQ.region (by kernel_rfl) ?_
            refine XR.runS E0_ok 1 3 [(0, s0 0 a.length), (5, s0 1 lh1_3.length), (6, s0 2 lh2_3.length), (7, ii x7_3), (8, ii x8_3), (9, .bool (!r12)), (10, ii (w64 (x10_4 + 1)))] rfl (by kernel_rfl) ?_
            refine XR.done (by kernel_rfl) ?_
            show XL _ _ _ _ _ _ _ _ _
            refine XL.ren (σ' := [(0, s0 0 a.length), (5, s0 1 lh1_3.length), (6, s0 2 lh2_3.length), (7, ii x7_3), (8, ii x8_3), (9, .bool (!r12)), (10, ii (w64 (x10_4 + 1)))]) (h' := [(2, rc encP lh2_3 0 83 2), (1, rc (encI .i64) lh1_3 0 3 1), (0, rc encP a z0 y0 2)]) (c' := 3) [0, 1, 2] (by decide) rfl ⟨by kernel_rfl, by kernel_rfl, by kernel_rfl, by kernel_rfl, by kernel_rfl, by kernel_rfl, by kernel_rfl, trivial⟩ ⟨⟨_, _, rfl, rfl, .inl ⟨rfl, rowC_scal encP_ok _⟩⟩, ⟨_, _, rfl, rfl, .inl ⟨rfl, rowC_scal (encI_ok .i64) _⟩⟩, ⟨_, _, rfl, rfl, .inl ⟨rfl, rowC_scal encP_ok _⟩⟩, trivial⟩ rfl ?_
            refine XL.conv (f38_4_ok m fuel z0 y0 a x7_3 x8_3 lh1_3 lh2_3 (!r12) (w64 (x10_4 + 1)) o h Q hQ) (by first | rfl | simp)
      | false =>
        have h := cF b2 h
        refine XU.run E0_ok 1 12 [0, 5, 6, 7, 8, 9, 10] rfl (σ' := [(0, s0 0 a.length), (5, s0 1 lh1_3.length), (6, s0 2 lh2_3.length), (7, ii x7_3), (8, ii x8_3), (9, .bool false), (10, ii x10_4)]) (by kernel_rfl) ?_
        refine XU.done (by kernel_rfl) ?_
        show XQ _ _ _ _ _ _ _ _
        refine XQ.region (by kernel_rfl) ?_
        refine XR.runS E0_ok 1 3 [(0, s0 0 a.length), (5, s0 1 lh1_3.length), (6, s0 2 lh2_3.length), (7, ii x7_3), (8, ii x8_3), (9, .bool false), (10, ii (w64 (x10_4 + 1)))] rfl (by kernel_rfl) ?_
        refine XR.done (by kernel_rfl) ?_
        show XL _ _ _ _ _ _ _ _ _
        refine XL.ren (σ' := [(0, s0 0 a.length), (5, s0 1 lh1_3.length), (6, s0 2 lh2_3.length), (7, ii x7_3), (8, ii x8_3), (9, .bool false), (10, ii (w64 (x10_4 + 1)))]) (h' := [(2, rc encP lh2_3 0 83 2), (1, rc (encI .i64) lh1_3 0 3 1), (0, rc encP a z0 y0 2)]) (c' := 3) [0, 1, 2] (by decide) rfl ⟨by kernel_rfl, by kernel_rfl, by kernel_rfl, by kernel_rfl, by kernel_rfl, by kernel_rfl, by kernel_rfl, trivial⟩ ⟨⟨_, _, rfl, rfl, .inl ⟨rfl, rowC_scal encP_ok _⟩⟩, ⟨_, _, rfl, rfl, .inl ⟨rfl, rowC_scal (encI_ok .i64) _⟩⟩, ⟨_, _, rfl, rfl, .inl ⟨rfl, rowC_scal encP_ok _⟩⟩, trivial⟩ rfl ?_
        refine XL.conv (f38_4_ok m fuel z0 y0 a x7_3 x8_3 lh1_3 lh2_3 false (w64 (x10_4 + 1)) o h Q hQ) (by first | rfl | simp)
    | false =>
      have h := cF b1 h
      refine XQ.cond (s := (.tmp 32)) (b := false) (by kernel_rfl) (by kernel_rfl) (fun q => by cases q) (fun _ => ?_)
      refine XQ.ren (σ' := [(0, s0 0 a.length), (5, s0 1 lh1_3.length), (6, s0 2 lh2_3.length), (7, ii x7_3), (8, ii x8_3), (9, .bool b9_4)]) (h' := [(2, rc encP lh2_3 0 83 2), (1, rc (encI .i64) lh1_3 0 3 1), (0, rc encP a z0 y0 2)]) (c' := 3) [0, 1, 2] (by decide) rfl ⟨by kernel_rfl, by kernel_rfl, by kernel_rfl, by kernel_rfl, by kernel_rfl, by kernel_rfl, trivial⟩ ⟨⟨_, _, rfl, rfl, .inl ⟨rfl, rowC_scal encP_ok _⟩⟩, ⟨_, _, rfl, rfl, .inl ⟨rfl, rowC_scal (encI_ok .i64) _⟩⟩, ⟨_, _, rfl, rfl, .inl ⟨rfl, rowC_scal encP_ok _⟩⟩, trivial⟩ rfl ?_
      refine XQ.exit (i := 2) (by kernel_rfl) ?_
      cases h
      exact hQ

def f38_3 (m : Nat) : Nat → List (Int × Int) → Int → Int → List Int → List (Int × Int) → Option (List Int)
  | 0, _, _, _, _, _ => none
  | fuel + 1, a, x7_3, x8_3, lh1_3, lh2_3 =>
    cond (decide (x8_3 < ((a.length : Nat) : Int))) (
      cond (decide (x7_3 > 0)) (
        (f38_4 m m a x7_3 x8_3 lh1_3 lh2_3 true 0).bind fun o4 =>
          cond (fitsB (0 + lh2_3.length) 16) (
            cond (inRow x8_3 a.length) (
              cond (fitsB (lh2_3.length + 1) 16) (
                cond (o4) (
                  (f81 m m a (lh2_3 ++ [((List.getD a (Int.toNat x8_3) (0, 0)).1, (List.getD a (Int.toNat x8_3) (0, 0)).2)]) (w64 (x8_3 + 1))).bind fun r13 =>
                    cond ((w64 (1 + r13)) == x7_3) (
                      cond (fitsB (lh1_3.length + 1) 8) (
                        f38_3 m fuel a (w64 (x7_3 - 1)) (w64 (x8_3 + 1)) (lh1_3 ++ [x8_3]) (lh2_3 ++ [((List.getD a (Int.toNat x8_3) (0, 0)).1, (List.getD a (Int.toNat x8_3) (0, 0)).2)])
                      ) none
                    ) (
                      f38_3 m fuel a x7_3 (w64 (x8_3 + 1)) lh1_3 lh2_3
                    )
                ) (
                  f38_3 m fuel a x7_3 (w64 (x8_3 + 1)) lh1_3 lh2_3
                )
              ) none
            ) none
          ) none
      ) (
        some (lh1_3)
      )
    ) (
      some (lh1_3)
    )

theorem f38_3_ok (m : Nat) : ∀ (fuel : Nat) (z0 : Nat) (y0 : Nat) (a : List (Int × Int)) (x7_3 : Int) (x8_3 : Int) (lh1_3 : List Int) (lh2_3 : List (Int × Int)) (o : (List Int)), f38_3 m fuel a x7_3 x8_3 lh1_3 lh2_3 = some o → ∀ Q : QP, Q (.exit 0) [(5, s0 1 o.length)] [(1, rc (encI .i64) o 0 3 1), (0, rc encP a z0 y0 2)] 2 → XL E0 76 1 fuel f38_L3 [(0, s0 0 a.length), (5, s0 1 lh1_3.length), (6, s0 2 lh2_3.length), (7, ii x7_3), (8, ii x8_3)] [(2, rc encP lh2_3 0 83 2), (1, rc (encI .i64) lh1_3 0 3 1), (0, rc encP a z0 y0 2)] 3 Q
  | 0, z0, y0, a, x7_3, x8_3, lh1_3, lh2_3, o, h, Q, hQ => by cases h
  | fuel + 1, z0, y0, a, x7_3, x8_3, lh1_3, lh2_3, o, h, Q, hQ => by
    unfold f38_3 at h
    refine XL.succ E0_ok ?_
    refine XQ.seq E0_ok (by kernel_rfl) ?_
    refine XQ.seq E0_ok (by kernel_rfl) ?_
    refine XQ.region (by kernel_rfl) ?_
    refine XR.runS E0_ok 1 5 [(0, s0 0 a.length), (5, s0 1 lh1_3.length), (6, s0 2 lh2_3.length), (7, ii x7_3), (8, ii x8_3), (23, .bool (decide (x8_3 < ((a.length : Nat) : Int))))] rfl (by kernel_rfl) ?_
    cases b1 : (decide (x8_3 < ((a.length : Nat) : Int)) : Bool) with
    | true =>
      have h := cT b1 h
      refine XR.runS E0_ok 1 3 [(0, s0 0 a.length), (5, s0 1 lh1_3.length), (6, s0 2 lh2_3.length), (7, ii x7_3), (8, ii x8_3), (26, .bool (decide (x7_3 > 0)))] rfl (by kernel_rfl) ?_
      refine XR.done (by kernel_rfl) ?_
      show XQ _ _ _ _ _ _ _ _
      cases b2 : (decide (x7_3 > 0) : Bool) with
      | true =>
        have h := cT b2 h
        refine XQ.cond (s := (.tmp 26)) (b := true) (by kernel_rfl) (by kernel_rfl) (fun _ => ?_) (fun q => by cases q)
        refine XQ.skip (by kernel_rfl) ?_
        show XQ _ _ _ _ _ _ _ _
        refine XQ.seq E0_ok (by kernel_rfl) ?_
        refine XQ.block (id := 1) (by kernel_rfl) ?_
        refine XQ.seq E0_ok (by kernel_rfl) ?_
        refine XQ.region (by kernel_rfl) ?_
        refine XR.runS E0_ok 1 1 [(0, s0 0 a.length), (5, s0 1 lh1_3.length), (6, s0 2 lh2_3.length), (7, ii x7_3), (8, ii x8_3), (9, .bool true)] rfl (by kernel_rfl) ?_
        refine XR.done (by kernel_rfl) ?_
        show XQ _ _ _ _ _ _ _ _
        refine XQ.seq E0_ok (by kernel_rfl) ?_
        refine XQ.seq E0_ok (by kernel_rfl) ?_
        refine XQ.region (by kernel_rfl) ?_
        refine XR.runS E0_ok 1 1 [(0, s0 0 a.length), (5, s0 1 lh1_3.length), (6, s0 2 lh2_3.length), (7, ii x7_3), (8, ii x8_3), (9, .bool true), (10, ii 0)] rfl (by kernel_rfl) ?_
        refine XR.done (by kernel_rfl) ?_
        show XQ _ _ _ _ _ _ _ _
        refine XQ.block (id := 2) (by kernel_rfl) ?_
        refine XQ.loop m (by kernel_rfl) ?_
        obtain ⟨o4, o4_h, h⟩ := bS h
        refine XL.ren (σ' := [(0, s0 0 a.length), (5, s0 1 lh1_3.length), (6, s0 2 lh2_3.length), (7, ii x7_3), (8, ii x8_3), (9, .bool true), (10, ii 0)]) (h' := [(2, rc encP lh2_3 0 83 2), (1, rc (encI .i64) lh1_3 0 3 1), (0, rc encP a z0 y0 2)]) (c' := 3) [0, 1, 2] (by decide) rfl ⟨by kernel_rfl, by kernel_rfl, by kernel_rfl, by kernel_rfl, by kernel_rfl, by kernel_rfl, by kernel_rfl, trivial⟩ ⟨⟨_, _, rfl, rfl, .inl ⟨rfl, rowC_scal encP_ok _⟩⟩, ⟨_, _, rfl, rfl, .inl ⟨rfl, rowC_scal (encI_ok .i64) _⟩⟩, ⟨_, _, rfl, rfl, .inl ⟨rfl, rowC_scal encP_ok _⟩⟩, trivial⟩ rfl ?_
        refine XL.conv (f38_4_ok m m z0 y0 a x7_3 x8_3 lh1_3 lh2_3 true 0 o4 o4_h _ ?_) (by first | rfl | simp)
        show XQ _ _ _ _ _ _ _ _
        refine XQ.seq E0_ok (by kernel_rfl) ?_
        cases b4 : (fitsB (0 + lh2_3.length) 16 : Bool) with
        | false => cases (cF b4 h)
        | true =>
          have h := cT b4 h
          cases b5 : (inRow x8_3 a.length : Bool) with
          | false => cases (cF b5 h)
          | true =>
            have h := cT b5 h
            cases b6 : (fitsB (lh2_3.length + 1) 16 : Bool) with
            | false => cases (cF b6 h)
            | true =>
              have h := cT b6 h
              refine XQ.preA E0_ok [1, 3, 4, 5] (by kernel_rfl) (g := 6) (listed := #[false, true, false, true, true, true, false, false, false, false]) (by kernel_rfl) (by kernel_rfl) (by kernel_rfl) (by kernel_rfl) (by kernel_rfl) (σ' := [(0, s0 0 a.length), (5, s0 1 lh1_3.length), (6, s0 2 lh2_3.length), (7, ii x7_3), (8, ii x8_3), (9, .bool o4), (11, s0 3 ((lh2_3 ++ [((List.getD a (Int.toNat x8_3) (0, 0)).1, (List.getD a (Int.toNat x8_3) (0, 0)).2)]).length))]) (h' := [(3, rc encP (lh2_3 ++ [((List.getD a (Int.toNat x8_3) (0, 0)).1, (List.getD a (Int.toNat x8_3) (0, 0)).2)]) 0 83 2), (2, rc encP lh2_3 0 83 2), (1, rc (encI .i64) lh1_3 0 3 1), (0, rc encP a z0 y0 2)]) (c' := 4) ?_ ?_
              · show XQ _ _ _ _ _ _ _ _
                refine XQ.seq E0_ok (by kernel_rfl) ?_
                refine XQ.region (by kernel_rfl) ?_
                refine XR.runS E0_ok 1 2 [(0, s0 0 a.length), (5, s0 1 lh1_3.length), (6, s0 2 lh2_3.length), (7, ii x7_3), (8, ii x8_3), (11, s0 3 ((lh2_3 ++ [((List.getD a (Int.toNat x8_3) (0, 0)).1, (List.getD a (Int.toNat x8_3) (0, 0)).2)]).length)), (58, .bool o4)] rfl (by kernel_rfl) ?_
                cases b7 : (o4 : Bool) with
                | true =>
                  have h := cT b7 h
                  refine XR.runS E0_ok 1 4 [(0, s0 0 a.length), (5, s0 1 lh1_3.length), (6, s0 2 lh2_3.length), (7, ii x7_3), (8, ii x8_3), (11, s0 3 ((lh2_3 ++ [((List.getD a (Int.toNat x8_3) (0, 0)).1, (List.getD a (Int.toNat x8_3) (0, 0)).2)]).length)), (58, .bool true), (59, s0 0 a.length), (60, s0 3 ((lh2_3 ++ [((List.getD a (Int.toNat x8_3) (0, 0)).1, (List.getD a (Int.toNat x8_3) (0, 0)).2)]).length)), (62, ii (w64 (x8_3 + 1)))] rfl (by kernel_rfl) ?_
                  obtain ⟨r13, r13_h, h⟩ := bS h
                  refine XR.call E0_ok [0, 5, 6, 7, 8, 11, 58, 63] rfl (K := 81) (args := [s0 0 a.length, s0 3 ((lh2_3 ++ [((List.getD a (Int.toNat x8_3) (0, 0)).1, (List.getD a (Int.toNat x8_3) (0, 0)).2)]).length), ii (w64 (x8_3 + 1))]) (d := (some (path 12 63))) (by kernel_rfl) (KQ.call (KC.quiet E0_ok (args0 := [s0 0 a.length, s0 1 ((lh2_3 ++ [((List.getD a (Int.toNat x8_3) (0, 0)).1, (List.getD a (Int.toNat x8_3) (0, 0)).2)]).length), ii (w64 (x8_3 + 1))]) (h0 := [(1, rc encP (lh2_3 ++ [((List.getD a (Int.toNat x8_3) (0, 0)).1, (List.getD a (Int.toNat x8_3) (0, 0)).2)]) (0 + ((rowC encP (lh2_3 ++ [((List.getD a (Int.toNat x8_3) (0, 0)).1, (List.getD a (Int.toNat x8_3) (0, 0)).2)])).length + 1)) 83 2), (0, rc encP a (z0 + ((rowC encP a).length + 1)) y0 2)]) (n := 2) (V := ii r13) [0, 3] (f81_ok m m (z0 + ((rowC encP a).length + 1)) y0 (0 + ((rowC encP (lh2_3 ++ [((List.getD a (Int.toNat x8_3) (0, 0)).1, (List.getD a (Int.toNat x8_3) (0, 0)).2)])).length + 1)) 83 a (lh2_3 ++ [((List.getD a (Int.toNat x8_3) (0, 0)).1, (List.getD a (Int.toNat x8_3) (0, 0)).2)]) (w64 (x8_3 + 1)) r13 r13_h) rfl (by rfl) (by decide) rfl (by kernel_rfl) ⟨⟨_, _, rfl, rfl, .inl ⟨rfl, rowC_scal encP_ok _⟩⟩, ⟨_, _, rfl, rfl, .inl ⟨rfl, rowC_scal encP_ok _⟩⟩, trivial⟩) rfl) ?_
                  rintro _ _ _ ⟨rfl, rfl, rfl⟩
                  refine XR.conv (σ' := [(0, s0 0 a.length), (5, s0 1 lh1_3.length), (6, s0 2 lh2_3.length), (7, ii x7_3), (8, ii x8_3), (11, s0 3 ((lh2_3 ++ [((List.getD a (Int.toNat x8_3) (0, 0)).1, (List.getD a (Int.toNat x8_3) (0, 0)).2)]).length)), (58, .bool true), (63, ii r13)]) (h' := [(3, rc encP (lh2_3 ++ [((List.getD a (Int.toNat x8_3) (0, 0)).1, (List.getD a (Int.toNat x8_3) (0, 0)).2)]) 0 83 2), (2, rc encP lh2_3 0 83 2), (1, rc (encI .i64) lh1_3 0 3 1), (0, rc encP a z0 y0 2)]) (c' := 4) ?_ (by kernel_rfl)
                  refine XR.runS E0_ok 1 4 [(0, s0 0 a.length), (5, s0 1 lh1_3.length), (6, s0 2 lh2_3.length), (7, ii x7_3), (8, ii x8_3), (11, s0 3 ((lh2_3 ++ [((List.getD a (Int.toNat x8_3) (0, 0)).1, (List.getD a (Int.toNat x8_3) (0, 0)).2)]).length)), (67, .bool ((w64 (1 + r13)) == x7_3))] rfl (by kernel_rfl) ?_
                  refine XR.done (by kernel_rfl) ?_
                  show XQ _ _ _ _ _ _ _ _
                  cases b8 : ((w64 (1 + r13)) == x7_3 : Bool) with
                  | true =>
                    have h := cT b8 h
                    refine XQ.cond (s := (.tmp 67)) (b := true) (by kernel_rfl) (by kernel_rfl) (fun _ => ?_) (fun q => by cases q)
                    refine XQ.seq E0_ok (by kernel_rfl) ?_
                    refine XQ.region (by kernel_rfl) ?_
                    refine XR.runS E0_ok 1 2 [(0, s0 0 a.length), (5, s0 1 lh1_3.length), (6, s0 3 ((lh2_3 ++ [((List.getD a (Int.toNat x8_3) (0, 0)).1, (List.getD a (Int.toNat x8_3) (0, 0)).2)]).length)), (7, ii x7_3), (8, ii x8_3)] rfl (by kernel_rfl) ?_
                    refine XR.done (by kernel_rfl) ?_
                    show XQ _ _ _ _ _ _ _ _
                    refine XQ.seq E0_ok (by kernel_rfl) ?_
                    refine XQ.region (by kernel_rfl) ?_
                    refine XR.runT E0_ok 1 3 [(0, s0 0 a.length), (6, s0 3 ((lh2_3 ++ [((List.getD a (Int.toNat x8_3) (0, 0)).1, (List.getD a (Int.toNat x8_3) (0, 0)).2)]).length)), (7, ii x7_3), (8, ii x8_3), (69, s0 1 lh1_3.length), (71, s0 4 1)] [(4, .cells [ii x8_3] 0 3 1), (3, rc encP (lh2_3 ++ [((List.getD a (Int.toNat x8_3) (0, 0)).1, (List.getD a (Int.toNat x8_3) (0, 0)).2)]) 0 83 2), (2, rc encP lh2_3 0 83 2), (1, rc (encI .i64) lh1_3 0 3 1), (0, rc encP a z0 y0 2)] 5 rfl (by kernel_rfl) ?_
                    cases b9 : (fitsB (lh1_3.length + 1) 8 : Bool) with
                    | false => cases (cF b9 h)
                    | true =>
                      have h := cT b9 h
                      refine XR.ef E0_ok [0, 6, 7, 8, 72] rfl (e_append (encI_ok .i64) (bytes := 8) (e := 3) (x := (src 76 (.tmp 69))) (y := (src 76 (.tmp 71))) (b := 1) (len := lh1_3.length) (cap := lh1_3.length) (xs := lh1_3) (m := 0) (ys := [x8_3]) (d := (some (path 12 72))) (n' := (lh1_3 ++ [x8_3]).length) (h' := [(5, rc (encI .i64) (lh1_3 ++ [x8_3]) 0 3 1), (4, .cells [ii x8_3] 0 3 1), (3, rc encP (lh2_3 ++ [((List.getD a (Int.toNat x8_3) (0, 0)).1, (List.getD a (Int.toNat x8_3) (0, 0)).2)]) 0 83 2), (2, rc encP lh2_3 0 83 2), (0, rc encP a z0 y0 2)]) (by kernel_rfl) (by kernel_rfl) (by kernel_rfl) (by kernel_rfl) rfl (by simp) (by simp) b9 (by simp) (by kernel_rfl)) (σ' := [(0, s0 0 a.length), (6, s0 3 ((lh2_3 ++ [((List.getD a (Int.toNat x8_3) (0, 0)).1, (List.getD a (Int.toNat x8_3) (0, 0)).2)]).length)), (7, ii x7_3), (8, ii x8_3), (72, s0 5 ((lh1_3 ++ [x8_3]).length))]) (by kernel_rfl) ?_
                      refine XR.runS E0_ok 1 1 [(0, s0 0 a.length), (5, s0 5 ((lh1_3 ++ [x8_3]).length)), (6, s0 3 ((lh2_3 ++ [((List.getD a (Int.toNat x8_3) (0, 0)).1, (List.getD a (Int.toNat x8_3) (0, 0)).2)]).length)), (7, ii x7_3), (8, ii x8_3)] rfl (by kernel_rfl) ?_
                      refine XR.done (by kernel_rfl) ?_
                      show XQ _ _ _ _ _ _ _ _
                      refine XQ.region (by kernel_rfl) ?_
                      refine XR.runS E0_ok 1 3 [(0, s0 0 a.length), (5, s0 5 ((lh1_3 ++ [x8_3]).length)), (6, s0 3 ((lh2_3 ++ [((List.getD a (Int.toNat x8_3) (0, 0)).1, (List.getD a (Int.toNat x8_3) (0, 0)).2)]).length)), (7, ii (w64 (x7_3 - 1))), (8, ii x8_3)] rfl (by kernel_rfl) ?_
                      refine XR.done (by kernel_rfl) ?_
                      show XQ _ _ _ _ _ _ _ _
                      refine XQ.region (by kernel_rfl) ?_
                      refine XR.runS E0_ok 1 3 [(0, s0 0 a.length), (5, s0 5 ((lh1_3 ++ [x8_3]).length)), (6, s0 3 ((lh2_3 ++ [((List.getD a (Int.toNat x8_3) (0, 0)).1, (List.getD a (Int.toNat x8_3) (0, 0)).2)]).length)), (7, ii (w64 (x7_3 - 1))), (8, ii (w64 (x8_3 + 1)))] rfl (by kernel_rfl) ?_
                      refine XR.done (by kernel_rfl) ?_
                      show XL _ _ _ _ _ _ _ _ _
                      refine XL.ren (σ' := [(0, s0 0 a.length), (5, s0 1 ((lh1_3 ++ [x8_3]).length)), (6, s0 2 ((lh2_3 ++ [((List.getD a (Int.toNat x8_3) (0, 0)).1, (List.getD a (Int.toNat x8_3) (0, 0)).2)]).length)), (7, ii (w64 (x7_3 - 1))), (8, ii (w64 (x8_3 + 1)))]) (h' := [(2, rc encP (lh2_3 ++ [((List.getD a (Int.toNat x8_3) (0, 0)).1, (List.getD a (Int.toNat x8_3) (0, 0)).2)]) 0 83 2), (1, rc (encI .i64) (lh1_3 ++ [x8_3]) 0 3 1), (0, rc encP a z0 y0 2)]) (c' := 3) [0, 5, 3] (by decide) rfl ⟨by kernel_rfl, by kernel_rfl, by kernel_rfl, by kernel_rfl, by kernel_rfl, trivial⟩ ⟨⟨_, _, rfl, rfl, .inl ⟨rfl, rowC_scal encP_ok _⟩⟩, ⟨_, _, rfl, rfl, .inl ⟨rfl, rowC_scal (encI_ok .i64) _⟩⟩, ⟨_, _, rfl, rfl, .inl ⟨rfl, rowC_scal encP_ok _⟩⟩, trivial⟩ rfl ?_
                      refine XL.conv (f38_3_ok m fuel z0 y0 a (w64 (x7_3 - 1)) (w64 (x8_3 + 1)) (lh1_3 ++ [x8_3]) (lh2_3 ++ [((List.getD a (Int.toNat x8_3) (0, 0)).1, (List.getD a (Int.toNat x8_3) (0, 0)).2)]) o h Q hQ) (by first | rfl | simp)
                  | false =>
                    have h := cF b8 h
                    refine XQ.cond (s := (.tmp 67)) (b := false) (by kernel_rfl) (by kernel_rfl) (fun q => by cases q) (fun _ => ?_)
                    refine XQ.skip (by kernel_rfl) ?_
                    show XQ _ _ _ _ _ _ _ _
                    refine XQ.region (by kernel_rfl) ?_
                    refine XR.runS E0_ok 1 3 [(0, s0 0 a.length), (5, s0 1 lh1_3.length), (6, s0 2 lh2_3.length), (7, ii x7_3), (8, ii (w64 (x8_3 + 1)))] rfl (by kernel_rfl) ?_
                    refine XR.done (by kernel_rfl) ?_
                    show XL _ _ _ _ _ _ _ _ _
                    refine XL.ren (σ' := [(0, s0 0 a.length), (5, s0 1 lh1_3.length), (6, s0 2 lh2_3.length), (7, ii x7_3), (8, ii (w64 (x8_3 + 1)))]) (h' := [(2, rc encP lh2_3 0 83 2), (1, rc (encI .i64) lh1_3 0 3 1), (0, rc encP a z0 y0 2)]) (c' := 3) [0, 1, 2] (by decide) rfl ⟨by kernel_rfl, by kernel_rfl, by kernel_rfl, by kernel_rfl, by kernel_rfl, trivial⟩ ⟨⟨_, _, rfl, rfl, .inl ⟨rfl, rowC_scal encP_ok _⟩⟩, ⟨_, _, rfl, rfl, .inl ⟨rfl, rowC_scal (encI_ok .i64) _⟩⟩, ⟨_, _, rfl, rfl, .inl ⟨rfl, rowC_scal encP_ok _⟩⟩, trivial⟩ rfl ?_
                    refine XL.conv (f38_3_ok m fuel z0 y0 a x7_3 (w64 (x8_3 + 1)) lh1_3 lh2_3 o h Q hQ) (by first | rfl | simp)
                | false =>
                  have h := cF b7 h
                  refine XR.runS E0_ok 1 9 [(0, s0 0 a.length), (5, s0 1 lh1_3.length), (6, s0 2 lh2_3.length), (7, ii x7_3), (8, ii x8_3), (11, s0 3 ((lh2_3 ++ [((List.getD a (Int.toNat x8_3) (0, 0)).1, (List.getD a (Int.toNat x8_3) (0, 0)).2)]).length)), (67, .bool false)] rfl (by kernel_rfl) ?_
                  refine XR.done (by kernel_rfl) ?_
                  show XQ _ _ _ _ _ _ _ _
                  refine XQ.cond (s := (.tmp 67)) (b := false) (by kernel_rfl) (by kernel_rfl) (fun q => by cases q) (fun _ => ?_)
                  refine XQ.skip (by kernel_rfl) ?_
                  show XQ _ _ _ _ _ _ _ _
                  refine XQ.region (by kernel_rfl) ?_
                  refine XR.runS E0_ok 1 3 [(0, s0 0 a.length), (5, s0 1 lh1_3.length), (6, s0 2 lh2_3.length), (7, ii x7_3), (8, ii (w64 (x8_3 + 1)))] rfl (by kernel_rfl) ?_
                  refine XR.done (by kernel_rfl) ?_
                  show XL _ _ _ _ _ _ _ _ _
                  refine XL.ren (σ' := [(0, s0 0 a.length), (5, s0 1 lh1_3.length), (6, s0 2 lh2_3.length), (7, ii x7_3), (8, ii (w64 (x8_3 + 1)))]) (h' := [(2, rc encP lh2_3 0 83 2), (1, rc (encI .i64) lh1_3 0 3 1), (0, rc encP a z0 y0 2)]) (c' := 3) [0, 1, 2] (by decide) rfl ⟨by kernel_rfl, by kernel_rfl, by kernel_rfl, by kernel_rfl, by kernel_rfl, trivial⟩ ⟨⟨_, _, rfl, rfl, .inl ⟨rfl, rowC_scal encP_ok _⟩⟩, ⟨_, _, rfl, rfl, .inl ⟨rfl, rowC_scal (encI_ok .i64) _⟩⟩, ⟨_, _, rfl, rfl, .inl ⟨rfl, rowC_scal encP_ok _⟩⟩, trivial⟩ rfl ?_
                  refine XL.conv (f38_3_ok m fuel z0 y0 a x7_3 (w64 (x8_3 + 1)) lh1_3 lh2_3 o h Q hQ) (by first | rfl | simp)
              · have xa6 : XA E0 76 1 (opsOf (lft (rgt (rgt (lft (lft (rgt f38_L3))))))) 0 #[true, true, true, true, true, true, true, true, true, true] [(0, s0 0 a.length), (5, s0 1 lh1_3.length), (6, s0 2 lh2_3.length), (7, ii x7_3), (8, ii x8_3), (9, .bool o4), (11, s0 3 ((lh2_3 ++ [((List.getD a (Int.toNat x8_3) (0, 0)).1, (List.getD a (Int.toNat x8_3) (0, 0)).2)]).length))] [(3, rc encP (lh2_3 ++ [((List.getD a (Int.toNat x8_3) (0, 0)).1, (List.getD a (Int.toNat x8_3) (0, 0)).2)]) 0 83 2), (2, rc encP lh2_3 0 83 2), (1, rc (encI .i64) lh1_3 0 3 1), (0, rc encP a z0 y0 2)] 4 (fun e σ1 h1 c1 => e = .normal ∧ (σ1, h1, c1) = ([(0, s0 0 a.length), (5, s0 1 lh1_3.length), (6, s0 2 lh2_3.length), (7, ii x7_3), (8, ii x8_3), (9, .bool o4), (11, s0 3 ((lh2_3 ++ [((List.getD a (Int.toNat x8_3) (0, 0)).1, (List.getD a (Int.toNat x8_3) (0, 0)).2)]).length))], [(3, rc encP (lh2_3 ++ [((List.getD a (Int.toNat x8_3) (0, 0)).1, (List.getD a (Int.toNat x8_3) (0, 0)).2)]) 0 83 2), (2, rc encP lh2_3 0 83 2), (1, rc (encI .i64) lh1_3 0 3 1), (0, rc encP a z0 y0 2)], 4)) := by
                  exact XA.done (by kernel_rfl) ⟨rfl, rfl⟩
                have xa5 : XA E0 76 1 (opsOf (lft (rgt (rgt (lft (lft (rgt f38_L3))))))) 1 #[true, true, true, true, true, true, true, true, true, false] [(0, s0 0 a.length), (5, s0 1 lh1_3.length), (6, s0 2 lh2_3.length), (7, ii x7_3), (8, ii x8_3), (9, .bool o4), (56, s0 3 ((lh2_3 ++ [((List.getD a (Int.toNat x8_3) (0, 0)).1, (List.getD a (Int.toNat x8_3) (0, 0)).2)]).length))] [(3, rc encP (lh2_3 ++ [((List.getD a (Int.toNat x8_3) (0, 0)).1, (List.getD a (Int.toNat x8_3) (0, 0)).2)]) 0 83 2), (2, rc encP lh2_3 0 83 2), (1, rc (encI .i64) lh1_3 0 3 1), (0, rc encP a z0 y0 2)] 4 (fun e σ1 h1 c1 => e = .normal ∧ (σ1, h1, c1) = ([(0, s0 0 a.length), (5, s0 1 lh1_3.length), (6, s0 2 lh2_3.length), (7, ii x7_3), (8, ii x8_3), (9, .bool o4), (11, s0 3 ((lh2_3 ++ [((List.getD a (Int.toNat x8_3) (0, 0)).1, (List.getD a (Int.toNat x8_3) (0, 0)).2)]).length))], [(3, rc encP (lh2_3 ++ [((List.getD a (Int.toNat x8_3) (0, 0)).1, (List.getD a (Int.toNat x8_3) (0, 0)).2)]) 0 83 2), (2, rc encP lh2_3 0 83 2), (1, rc (encI .i64) lh1_3 0 3 1), (0, rc encP a z0 y0 2)], 4)) := by
                  refine XA.step E0_ok [9] (by kernel_rfl) rfl (by kernel_rfl) ⟨?_, trivial⟩
                  · refine XR.runS E0_ok 1 1 [(0, s0 0 a.length), (5, s0 1 lh1_3.length), (6, s0 2 lh2_3.length), (7, ii x7_3), (8, ii x8_3), (9, .bool o4), (11, s0 3 ((lh2_3 ++ [((List.getD a (Int.toNat x8_3) (0, 0)).1, (List.getD a (Int.toNat x8_3) (0, 0)).2)]).length))] rfl (by kernel_rfl) ?_
                    refine XR.done (by kernel_rfl) ?_
                    refine ⟨rfl, ?_⟩
                    show XA _ _ _ _ _ _ _ _ _ _
                    exact xa6
                have xa4 : XA E0 76 1 (opsOf (lft (rgt (rgt (lft (lft (rgt f38_L3))))))) 2 #[true, true, true, true, true, true, true, true, false, false] [(0, s0 0 a.length), (5, s0 1 lh1_3.length), (6, s0 2 lh2_3.length), (7, ii x7_3), (8, ii x8_3), (9, .bool o4), (50, s0 3 lh2_3.length), (55, s0 4 1)] [(4, .cells [ii ((List.getD a (Int.toNat x8_3) (0, 0)).1), ii ((List.getD a (Int.toNat x8_3) (0, 0)).2)] 0 83 2), (3, rc encP lh2_3 0 83 2), (2, rc encP lh2_3 0 83 2), (1, rc (encI .i64) lh1_3 0 3 1), (0, rc encP a z0 y0 2)] 5 (fun e σ1 h1 c1 => e = .normal ∧ (σ1, h1, c1) = ([(0, s0 0 a.length), (5, s0 1 lh1_3.length), (6, s0 2 lh2_3.length), (7, ii x7_3), (8, ii x8_3), (9, .bool o4), (11, s0 3 ((lh2_3 ++ [((List.getD a (Int.toNat x8_3) (0, 0)).1, (List.getD a (Int.toNat x8_3) (0, 0)).2)]).length))], [(3, rc encP (lh2_3 ++ [((List.getD a (Int.toNat x8_3) (0, 0)).1, (List.getD a (Int.toNat x8_3) (0, 0)).2)]) 0 83 2), (2, rc encP lh2_3 0 83 2), (1, rc (encI .i64) lh1_3 0 3 1), (0, rc encP a z0 y0 2)], 4)) := by
                  refine XA.step E0_ok [8] (by kernel_rfl) rfl (by kernel_rfl) ⟨?_, trivial⟩
                  · refine XR.ef E0_ok [0, 5, 6, 7, 8, 9, 56] rfl (e_append encP_ok (bytes := 16) (e := 83) (x := (src 76 (.tmp 50))) (y := (src 76 (.tmp 55))) (b := 3) (len := lh2_3.length) (cap := lh2_3.length) (xs := lh2_3) (m := 0) (ys := [((List.getD a (Int.toNat x8_3) (0, 0)).1, (List.getD a (Int.toNat x8_3) (0, 0)).2)]) (d := (some (path 12 56))) (n' := (lh2_3 ++ [((List.getD a (Int.toNat x8_3) (0, 0)).1, (List.getD a (Int.toNat x8_3) (0, 0)).2)]).length) (h' := [(5, rc encP (lh2_3 ++ [((List.getD a (Int.toNat x8_3) (0, 0)).1, (List.getD a (Int.toNat x8_3) (0, 0)).2)]) 0 83 2), (4, .cells [ii ((List.getD a (Int.toNat x8_3) (0, 0)).1), ii ((List.getD a (Int.toNat x8_3) (0, 0)).2)] 0 83 2), (2, rc encP lh2_3 0 83 2), (1, rc (encI .i64) lh1_3 0 3 1), (0, rc encP a z0 y0 2)]) (by kernel_rfl) (by kernel_rfl) (by kernel_rfl) (by kernel_rfl) rfl (by simp) (by simp) b6 (by simp) (by kernel_rfl)) (σ' := [(0, s0 0 a.length), (5, s0 1 lh1_3.length), (6, s0 2 lh2_3.length), (7, ii x7_3), (8, ii x8_3), (9, .bool o4), (56, s0 5 ((lh2_3 ++ [((List.getD a (Int.toNat x8_3) (0, 0)).1, (List.getD a (Int.toNat x8_3) (0, 0)).2)]).length))]) (by kernel_rfl) ?_
                    refine XR.done (by kernel_rfl) ?_
                    refine ⟨rfl, ?_⟩
                    show XA _ _ _ _ _ _ _ _ _ _
                    refine XA.ren (σ' := [(0, s0 0 a.length), (5, s0 1 lh1_3.length), (6, s0 2 lh2_3.length), (7, ii x7_3), (8, ii x8_3), (9, .bool o4), (56, s0 3 ((lh2_3 ++ [((List.getD a (Int.toNat x8_3) (0, 0)).1, (List.getD a (Int.toNat x8_3) (0, 0)).2)]).length))]) (h' := [(3, rc encP (lh2_3 ++ [((List.getD a (Int.toNat x8_3) (0, 0)).1, (List.getD a (Int.toNat x8_3) (0, 0)).2)]) 0 83 2), (2, rc encP lh2_3 0 83 2), (1, rc (encI .i64) lh1_3 0 3 1), (0, rc encP a z0 y0 2)]) (c' := 4) [0, 1, 2, 5] (by decide) rfl ⟨by kernel_rfl, by kernel_rfl, by kernel_rfl, by kernel_rfl, by kernel_rfl, by kernel_rfl, by kernel_rfl, trivial⟩ ⟨⟨_, _, rfl, rfl, .inl ⟨rfl, rowC_scal encP_ok _⟩⟩, ⟨_, _, rfl, rfl, .inl ⟨rfl, rowC_scal encP_ok _⟩⟩, ⟨_, _, rfl, rfl, .inl ⟨rfl, rowC_scal (encI_ok .i64) _⟩⟩, ⟨_, _, rfl, rfl, .inl ⟨rfl, rowC_scal encP_ok _⟩⟩, trivial⟩ rfl ?_
                    exact xa5
                have xa3 : XA E0 76 1 (opsOf (lft (rgt (rgt (lft (lft (rgt f38_L3))))))) 3 #[true, true, true, true, true, true, true, false, false, false] [(0, s0 0 a.length), (5, s0 1 lh1_3.length), (6, s0 2 lh2_3.length), (7, ii x7_3), (8, ii x8_3), (9, .bool o4), (50, s0 3 lh2_3.length), (54, .agg #[ii ((List.getD a (Int.toNat x8_3) (0, 0)).1), ii ((List.getD a (Int.toNat x8_3) (0, 0)).2)])] [(3, rc encP lh2_3 0 83 2), (2, rc encP lh2_3 0 83 2), (1, rc (encI .i64) lh1_3 0 3 1), (0, rc encP a z0 y0 2)] 4 (fun e σ1 h1 c1 => e = .normal ∧ (σ1, h1, c1) = ([(0, s0 0 a.length), (5, s0 1 lh1_3.length), (6, s0 2 lh2_3.length), (7, ii x7_3), (8, ii x8_3), (9, .bool o4), (11, s0 3 ((lh2_3 ++ [((List.getD a (Int.toNat x8_3) (0, 0)).1, (List.getD a (Int.toNat x8_3) (0, 0)).2)]).length))], [(3, rc encP (lh2_3 ++ [((List.getD a (Int.toNat x8_3) (0, 0)).1, (List.getD a (Int.toNat x8_3) (0, 0)).2)]) 0 83 2), (2, rc encP lh2_3 0 83 2), (1, rc (encI .i64) lh1_3 0 3 1), (0, rc encP a z0 y0 2)], 4)) := by
                  refine XA.step E0_ok [7] (by kernel_rfl) rfl (by kernel_rfl) ⟨?_, trivial⟩
                  · refine XR.runT E0_ok 1 1 [(0, s0 0 a.length), (5, s0 1 lh1_3.length), (6, s0 2 lh2_3.length), (7, ii x7_3), (8, ii x8_3), (9, .bool o4), (50, s0 3 lh2_3.length), (55, s0 4 1)] [(4, .cells [ii ((List.getD a (Int.toNat x8_3) (0, 0)).1), ii ((List.getD a (Int.toNat x8_3) (0, 0)).2)] 0 83 2), (3, rc encP lh2_3 0 83 2), (2, rc encP lh2_3 0 83 2), (1, rc (encI .i64) lh1_3 0 3 1), (0, rc encP a z0 y0 2)] 5 rfl (by kernel_rfl) ?_
                    refine XR.done (by kernel_rfl) ?_
                    refine ⟨rfl, ?_⟩
                    show XA _ _ _ _ _ _ _ _ _ _
                    exact xa4
                have xa2 : XA E0 76 1 (opsOf (lft (rgt (rgt (lft (lft (rgt f38_L3))))))) 4 #[true, true, true, true, true, true, false, false, false, false] [(0, s0 0 a.length), (5, s0 1 lh1_3.length), (6, s0 2 lh2_3.length), (7, ii x7_3), (8, ii x8_3), (9, .bool o4), (50, s0 3 lh2_3.length), (53, pp 0 ((Int.toNat x8_3) * 2))] [(3, rc encP lh2_3 0 83 2), (2, rc encP lh2_3 0 83 2), (1, rc (encI .i64) lh1_3 0 3 1), (0, rc encP a z0 y0 2)] 4 (fun e σ1 h1 c1 => e = .normal ∧ (σ1, h1, c1) = ([(0, s0 0 a.length), (5, s0 1 lh1_3.length), (6, s0 2 lh2_3.length), (7, ii x7_3), (8, ii x8_3), (9, .bool o4), (11, s0 3 ((lh2_3 ++ [((List.getD a (Int.toNat x8_3) (0, 0)).1, (List.getD a (Int.toNat x8_3) (0, 0)).2)]).length))], [(3, rc encP (lh2_3 ++ [((List.getD a (Int.toNat x8_3) (0, 0)).1, (List.getD a (Int.toNat x8_3) (0, 0)).2)]) 0 83 2), (2, rc encP lh2_3 0 83 2), (1, rc (encI .i64) lh1_3 0 3 1), (0, rc encP a z0 y0 2)], 4)) := by
                  refine XA.step E0_ok [6] (by kernel_rfl) rfl (by kernel_rfl) ⟨?_, trivial⟩
                  · refine XR.rd E0_ok [0, 5, 6, 7, 8, 9, 50, 54] rfl (v := .agg #[ii ((List.getD a (Int.toNat x8_3) (0, 0)).1), ii ((List.getD a (Int.toNat x8_3) (0, 0)).2)]) (v_loadN encP_ok (x := (src 76 (.tmp 53))) (b := 0) (off := (Int.toNat x8_3) * 2) (xs := a) (fz := z0) (e := y0) (es := 2) (d := (some (path 12 54))) (by kernel_rfl) (by kernel_rfl) (by kernel_rfl) (Int.toNat x8_3) (0, 0) (by first | rfl | omega) (row_len (inRow_toNat b5) (by simp)) rfl) (σ' := [(0, s0 0 a.length), (5, s0 1 lh1_3.length), (6, s0 2 lh2_3.length), (7, ii x7_3), (8, ii x8_3), (9, .bool o4), (50, s0 3 lh2_3.length), (54, .agg #[ii ((List.getD a (Int.toNat x8_3) (0, 0)).1), ii ((List.getD a (Int.toNat x8_3) (0, 0)).2)])]) (by kernel_rfl) ?_
                    refine XR.done (by kernel_rfl) ?_
                    refine ⟨rfl, ?_⟩
                    show XA _ _ _ _ _ _ _ _ _ _
                    exact xa3
                have xa8 : XA E0 76 1 (opsOf (lft (rgt (rgt (lft (lft (rgt f38_L3))))))) 3 #[true, true, false, true, true, true, true, true, false, false] [(0, s0 0 a.length), (5, s0 1 lh1_3.length), (6, s0 2 lh2_3.length), (7, ii x7_3), (8, ii x8_3), (9, .bool o4), (48, s0 3 0), (49, s0 2 lh2_3.length), (55, s0 4 1)] [(4, .cells [ii ((List.getD a (Int.toNat x8_3) (0, 0)).1), ii ((List.getD a (Int.toNat x8_3) (0, 0)).2)] 0 83 2), (3, .cells [] 0 83 2), (2, rc encP lh2_3 0 83 2), (1, rc (encI .i64) lh1_3 0 3 1), (0, rc encP a z0 y0 2)] 5 (fun e σ1 h1 c1 => e = .normal ∧ (σ1, h1, c1) = ([(0, s0 0 a.length), (5, s0 1 lh1_3.length), (6, s0 2 lh2_3.length), (7, ii x7_3), (8, ii x8_3), (9, .bool o4), (11, s0 3 ((lh2_3 ++ [((List.getD a (Int.toNat x8_3) (0, 0)).1, (List.getD a (Int.toNat x8_3) (0, 0)).2)]).length))], [(3, rc encP (lh2_3 ++ [((List.getD a (Int.toNat x8_3) (0, 0)).1, (List.getD a (Int.toNat x8_3) (0, 0)).2)]) 0 83 2), (2, rc encP lh2_3 0 83 2), (1, rc (encI .i64) lh1_3 0 3 1), (0, rc encP a z0 y0 2)], 4)) := by
                  refine XA.step E0_ok [2] (by kernel_rfl) rfl (by kernel_rfl) ⟨?_, trivial⟩
                  · refine XR.efX E0_ok [0, 5, 6, 7, 8, 9, 50, 55] rfl (d := (some (path 12 50))) (f := eAppend false 2 16 83 (src 76 (.tmp 48)) (src 76 (.tmp 49))) (by kernel_rfl) (fun _ => eAppendA_ok) (e_appendA encP_ok (bytes := 16) (e := 83) (x := (src 76 (.tmp 48))) (y := (src 76 (.tmp 49))) (b := 3) (len := 0) (cap := 0) (xs := []) (n := lh2_3.length) (ys := lh2_3) (n' := lh2_3.length) (h' := [(5, rc encP lh2_3 0 83 2), (4, .cells [ii ((List.getD a (Int.toNat x8_3) (0, 0)).1), ii ((List.getD a (Int.toNat x8_3) (0, 0)).2)] 0 83 2), (2, rc encP lh2_3 0 83 2), (1, rc (encI .i64) lh1_3 0 3 1), (0, rc encP a z0 y0 2)]) (Y := s0 2 lh2_3.length) (by kernel_rfl) (by kernel_rfl) (by kernel_rfl) (fetch_all encP_ok (ys := lh2_3) (fz := 0) (e := 83) (es := 2) (by kernel_rfl) (by simp) (Nat.le_refl _)) (by simp) rfl (by simp) (by simp) b4 (by first | (simp; done) | (simp; omega)) (by kernel_rfl)) (σ' := [(0, s0 0 a.length), (5, s0 1 lh1_3.length), (6, s0 2 lh2_3.length), (7, ii x7_3), (8, ii x8_3), (9, .bool o4), (50, s0 5 lh2_3.length), (55, s0 4 1)]) (by kernel_rfl) ?_
                    refine XR.done (by kernel_rfl) ?_
                    refine ⟨rfl, ?_⟩
                    show XA _ _ _ _ _ _ _ _ _ _
                    refine XA.ren (σ' := [(0, s0 0 a.length), (5, s0 1 lh1_3.length), (6, s0 2 lh2_3.length), (7, ii x7_3), (8, ii x8_3), (9, .bool o4), (50, s0 3 lh2_3.length), (55, s0 4 1)]) (h' := [(4, .cells [ii ((List.getD a (Int.toNat x8_3) (0, 0)).1), ii ((List.getD a (Int.toNat x8_3) (0, 0)).2)] 0 83 2), (3, rc encP lh2_3 0 83 2), (2, rc encP lh2_3 0 83 2), (1, rc (encI .i64) lh1_3 0 3 1), (0, rc encP a z0 y0 2)]) (c' := 5) [0, 1, 2, 5, 4] (by decide) rfl ⟨by kernel_rfl, by kernel_rfl, by kernel_rfl, by kernel_rfl, by kernel_rfl, by kernel_rfl, by kernel_rfl, by kernel_rfl, trivial⟩ ⟨⟨_, _, rfl, rfl, .inr ⟨_, _, _, _, rfl, rfl⟩⟩, ⟨_, _, rfl, rfl, .inl ⟨rfl, rowC_scal encP_ok _⟩⟩, ⟨_, _, rfl, rfl, .inl ⟨rfl, rowC_scal encP_ok _⟩⟩, ⟨_, _, rfl, rfl, .inl ⟨rfl, rowC_scal (encI_ok .i64) _⟩⟩, ⟨_, _, rfl, rfl, .inl ⟨rfl, rowC_scal encP_ok _⟩⟩, trivial⟩ rfl ?_
                    exact xa4
                have xa7 : XA E0 76 1 (opsOf (lft (rgt (rgt (lft (lft (rgt f38_L3))))))) 4 #[true, true, false, true, true, true, true, false, false, false] [(0, s0 0 a.length), (5, s0 1 lh1_3.length), (6, s0 2 lh2_3.length), (7, ii x7_3), (8, ii x8_3), (9, .bool o4), (48, s0 3 0), (49, s0 2 lh2_3.length), (54, .agg #[ii ((List.getD a (Int.toNat x8_3) (0, 0)).1), ii ((List.getD a (Int.toNat x8_3) (0, 0)).2)])] [(3, .cells [] 0 83 2), (2, rc encP lh2_3 0 83 2), (1, rc (encI .i64) lh1_3 0 3 1), (0, rc encP a z0 y0 2)] 4 (fun e σ1 h1 c1 => e = .normal ∧ (σ1, h1, c1) = ([(0, s0 0 a.length), (5, s0 1 lh1_3.length), (6, s0 2 lh2_3.length), (7, ii x7_3), (8, ii x8_3), (9, .bool o4), (11, s0 3 ((lh2_3 ++ [((List.getD a (Int.toNat x8_3) (0, 0)).1, (List.getD a (Int.toNat x8_3) (0, 0)).2)]).length))], [(3, rc encP (lh2_3 ++ [((List.getD a (Int.toNat x8_3) (0, 0)).1, (List.getD a (Int.toNat x8_3) (0, 0)).2)]) 0 83 2), (2, rc encP lh2_3 0 83 2), (1, rc (encI .i64) lh1_3 0 3 1), (0, rc encP a z0 y0 2)], 4)) := by
                  refine XA.step E0_ok [2, 7] (by kernel_rfl) rfl (by kernel_rfl) ⟨?_, ?_, trivial⟩
                  · refine XR.efX E0_ok [0, 5, 6, 7, 8, 9, 50, 54] rfl (d := (some (path 12 50))) (f := eAppend false 2 16 83 (src 76 (.tmp 48)) (src 76 (.tmp 49))) (by kernel_rfl) (fun _ => eAppendA_ok) (e_appendA encP_ok (bytes := 16) (e := 83) (x := (src 76 (.tmp 48))) (y := (src 76 (.tmp 49))) (b := 3) (len := 0) (cap := 0) (xs := []) (n := lh2_3.length) (ys := lh2_3) (n' := lh2_3.length) (h' := [(4, rc encP lh2_3 0 83 2), (2, rc encP lh2_3 0 83 2), (1, rc (encI .i64) lh1_3 0 3 1), (0, rc encP a z0 y0 2)]) (Y := s0 2 lh2_3.length) (by kernel_rfl) (by kernel_rfl) (by kernel_rfl) (fetch_all encP_ok (ys := lh2_3) (fz := 0) (e := 83) (es := 2) (by kernel_rfl) (by simp) (Nat.le_refl _)) (by simp) rfl (by simp) (by simp) b4 (by first | (simp; done) | (simp; omega)) (by kernel_rfl)) (σ' := [(0, s0 0 a.length), (5, s0 1 lh1_3.length), (6, s0 2 lh2_3.length), (7, ii x7_3), (8, ii x8_3), (9, .bool o4), (50, s0 4 lh2_3.length), (54, .agg #[ii ((List.getD a (Int.toNat x8_3) (0, 0)).1), ii ((List.getD a (Int.toNat x8_3) (0, 0)).2)])]) (by kernel_rfl) ?_
                    refine XR.done (by kernel_rfl) ?_
                    refine ⟨rfl, ?_⟩
                    show XA _ _ _ _ _ _ _ _ _ _
                    refine XA.ren (σ' := [(0, s0 0 a.length), (5, s0 1 lh1_3.length), (6, s0 2 lh2_3.length), (7, ii x7_3), (8, ii x8_3), (9, .bool o4), (50, s0 3 lh2_3.length), (54, .agg #[ii ((List.getD a (Int.toNat x8_3) (0, 0)).1), ii ((List.getD a (Int.toNat x8_3) (0, 0)).2)])]) (h' := [(3, rc encP lh2_3 0 83 2), (2, rc encP lh2_3 0 83 2), (1, rc (encI .i64) lh1_3 0 3 1), (0, rc encP a z0 y0 2)]) (c' := 4) [0, 1, 2, 4] (by decide) rfl ⟨by kernel_rfl, by kernel_rfl, by kernel_rfl, by kernel_rfl, by kernel_rfl, by kernel_rfl, by kernel_rfl, by kernel_rfl, trivial⟩ ⟨⟨_, _, rfl, rfl, .inl ⟨rfl, rowC_scal encP_ok _⟩⟩, ⟨_, _, rfl, rfl, .inl ⟨rfl, rowC_scal encP_ok _⟩⟩, ⟨_, _, rfl, rfl, .inl ⟨rfl, rowC_scal (encI_ok .i64) _⟩⟩, ⟨_, _, rfl, rfl, .inl ⟨rfl, rowC_scal encP_ok _⟩⟩, trivial⟩ rfl ?_
                    exact xa3
                  · refine XR.runT E0_ok 1 1 [(0, s0 0 a.length), (5, s0 1 lh1_3.length), (6, s0 2 lh2_3.length), (7, ii x7_3), (8, ii x8_3), (9, .bool o4), (48, s0 3 0), (49, s0 2 lh2_3.length), (55, s0 4 1)] [(4, .cells [ii ((List.getD a (Int.toNat x8_3) (0, 0)).1), ii ((List.getD a (Int.toNat x8_3) (0, 0)).2)] 0 83 2), (3, .cells [] 0 83 2), (2, rc encP lh2_3 0 83 2), (1, rc (encI .i64) lh1_3 0 3 1), (0, rc encP a z0 y0 2)] 5 rfl (by kernel_rfl) ?_
                    refine XR.done (by kernel_rfl) ?_
                    refine ⟨rfl, ?_⟩
                    show XA _ _ _ _ _ _ _ _ _ _
                    exact xa8
                have xa1 : XA E0 76 1 (opsOf (lft (rgt (rgt (lft (lft (rgt f38_L3))))))) 5 #[true, true, false, true, true, true, false, false, false, false] [(0, s0 0 a.length), (5, s0 1 lh1_3.length), (6, s0 2 lh2_3.length), (7, ii x7_3), (8, ii x8_3), (9, .bool o4), (48, s0 3 0), (49, s0 2 lh2_3.length), (53, pp 0 ((Int.toNat x8_3) * 2))] [(3, .cells [] 0 83 2), (2, rc encP lh2_3 0 83 2), (1, rc (encI .i64) lh1_3 0 3 1), (0, rc encP a z0 y0 2)] 4 (fun e σ1 h1 c1 => e = .normal ∧ (σ1, h1, c1) = ([(0, s0 0 a.length), (5, s0 1 lh1_3.length), (6, s0 2 lh2_3.length), (7, ii x7_3), (8, ii x8_3), (9, .bool o4), (11, s0 3 ((lh2_3 ++ [((List.getD a (Int.toNat x8_3) (0, 0)).1, (List.getD a (Int.toNat x8_3) (0, 0)).2)]).length))], [(3, rc encP (lh2_3 ++ [((List.getD a (Int.toNat x8_3) (0, 0)).1, (List.getD a (Int.toNat x8_3) (0, 0)).2)]) 0 83 2), (2, rc encP lh2_3 0 83 2), (1, rc (encI .i64) lh1_3 0 3 1), (0, rc encP a z0 y0 2)], 4)) := by
                  refine XA.step E0_ok [2, 6] (by kernel_rfl) rfl (by kernel_rfl) ⟨?_, ?_, trivial⟩
                  · refine XR.efX E0_ok [0, 5, 6, 7, 8, 9, 50, 53] rfl (d := (some (path 12 50))) (f := eAppend false 2 16 83 (src 76 (.tmp 48)) (src 76 (.tmp 49))) (by kernel_rfl) (fun _ => eAppendA_ok) (e_appendA encP_ok (bytes := 16) (e := 83) (x := (src 76 (.tmp 48))) (y := (src 76 (.tmp 49))) (b := 3) (len := 0) (cap := 0) (xs := []) (n := lh2_3.length) (ys := lh2_3) (n' := lh2_3.length) (h' := [(4, rc encP lh2_3 0 83 2), (2, rc encP lh2_3 0 83 2), (1, rc (encI .i64) lh1_3 0 3 1), (0, rc encP a z0 y0 2)]) (Y := s0 2 lh2_3.length) (by kernel_rfl) (by kernel_rfl) (by kernel_rfl) (fetch_all encP_ok (ys := lh2_3) (fz := 0) (e := 83) (es := 2) (by kernel_rfl) (by simp) (Nat.le_refl _)) (by simp) rfl (by simp) (by simp) b4 (by first | (simp; done) | (simp; omega)) (by kernel_rfl)) (σ' := [(0, s0 0 a.length), (5, s0 1 lh1_3.length), (6, s0 2 lh2_3.length), (7, ii x7_3), (8, ii x8_3), (9, .bool o4), (50, s0 4 lh2_3.length), (53, pp 0 ((Int.toNat x8_3) * 2))]) (by kernel_rfl) ?_
                    refine XR.done (by kernel_rfl) ?_
                    refine ⟨rfl, ?_⟩
                    show XA _ _ _ _ _ _ _ _ _ _
                    refine XA.ren (σ' := [(0, s0 0 a.length), (5, s0 1 lh1_3.length), (6, s0 2 lh2_3.length), (7, ii x7_3), (8, ii x8_3), (9, .bool o4), (50, s0 3 lh2_3.length), (53, pp 0 ((Int.toNat x8_3) * 2))]) (h' := [(3, rc encP lh2_3 0 83 2), (2, rc encP lh2_3 0 83 2), (1, rc (encI .i64) lh1_3 0 3 1), (0, rc encP a z0 y0 2)]) (c' := 4) [0, 1, 2, 4] (by decide) rfl ⟨by kernel_rfl, by kernel_rfl, by kernel_rfl, by kernel_rfl, by kernel_rfl, by kernel_rfl, by kernel_rfl, by kernel_rfl, trivial⟩ ⟨⟨_, _, rfl, rfl, .inl ⟨rfl, rowC_scal encP_ok _⟩⟩, ⟨_, _, rfl, rfl, .inl ⟨rfl, rowC_scal encP_ok _⟩⟩, ⟨_, _, rfl, rfl, .inl ⟨rfl, rowC_scal (encI_ok .i64) _⟩⟩, ⟨_, _, rfl, rfl, .inl ⟨rfl, rowC_scal encP_ok _⟩⟩, trivial⟩ rfl ?_
                    exact xa2
                  · refine XR.rd E0_ok [0, 5, 6, 7, 8, 9, 48, 49, 54] rfl (v := .agg #[ii ((List.getD a (Int.toNat x8_3) (0, 0)).1), ii ((List.getD a (Int.toNat x8_3) (0, 0)).2)]) (v_loadN encP_ok (x := (src 76 (.tmp 53))) (b := 0) (off := (Int.toNat x8_3) * 2) (xs := a) (fz := z0) (e := y0) (es := 2) (d := (some (path 12 54))) (by kernel_rfl) (by kernel_rfl) (by kernel_rfl) (Int.toNat x8_3) (0, 0) (by first | rfl | omega) (row_len (inRow_toNat b5) (by simp)) rfl) (σ' := [(0, s0 0 a.length), (5, s0 1 lh1_3.length), (6, s0 2 lh2_3.length), (7, ii x7_3), (8, ii x8_3), (9, .bool o4), (48, s0 3 0), (49, s0 2 lh2_3.length), (54, .agg #[ii ((List.getD a (Int.toNat x8_3) (0, 0)).1), ii ((List.getD a (Int.toNat x8_3) (0, 0)).2)])]) (by kernel_rfl) ?_
                    refine XR.done (by kernel_rfl) ?_
                    refine ⟨rfl, ?_⟩
                    show XA _ _ _ _ _ _ _ _ _ _
                    exact xa7
                have xa10 : XA E0 76 1 (opsOf (lft (rgt (rgt (lft (lft (rgt f38_L3))))))) 4 #[false, true, false, true, true, true, true, true, false, false] [(0, s0 0 a.length), (5, s0 1 lh1_3.length), (6, s0 2 lh2_3.length), (7, ii x7_3), (8, ii x8_3), (9, .bool o4), (49, s0 2 lh2_3.length), (55, s0 3 1)] [(3, .cells [ii ((List.getD a (Int.toNat x8_3) (0, 0)).1), ii ((List.getD a (Int.toNat x8_3) (0, 0)).2)] 0 83 2), (2, rc encP lh2_3 0 83 2), (1, rc (encI .i64) lh1_3 0 3 1), (0, rc encP a z0 y0 2)] 4 (fun e σ1 h1 c1 => e = .normal ∧ (σ1, h1, c1) = ([(0, s0 0 a.length), (5, s0 1 lh1_3.length), (6, s0 2 lh2_3.length), (7, ii x7_3), (8, ii x8_3), (9, .bool o4), (11, s0 3 ((lh2_3 ++ [((List.getD a (Int.toNat x8_3) (0, 0)).1, (List.getD a (Int.toNat x8_3) (0, 0)).2)]).length))], [(3, rc encP (lh2_3 ++ [((List.getD a (Int.toNat x8_3) (0, 0)).1, (List.getD a (Int.toNat x8_3) (0, 0)).2)]) 0 83 2), (2, rc encP lh2_3 0 83 2), (1, rc (encI .i64) lh1_3 0 3 1), (0, rc encP a z0 y0 2)], 4)) := by
                  refine XA.step E0_ok [0] (by kernel_rfl) rfl (by kernel_rfl) ⟨?_, trivial⟩
                  · refine XR.runT E0_ok 1 1 [(0, s0 0 a.length), (5, s0 1 lh1_3.length), (6, s0 2 lh2_3.length), (7, ii x7_3), (8, ii x8_3), (9, .bool o4), (48, s0 4 0), (49, s0 2 lh2_3.length), (55, s0 3 1)] [(4, .cells [] 0 83 2), (3, .cells [ii ((List.getD a (Int.toNat x8_3) (0, 0)).1), ii ((List.getD a (Int.toNat x8_3) (0, 0)).2)] 0 83 2), (2, rc encP lh2_3 0 83 2), (1, rc (encI .i64) lh1_3 0 3 1), (0, rc encP a z0 y0 2)] 5 rfl (by kernel_rfl) ?_
                    refine XR.done (by kernel_rfl) ?_
                    refine ⟨rfl, ?_⟩
                    show XA _ _ _ _ _ _ _ _ _ _
                    refine XA.ren (σ' := [(0, s0 0 a.length), (5, s0 1 lh1_3.length), (6, s0 2 lh2_3.length), (7, ii x7_3), (8, ii x8_3), (9, .bool o4), (48, s0 3 0), (49, s0 2 lh2_3.length), (55, s0 4 1)]) (h' := [(4, .cells [ii ((List.getD a (Int.toNat x8_3) (0, 0)).1), ii ((List.getD a (Int.toNat x8_3) (0, 0)).2)] 0 83 2), (3, .cells [] 0 83 2), (2, rc encP lh2_3 0 83 2), (1, rc (encI .i64) lh1_3 0 3 1), (0, rc encP a z0 y0 2)]) (c' := 5) [0, 1, 2, 4, 3] (by decide) rfl ⟨by kernel_rfl, by kernel_rfl, by kernel_rfl, by kernel_rfl, by kernel_rfl, by kernel_rfl, by kernel_rfl, by kernel_rfl, by kernel_rfl, trivial⟩ ⟨⟨_, _, rfl, rfl, .inr ⟨_, _, _, _, rfl, rfl⟩⟩, ⟨_, _, rfl, rfl, .inr ⟨_, _, _, _, rfl, rfl⟩⟩, ⟨_, _, rfl, rfl, .inl ⟨rfl, rowC_scal encP_ok _⟩⟩, ⟨_, _, rfl, rfl, .inl ⟨rfl, rowC_scal (encI_ok .i64) _⟩⟩, ⟨_, _, rfl, rfl, .inl ⟨rfl, rowC_scal encP_ok _⟩⟩, trivial⟩ rfl ?_
                    exact xa8
                have xa9 : XA E0 76 1 (opsOf (lft (rgt (rgt (lft (lft (rgt f38_L3))))))) 5 #[false, true, false, true, true, true, true, false, false, false] [(0, s0 0 a.length), (5, s0 1 lh1_3.length), (6, s0 2 lh2_3.length), (7, ii x7_3), (8, ii x8_3), (9, .bool o4), (49, s0 2 lh2_3.length), (54, .agg #[ii ((List.getD a (Int.toNat x8_3) (0, 0)).1), ii ((List.getD a (Int.toNat x8_3) (0, 0)).2)])] [(2, rc encP lh2_3 0 83 2), (1, rc (encI .i64) lh1_3 0 3 1), (0, rc encP a z0 y0 2)] 3 (fun e σ1 h1 c1 => e = .normal ∧ (σ1, h1, c1) = ([(0, s0 0 a.length), (5, s0 1 lh1_3.length), (6, s0 2 lh2_3.length), (7, ii x7_3), (8, ii x8_3), (9, .bool o4), (11, s0 3 ((lh2_3 ++ [((List.getD a (Int.toNat x8_3) (0, 0)).1, (List.getD a (Int.toNat x8_3) (0, 0)).2)]).length))], [(3, rc encP (lh2_3 ++ [((List.getD a (Int.toNat x8_3) (0, 0)).1, (List.getD a (Int.toNat x8_3) (0, 0)).2)]) 0 83 2), (2, rc encP lh2_3 0 83 2), (1, rc (encI .i64) lh1_3 0 3 1), (0, rc encP a z0 y0 2)], 4)) := by
                  refine XA.step E0_ok [0, 7] (by kernel_rfl) rfl (by kernel_rfl) ⟨?_, ?_, trivial⟩
                  · refine XR.runT E0_ok 1 1 [(0, s0 0 a.length), (5, s0 1 lh1_3.length), (6, s0 2 lh2_3.length), (7, ii x7_3), (8, ii x8_3), (9, .bool o4), (48, s0 3 0), (49, s0 2 lh2_3.length), (54, .agg #[ii ((List.getD a (Int.toNat x8_3) (0, 0)).1), ii ((List.getD a (Int.toNat x8_3) (0, 0)).2)])] [(3, .cells [] 0 83 2), (2, rc encP lh2_3 0 83 2), (1, rc (encI .i64) lh1_3 0 3 1), (0, rc encP a z0 y0 2)] 4 rfl (by kernel_rfl) ?_
                    refine XR.done (by kernel_rfl) ?_
                    refine ⟨rfl, ?_⟩
                    show XA _ _ _ _ _ _ _ _ _ _
                    exact xa7
                  · refine XR.runT E0_ok 1 1 [(0, s0 0 a.length), (5, s0 1 lh1_3.length), (6, s0 2 lh2_3.length), (7, ii x7_3), (8, ii x8_3), (9, .bool o4), (49, s0 2 lh2_3.length), (55, s0 3 1)] [(3, .cells [ii ((List.getD a (Int.toNat x8_3) (0, 0)).1), ii ((List.getD a (Int.toNat x8_3) (0, 0)).2)] 0 83 2), (2, rc encP lh2_3 0 83 2), (1, rc (encI .i64) lh1_3 0 3 1), (0, rc encP a z0 y0 2)] 4 rfl (by kernel_rfl) ?_
                    refine XR.done (by kernel_rfl) ?_
                    refine ⟨rfl, ?_⟩
                    show XA _ _ _ _ _ _ _ _ _ _
                    exact xa10
                have xa0 : XA E0 76 1 (opsOf (lft (rgt (rgt (lft (lft (rgt f38_L3))))))) 6 #[false, true, false, true, true, true, false, false, false, false] [(0, s0 0 a.length), (5, s0 1 lh1_3.length), (6, s0 2 lh2_3.length), (7, ii x7_3), (8, ii x8_3), (9, .bool o4), (49, s0 2 lh2_3.length), (53, pp 0 ((Int.toNat x8_3) * 2))] [(2, rc encP lh2_3 0 83 2), (1, rc (encI .i64) lh1_3 0 3 1), (0, rc encP a z0 y0 2)] 3 (fun e σ1 h1 c1 => e = .normal ∧ (σ1, h1, c1) = ([(0, s0 0 a.length), (5, s0 1 lh1_3.length), (6, s0 2 lh2_3.length), (7, ii x7_3), (8, ii x8_3), (9, .bool o4), (11, s0 3 ((lh2_3 ++ [((List.getD a (Int.toNat x8_3) (0, 0)).1, (List.getD a (Int.toNat x8_3) (0, 0)).2)]).length))], [(3, rc encP (lh2_3 ++ [((List.getD a (Int.toNat x8_3) (0, 0)).1, (List.getD a (Int.toNat x8_3) (0, 0)).2)]) 0 83 2), (2, rc encP lh2_3 0 83 2), (1, rc (encI .i64) lh1_3 0 3 1), (0, rc encP a z0 y0 2)], 4)) := by
                  refine XA.step E0_ok [0, 6] (by kernel_rfl) rfl (by kernel_rfl) ⟨?_, ?_, trivial⟩
                  · refine XR.runT E0_ok 1 1 [(0, s0 0 a.length), (5, s0 1 lh1_3.length), (6, s0 2 lh2_3.length), (7, ii x7_3), (8, ii x8_3), (9, .bool o4), (48, s0 3 0), (49, s0 2 lh2_3.length), (53, pp 0 ((Int.toNat x8_3) * 2))] [(3, .cells [] 0 83 2), (2, rc encP lh2_3 0 83 2), (1, rc (encI .i64) lh1_3 0 3 1), (0, rc encP a z0 y0 2)] 4 rfl (by kernel_rfl) ?_
                    refine XR.done (by kernel_rfl) ?_
                    refine ⟨rfl, ?_⟩
                    show XA _ _ _ _ _ _ _ _ _ _
                    exact xa1
                  · refine XR.rd E0_ok [0, 5, 6, 7, 8, 9, 49, 54] rfl (v := .agg #[ii ((List.getD a (Int.toNat x8_3) (0, 0)).1), ii ((List.getD a (Int.toNat x8_3) (0, 0)).2)]) (v_loadN encP_ok (x := (src 76 (.tmp 53))) (b := 0) (off := (Int.toNat x8_3) * 2) (xs := a) (fz := z0) (e := y0) (es := 2) (d := (some (path 12 54))) (by kernel_rfl) (by kernel_rfl) (by kernel_rfl) (Int.toNat x8_3) (0, 0) (by first | rfl | omega) (row_len (inRow_toNat b5) (by simp)) rfl) (σ' := [(0, s0 0 a.length), (5, s0 1 lh1_3.length), (6, s0 2 lh2_3.length), (7, ii x7_3), (8, ii x8_3), (9, .bool o4), (49, s0 2 lh2_3.length), (54, .agg #[ii ((List.getD a (Int.toNat x8_3) (0, 0)).1), ii ((List.getD a (Int.toNat x8_3) (0, 0)).2)])]) (by kernel_rfl) ?_
                    refine XR.done (by kernel_rfl) ?_
                    refine ⟨rfl, ?_⟩
                    show XA _ _ _ _ _ _ _ _ _ _
                    exact xa9
                refine XP.step E0_ok 3 [0, 5, 6, 7, 8, 9, 49, 51, 52] rfl (σ' := [(0, s0 0 a.length), (5, s0 1 lh1_3.length), (6, s0 2 lh2_3.length), (7, ii x7_3), (8, ii x8_3), (9, .bool o4), (49, s0 2 lh2_3.length), (51, s0 0 a.length), (52, ii x8_3)]) (by kernel_rfl) ?_
                refine XP.rd E0_ok (by kernel_rfl) [0, 5, 6, 7, 8, 9, 49, 53] rfl rfl (v := pp 0 ((Int.toNat x8_3) * 2)) (v_idx (s := 2) (x := (src 76 (.tmp 51))) (y := (src 76 (.tmp 52))) (b := 0) (o := 0) (len := a.length) (cap := a.length) (ik := .i64) (i := x8_3) (off := (Int.toNat x8_3) * 2) (d := (some (path 12 53))) (by kernel_rfl) (by kernel_rfl) (by kernel_rfl) b5 (by omega)) (σ' := [(0, s0 0 a.length), (5, s0 1 lh1_3.length), (6, s0 2 lh2_3.length), (7, ii x7_3), (8, ii x8_3), (9, .bool o4), (49, s0 2 lh2_3.length), (53, pp 0 ((Int.toNat x8_3) * 2))]) (by kernel_rfl) ?_
                refine XP.done (by kernel_rfl) ?_
                show XA _ _ _ _ _ _ _ _ _ _
                exact xa0
      | false =>
        have h := cF b2 h
        refine XQ.cond (s := (.tmp 26)) (b := false) (by kernel_rfl) (by kernel_rfl) (fun q => by cases q) (fun _ => ?_)
        refine XQ.ren (σ' := [(5, s0 1 lh1_3.length)]) (h' := [(1, rc (encI .i64) lh1_3 0 3 1), (0, rc encP a z0 y0 2)]) (c' := 2) [0, 1] (by decide) rfl ⟨by kernel_rfl, trivial⟩ ⟨⟨_, _, rfl, rfl, .inl ⟨rfl, rowC_scal (encI_ok .i64) _⟩⟩, ⟨_, _, rfl, rfl, .inl ⟨rfl, rowC_scal encP_ok _⟩⟩, trivial⟩ rfl ?_
        refine XQ.exit (i := 0) (by kernel_rfl) ?_
        cases h
        exact hQ
    | false =>
      have h := cF b1 h
      refine XR.runS E0_ok 1 3 [(0, s0 0 a.length), (5, s0 1 lh1_3.length), (6, s0 2 lh2_3.length), (7, ii x7_3), (8, ii x8_3), (26, .bool false)] rfl (by kernel_rfl) ?_
      refine XR.done (by kernel_rfl) ?_
      show XQ _ _ _ _ _ _ _ _
      refine XQ.cond (s := (.tmp 26)) (b := false) (by kernel_rfl) (by kernel_rfl) (fun q => by cases q) (fun _ => ?_)
      refine XQ.ren (σ' := [(5, s0 1 lh1_3.length)]) (h' := [(1, rc (encI .i64) lh1_3 0 3 1), (0, rc encP a z0 y0 2)]) (c' := 2) [0, 1] (by decide) rfl ⟨by kernel_rfl, trivial⟩ ⟨⟨_, _, rfl, rfl, .inl ⟨rfl, rowC_scal (encI_ok .i64) _⟩⟩, ⟨_, _, rfl, rfl, .inl ⟨rfl, rowC_scal encP_ok _⟩⟩, trivial⟩ rfl ?_
      refine XQ.exit (i := 0) (by kernel_rfl) ?_
      cases h
      exact hQ

def f38 (m : Nat) (a : List (Int × Int)) : Option ((List Int) × Int) :=
  (f24 m a).bind fun r1 =>
    cond (r1 != 0) (
      some ([], r1)
    ) (
      cond ((0 : Int) == ((a.length : Nat) : Int)) (
        (f38_1 m m a).bind fun o1 =>
          some ([], 0)
      ) (
        (f81 m m a [] 1).bind fun r3 =>
          (f38_2 m m a r3).bind fun o2 =>
            cond (inRow 0 a.length) (
              (f81 m m a [((List.getD a 0 (0, 0)).1, (List.getD a 0 (0, 0)).2)] 1).bind fun r4 =>
                (f38_3 m m a (iMax o2 (w64 (1 + r4))) 0 [] []).bind fun o3 =>
                  some (o3, 0)
            ) none
      )
    )

theorem f38_ok (m : Nat) (z0 : Nat) (y0 : Nat) (a : List (Int × Int)) (o : (List Int) × Int) (h : f38 m a = some o) : KC E0 38 [s0 0 a.length] [(0, rc encP a z0 y0 2)] 1 (fun v h' c' => v = .tuple #[s0 1 o.1.length, ii o.2] ∧ h' = [(1, rc (encI .i64) o.1 0 3 1)] ++ [(0, rc encP a z0 y0 2)] ∧ c' = 2) := by
  refine KC.bodyN E0_ok (F := Proofs.Try.f38) (by kernel_rfl) (code := f38_C38) (by kernel_rfl) (nt := 76) (by kernel_rfl) (rs := [.tmp 2, .tmp 3]) (by kernel_rfl) (by kernel_rfl) (σ := [(0, s0 0 a.length)]) (by kernel_rfl) ?_
  unfold f38 at h
  refine XQ.seq E0_ok (by kernel_rfl) ?_
  refine XQ.region (by kernel_rfl) ?_
  refine XR.runS E0_ok 1 2 [(0, s0 0 a.length)] rfl (by kernel_rfl) ?_
  refine XR.done (by kernel_rfl) ?_
  show XQ _ _ _ _ _ _ _ _
  refine XQ.seq E0_ok (by kernel_rfl) ?_
  refine XQ.region (by kernel_rfl) ?_
  refine XR.runS E0_ok 1 1 [(0, s0 0 a.length), (12, s0 0 a.length)] rfl (by kernel_rfl) ?_
  obtain ⟨r1, r1_h, h⟩ := bS h
  refine XR.call E0_ok [0, 13] rfl (K := 24) (args := [s0 0 a.length]) (d := (some (path 12 13))) (by kernel_rfl) (KQ.call (KC.quiet E0_ok (args0 := [s0 0 a.length]) (h0 := [(0, rc encP a (z0 + ((rowC encP a).length + 1)) y0 2)]) (n := 1) (V := ii r1) [0] (f24_ok m (z0 + ((rowC encP a).length + 1)) y0 a r1 r1_h) rfl (by rfl) (by decide) rfl (by kernel_rfl) ⟨⟨_, _, rfl, rfl, .inl ⟨rfl, rowC_scal encP_ok _⟩⟩, trivial⟩) rfl) ?_
  rintro _ _ _ ⟨rfl, rfl, rfl⟩
  refine XR.conv (σ' := [(0, s0 0 a.length), (13, ii r1)]) (h' := [(0, rc encP a z0 y0 2)]) (c' := 1) ?_ (by kernel_rfl)
  refine XR.runS E0_ok 1 1 [(0, s0 0 a.length), (4, ii r1)] rfl (by kernel_rfl) ?_
  refine XR.done (by kernel_rfl) ?_
  show XQ _ _ _ _ _ _ _ _
  refine XQ.seq E0_ok (by kernel_rfl) ?_
  refine XQ.seq E0_ok (by kernel_rfl) ?_
  refine XQ.region (by kernel_rfl) ?_
  refine XR.runS E0_ok 1 2 [(0, s0 0 a.length), (4, ii r1), (15, .bool (r1 != 0))] rfl (by kernel_rfl) ?_
  refine XR.done (by kernel_rfl) ?_
  show XQ _ _ _ _ _ _ _ _
  cases b1 : (r1 != 0 : Bool) with
  | true =>
    have h := cT b1 h
    refine XQ.cond (s := (.tmp 15)) (b := true) (by kernel_rfl) (by kernel_rfl) (fun _ => ?_) (fun q => by cases q)
    refine XQ.seq E0_ok (by kernel_rfl) ?_
    refine XQ.region (by kernel_rfl) ?_
    refine XR.runS E0_ok 1 3 [(2, .slice none 0 0), (3, ii r1)] rfl (by kernel_rfl) ?_
    refine XR.done (by kernel_rfl) ?_
    show XQ _ _ _ _ _ _ _ _
    refine XQ.ghost 3 1 rfl (σ' := [(2, s0 1 0), (3, ii r1)]) (h' := [(0, rc encP a z0 y0 2)]) ⟨by kernel_rfl, by kernel_rfl, trivial⟩ ⟨⟨_, rfl, .inl rfl⟩, trivial⟩ ?_
    refine XQ.conv (σ' := [(2, s0 1 0), (3, ii r1)]) (h' := [(1, rc (encI .i64) [] 0 3 1), (0, rc encP a z0 y0 2)]) (c' := 2) ?_ (by kernel_rfl)
    refine XQ.ren (σ' := [(2, s0 1 0), (3, ii r1)]) (h' := [(1, rc (encI .i64) [] 0 3 1), (0, rc encP a z0 y0 2)]) (c' := 2) [0, 1] (by decide) rfl ⟨by kernel_rfl, by kernel_rfl, trivial⟩ ⟨⟨_, _, rfl, rfl, .inl ⟨rfl, rowC_scal (encI_ok .i64) _⟩⟩, ⟨_, _, rfl, rfl, .inl ⟨rfl, rowC_scal encP_ok _⟩⟩, trivial⟩ rfl ?_
    refine XQ.ret (by kernel_rfl) ?_
    have h := Option.some.inj h
    subst h
    exact ⟨fun i q => (by cases q), .tuple #[s0 1 0, ii r1], (by kernel_rfl), (by kernel_rfl), (by kernel_rfl), rfl⟩
  | false =>
    have h := cF b1 h
    refine XQ.cond (s := (.tmp 15)) (b := false) (by kernel_rfl) (by kernel_rfl) (fun q => by cases q) (fun _ => ?_)
    refine XQ.skip (by kernel_rfl) ?_
    show XQ _ _ _ _ _ _ _ _
    refine XQ.seq E0_ok (by kernel_rfl) ?_
    refine XQ.region (by kernel_rfl) ?_
    refine XR.runS E0_ok 1 1 [(0, s0 0 a.length), (5, .slice none 0 0)] rfl (by kernel_rfl) ?_
    refine XR.done (by kernel_rfl) ?_
    show XQ _ _ _ _ _ _ _ _
    refine XQ.ghost 3 1 rfl (σ' := [(0, s0 0 a.length), (5, s0 1 0)]) (h' := [(0, rc encP a z0 y0 2)]) ⟨by kernel_rfl, by kernel_rfl, trivial⟩ ⟨⟨_, rfl, .inl rfl⟩, trivial⟩ ?_
    refine XQ.conv (σ' := [(0, s0 0 a.length), (5, s0 1 0)]) (h' := [(1, rc (encI .i64) [] 0 3 1), (0, rc encP a z0 y0 2)]) (c' := 2) ?_ (by kernel_rfl)
    refine XQ.seq E0_ok (by kernel_rfl) ?_
    refine XQ.region (by kernel_rfl) ?_
    refine XR.runS E0_ok 1 1 [(0, s0 0 a.length), (5, s0 1 0), (6, .slice none 0 0)] rfl (by kernel_rfl) ?_
    refine XR.done (by kernel_rfl) ?_
    show XQ _ _ _ _ _ _ _ _
    refine XQ.ghost 83 2 rfl (σ' := [(0, s0 0 a.length), (5, s0 1 0), (6, s0 2 0)]) (h' := [(1, rc (encI .i64) [] 0 3 1), (0, rc encP a z0 y0 2)]) ⟨by kernel_rfl, by kernel_rfl, by kernel_rfl, trivial⟩ ⟨⟨_, rfl, .inl rfl⟩, ⟨_, rfl, .inl rfl⟩, trivial⟩ ?_
    refine XQ.conv (σ' := [(0, s0 0 a.length), (5, s0 1 0), (6, s0 2 0)]) (h' := [(2, rc encP [] 0 83 2), (1, rc (encI .i64) [] 0 3 1), (0, rc encP a z0 y0 2)]) (c' := 3) ?_ (by kernel_rfl)
    refine XQ.seq E0_ok (by kernel_rfl) ?_
    refine XQ.region (by kernel_rfl) ?_
    refine XR.runS E0_ok 1 1 [(0, s0 0 a.length), (5, s0 1 0), (6, s0 2 0), (17, s0 0 a.length)] rfl (by kernel_rfl) ?_
    refine XR.callK E0_ok [0, 5, 6, 18] rfl (K := 81) (args := [s0 0 a.length, .slice none 0 0, ii 0]) (d := (some (path 12 18))) (by kernel_rfl) ?_
    refine KC.bodyN E0_ok (F := Proofs.Try.f81) (by kernel_rfl) (code := f38_C81) (by kernel_rfl) (nt := 50) (by kernel_rfl) (rs := [.tmp 6]) (by kernel_rfl) (by kernel_rfl) (σ := [(0, s0 0 a.length), (1, .slice none 0 0), (2, ii 0)]) (by kernel_rfl) ?_
    refine XQ.ghost 83 2 rfl (σ' := [(0, s0 0 a.length), (1, s0 3 0), (2, ii 0)]) (h' := [(2, rc encP [] 0 83 2), (1, rc (encI .i64) [] 0 3 1), (0, rc encP a z0 y0 2)]) ⟨by kernel_rfl, by kernel_rfl, by kernel_rfl, trivial⟩ ⟨⟨_, rfl, .inl rfl⟩, ⟨_, rfl, .inl rfl⟩, ⟨_, rfl, .inl rfl⟩, trivial⟩ ?_
    refine XQ.conv (σ' := [(0, s0 0 a.length), (1, s0 3 0), (2, ii 0)]) (h' := [(3, rc encP [] 0 83 2), (2, rc encP [] 0 83 2), (1, rc (encI .i64) [] 0 3 1), (0, rc encP a z0 y0 2)]) (c' := 4) ?_ (by kernel_rfl)
    refine XQ.seq E0_ok (by kernel_rfl) ?_
    refine XQ.region (by kernel_rfl) ?_
    refine XR.runS E0_ok 1 1 [(0, s0 0 a.length), (1, s0 3 0), (2, ii 0)] rfl (by kernel_rfl) ?_
    refine XR.done (by kernel_rfl) ?_
    show XQ _ _ _ _ _ _ _ _
    refine XQ.seq E0_ok (by kernel_rfl) ?_
    refine XQ.seq E0_ok (by kernel_rfl) ?_
    refine XQ.region (by kernel_rfl) ?_
    refine XR.runS E0_ok 1 4 [(0, s0 0 a.length), (1, s0 3 0), (2, ii 0), (12, .bool ((0 : Int) == ((a.length : Nat) : Int)))] rfl (by kernel_rfl) ?_
    refine XR.done (by kernel_rfl) ?_
    show XQ _ _ _ _ _ _ _ _
    cases b2 : ((0 : Int) == ((a.length : Nat) : Int) : Bool) with
    | true =>
      have h := cT b2 h
      refine XQ.cond (s := (.tmp 12)) (b := true) (by kernel_rfl) (by kernel_rfl) (fun _ => ?_) (fun q => by cases q)
      refine XQ.seq E0_ok (by kernel_rfl) ?_
      refine XQ.region (by kernel_rfl) ?_
      refine XR.runS E0_ok 1 1 [(6, ii 0)] rfl (by kernel_rfl) ?_
      refine XR.done (by kernel_rfl) ?_
      show XQ _ _ _ _ _ _ _ _
      refine XQ.ret (by kernel_rfl) ?_
      refine ⟨fun i q => (by cases q), ii 0, (by kernel_rfl), ?_⟩
      refine XR.conv (σ' := [(0, s0 0 a.length), (5, s0 1 0), (6, s0 2 0), (18, ii 0)]) (h' := [(3, rc encP [] 0 83 2), (2, rc encP [] 0 83 2), (1, rc (encI .i64) [] 0 3 1), (0, rc encP a z0 y0 2)]) (c' := 4) ?_ (by kernel_rfl)
      refine XR.runS E0_ok 1 1 [(0, s0 0 a.length), (5, s0 1 0), (6, s0 2 0), (7, ii 0)] rfl (by kernel_rfl) ?_
      refine XR.done (by kernel_rfl) ?_
      show XQ _ _ _ _ _ _ _ _
      refine XQ.seq E0_ok (by kernel_rfl) ?_
      refine XQ.seq E0_ok (by kernel_rfl) ?_
      refine XQ.region (by kernel_rfl) ?_
      refine XR.runS E0_ok 1 1 [(0, s0 0 a.length), (5, s0 1 0), (6, s0 2 0), (7, ii 0), (8, ii 0)] rfl (by kernel_rfl) ?_
      refine XR.done (by kernel_rfl) ?_
      show XQ _ _ _ _ _ _ _ _
      refine XQ.block (id := 0) (by kernel_rfl) ?_
      refine XQ.loop m (by kernel_rfl) ?_
      obtain ⟨o1, o1_h, h⟩ := bS h
      refine XL.ren (σ' := [(0, s0 0 a.length), (5, s0 1 0), (6, s0 2 0), (7, ii 0), (8, ii 0)]) (h' := [(2, rc encP [] 0 83 2), (1, rc (encI .i64) [] 0 3 1), (0, rc encP a z0 y0 2)]) (c' := 3) [0, 1, 2] (by decide) rfl ⟨by kernel_rfl, by kernel_rfl, by kernel_rfl, by kernel_rfl, by kernel_rfl, trivial⟩ ⟨⟨_, _, rfl, rfl, .inl ⟨rfl, rowC_scal encP_ok _⟩⟩, ⟨_, _, rfl, rfl, .inl ⟨rfl, rowC_scal (encI_ok .i64) _⟩⟩, ⟨_, _, rfl, rfl, .inl ⟨rfl, rowC_scal encP_ok _⟩⟩, trivial⟩ rfl ?_
      refine XL.conv (f38_1_ok m m z0 y0 a o1 o1_h _ ?_) (by first | rfl | simp)
      show XQ _ _ _ _ _ _ _ _
      refine XQ.seq E0_ok (by kernel_rfl) ?_
      refine XQ.region (by kernel_rfl) ?_
      refine XR.runS E0_ok 1 3 [(2, s0 1 0), (3, ii 0)] rfl (by kernel_rfl) ?_
      refine XR.done (by kernel_rfl) ?_
      show XQ _ _ _ _ _ _ _ _
      refine XQ.ren (σ' := [(2, s0 1 0), (3, ii 0)]) (h' := [(1, rc (encI .i64) [] 0 3 1), (0, rc encP a z0 y0 2)]) (c' := 2) [0, 1] (by decide) rfl ⟨by kernel_rfl, by kernel_rfl, trivial⟩ ⟨⟨_, _, rfl, rfl, .inl ⟨rfl, rowC_scal (encI_ok .i64) _⟩⟩, ⟨_, _, rfl, rfl, .inl ⟨rfl, rowC_scal encP_ok _⟩⟩, trivial⟩ rfl ?_
      refine XQ.ret (by kernel_rfl) ?_
      have h := Option.some.inj h
      subst h
      exact ⟨fun i q => (by cases q), .tuple #[s0 1 0, ii 0], (by kernel_rfl), (by kernel_rfl), (by kernel_rfl), rfl⟩
    | false =>
      have h := cF b2 h
      refine XQ.cond (s := (.tmp 12)) (b := false) (by kernel_rfl) (by kernel_rfl) (fun q => by cases q) (fun _ => ?_)
      refine XQ.skip (by kernel_rfl) ?_
      show XQ _ _ _ _ _ _ _ _
      refine XQ.seq E0_ok (by kernel_rfl) ?_
      refine XQ.region (by kernel_rfl) ?_
      refine XR.runS E0_ok 1 4 [(0, s0 0 a.length), (1, s0 3 0), (2, ii 0), (13, s0 0 a.length), (14, s0 3 0), (16, ii 1)] rfl (by kernel_rfl) ?_
      obtain ⟨r3, r3_h, h⟩ := bS h
      refine XR.call E0_ok [0, 1, 2, 17] rfl (K := 81) (args := [s0 0 a.length, s0 3 0, ii 1]) (d := (some (path 12 17))) (by kernel_rfl) (KQ.call (KC.quiet E0_ok (args0 := [s0 0 a.length, s0 1 0, ii 1]) (h0 := [(1, rc encP [] (0 + ((rowC encP []).length + 1)) 83 2), (0, rc encP a (z0 + ((rowC encP a).length + 1)) y0 2)]) (n := 2) (V := ii r3) [0, 3] (f81_ok m m (z0 + ((rowC encP a).length + 1)) y0 (0 + ((rowC encP []).length + 1)) 83 a [] 1 r3 r3_h) rfl (by rfl) (by decide) rfl (by kernel_rfl) ⟨⟨_, _, rfl, rfl, .inl ⟨rfl, rowC_scal encP_ok _⟩⟩, ⟨_, _, rfl, rfl, .inl ⟨rfl, rowC_scal encP_ok _⟩⟩, trivial⟩) rfl) ?_
      rintro _ _ _ ⟨rfl, rfl, rfl⟩
      refine XR.conv (σ' := [(0, s0 0 a.length), (1, s0 3 0), (2, ii 0), (17, ii r3)]) (h' := [(3, rc encP [] 0 83 2), (2, rc encP [] 0 83 2), (1, rc (encI .i64) [] 0 3 1), (0, rc encP a z0 y0 2)]) (c' := 4) ?_ (by kernel_rfl)
      refine XR.runS E0_ok 1 1 [(0, s0 0 a.length), (1, s0 3 0), (2, ii 0), (7, ii r3)] rfl (by kernel_rfl) ?_
      refine XR.done (by kernel_rfl) ?_
      show XQ _ _ _ _ _ _ _ _
      refine XQ.seq E0_ok (by kernel_rfl) ?_
      refine XQ.seq E0_ok (by kernel_rfl) ?_
      refine XQ.region (by kernel_rfl) ?_
      refine XR.runS E0_ok 1 1 [(0, s0 0 a.length), (1, s0 3 0), (2, ii 0), (7, ii r3), (8, ii 0)] rfl (by kernel_rfl) ?_
      refine XR.done (by kernel_rfl) ?_
      show XQ _ _ _ _ _ _ _ _
      refine XQ.block (id := 0) (by kernel_rfl) ?_
      refine XQ.loop m (by kernel_rfl) ?_
      obtain ⟨o2, o2_h, h⟩ := bS h
      refine XL.ren (σ' := [(0, s0 0 a.length), (1, s0 3 0), (2, ii 0), (7, ii r3), (8, ii 0)]) (h' := [(3, rc encP [] 0 83 2), (2, rc encP [] 0 83 2), (1, rc (encI .i64) [] 0 3 1), (0, rc encP a z0 y0 2)]) (c' := 4) [0, 1, 2, 3] (by decide) rfl ⟨by kernel_rfl, by kernel_rfl, by kernel_rfl, by kernel_rfl, by kernel_rfl, trivial⟩ ⟨⟨_, _, rfl, rfl, .inl ⟨rfl, rowC_scal encP_ok _⟩⟩, ⟨_, _, rfl, rfl, .inl ⟨rfl, rowC_scal encP_ok _⟩⟩, ⟨_, _, rfl, rfl, .inl ⟨rfl, rowC_scal (encI_ok .i64) _⟩⟩, ⟨_, _, rfl, rfl, .inl ⟨rfl, rowC_scal encP_ok _⟩⟩, trivial⟩ rfl ?_
      refine XL.conv (f38_2_ok m m z0 y0 a r3 o2 o2_h _ ?_) (by first | rfl | simp)
      show XQ _ _ _ _ _ _ _ _
      refine XQ.seq E0_ok (by kernel_rfl) ?_
      cases b5 : (inRow 0 a.length : Bool) with
      | false => cases (cF b5 h)
      | true =>
        have h := cT b5 h
        obtain ⟨r4, r4_h, h⟩ := bS h
        refine XQ.preA E0_ok [0, 1, 3, 5, 6, 7, 11, 12] (by kernel_rfl) (g := 9) (listed := #[true, true, false, true, false, true, true, true, false, false, false, true, true, false, false, false, false]) (by kernel_rfl) (by kernel_rfl) (by kernel_rfl) (by kernel_rfl) (by kernel_rfl) (σ' := [(6, ii (iMax o2 (w64 (1 + r4))))]) (h' := [(2, rc encP [] 0 83 2), (1, rc (encI .i64) [] 0 3 1), (0, rc encP a z0 y0 2)]) (c' := 3) ?_ ?_
        · show XQ _ _ _ _ _ _ _ _
          refine XQ.ret (by kernel_rfl) ?_
          refine ⟨fun i q => (by cases q), ii (iMax o2 (w64 (1 + r4))), (by kernel_rfl), ?_⟩
          refine XR.conv (σ' := [(0, s0 0 a.length), (5, s0 1 0), (6, s0 2 0), (18, ii (iMax o2 (w64 (1 + r4))))]) (h' := [(2, rc encP [] 0 83 2), (1, rc (encI .i64) [] 0 3 1), (0, rc encP a z0 y0 2)]) (c' := 3) ?_ (by kernel_rfl)
          refine XR.runS E0_ok 1 1 [(0, s0 0 a.length), (5, s0 1 0), (6, s0 2 0), (7, ii (iMax o2 (w64 (1 + r4))))] rfl (by kernel_rfl) ?_
          refine XR.done (by kernel_rfl) ?_
          show XQ _ _ _ _ _ _ _ _
          refine XQ.seq E0_ok (by kernel_rfl) ?_
          refine XQ.seq E0_ok (by kernel_rfl) ?_
          refine XQ.region (by kernel_rfl) ?_
          refine XR.runS E0_ok 1 1 [(0, s0 0 a.length), (5, s0 1 0), (6, s0 2 0), (7, ii (iMax o2 (w64 (1 + r4)))), (8, ii 0)] rfl (by kernel_rfl) ?_
          refine XR.done (by kernel_rfl) ?_
          show XQ _ _ _ _ _ _ _ _
          refine XQ.block (id := 0) (by kernel_rfl) ?_
          refine XQ.loop m (by kernel_rfl) ?_
          obtain ⟨o3, o3_h, h⟩ := bS h
          refine XL.ren (σ' := [(0, s0 0 a.length), (5, s0 1 0), (6, s0 2 0), (7, ii (iMax o2 (w64 (1 + r4)))), (8, ii 0)]) (h' := [(2, rc encP [] 0 83 2), (1, rc (encI .i64) [] 0 3 1), (0, rc encP a z0 y0 2)]) (c' := 3) [0, 1, 2] (by decide) rfl ⟨by kernel_rfl, by kernel_rfl, by kernel_rfl, by kernel_rfl, by kernel_rfl, trivial⟩ ⟨⟨_, _, rfl, rfl, .inl ⟨rfl, rowC_scal encP_ok _⟩⟩, ⟨_, _, rfl, rfl, .inl ⟨rfl, rowC_scal (encI_ok .i64) _⟩⟩, ⟨_, _, rfl, rfl, .inl ⟨rfl, rowC_scal encP_ok _⟩⟩, trivial⟩ rfl ?_
          refine XL.conv (f38_3_ok m m z0 y0 a (iMax o2 (w64 (1 + r4))) 0 [] [] o3 o3_h _ ?_) (by first | rfl | simp)
          show XQ _ _ _ _ _ _ _ _
          refine XQ.seq E0_ok (by kernel_rfl) ?_
          refine XQ.region (by kernel_rfl) ?_
          refine XR.runS E0_ok 1 3 [(2, s0 1 o3.length), (3, ii 0)] rfl (by kernel_rfl) ?_
          refine XR.done (by kernel_rfl) ?_
          show XQ _ _ _ _ _ _ _ _
          refine XQ.ren (σ' := [(2, s0 1 o3.length), (3, ii 0)]) (h' := [(1, rc (encI .i64) o3 0 3 1), (0, rc encP a z0 y0 2)]) (c' := 2) [0, 1] (by decide) rfl ⟨by kernel_rfl, by kernel_rfl, trivial⟩ ⟨⟨_, _, rfl, rfl, .inl ⟨rfl, rowC_scal (encI_ok .i64) _⟩⟩, ⟨_, _, rfl, rfl, .inl ⟨rfl, rowC_scal encP_ok _⟩⟩, trivial⟩ rfl ?_
          refine XQ.ret (by kernel_rfl) ?_
          have h := Option.some.inj h
          subst h
          exact ⟨fun i q => (by cases q), .tuple #[s0 1 o3.length, ii 0], (by kernel_rfl), (by kernel_rfl), (by kernel_rfl), rfl⟩
        · have xa9 : XA E0 50 3 (opsOf (lft (rgt (rgt (rgt (rgt f38_C81)))))) 0 #[true, true, true, true, true, true, true, true, true, true, true, true, true, true, true, true, true] [(6, ii (iMax o2 (w64 (1 + r4))))] [(2, rc encP [] 0 83 2), (1, rc (encI .i64) [] 0 3 1), (0, rc encP a z0 y0 2)] 3 (fun e σ1 h1 c1 => e = .normal ∧ (σ1, h1, c1) = ([(6, ii (iMax o2 (w64 (1 + r4))))], [(2, rc encP [] 0 83 2), (1, rc (encI .i64) [] 0 3 1), (0, rc encP a z0 y0 2)], 3)) := by
            exact XA.done (by kernel_rfl) ⟨rfl, rfl⟩
          have xa8 : XA E0 50 3 (opsOf (lft (rgt (rgt (rgt (rgt f38_C81)))))) 1 #[true, true, true, true, true, true, true, true, true, true, true, true, true, true, true, true, false] [(49, ii (iMax o2 (w64 (1 + r4))))] [(2, rc encP [] 0 83 2), (1, rc (encI .i64) [] 0 3 1), (0, rc encP a z0 y0 2)] 3 (fun e σ1 h1 c1 => e = .normal ∧ (σ1, h1, c1) = ([(6, ii (iMax o2 (w64 (1 + r4))))], [(2, rc encP [] 0 83 2), (1, rc (encI .i64) [] 0 3 1), (0, rc encP a z0 y0 2)], 3)) := by
            refine XA.step E0_ok [16] (by kernel_rfl) rfl (by kernel_rfl) ⟨?_, trivial⟩
            · refine XR.runS E0_ok 1 1 [(6, ii (iMax o2 (w64 (1 + r4))))] rfl (by kernel_rfl) ?_
              refine XR.done (by kernel_rfl) ?_
              refine ⟨rfl, ?_⟩
              show XA _ _ _ _ _ _ _ _ _ _
              exact xa9
          have xa7 : XA E0 50 3 (opsOf (lft (rgt (rgt (rgt (rgt f38_C81)))))) 2 #[true, true, true, true, true, true, true, true, true, true, true, true, true, true, true, false, false] [(34, ii o2), (48, ii (w64 (1 + r4)))] [(2, rc encP [] 0 83 2), (1, rc (encI .i64) [] 0 3 1), (0, rc encP a z0 y0 2)] 3 (fun e σ1 h1 c1 => e = .normal ∧ (σ1, h1, c1) = ([(6, ii (iMax o2 (w64 (1 + r4))))], [(2, rc encP [] 0 83 2), (1, rc (encI .i64) [] 0 3 1), (0, rc encP a z0 y0 2)], 3)) := by
            refine XA.step E0_ok [15] (by kernel_rfl) rfl (by kernel_rfl) ⟨?_, trivial⟩
            · refine XR.runS E0_ok 1 1 [(49, ii (iMax o2 (w64 (1 + r4))))] rfl (by kernel_rfl) ?_
              refine XR.done (by kernel_rfl) ?_
              refine ⟨rfl, ?_⟩
              show XA _ _ _ _ _ _ _ _ _ _
              exact xa8
          have xa6 : XA E0 50 3 (opsOf (lft (rgt (rgt (rgt (rgt f38_C81)))))) 3 #[true, true, true, true, true, true, true, true, true, true, true, true, true, true, false, false, false] [(34, ii o2), (47, ii r4)] [(2, rc encP [] 0 83 2), (1, rc (encI .i64) [] 0 3 1), (0, rc encP a z0 y0 2)] 3 (fun e σ1 h1 c1 => e = .normal ∧ (σ1, h1, c1) = ([(6, ii (iMax o2 (w64 (1 + r4))))], [(2, rc encP [] 0 83 2), (1, rc (encI .i64) [] 0 3 1), (0, rc encP a z0 y0 2)], 3)) := by
            refine XA.step E0_ok [14] (by kernel_rfl) rfl (by kernel_rfl) ⟨?_, trivial⟩
            · refine XR.runS E0_ok 1 1 [(34, ii o2), (48, ii (w64 (1 + r4)))] rfl (by kernel_rfl) ?_
              refine XR.done (by kernel_rfl) ?_
              refine ⟨rfl, ?_⟩
              show XA _ _ _ _ _ _ _ _ _ _
              exact xa7
          have xa5 : XA E0 50 3 (opsOf (lft (rgt (rgt (rgt (rgt f38_C81)))))) 4 #[true, true, true, true, true, true, true, true, true, true, true, true, true, false, false, false, false] [(34, ii o2), (35, s0 0 a.length), (44, s0 3 1), (46, ii 1)] [(3, rc encP [((List.getD a 0 (0, 0)).1, (List.getD a 0 (0, 0)).2)] 0 83 2), (2, rc encP [] 0 83 2), (1, rc (encI .i64) [] 0 3 1), (0, rc encP a z0 y0 2)] 4 (fun e σ1 h1 c1 => e = .normal ∧ (σ1, h1, c1) = ([(6, ii (iMax o2 (w64 (1 + r4))))], [(2, rc encP [] 0 83 2), (1, rc (encI .i64) [] 0 3 1), (0, rc encP a z0 y0 2)], 3)) := by
            refine XA.step E0_ok [13] (by kernel_rfl) rfl (by kernel_rfl) ⟨?_, trivial⟩
            · refine XR.call E0_ok [34, 47] rfl (K := 81) (args := [s0 0 a.length, s0 3 1, ii 1]) (d := (some (path 12 47))) (by kernel_rfl) (KQ.call (KC.quiet E0_ok (args0 := [s0 0 a.length, s0 1 1, ii 1]) (h0 := [(1, rc encP [((List.getD a 0 (0, 0)).1, (List.getD a 0 (0, 0)).2)] (0 + ((rowC encP [((List.getD a 0 (0, 0)).1, (List.getD a 0 (0, 0)).2)]).length + 1)) 83 2), (0, rc encP a (z0 + ((rowC encP a).length + 1)) y0 2)]) (n := 2) (V := ii r4) [0, 3] (f81_ok m m (z0 + ((rowC encP a).length + 1)) y0 (0 + ((rowC encP [((List.getD a 0 (0, 0)).1, (List.getD a 0 (0, 0)).2)]).length + 1)) 83 a [((List.getD a 0 (0, 0)).1, (List.getD a 0 (0, 0)).2)] 1 r4 r4_h) rfl (by rfl) (by decide) rfl (by kernel_rfl) ⟨⟨_, _, rfl, rfl, .inl ⟨rfl, rowC_scal encP_ok _⟩⟩, ⟨_, _, rfl, rfl, .inl ⟨rfl, rowC_scal encP_ok _⟩⟩, trivial⟩) rfl) ?_
              rintro _ _ _ ⟨rfl, rfl, rfl⟩
              refine XR.conv (σ' := [(34, ii o2), (47, ii r4)]) (h' := [(3, rc encP [((List.getD a 0 (0, 0)).1, (List.getD a 0 (0, 0)).2)] 0 83 2), (2, rc encP [] 0 83 2), (1, rc (encI .i64) [] 0 3 1), (0, rc encP a z0 y0 2)]) (c' := 4) ?_ (by kernel_rfl)
              refine XR.done (by kernel_rfl) ?_
              refine ⟨rfl, ?_⟩
              show XA _ _ _ _ _ _ _ _ _ _
              refine XA.ren (σ' := [(34, ii o2), (47, ii r4)]) (h' := [(2, rc encP [] 0 83 2), (1, rc (encI .i64) [] 0 3 1), (0, rc encP a z0 y0 2)]) (c' := 3) [0, 1, 2] (by decide) rfl ⟨by kernel_rfl, by kernel_rfl, trivial⟩ ⟨⟨_, _, rfl, rfl, .inl ⟨rfl, rowC_scal encP_ok _⟩⟩, ⟨_, _, rfl, rfl, .inl ⟨rfl, rowC_scal (encI_ok .i64) _⟩⟩, ⟨_, _, rfl, rfl, .inl ⟨rfl, rowC_scal encP_ok _⟩⟩, trivial⟩ rfl ?_
              exact xa6
          have xa4 : XA E0 50 3 (opsOf (lft (rgt (rgt (rgt (rgt f38_C81)))))) 5 #[true, true, true, true, true, true, true, true, true, true, false, true, true, false, false, false, false] [(34, ii o2), (35, s0 0 a.length), (38, s0 3 0), (43, s0 4 1), (46, ii 1)] [(4, .cells [ii ((List.getD a 0 (0, 0)).1), ii ((List.getD a 0 (0, 0)).2)] 0 83 2), (3, rc encP [] 0 83 2), (2, rc encP [] 0 83 2), (1, rc (encI .i64) [] 0 3 1), (0, rc encP a z0 y0 2)] 5 (fun e σ1 h1 c1 => e = .normal ∧ (σ1, h1, c1) = ([(6, ii (iMax o2 (w64 (1 + r4))))], [(2, rc encP [] 0 83 2), (1, rc (encI .i64) [] 0 3 1), (0, rc encP a z0 y0 2)], 3)) := by
            refine XA.step E0_ok [10] (by kernel_rfl) rfl (by kernel_rfl) ⟨?_, trivial⟩
            · refine XR.ef E0_ok [34, 35, 44, 46] rfl (e_append encP_ok (bytes := 16) (e := 83) (x := (src 50 (.tmp 38))) (y := (src 50 (.tmp 43))) (b := 3) (len := 0) (cap := 0) (xs := []) (m := 0) (ys := [((List.getD a 0 (0, 0)).1, (List.getD a 0 (0, 0)).2)]) (d := (some (path 12 44))) (n' := 1) (h' := [(5, rc encP [((List.getD a 0 (0, 0)).1, (List.getD a 0 (0, 0)).2)] 0 83 2), (4, .cells [ii ((List.getD a 0 (0, 0)).1), ii ((List.getD a 0 (0, 0)).2)] 0 83 2), (2, rc encP [] 0 83 2), (1, rc (encI .i64) [] 0 3 1), (0, rc encP a z0 y0 2)]) (by kernel_rfl) (by kernel_rfl) (by kernel_rfl) (by kernel_rfl) rfl (by simp) (by simp) (by first | rfl | simp) (by simp) (by kernel_rfl)) (σ' := [(34, ii o2), (35, s0 0 a.length), (44, s0 5 1), (46, ii 1)]) (by kernel_rfl) ?_
              refine XR.done (by kernel_rfl) ?_
              refine ⟨rfl, ?_⟩
              show XA _ _ _ _ _ _ _ _ _ _
              refine XA.ren (σ' := [(34, ii o2), (35, s0 0 a.length), (44, s0 3 1), (46, ii 1)]) (h' := [(3, rc encP [((List.getD a 0 (0, 0)).1, (List.getD a 0 (0, 0)).2)] 0 83 2), (2, rc encP [] 0 83 2), (1, rc (encI .i64) [] 0 3 1), (0, rc encP a z0 y0 2)]) (c' := 4) [0, 1, 2, 5] (by decide) rfl ⟨by kernel_rfl, by kernel_rfl, by kernel_rfl, by kernel_rfl, trivial⟩ ⟨⟨_, _, rfl, rfl, .inl ⟨rfl, rowC_scal encP_ok _⟩⟩, ⟨_, _, rfl, rfl, .inl ⟨rfl, rowC_scal encP_ok _⟩⟩, ⟨_, _, rfl, rfl, .inl ⟨rfl, rowC_scal (encI_ok .i64) _⟩⟩, ⟨_, _, rfl, rfl, .inl ⟨rfl, rowC_scal encP_ok _⟩⟩, trivial⟩ rfl ?_
              exact xa5
          have xa3 : XA E0 50 3 (opsOf (lft (rgt (rgt (rgt (rgt f38_C81)))))) 6 #[true, true, true, true, true, true, true, true, true, false, false, true, true, false, false, false, false] [(34, ii o2), (35, s0 0 a.length), (38, s0 3 0), (42, .agg #[ii ((List.getD a 0 (0, 0)).1), ii ((List.getD a 0 (0, 0)).2)]), (46, ii 1)] [(3, rc encP [] 0 83 2), (2, rc encP [] 0 83 2), (1, rc (encI .i64) [] 0 3 1), (0, rc encP a z0 y0 2)] 4 (fun e σ1 h1 c1 => e = .normal ∧ (σ1, h1, c1) = ([(6, ii (iMax o2 (w64 (1 + r4))))], [(2, rc encP [] 0 83 2), (1, rc (encI .i64) [] 0 3 1), (0, rc encP a z0 y0 2)], 3)) := by
            refine XA.step E0_ok [9] (by kernel_rfl) rfl (by kernel_rfl) ⟨?_, trivial⟩
            · refine XR.runT E0_ok 1 1 [(34, ii o2), (35, s0 0 a.length), (38, s0 3 0), (43, s0 4 1), (46, ii 1)] [(4, .cells [ii ((List.getD a 0 (0, 0)).1), ii ((List.getD a 0 (0, 0)).2)] 0 83 2), (3, rc encP [] 0 83 2), (2, rc encP [] 0 83 2), (1, rc (encI .i64) [] 0 3 1), (0, rc encP a z0 y0 2)] 5 rfl (by kernel_rfl) ?_
              refine XR.done (by kernel_rfl) ?_
              refine ⟨rfl, ?_⟩
              show XA _ _ _ _ _ _ _ _ _ _
              exact xa4
          have xa2 : XA E0 50 3 (opsOf (lft (rgt (rgt (rgt (rgt f38_C81)))))) 7 #[true, true, true, true, true, true, true, true, false, false, false, true, true, false, false, false, false] [(34, ii o2), (35, s0 0 a.length), (38, s0 3 0), (41, pp 0 (0 * 2)), (46, ii 1)] [(3, rc encP [] 0 83 2), (2, rc encP [] 0 83 2), (1, rc (encI .i64) [] 0 3 1), (0, rc encP a z0 y0 2)] 4 (fun e σ1 h1 c1 => e = .normal ∧ (σ1, h1, c1) = ([(6, ii (iMax o2 (w64 (1 + r4))))], [(2, rc encP [] 0 83 2), (1, rc (encI .i64) [] 0 3 1), (0, rc encP a z0 y0 2)], 3)) := by
            refine XA.step E0_ok [8] (by kernel_rfl) rfl (by kernel_rfl) ⟨?_, trivial⟩
            · refine XR.rd E0_ok [34, 35, 38, 42, 46] rfl (v := .agg #[ii ((List.getD a 0 (0, 0)).1), ii ((List.getD a 0 (0, 0)).2)]) (v_loadN encP_ok (x := (src 50 (.tmp 41))) (b := 0) (off := 0 * 2) (xs := a) (fz := z0) (e := y0) (es := 2) (d := (some (path 12 42))) (by kernel_rfl) (by kernel_rfl) (by kernel_rfl) 0 (0, 0) (by first | rfl | omega) (row_len (inRow_toNat b5) (by simp)) rfl) (σ' := [(34, ii o2), (35, s0 0 a.length), (38, s0 3 0), (42, .agg #[ii ((List.getD a 0 (0, 0)).1), ii ((List.getD a 0 (0, 0)).2)]), (46, ii 1)]) (by kernel_rfl) ?_
              refine XR.done (by kernel_rfl) ?_
              refine ⟨rfl, ?_⟩
              show XA _ _ _ _ _ _ _ _ _ _
              exact xa3
          have xa11 : XA E0 50 3 (opsOf (lft (rgt (rgt (rgt (rgt f38_C81)))))) 6 #[true, true, true, true, false, true, true, true, true, true, false, true, true, false, false, false, false] [(34, ii o2), (35, s0 0 a.length), (36, s0 3 0), (37, s0 4 0), (43, s0 5 1), (46, ii 1)] [(5, .cells [ii ((List.getD a 0 (0, 0)).1), ii ((List.getD a 0 (0, 0)).2)] 0 83 2), (4, rc encP [] 0 83 2), (3, .cells [] 0 83 2), (2, rc encP [] 0 83 2), (1, rc (encI .i64) [] 0 3 1), (0, rc encP a z0 y0 2)] 6 (fun e σ1 h1 c1 => e = .normal ∧ (σ1, h1, c1) = ([(6, ii (iMax o2 (w64 (1 + r4))))], [(2, rc encP [] 0 83 2), (1, rc (encI .i64) [] 0 3 1), (0, rc encP a z0 y0 2)], 3)) := by
            refine XA.step E0_ok [4] (by kernel_rfl) rfl (by kernel_rfl) ⟨?_, trivial⟩
            · refine XR.efX E0_ok [34, 35, 38, 43, 46] rfl (d := (some (path 12 38))) (f := eAppend false 2 16 83 (src 50 (.tmp 36)) (src 50 (.tmp 37))) (by kernel_rfl) (fun _ => eAppendA_ok) (e_appendA encP_ok (bytes := 16) (e := 83) (x := (src 50 (.tmp 36))) (y := (src 50 (.tmp 37))) (b := 3) (len := 0) (cap := 0) (xs := []) (n := 0) (ys := []) (n' := 0) (h' := [(6, rc encP [] 0 83 2), (5, .cells [ii ((List.getD a 0 (0, 0)).1), ii ((List.getD a 0 (0, 0)).2)] 0 83 2), (4, rc encP [] 0 83 2), (2, rc encP [] 0 83 2), (1, rc (encI .i64) [] 0 3 1), (0, rc encP a z0 y0 2)]) (Y := s0 4 0) (by kernel_rfl) (by kernel_rfl) (by kernel_rfl) (fetch_all encP_ok (ys := []) (fz := 0) (e := 83) (es := 2) (by kernel_rfl) (by simp) (Nat.le_refl _)) (by simp) rfl (by simp) (by simp) (by first | rfl | simp) (by first | (simp; done) | (simp; omega)) (by kernel_rfl)) (σ' := [(34, ii o2), (35, s0 0 a.length), (38, s0 6 0), (43, s0 5 1), (46, ii 1)]) (by kernel_rfl) ?_
              refine XR.done (by kernel_rfl) ?_
              refine ⟨rfl, ?_⟩
              show XA _ _ _ _ _ _ _ _ _ _
              refine XA.ren (σ' := [(34, ii o2), (35, s0 0 a.length), (38, s0 3 0), (43, s0 4 1), (46, ii 1)]) (h' := [(4, .cells [ii ((List.getD a 0 (0, 0)).1), ii ((List.getD a 0 (0, 0)).2)] 0 83 2), (3, rc encP [] 0 83 2), (2, rc encP [] 0 83 2), (1, rc (encI .i64) [] 0 3 1), (0, rc encP a z0 y0 2)]) (c' := 5) [0, 1, 2, 6, 5] (by decide) rfl ⟨by kernel_rfl, by kernel_rfl, by kernel_rfl, by kernel_rfl, by kernel_rfl, trivial⟩ ⟨⟨_, _, rfl, rfl, .inr ⟨_, _, _, _, rfl, rfl⟩⟩, ⟨_, _, rfl, rfl, .inl ⟨rfl, rowC_scal encP_ok _⟩⟩, ⟨_, _, rfl, rfl, .inl ⟨rfl, rowC_scal encP_ok _⟩⟩, ⟨_, _, rfl, rfl, .inl ⟨rfl, rowC_scal (encI_ok .i64) _⟩⟩, ⟨_, _, rfl, rfl, .inl ⟨rfl, rowC_scal encP_ok _⟩⟩, trivial⟩ rfl ?_
              exact xa4
          have xa10 : XA E0 50 3 (opsOf (lft (rgt (rgt (rgt (rgt f38_C81)))))) 7 #[true, true, true, true, false, true, true, true, true, false, false, true, true, false, false, false, false] [(34, ii o2), (35, s0 0 a.length), (36, s0 3 0), (37, s0 4 0), (42, .agg #[ii ((List.getD a 0 (0, 0)).1), ii ((List.getD a 0 (0, 0)).2)]), (46, ii 1)] [(4, rc encP [] 0 83 2), (3, .cells [] 0 83 2), (2, rc encP [] 0 83 2), (1, rc (encI .i64) [] 0 3 1), (0, rc encP a z0 y0 2)] 5 (fun e σ1 h1 c1 => e = .normal ∧ (σ1, h1, c1) = ([(6, ii (iMax o2 (w64 (1 + r4))))], [(2, rc encP [] 0 83 2), (1, rc (encI .i64) [] 0 3 1), (0, rc encP a z0 y0 2)], 3)) := by
            refine XA.step E0_ok [4, 9] (by kernel_rfl) rfl (by kernel_rfl) ⟨?_, ?_, trivial⟩
            · refine XR.efX E0_ok [34, 35, 38, 42, 46] rfl (d := (some (path 12 38))) (f := eAppend false 2 16 83 (src 50 (.tmp 36)) (src 50 (.tmp 37))) (by kernel_rfl) (fun _ => eAppendA_ok) (e_appendA encP_ok (bytes := 16) (e := 83) (x := (src 50 (.tmp 36))) (y := (src 50 (.tmp 37))) (b := 3) (len := 0) (cap := 0) (xs := []) (n := 0) (ys := []) (n' := 0) (h' := [(5, rc encP [] 0 83 2), (4, rc encP [] 0 83 2), (2, rc encP [] 0 83 2), (1, rc (encI .i64) [] 0 3 1), (0, rc encP a z0 y0 2)]) (Y := s0 4 0) (by kernel_rfl) (by kernel_rfl) (by kernel_rfl) (fetch_all encP_ok (ys := []) (fz := 0) (e := 83) (es := 2) (by kernel_rfl) (by simp) (Nat.le_refl _)) (by simp) rfl (by simp) (by simp) (by first | rfl | simp) (by first | (simp; done) | (simp; omega)) (by kernel_rfl)) (σ' := [(34, ii o2), (35, s0 0 a.length), (38, s0 5 0), (42, .agg #[ii ((List.getD a 0 (0, 0)).1), ii ((List.getD a 0 (0, 0)).2)]), (46, ii 1)]) (by kernel_rfl) ?_
              refine XR.done (by kernel_rfl) ?_
              refine ⟨rfl, ?_⟩
              show XA _ _ _ _ _ _ _ _ _ _
              refine XA.ren (σ' := [(34, ii o2), (35, s0 0 a.length), (38, s0 3 0), (42, .agg #[ii ((List.getD a 0 (0, 0)).1), ii ((List.getD a 0 (0, 0)).2)]), (46, ii 1)]) (h' := [(3, rc encP [] 0 83 2), (2, rc encP [] 0 83 2), (1, rc (encI .i64) [] 0 3 1), (0, rc encP a z0 y0 2)]) (c' := 4) [0, 1, 2, 5] (by decide) rfl ⟨by kernel_rfl, by kernel_rfl, by kernel_rfl, by kernel_rfl, by kernel_rfl, trivial⟩ ⟨⟨_, _, rfl, rfl, .inl ⟨rfl, rowC_scal encP_ok _⟩⟩, ⟨_, _, rfl, rfl, .inl ⟨rfl, rowC_scal encP_ok _⟩⟩, ⟨_, _, rfl, rfl, .inl ⟨rfl, rowC_scal (encI_ok .i64) _⟩⟩, ⟨_, _, rfl, rfl, .inl ⟨rfl, rowC_scal encP_ok _⟩⟩, trivial⟩ rfl ?_
              exact xa3
            · refine XR.runT E0_ok 1 1 [(34, ii o2), (35, s0 0 a.length), (36, s0 3 0), (37, s0 4 0), (43, s0 5 1), (46, ii 1)] [(5, .cells [ii ((List.getD a 0 (0, 0)).1), ii ((List.getD a 0 (0, 0)).2)] 0 83 2), (4, rc encP [] 0 83 2), (3, .cells [] 0 83 2), (2, rc encP [] 0 83 2), (1, rc (encI .i64) [] 0 3 1), (0, rc encP a z0 y0 2)] 6 rfl (by kernel_rfl) ?_
              refine XR.done (by kernel_rfl) ?_
              refine ⟨rfl, ?_⟩
              show XA _ _ _ _ _ _ _ _ _ _
              exact xa11
          have xa1 : XA E0 50 3 (opsOf (lft (rgt (rgt (rgt (rgt f38_C81)))))) 8 #[true, true, true, true, false, true, true, true, false, false, false, true, true, false, false, false, false] [(34, ii o2), (35, s0 0 a.length), (36, s0 3 0), (37, s0 4 0), (41, pp 0 (0 * 2)), (46, ii 1)] [(4, rc encP [] 0 83 2), (3, .cells [] 0 83 2), (2, rc encP [] 0 83 2), (1, rc (encI .i64) [] 0 3 1), (0, rc encP a z0 y0 2)] 5 (fun e σ1 h1 c1 => e = .normal ∧ (σ1, h1, c1) = ([(6, ii (iMax o2 (w64 (1 + r4))))], [(2, rc encP [] 0 83 2), (1, rc (encI .i64) [] 0 3 1), (0, rc encP a z0 y0 2)], 3)) := by
            refine XA.step E0_ok [4, 8] (by kernel_rfl) rfl (by kernel_rfl) ⟨?_, ?_, trivial⟩
            · refine XR.efX E0_ok [34, 35, 38, 41, 46] rfl (d := (some (path 12 38))) (f := eAppend false 2 16 83 (src 50 (.tmp 36)) (src 50 (.tmp 37))) (by kernel_rfl) (fun _ => eAppendA_ok) (e_appendA encP_ok (bytes := 16) (e := 83) (x := (src 50 (.tmp 36))) (y := (src 50 (.tmp 37))) (b := 3) (len := 0) (cap := 0) (xs := []) (n := 0) (ys := []) (n' := 0) (h' := [(5, rc encP [] 0 83 2), (4, rc encP [] 0 83 2), (2, rc encP [] 0 83 2), (1, rc (encI .i64) [] 0 3 1), (0, rc encP a z0 y0 2)]) (Y := s0 4 0) (by kernel_rfl) (by kernel_rfl) (by kernel_rfl) (fetch_all encP_ok (ys := []) (fz := 0) (e := 83) (es := 2) (by kernel_rfl) (by simp) (Nat.le_refl _)) (by simp) rfl (by simp) (by simp) (by first | rfl | simp) (by first | (simp; done) | (simp; omega)) (by kernel_rfl)) (σ' := [(34, ii o2), (35, s0 0 a.length), (38, s0 5 0), (41, pp 0 (0 * 2)), (46, ii 1)]) (by kernel_rfl) ?_
              refine XR.done (by kernel_rfl) ?_
              refine ⟨rfl, ?_⟩
              show XA _ _ _ _ _ _ _ _ _ _
              refine XA.ren (σ' := [(34, ii o2), (35, s0 0 a.length), (38, s0 3 0), (41, pp 0 (0 * 2)), (46, ii 1)]) (h' := [(3, rc encP [] 0 83 2), (2, rc encP [] 0 83 2), (1, rc (encI .i64) [] 0 3 1), (0, rc encP a z0 y0 2)]) (c' := 4) [0, 1, 2, 5] (by decide) rfl ⟨by kernel_rfl, by kernel_rfl, by kernel_rfl, by kernel_rfl, by kernel_rfl, trivial⟩ ⟨⟨_, _, rfl, rfl, .inl ⟨rfl, rowC_scal encP_ok _⟩⟩, ⟨_, _, rfl, rfl, .inl ⟨rfl, rowC_scal encP_ok _⟩⟩, ⟨_, _, rfl, rfl, .inl ⟨rfl, rowC_scal (encI_ok .i64) _⟩⟩, ⟨_, _, rfl, rfl, .inl ⟨rfl, rowC_scal encP_ok _⟩⟩, trivial⟩ rfl ?_
              exact xa2
            · refine XR.rd E0_ok [34, 35, 36, 37, 42, 46] rfl (v := .agg #[ii ((List.getD a 0 (0, 0)).1), ii ((List.getD a 0 (0, 0)).2)]) (v_loadN encP_ok (x := (src 50 (.tmp 41))) (b := 0) (off := 0 * 2) (xs := a) (fz := z0) (e := y0) (es := 2) (d := (some (path 12 42))) (by kernel_rfl) (by kernel_rfl) (by kernel_rfl) 0 (0, 0) (by first | rfl | omega) (row_len (inRow_toNat b5) (by simp)) rfl) (σ' := [(34, ii o2), (35, s0 0 a.length), (36, s0 3 0), (37, s0 4 0), (42, .agg #[ii ((List.getD a 0 (0, 0)).1), ii ((List.getD a 0 (0, 0)).2)]), (46, ii 1)]) (by kernel_rfl) ?_
              refine XR.done (by kernel_rfl) ?_
              refine ⟨rfl, ?_⟩
              show XA _ _ _ _ _ _ _ _ _ _
              exact xa10
          have xa13 : XA E0 50 3 (opsOf (lft (rgt (rgt (rgt (rgt f38_C81)))))) 7 #[true, true, false, true, false, true, true, true, true, true, false, true, true, false, false, false, false] [(34, ii o2), (35, s0 0 a.length), (37, s0 3 0), (43, s0 4 1), (46, ii 1)] [(4, .cells [ii ((List.getD a 0 (0, 0)).1), ii ((List.getD a 0 (0, 0)).2)] 0 83 2), (3, rc encP [] 0 83 2), (2, rc encP [] 0 83 2), (1, rc (encI .i64) [] 0 3 1), (0, rc encP a z0 y0 2)] 5 (fun e σ1 h1 c1 => e = .normal ∧ (σ1, h1, c1) = ([(6, ii (iMax o2 (w64 (1 + r4))))], [(2, rc encP [] 0 83 2), (1, rc (encI .i64) [] 0 3 1), (0, rc encP a z0 y0 2)], 3)) := by
            refine XA.step E0_ok [2] (by kernel_rfl) rfl (by kernel_rfl) ⟨?_, trivial⟩
            · refine XR.runT E0_ok 1 1 [(34, ii o2), (35, s0 0 a.length), (36, s0 5 0), (37, s0 3 0), (43, s0 4 1), (46, ii 1)] [(5, .cells [] 0 83 2), (4, .cells [ii ((List.getD a 0 (0, 0)).1), ii ((List.getD a 0 (0, 0)).2)] 0 83 2), (3, rc encP [] 0 83 2), (2, rc encP [] 0 83 2), (1, rc (encI .i64) [] 0 3 1), (0, rc encP a z0 y0 2)] 6 rfl (by kernel_rfl) ?_
              refine XR.done (by kernel_rfl) ?_
              refine ⟨rfl, ?_⟩
              show XA _ _ _ _ _ _ _ _ _ _
              refine XA.ren (σ' := [(34, ii o2), (35, s0 0 a.length), (36, s0 3 0), (37, s0 4 0), (43, s0 5 1), (46, ii 1)]) (h' := [(5, .cells [ii ((List.getD a 0 (0, 0)).1), ii ((List.getD a 0 (0, 0)).2)] 0 83 2), (4, rc encP [] 0 83 2), (3, .cells [] 0 83 2), (2, rc encP [] 0 83 2), (1, rc (encI .i64) [] 0 3 1), (0, rc encP a z0 y0 2)]) (c' := 6) [0, 1, 2, 5, 3, 4] (by decide) rfl ⟨by kernel_rfl, by kernel_rfl, by kernel_rfl, by kernel_rfl, by kernel_rfl, by kernel_rfl, trivial⟩ ⟨⟨_, _, rfl, rfl, .inr ⟨_, _, _, _, rfl, rfl⟩⟩, ⟨_, _, rfl, rfl, .inl ⟨rfl, rowC_scal encP_ok _⟩⟩, ⟨_, _, rfl, rfl, .inr ⟨_, _, _, _, rfl, rfl⟩⟩, ⟨_, _, rfl, rfl, .inl ⟨rfl, rowC_scal encP_ok _⟩⟩, ⟨_, _, rfl, rfl, .inl ⟨rfl, rowC_scal (encI_ok .i64) _⟩⟩, ⟨_, _, rfl, rfl, .inl ⟨rfl, rowC_scal encP_ok _⟩⟩, trivial⟩ rfl ?_
              exact xa11
          have xa12 : XA E0 50 3 (opsOf (lft (rgt (rgt (rgt (rgt f38_C81)))))) 8 #[true, true, false, true, false, true, true, true, true, false, false, true, true, false, false, false, false] [(34, ii o2), (35, s0 0 a.length), (37, s0 3 0), (42, .agg #[ii ((List.getD a 0 (0, 0)).1), ii ((List.getD a 0 (0, 0)).2)]), (46, ii 1)] [(3, rc encP [] 0 83 2), (2, rc encP [] 0 83 2), (1, rc (encI .i64) [] 0 3 1), (0, rc encP a z0 y0 2)] 4 (fun e σ1 h1 c1 => e = .normal ∧ (σ1, h1, c1) = ([(6, ii (iMax o2 (w64 (1 + r4))))], [(2, rc encP [] 0 83 2), (1, rc (encI .i64) [] 0 3 1), (0, rc encP a z0 y0 2)], 3)) := by
            refine XA.step E0_ok [2, 9] (by kernel_rfl) rfl (by kernel_rfl) ⟨?_, ?_, trivial⟩
            · refine XR.runT E0_ok 1 1 [(34, ii o2), (35, s0 0 a.length), (36, s0 4 0), (37, s0 3 0), (42, .agg #[ii ((List.getD a 0 (0, 0)).1), ii ((List.getD a 0 (0, 0)).2)]), (46, ii 1)] [(4, .cells [] 0 83 2), (3, rc encP [] 0 83 2), (2, rc encP [] 0 83 2), (1, rc (encI .i64) [] 0 3 1), (0, rc encP a z0 y0 2)] 5 rfl (by kernel_rfl) ?_
              refine XR.done (by kernel_rfl) ?_
              refine ⟨rfl, ?_⟩
              show XA _ _ _ _ _ _ _ _ _ _
              refine XA.ren (σ' := [(34, ii o2), (35, s0 0 a.length), (36, s0 3 0), (37, s0 4 0), (42, .agg #[ii ((List.getD a 0 (0, 0)).1), ii ((List.getD a 0 (0, 0)).2)]), (46, ii 1)]) (h' := [(4, rc encP [] 0 83 2), (3, .cells [] 0 83 2), (2, rc encP [] 0 83 2), (1, rc (encI .i64) [] 0 3 1), (0, rc encP a z0 y0 2)]) (c' := 5) [0, 1, 2, 4, 3] (by decide) rfl ⟨by kernel_rfl, by kernel_rfl, by kernel_rfl, by kernel_rfl, by kernel_rfl, by kernel_rfl, trivial⟩ ⟨⟨_, _, rfl, rfl, .inl ⟨rfl, rowC_scal encP_ok _⟩⟩, ⟨_, _, rfl, rfl, .inr ⟨_, _, _, _, rfl, rfl⟩⟩, ⟨_, _, rfl, rfl, .inl ⟨rfl, rowC_scal encP_ok _⟩⟩, ⟨_, _, rfl, rfl, .inl ⟨rfl, rowC_scal (encI_ok .i64) _⟩⟩, ⟨_, _, rfl, rfl, .inl ⟨rfl, rowC_scal encP_ok _⟩⟩, trivial⟩ rfl ?_
              exact xa10
            · refine XR.runT E0_ok 1 1 [(34, ii o2), (35, s0 0 a.length), (37, s0 3 0), (43, s0 4 1), (46, ii 1)] [(4, .cells [ii ((List.getD a 0 (0, 0)).1), ii ((List.getD a 0 (0, 0)).2)] 0 83 2), (3, rc encP [] 0 83 2), (2, rc encP [] 0 83 2), (1, rc (encI .i64) [] 0 3 1), (0, rc encP a z0 y0 2)] 5 rfl (by kernel_rfl) ?_
              refine XR.done (by kernel_rfl) ?_
              refine ⟨rfl, ?_⟩
              show XA _ _ _ _ _ _ _ _ _ _
              exact xa13
          have xa0 : XA E0 50 3 (opsOf (lft (rgt (rgt (rgt (rgt f38_C81)))))) 9 #[true, true, false, true, false, true, true, true, false, false, false, true, true, false, false, false, false] [(34, ii o2), (35, s0 0 a.length), (37, s0 3 0), (41, pp 0 (0 * 2)), (46, ii 1)] [(3, rc encP [] 0 83 2), (2, rc encP [] 0 83 2), (1, rc (encI .i64) [] 0 3 1), (0, rc encP a z0 y0 2)] 4 (fun e σ1 h1 c1 => e = .normal ∧ (σ1, h1, c1) = ([(6, ii (iMax o2 (w64 (1 + r4))))], [(2, rc encP [] 0 83 2), (1, rc (encI .i64) [] 0 3 1), (0, rc encP a z0 y0 2)], 3)) := by
            refine XA.step E0_ok [2, 8] (by kernel_rfl) rfl (by kernel_rfl) ⟨?_, ?_, trivial⟩
            · refine XR.runT E0_ok 1 1 [(34, ii o2), (35, s0 0 a.length), (36, s0 4 0), (37, s0 3 0), (41, pp 0 (0 * 2)), (46, ii 1)] [(4, .cells [] 0 83 2), (3, rc encP [] 0 83 2), (2, rc encP [] 0 83 2), (1, rc (encI .i64) [] 0 3 1), (0, rc encP a z0 y0 2)] 5 rfl (by kernel_rfl) ?_
              refine XR.done (by kernel_rfl) ?_
              refine ⟨rfl, ?_⟩
              show XA _ _ _ _ _ _ _ _ _ _
              refine XA.ren (σ' := [(34, ii o2), (35, s0 0 a.length), (36, s0 3 0), (37, s0 4 0), (41, pp 0 (0 * 2)), (46, ii 1)]) (h' := [(4, rc encP [] 0 83 2), (3, .cells [] 0 83 2), (2, rc encP [] 0 83 2), (1, rc (encI .i64) [] 0 3 1), (0, rc encP a z0 y0 2)]) (c' := 5) [0, 1, 2, 4, 3] (by decide) rfl ⟨by kernel_rfl, by kernel_rfl, by kernel_rfl, by kernel_rfl, by kernel_rfl, by kernel_rfl, trivial⟩ ⟨⟨_, _, rfl, rfl, .inl ⟨rfl, rowC_scal encP_ok _⟩⟩, ⟨_, _, rfl, rfl, .inr ⟨_, _, _, _, rfl, rfl⟩⟩, ⟨_, _, rfl, rfl, .inl ⟨rfl, rowC_scal encP_ok _⟩⟩, ⟨_, _, rfl, rfl, .inl ⟨rfl, rowC_scal (encI_ok .i64) _⟩⟩, ⟨_, _, rfl, rfl, .inl ⟨rfl, rowC_scal encP_ok _⟩⟩, trivial⟩ rfl ?_
              exact xa1
            · refine XR.rd E0_ok [34, 35, 37, 42, 46] rfl (v := .agg #[ii ((List.getD a 0 (0, 0)).1), ii ((List.getD a 0 (0, 0)).2)]) (v_loadN encP_ok (x := (src 50 (.tmp 41))) (b := 0) (off := 0 * 2) (xs := a) (fz := z0) (e := y0) (es := 2) (d := (some (path 12 42))) (by kernel_rfl) (by kernel_rfl) (by kernel_rfl) 0 (0, 0) (by first | rfl | omega) (row_len (inRow_toNat b5) (by simp)) rfl) (σ' := [(34, ii o2), (35, s0 0 a.length), (37, s0 3 0), (42, .agg #[ii ((List.getD a 0 (0, 0)).1), ii ((List.getD a 0 (0, 0)).2)]), (46, ii 1)]) (by kernel_rfl) ?_
              refine XR.done (by kernel_rfl) ?_
              refine ⟨rfl, ?_⟩
              show XA _ _ _ _ _ _ _ _ _ _
              exact xa12
          refine XP.step E0_ok 5 [2, 34, 35, 37, 39, 40] rfl (σ' := [(2, ii 0), (34, ii o2), (35, s0 0 a.length), (37, s0 3 0), (39, s0 0 a.length), (40, ii 0)]) (by kernel_rfl) ?_
          refine XP.rd E0_ok (by kernel_rfl) [2, 34, 35, 37, 41] rfl rfl (v := pp 0 (0 * 2)) (v_idx (s := 2) (x := (src 50 (.tmp 39))) (y := (src 50 (.tmp 40))) (b := 0) (o := 0) (len := a.length) (cap := a.length) (ik := .i64) (i := 0) (off := 0 * 2) (d := (some (path 12 41))) (by kernel_rfl) (by kernel_rfl) (by kernel_rfl) b5 (by omega)) (σ' := [(2, ii 0), (34, ii o2), (35, s0 0 a.length), (37, s0 3 0), (41, pp 0 (0 * 2))]) (by kernel_rfl) ?_
          refine XP.step E0_ok 2 [34, 35, 37, 41, 46] rfl (σ' := [(34, ii o2), (35, s0 0 a.length), (37, s0 3 0), (41, pp 0 (0 * 2)), (46, ii 1)]) (by kernel_rfl) ?_
          refine XP.done (by kernel_rfl) ?_
          show XA _ _ _ _ _ _ _ _ _ _
          exact xa0

/-! vitola/vitolaref02.Hours -/
noncomputable def f36_C36 : Code := Proofs.Try.f36.body.getD .skip

def f36 (m : Nat) (a : List (Int × Int)) : Option ((List Int) × Int) :=
  (f38 m a).bind fun r1 =>
    cond (r1.2 != 0) (
      some ([], r1.2)
    ) (
      (f78 m m a 0 ((r1.1.length : Nat) : Int)).bind fun r2 =>
        some (r2.1, 0)
    )

theorem f36_ok (m : Nat) (z0 : Nat) (y0 : Nat) (a : List (Int × Int)) (o : (List Int) × Int) (h : f36 m a = some o) : KC E0 36 [s0 0 a.length] [(0, rc encP a z0 y0 2)] 1 (fun v h' c' => v = .tuple #[s0 1 o.1.length, ii o.2] ∧ h' = [(1, rc (encI .i64) o.1 0 3 1)] ++ [(0, rc encP a z0 y0 2)] ∧ c' = 2) := by
  refine KC.bodyN E0_ok (F := Proofs.Try.f36) (by kernel_rfl) (code := f36_C36) (by kernel_rfl) (nt := 24) (by kernel_rfl) (rs := [.tmp 2, .tmp 3]) (by kernel_rfl) (by kernel_rfl) (σ := [(0, s0 0 a.length)]) (by kernel_rfl) ?_
  unfold f36 at h
  refine XQ.seq E0_ok (by kernel_rfl) ?_
  refine XQ.region (by kernel_rfl) ?_
  refine XR.runS E0_ok 1 2 [(0, s0 0 a.length)] rfl (by kernel_rfl) ?_
  refine XR.done (by kernel_rfl) ?_
  show XQ _ _ _ _ _ _ _ _
  refine XQ.seq E0_ok (by kernel_rfl) ?_
  refine XQ.region (by kernel_rfl) ?_
  refine XR.runS E0_ok 1 1 [(0, s0 0 a.length), (9, s0 0 a.length)] rfl (by kernel_rfl) ?_
  obtain ⟨r1, r1_h, h⟩ := bS h
  refine XR.call E0_ok [0, 10] rfl (K := 38) (args := [s0 0 a.length]) (d := (some (path 12 10))) (by kernel_rfl) (KC.liftH (n0 := 1) (m := 1) (args0 := [s0 0 a.length]) (h0 := [(0, rc encP a (z0 + ((rowC encP a).length + 1)) y0 2)]) (V := .tuple #[s0 1 r1.1.length, ii r1.2]) (V2 := .tuple #[s0 1 r1.1.length, ii r1.2]) (H := [(1, rc (encI .i64) r1.1 0 3 1)]) (H2 := [(1, rc (encI .i64) r1.1 0 3 1)]) [0] [2, 1] (f38_ok m (z0 + ((rowC encP a).length + 1)) y0 a r1 r1_h) (by rfl) (by decide) rfl (by kernel_rfl) ⟨⟨_, _, rfl, rfl, .inl ⟨rfl, rowC_scal encP_ok _⟩⟩, trivial⟩ (by decide) (by decide) (by kernel_rfl) ⟨⟨_, _, rfl, rfl, .inl ⟨rfl, rowC_scal (encI_ok .i64) _⟩⟩, trivial⟩ (by rfl)) ?_
  rintro _ _ _ ⟨rfl, rfl, rfl⟩
  refine XR.conv (σ' := [(0, s0 0 a.length), (10, .tuple #[s0 1 r1.1.length, ii r1.2])]) (h' := [(1, rc (encI .i64) r1.1 0 3 1), (0, rc encP a z0 y0 2)]) (c' := 2) ?_ (by kernel_rfl)
  refine XR.runS E0_ok 1 5 [(0, s0 0 a.length), (4, s0 1 r1.1.length), (5, ii r1.2)] rfl (by kernel_rfl) ?_
  refine XR.done (by kernel_rfl) ?_
  show XQ _ _ _ _ _ _ _ _
  refine XQ.seq E0_ok (by kernel_rfl) ?_
  refine XQ.seq E0_ok (by kernel_rfl) ?_
  refine XQ.region (by kernel_rfl) ?_
  refine XR.runS E0_ok 1 2 [(0, s0 0 a.length), (4, s0 1 r1.1.length), (5, ii r1.2), (14, .bool (r1.2 != 0))] rfl (by kernel_rfl) ?_
  refine XR.done (by kernel_rfl) ?_
  show XQ _ _ _ _ _ _ _ _
  cases b1 : (r1.2 != 0 : Bool) with
  | true =>
    have h := cT b1 h
    refine XQ.cond (s := (.tmp 14)) (b := true) (by kernel_rfl) (by kernel_rfl) (fun _ => ?_) (fun q => by cases q)
    refine XQ.seq E0_ok (by kernel_rfl) ?_
    refine XQ.region (by kernel_rfl) ?_
    refine XR.runS E0_ok 1 3 [(2, .slice none 0 0), (3, ii r1.2)] rfl (by kernel_rfl) ?_
    refine XR.done (by kernel_rfl) ?_
    show XQ _ _ _ _ _ _ _ _
    refine XQ.ghost 3 1 rfl (σ' := [(2, s0 2 0), (3, ii r1.2)]) (h' := [(1, rc (encI .i64) r1.1 0 3 1), (0, rc encP a z0 y0 2)]) ⟨by kernel_rfl, by kernel_rfl, trivial⟩ ⟨⟨_, rfl, .inl rfl⟩, ⟨_, rfl, .inl rfl⟩, trivial⟩ ?_
    refine XQ.conv (σ' := [(2, s0 2 0), (3, ii r1.2)]) (h' := [(2, rc (encI .i64) [] 0 3 1), (1, rc (encI .i64) r1.1 0 3 1), (0, rc encP a z0 y0 2)]) (c' := 3) ?_ (by kernel_rfl)
    refine XQ.ren (σ' := [(2, s0 1 0), (3, ii r1.2)]) (h' := [(1, rc (encI .i64) [] 0 3 1), (0, rc encP a z0 y0 2)]) (c' := 2) [0, 2] (by decide) rfl ⟨by kernel_rfl, by kernel_rfl, trivial⟩ ⟨⟨_, _, rfl, rfl, .inl ⟨rfl, rowC_scal (encI_ok .i64) _⟩⟩, ⟨_, _, rfl, rfl, .inl ⟨rfl, rowC_scal encP_ok _⟩⟩, trivial⟩ rfl ?_
    refine XQ.ret (by kernel_rfl) ?_
    have h := Option.some.inj h
    subst h
    exact ⟨fun i q => (by cases q), .tuple #[s0 1 0, ii r1.2], (by kernel_rfl), (by kernel_rfl), (by kernel_rfl), rfl⟩
  | false =>
    have h := cF b1 h
    refine XQ.cond (s := (.tmp 14)) (b := false) (by kernel_rfl) (by kernel_rfl) (fun q => by cases q) (fun _ => ?_)
    refine XQ.skip (by kernel_rfl) ?_
    show XQ _ _ _ _ _ _ _ _
    refine XQ.seq E0_ok (by kernel_rfl) ?_
    refine XQ.region (by kernel_rfl) ?_
    refine XR.runS E0_ok 1 3 [(17, s0 0 a.length), (19, ii ((r1.1.length : Nat) : Int))] rfl (by kernel_rfl) ?_
    obtain ⟨r2, r2_h, h⟩ := bS h
    refine XR.call E0_ok [20] rfl (K := 78) (args := [s0 0 a.length, ii 0, ii ((r1.1.length : Nat) : Int)]) (d := (some (path 12 20))) (by kernel_rfl) (KC.liftH (n0 := 1) (m := 1) (args0 := [s0 0 a.length, ii 0, ii ((r1.1.length : Nat) : Int)]) (h0 := [(0, rc encP a (z0 + ((rowC encP a).length + 1)) y0 2)]) (V := .tuple #[s0 1 r2.1.length, .bool r2.2]) (V2 := .tuple #[s0 2 r2.1.length, .bool r2.2]) (H := [(1, rc (encI .i64) r2.1 0 3 1)]) (H2 := [(2, rc (encI .i64) r2.1 0 3 1)]) [0] [2, 3, 1] (f78_ok m m (z0 + ((rowC encP a).length + 1)) y0 a 0 ((r1.1.length : Nat) : Int) r2 r2_h) (by rfl) (by decide) rfl (by kernel_rfl) ⟨⟨_, _, rfl, rfl, .inl ⟨rfl, rowC_scal encP_ok _⟩⟩, trivial⟩ (by decide) (by decide) (by kernel_rfl) ⟨⟨_, _, rfl, rfl, .inl ⟨rfl, rowC_scal (encI_ok .i64) _⟩⟩, trivial⟩ (by rfl)) ?_
    rintro _ _ _ ⟨rfl, rfl, rfl⟩
    refine XR.conv (σ' := [(20, .tuple #[s0 2 r2.1.length, .bool r2.2])]) (h' := [(2, rc (encI .i64) r2.1 0 3 1), (1, rc (encI .i64) r1.1 0 3 1), (0, rc encP a z0 y0 2)]) (c' := 3) ?_ (by kernel_rfl)
    refine XR.runS E0_ok 1 5 [(6, s0 2 r2.1.length)] rfl (by kernel_rfl) ?_
    refine XR.done (by kernel_rfl) ?_
    show XQ _ _ _ _ _ _ _ _
    refine XQ.seq E0_ok (by kernel_rfl) ?_
    refine XQ.region (by kernel_rfl) ?_
    refine XR.runS E0_ok 1 3 [(2, s0 2 r2.1.length), (3, ii 0)] rfl (by kernel_rfl) ?_
    refine XR.done (by kernel_rfl) ?_
    show XQ _ _ _ _ _ _ _ _
    refine XQ.ren (σ' := [(2, s0 1 r2.1.length), (3, ii 0)]) (h' := [(1, rc (encI .i64) r2.1 0 3 1), (0, rc encP a z0 y0 2)]) (c' := 2) [0, 2] (by decide) rfl ⟨by kernel_rfl, by kernel_rfl, trivial⟩ ⟨⟨_, _, rfl, rfl, .inl ⟨rfl, rowC_scal (encI_ok .i64) _⟩⟩, ⟨_, _, rfl, rfl, .inl ⟨rfl, rowC_scal encP_ok _⟩⟩, trivial⟩ rfl ?_
    refine XQ.ret (by kernel_rfl) ?_
    have h := Option.some.inj h
    subst h
    exact ⟨fun i q => (by cases q), .tuple #[s0 1 r2.1.length, ii 0], (by kernel_rfl), (by kernel_rfl), (by kernel_rfl), rfl⟩

end Go.Xm
