/- What these functions of the program compute, as functions in Lean, and the proofs that they do: vitolaref02.meets, vitolaref02.Meets. Conditions: none. -/
import Derived.Test.YtfdeihnkoaihfaaBe
namespace Go.Xm
open Go.RowKit
set_option linter.unusedVariables false
set_option linter.unusedSimpArgs false
set_option maxRecDepth 20000

/-! vitola/vitolaref02.meets -/
noncomputable def f83_C83 : Code := Proofs.Try.f83.body.getD .skip
noncomputable def f83_L1 : Code := lft (lft (rgt (lft (rgt f83_C83))))
noncomputable def f83_L2 : Code := lft (lft (rgt (lft (rgt (lft (lft (rgt f83_L1)))))))

def f83_2 (m : Nat) : Nat → List (Int × Int) → List Int → Int → Bool → Int → Option Bool
  | 0, _, _, _, _, _ => none
  | fuel + 1, a, b, x5_1, b6_2, x7_2 =>
    cond (decide (x7_2 < ((b.length : Nat) : Int))) (
      cond (b6_2) (
        f83_2 m fuel a b x5_1 true (w64 (x7_2 + 1))
      ) (
        cond (inRow x7_2 b.length) (
          cond (inRow x5_1 a.length) (
            (f63 m (List.getD b (Int.toNat x7_2) 0) ((List.getD a (Int.toNat x5_1) (0, 0)).1) ((List.getD a (Int.toNat x5_1) (0, 0)).2)).bind fun r9 =>
              f83_2 m fuel a b x5_1 r9 (w64 (x7_2 + 1))
          ) none
        ) none
      )
    ) (
      some (b6_2)
    )

theorem f83_2_ok (m : Nat) : ∀ (fuel : Nat) (z0 : Nat) (y0 : Nat) (a : List (Int × Int)) (z1 : Nat) (y1 : Nat) (b : List Int) (x5_1 : Int) (b6_2 : Bool) (x7_2 : Int) (o : Bool), f83_2 m fuel a b x5_1 b6_2 x7_2 = some o → ∀ Q : QP, Q (.exit 2) [(0, s0 0 a.length), (1, s0 1 b.length), (5, ii x5_1), (6, .bool o)] [(1, rc (encI .i64) b z1 y1 1), (0, rc encP a z0 y0 2)] 2 → XL E0 40 2 fuel f83_L2 [(0, s0 0 a.length), (1, s0 1 b.length), (5, ii x5_1), (6, .bool b6_2), (7, ii x7_2)] [(1, rc (encI .i64) b z1 y1 1), (0, rc encP a z0 y0 2)] 2 Q
  | 0, z0, y0, a, z1, y1, b, x5_1, b6_2, x7_2, o, h, Q, hQ => by cases h
  | fuel + 1, z0, y0, a, z1, y1, b, x5_1, b6_2, x7_2, o, h, Q, hQ => by
    unfold f83_2 at h
    refine XL.succ E0_ok ?_
    refine XQ.seq E0_ok (by kernel_rfl) ?_
    refine XQ.seq E0_ok (by kernel_rfl) ?_
    refine XQ.region (by kernel_rfl) ?_
    refine XR.runS E0_ok 1 4 [(0, s0 0 a.length), (1, s0 1 b.length), (5, ii x5_1), (6, .bool b6_2), (7, ii x7_2), (17, .bool (decide (x7_2 < ((b.length : Nat) : Int))))] rfl (by kernel_rfl) ?_
    refine XR.done (by kernel_rfl) ?_
    show XQ _ _ _ _ _ _ _ _
    cases b1 : (decide (x7_2 < ((b.length : Nat) : Int)) : Bool) with
    | true =>
      have h := cT b1 h
      refine XQ.cond (s := (.tmp 17)) (b := true) (by kernel_rfl) (by kernel_rfl) (fun _ => ?_) (fun q => by cases q)
      refine XQ.skip (by kernel_rfl) ?_
      show XQ _ _ _ _ _ _ _ _
      refine XQ.seq E0_ok (by kernel_rfl) ?_
      refine XQ.block (id := 3) (by kernel_rfl) ?_
      refine XQ.quiet E0_ok (by kernel_rfl) (by kernel_rfl) ?_
      refine XU.run E0_ok 1 2 [0, 1, 5, 7, 21] rfl (σ' := [(0, s0 0 a.length), (1, s0 1 b.length), (5, ii x5_1), (7, ii x7_2), (21, .bool b6_2)]) (by kernel_rfl) ?_
      cases b2 : (b6_2 : Bool) with
      | true =>
        have h := cT b2 h
        refine XU.run E0_ok 1 17 [0, 1, 5, 6, 7] rfl (σ' := [(0, s0 0 a.length), (1, s0 1 b.length), (5, ii x5_1), (6, .bool true), (7, ii x7_2)]) (by kernel_rfl) ?_
        refine XU.done (by kernel_rfl) ?_
        show XQ _ _ _ _ _ _ _ _
        refine XQ.region (by kernel_rfl) ?_
        refine XR.runS E0_ok 1 3 [(0, s0 0 a.length), (1, s0 1 b.length), (5, ii x5_1), (6, .bool true), (7, ii (w64 (x7_2 + 1)))] rfl (by kernel_rfl) ?_
        refine XR.done (by kernel_rfl) ?_
        show XL _ _ _ _ _ _ _ _ _
        refine XL.ren (σ' := [(0, s0 0 a.length), (1, s0 1 b.length), (5, ii x5_1), (6, .bool true), (7, ii (w64 (x7_2 + 1)))]) (h' := [(1, rc (encI .i64) b z1 y1 1), (0, rc encP a z0 y0 2)]) (c' := 2) [0, 1] (by decide) rfl ⟨by kernel_rfl, by kernel_rfl, by kernel_rfl, by kernel_rfl, by kernel_rfl, trivial⟩ ⟨⟨_, _, rfl, rfl, .inl ⟨rfl, rowC_scal (encI_ok .i64) _⟩⟩, ⟨_, _, rfl, rfl, .inl ⟨rfl, rowC_scal encP_ok _⟩⟩, trivial⟩ rfl ?_
        refine XL.conv (f83_2_ok m fuel z0 y0 a z1 y1 b x5_1 true (w64 (x7_2 + 1)) o h Q hQ) (by first | rfl | simp)
      | false =>
        have h := cF b2 h
        refine XU.run E0_ok 1 2 [0, 1, 5, 7, 21, 22, 23] rfl (σ' := [(0, s0 0 a.length), (1, s0 1 b.length), (5, ii x5_1), (7, ii x7_2), (21, .bool false), (22, s0 1 b.length), (23, ii x7_2)]) (by kernel_rfl) ?_
        cases b3 : (inRow x7_2 b.length : Bool) with
        | false => cases (cF b3 h)
        | true =>
          have h := cT b3 h
          refine XU.rd E0_ok [0, 1, 5, 7, 21, 24] rfl (v := pp 1 ((Int.toNat x7_2) * 1)) (v_idx (s := 1) (x := (src 40 (.tmp 22))) (y := (src 40 (.tmp 23))) (b := 1) (o := 0) (len := b.length) (cap := b.length) (ik := .i64) (i := x7_2) (off := (Int.toNat x7_2) * 1) (d := (some (path 12 24))) (by kernel_rfl) (by kernel_rfl) (by kernel_rfl) b3 (by omega)) (σ' := [(0, s0 0 a.length), (1, s0 1 b.length), (5, ii x5_1), (7, ii x7_2), (21, .bool false), (24, pp 1 ((Int.toNat x7_2) * 1))]) (by kernel_rfl) ?_
          refine XU.rd E0_ok [0, 1, 5, 7, 21, 25] rfl (v := ii (List.getD b (Int.toNat x7_2) 0)) (v_load1 (encI_ok .i64) (x := (src 40 (.tmp 24))) (b := 1) (off := (Int.toNat x7_2) * 1) (xs := b) (fz := z1) (e := y1) (es := 1) (d := (some (path 12 25))) (by kernel_rfl) (by kernel_rfl) (by kernel_rfl) (Int.toNat x7_2) 0 0 (by first | rfl | omega) (row_len (inRow_toNat b3) (by simp)) rfl rfl) (σ' := [(0, s0 0 a.length), (1, s0 1 b.length), (5, ii x5_1), (7, ii x7_2), (21, .bool false), (25, ii (List.getD b (Int.toNat x7_2) 0))]) (by kernel_rfl) ?_
          refine XU.run E0_ok 1 2 [0, 1, 5, 7, 21, 25, 26, 27] rfl (σ' := [(0, s0 0 a.length), (1, s0 1 b.length), (5, ii x5_1), (7, ii x7_2), (21, .bool false), (25, ii (List.getD b (Int.toNat x7_2) 0)), (26, s0 0 a.length), (27, ii x5_1)]) (by kernel_rfl) ?_
          cases b4 : (inRow x5_1 a.length : Bool) with
          | false => cases (cF b4 h)
          | true =>
            have h := cT b4 h
            refine XU.rd E0_ok [0, 1, 5, 7, 21, 25, 28] rfl (v := pp 0 ((Int.toNat x5_1) * 2)) (v_idx (s := 2) (x := (src 40 (.tmp 26))) (y := (src 40 (.tmp 27))) (b := 0) (o := 0) (len := a.length) (cap := a.length) (ik := .i64) (i := x5_1) (off := (Int.toNat x5_1) * 2) (d := (some (path 12 28))) (by kernel_rfl) (by kernel_rfl) (by kernel_rfl) b4 (by omega)) (σ' := [(0, s0 0 a.length), (1, s0 1 b.length), (5, ii x5_1), (7, ii x7_2), (21, .bool false), (25, ii (List.getD b (Int.toNat x7_2) 0)), (28, pp 0 ((Int.toNat x5_1) * 2))]) (by kernel_rfl) ?_
            refine XU.run E0_ok 1 1 [0, 1, 5, 7, 21, 25, 29] rfl (σ' := [(0, s0 0 a.length), (1, s0 1 b.length), (5, ii x5_1), (7, ii x7_2), (21, .bool false), (25, ii (List.getD b (Int.toNat x7_2) 0)), (29, pp 0 ((Int.toNat x5_1) * 2))]) (by kernel_rfl) ?_
            refine XU.rd E0_ok [0, 1, 5, 7, 21, 25, 30] rfl (v := ii ((List.getD a (Int.toNat x5_1) (0, 0)).1)) (v_load1 encP_ok (x := (src 40 (.tmp 29))) (b := 0) (off := (Int.toNat x5_1) * 2) (xs := a) (fz := z0) (e := y0) (es := 2) (d := (some (path 12 30))) (by kernel_rfl) (by kernel_rfl) (by kernel_rfl) (Int.toNat x5_1) 0 (0, 0) (by first | rfl | omega) (row_len (inRow_toNat b4) (by simp)) rfl rfl) (σ' := [(0, s0 0 a.length), (1, s0 1 b.length), (5, ii x5_1), (7, ii x7_2), (21, .bool false), (25, ii (List.getD b (Int.toNat x7_2) 0)), (30, ii ((List.getD a (Int.toNat x5_1) (0, 0)).1))]) (by kernel_rfl) ?_
            refine XU.run E0_ok 1 2 [0, 1, 5, 7, 21, 25, 30, 31, 32] rfl (σ' := [(0, s0 0 a.length), (1, s0 1 b.length), (5, ii x5_1), (7, ii x7_2), (21, .bool false), (25, ii (List.getD b (Int.toNat x7_2) 0)), (30, ii ((List.getD a (Int.toNat x5_1) (0, 0)).1)), (31, s0 0 a.length), (32, ii x5_1)]) (by kernel_rfl) ?_
            refine XU.rd E0_ok [0, 1, 5, 7, 21, 25, 30, 33] rfl (v := pp 0 ((Int.toNat x5_1) * 2)) (v_idx (s := 2) (x := (src 40 (.tmp 31))) (y := (src 40 (.tmp 32))) (b := 0) (o := 0) (len := a.length) (cap := a.length) (ik := .i64) (i := x5_1) (off := (Int.toNat x5_1) * 2) (d := (some (path 12 33))) (by kernel_rfl) (by kernel_rfl) (by kernel_rfl) b4 (by omega)) (σ' := [(0, s0 0 a.length), (1, s0 1 b.length), (5, ii x5_1), (7, ii x7_2), (21, .bool false), (25, ii (List.getD b (Int.toNat x7_2) 0)), (30, ii ((List.getD a (Int.toNat x5_1) (0, 0)).1)), (33, pp 0 ((Int.toNat x5_1) * 2))]) (by kernel_rfl) ?_
            refine XU.run E0_ok 1 1 [0, 1, 5, 7, 21, 25, 30, 34] rfl (σ' := [(0, s0 0 a.length), (1, s0 1 b.length), (5, ii x5_1), (7, ii x7_2), (21, .bool false), (25, ii (List.getD b (Int.toNat x7_2) 0)), (30, ii ((List.getD a (Int.toNat x5_1) (0, 0)).1)), (34, pp 0 ((Int.toNat x5_1) * 2 + 1))]) (by kernel_rfl) ?_
            refine XU.rd E0_ok [0, 1, 5, 7, 21, 25, 30, 35] rfl (v := ii ((List.getD a (Int.toNat x5_1) (0, 0)).2)) (v_load1 encP_ok (x := (src 40 (.tmp 34))) (b := 0) (off := (Int.toNat x5_1) * 2 + 1) (xs := a) (fz := z0) (e := y0) (es := 2) (d := (some (path 12 35))) (by kernel_rfl) (by kernel_rfl) (by kernel_rfl) (Int.toNat x5_1) 1 (0, 0) (by first | rfl | omega) (row_len (inRow_toNat b4) (by simp)) rfl rfl) (σ' := [(0, s0 0 a.length), (1, s0 1 b.length), (5, ii x5_1), (7, ii x7_2), (21, .bool false), (25, ii (List.getD b (Int.toNat x7_2) 0)), (30, ii ((List.getD a (Int.toNat x5_1) (0, 0)).1)), (35, ii ((List.getD a (Int.toNat x5_1) (0, 0)).2))]) (by kernel_rfl) ?_
            obtain ⟨r9, r9_h, h⟩ := bS h
            refine XU.call E0_ok [0, 1, 5, 7, 21, 36] rfl (K := 63) (F := Proofs.Try.f63) (args := [ii (List.getD b (Int.toNat x7_2) 0), ii ((List.getD a (Int.toNat x5_1) (0, 0)).1), ii ((List.getD a (Int.toNat x5_1) (0, 0)).2)]) (d := (some (path 12 36))) (v := .bool r9) (by kernel_rfl) (by kernel_rfl) rfl rfl (fun w hI => f63_ok m (List.getD b (Int.toNat x7_2) 0) ((List.getD a (Int.toNat x5_1) (0, 0)).1) ((List.getD a (Int.toNat x5_1) (0, 0)).2) r9 r9_h w hI) (σ' := [(0, s0 0 a.length), (1, s0 1 b.length), (5, ii x5_1), (7, ii x7_2), (21, .bool false), (36, .bool r9)]) (by kernel_rfl) ?_
            refine XU.run E0_ok 1 2 [0, 1, 5, 6, 7] rfl (σ' := [(0, s0 0 a.length), (1, s0 1 b.length), (5, ii x5_1), (6, .bool r9), (7, ii x7_2)]) (by kernel_rfl) ?_
            refine XU.done (by kernel_rfl) ?_
            show XQ _ _ _ _ _ _ _ _
            refine XQ.region (by kernel_rfl) ?_
            refine XR.runS E0_ok 1 3 [(0, s0 0 a.length), (1, s0 1 b.length), (5, ii x5_1), (6, .bool r9), (7, ii (w64 (x7_2 + 1)))] rfl (by kernel_rfl) ?_
            refine XR.done (by kernel_rfl) ?_
            show XL _ _ _ _ _ _ _ _ _
            refine XL.ren (σ' := [(0, s0 0 a.length), (1, s0 1 b.length), (5, ii x5_1), (6, .bool r9), (7, ii (w64 (x7_2 + 1)))]) (h' := [(1, rc (encI .i64) b z1 y1 1), (0, rc encP a z0 y0 2)]) (c' := 2) [0, 1] (by decide) rfl ⟨by kernel_rfl, by kernel_rfl, by kernel_rfl, by kernel_rfl, by kernel_rfl, trivial⟩ ⟨⟨_, _, rfl, rfl, .inl ⟨rfl, rowC_scal (encI_ok .i64) _⟩⟩, ⟨_, _, rfl, rfl, .inl ⟨rfl, rowC_scal encP_ok _⟩⟩, trivial⟩ rfl ?_
            refine XL.conv (f83_2_ok m fuel z0 y0 a z1 y1 b x5_1 r9 (w64 (x7_2 + 1)) o h Q hQ) (by first | rfl | simp)
    | false =>
      have h := cF b1 h
      refine XQ.cond (s := (.tmp 17)) (b := false) (by kernel_rfl) (by kernel_rfl) (fun q => by cases q) (fun _ => ?_)
      refine XQ.ren (σ' := [(0, s0 0 a.length), (1, s0 1 b.length), (5, ii x5_1), (6, .bool b6_2)]) (h' := [(1, rc (encI .i64) b z1 y1 1), (0, rc encP a z0 y0 2)]) (c' := 2) [0, 1] (by decide) rfl ⟨by kernel_rfl, by kernel_rfl, by kernel_rfl, by kernel_rfl, trivial⟩ ⟨⟨_, _, rfl, rfl, .inl ⟨rfl, rowC_scal (encI_ok .i64) _⟩⟩, ⟨_, _, rfl, rfl, .inl ⟨rfl, rowC_scal encP_ok _⟩⟩, trivial⟩ rfl ?_
      refine XQ.exit (i := 2) (by kernel_rfl) ?_
      cases h
      exact hQ

inductive Of83_1 where
  | r
  | x0

def f83_1 (m : Nat) : Nat → List (Int × Int) → List Int → Int → Option Of83_1
  | 0, _, _, _ => none
  | fuel + 1, a, b, x5_1 =>
    cond (decide (x5_1 < ((a.length : Nat) : Int))) (
      (f83_2 m m a b x5_1 false 0).bind fun o2 =>
        cond (!o2) (
          some (.r)
        ) (
          f83_1 m fuel a b (w64 (x5_1 + 1))
        )
    ) (
      some (.x0)
    )

theorem f83_1_ok (m : Nat) : ∀ (fuel : Nat) (z0 : Nat) (y0 : Nat) (a : List (Int × Int)) (z1 : Nat) (y1 : Nat) (b : List Int) (x5_1 : Int) (o : Of83_1), f83_1 m fuel a b x5_1 = some o → ∀ Q : QP, (match o with | .r => Q .ret [(4, .bool false)] [(1, rc (encI .i64) b z1 y1 1), (0, rc encP a z0 y0 2)] 2 | .x0 => Q (.exit 0) [] [(1, rc (encI .i64) b z1 y1 1), (0, rc encP a z0 y0 2)] 2) → XL E0 40 2 fuel f83_L1 [(0, s0 0 a.length), (1, s0 1 b.length), (5, ii x5_1)] [(1, rc (encI .i64) b z1 y1 1), (0, rc encP a z0 y0 2)] 2 Q
  | 0, z0, y0, a, z1, y1, b, x5_1, o, h, Q, hQ => by cases h
  | fuel + 1, z0, y0, a, z1, y1, b, x5_1, o, h, Q, hQ => by
    unfold f83_1 at h
    refine XL.succ E0_ok ?_
    refine XQ.seq E0_ok (by kernel_rfl) ?_
    refine XQ.seq E0_ok (by kernel_rfl) ?_
    refine XQ.region (by kernel_rfl) ?_
    refine XR.runS E0_ok 1 4 [(0, s0 0 a.length), (1, s0 1 b.length), (5, ii x5_1), (11, .bool (decide (x5_1 < ((a.length : Nat) : Int))))] rfl (by kernel_rfl) ?_
    refine XR.done (by kernel_rfl) ?_
    show XQ _ _ _ _ _ _ _ _
    cases b1 : (decide (x5_1 < ((a.length : Nat) : Int)) : Bool) with
    | true =>
      have h := cT b1 h
      refine XQ.cond (s := (.tmp 11)) (b := true) (by kernel_rfl) (by kernel_rfl) (fun _ => ?_) (fun q => by cases q)
      refine XQ.skip (by kernel_rfl) ?_
      show XQ _ _ _ _ _ _ _ _
      refine XQ.seq E0_ok (by kernel_rfl) ?_
      refine XQ.block (id := 1) (by kernel_rfl) ?_
      refine XQ.seq E0_ok (by kernel_rfl) ?_
      refine XQ.region (by kernel_rfl) ?_
      refine XR.runS E0_ok 1 1 [(0, s0 0 a.length), (1, s0 1 b.length), (5, ii x5_1), (6, .bool false)] rfl (by kernel_rfl) ?_
      refine XR.done (by kernel_rfl) ?_
      show XQ _ _ _ _ _ _ _ _
      refine XQ.seq E0_ok (by kernel_rfl) ?_
      refine XQ.seq E0_ok (by kernel_rfl) ?_
      refine XQ.region (by kernel_rfl) ?_
      refine XR.runS E0_ok 1 1 [(0, s0 0 a.length), (1, s0 1 b.length), (5, ii x5_1), (6, .bool false), (7, ii 0)] rfl (by kernel_rfl) ?_
      refine XR.done (by kernel_rfl) ?_
      show XQ _ _ _ _ _ _ _ _
      refine XQ.block (id := 2) (by kernel_rfl) ?_
      refine XQ.loop m (by kernel_rfl) ?_
      obtain ⟨o2, o2_h, h⟩ := bS h
      refine XL.ren (σ' := [(0, s0 0 a.length), (1, s0 1 b.length), (5, ii x5_1), (6, .bool false), (7, ii 0)]) (h' := [(1, rc (encI .i64) b z1 y1 1), (0, rc encP a z0 y0 2)]) (c' := 2) [0, 1] (by decide) rfl ⟨by kernel_rfl, by kernel_rfl, by kernel_rfl, by kernel_rfl, by kernel_rfl, trivial⟩ ⟨⟨_, _, rfl, rfl, .inl ⟨rfl, rowC_scal (encI_ok .i64) _⟩⟩, ⟨_, _, rfl, rfl, .inl ⟨rfl, rowC_scal encP_ok _⟩⟩, trivial⟩ rfl ?_
      refine XL.conv (f83_2_ok m m z0 y0 a z1 y1 b x5_1 false 0 o2 o2_h _ ?_) (by first | rfl | simp)
      show XQ _ _ _ _ _ _ _ _
      refine XQ.seq E0_ok (by kernel_rfl) ?_
      refine XQ.region (by kernel_rfl) ?_
      refine XR.runS E0_ok 1 2 [(0, s0 0 a.length), (1, s0 1 b.length), (5, ii x5_1), (39, .bool (!o2))] rfl (by kernel_rfl) ?_
      refine XR.done (by kernel_rfl) ?_
      show XQ _ _ _ _ _ _ _ _
      cases b3 : (!o2 : Bool) with
      | true =>
        have h := cT b3 h
        refine XQ.cond (s := (.tmp 39)) (b := true) (by kernel_rfl) (by kernel_rfl) (fun _ => ?_) (fun q => by cases q)
        refine XQ.seq E0_ok (by kernel_rfl) ?_
        refine XQ.region (by kernel_rfl) ?_
        refine XR.runS E0_ok 1 1 [(4, .bool false)] rfl (by kernel_rfl) ?_
        refine XR.done (by kernel_rfl) ?_
        show XQ _ _ _ _ _ _ _ _
        refine XQ.ren (σ' := [(4, .bool false)]) (h' := [(1, rc (encI .i64) b z1 y1 1), (0, rc encP a z0 y0 2)]) (c' := 2) [0, 1] (by decide) rfl ⟨by kernel_rfl, trivial⟩ ⟨⟨_, _, rfl, rfl, .inl ⟨rfl, rowC_scal (encI_ok .i64) _⟩⟩, ⟨_, _, rfl, rfl, .inl ⟨rfl, rowC_scal encP_ok _⟩⟩, trivial⟩ rfl ?_
        refine XQ.ret (by kernel_rfl) ?_
        cases h
        exact hQ
      | false =>
        have h := cF b3 h
        refine XQ.cond (s := (.tmp 39)) (b := false) (by kernel_rfl) (by kernel_rfl) (fun q => by cases q) (fun _ => ?_)
        refine XQ.skip (by kernel_rfl) ?_
        show XQ _ _ _ _ _ _ _ _
        refine XQ.region (by kernel_rfl) ?_
        refine XR.runS E0_ok 1 3 [(0, s0 0 a.length), (1, s0 1 b.length), (5, ii (w64 (x5_1 + 1)))] rfl (by kernel_rfl) ?_
        refine XR.done (by kernel_rfl) ?_
        show XL _ _ _ _ _ _ _ _ _
        refine XL.ren (σ' := [(0, s0 0 a.length), (1, s0 1 b.length), (5, ii (w64 (x5_1 + 1)))]) (h' := [(1, rc (encI .i64) b z1 y1 1), (0, rc encP a z0 y0 2)]) (c' := 2) [0, 1] (by decide) rfl ⟨by kernel_rfl, by kernel_rfl, by kernel_rfl, trivial⟩ ⟨⟨_, _, rfl, rfl, .inl ⟨rfl, rowC_scal (encI_ok .i64) _⟩⟩, ⟨_, _, rfl, rfl, .inl ⟨rfl, rowC_scal encP_ok _⟩⟩, trivial⟩ rfl ?_
        refine XL.conv (f83_1_ok m fuel z0 y0 a z1 y1 b (w64 (x5_1 + 1)) o h Q hQ) (by first | rfl | simp)
    | false =>
      have h := cF b1 h
      refine XQ.cond (s := (.tmp 11)) (b := false) (by kernel_rfl) (by kernel_rfl) (fun q => by cases q) (fun _ => ?_)
      refine XQ.ren (σ' := []) (h' := [(1, rc (encI .i64) b z1 y1 1), (0, rc encP a z0 y0 2)]) (c' := 2) [0, 1] (by decide) rfl trivial ⟨⟨_, _, rfl, rfl, .inl ⟨rfl, rowC_scal (encI_ok .i64) _⟩⟩, ⟨_, _, rfl, rfl, .inl ⟨rfl, rowC_scal encP_ok _⟩⟩, trivial⟩ rfl ?_
      refine XQ.exit (i := 0) (by kernel_rfl) ?_
      cases h
      exact hQ

def f83 (m : Nat) (a : List (Int × Int)) (b : List Int) : Option (Bool) :=
  (f83_1 m m a b 0).bind fun o1 =>
    match o1 with
    | .r =>
      some (false)
    | .x0 =>
      some (true)

theorem f83_ok (m : Nat) (z0 : Nat) (y0 : Nat) (z1 : Nat) (y1 : Nat) (a : List (Int × Int)) (b : List Int) (o : Bool) (h : f83 m a b = some o) : KC E0 83 [s0 0 a.length, s0 1 b.length] [(1, rc (encI .i64) b z1 y1 1), (0, rc encP a z0 y0 2)] 2 (fun v _ _ => v = .bool o) := by
  refine KC.bodyN E0_ok (F := Proofs.Try.f83) (by kernel_rfl) (code := f83_C83) (by kernel_rfl) (nt := 40) (by kernel_rfl) (rs := [.tmp 4]) (by kernel_rfl) (by kernel_rfl) (σ := [(0, s0 0 a.length), (1, s0 1 b.length)]) (by kernel_rfl) ?_
  unfold f83 at h
  refine XQ.seq E0_ok (by kernel_rfl) ?_
  refine XQ.region (by kernel_rfl) ?_
  refine XR.runS E0_ok 1 1 [(0, s0 0 a.length), (1, s0 1 b.length)] rfl (by kernel_rfl) ?_
  refine XR.done (by kernel_rfl) ?_
  show XQ _ _ _ _ _ _ _ _
  refine XQ.seq E0_ok (by kernel_rfl) ?_
  refine XQ.seq E0_ok (by kernel_rfl) ?_
  refine XQ.region (by kernel_rfl) ?_
  refine XR.runS E0_ok 1 1 [(0, s0 0 a.length), (1, s0 1 b.length), (5, ii 0)] rfl (by kernel_rfl) ?_
  refine XR.done (by kernel_rfl) ?_
  show XQ _ _ _ _ _ _ _ _
  refine XQ.block (id := 0) (by kernel_rfl) ?_
  refine XQ.loop m (by kernel_rfl) ?_
  obtain ⟨o1, o1_h, h⟩ := bS h
  refine XL.ren (σ' := [(0, s0 0 a.length), (1, s0 1 b.length), (5, ii 0)]) (h' := [(1, rc (encI .i64) b z1 y1 1), (0, rc encP a z0 y0 2)]) (c' := 2) [0, 1] (by decide) rfl ⟨by kernel_rfl, by kernel_rfl, by kernel_rfl, trivial⟩ ⟨⟨_, _, rfl, rfl, .inl ⟨rfl, rowC_scal (encI_ok .i64) _⟩⟩, ⟨_, _, rfl, rfl, .inl ⟨rfl, rowC_scal encP_ok _⟩⟩, trivial⟩ rfl ?_
  cases o1 with
  | r =>
    dsimp only at h
    refine XL.conv (f83_1_ok m m z0 y0 a z1 y1 b 0 (.r) o1_h _ ?_) (by first | rfl | simp)
    have h := Option.some.inj h
    subst h
    exact ⟨fun i q => (by cases q), .bool false, (by kernel_rfl), rfl⟩
  | x0 =>
    dsimp only at h
    refine XL.conv (f83_1_ok m m z0 y0 a z1 y1 b 0 (.x0) o1_h _ ?_) (by first | rfl | simp)
    show XQ _ _ _ _ _ _ _ _
    refine XQ.seq E0_ok (by kernel_rfl) ?_
    refine XQ.region (by kernel_rfl) ?_
    refine XR.runS E0_ok 1 1 [(4, .bool true)] rfl (by kernel_rfl) ?_
    refine XR.done (by kernel_rfl) ?_
    show XQ _ _ _ _ _ _ _ _
    refine XQ.ret (by kernel_rfl) ?_
    have h := Option.some.inj h
    subst h
    exact ⟨fun i q => (by cases q), .bool true, (by kernel_rfl), rfl⟩

/-! vitola/vitolaref02.Meets -/
noncomputable def f40_C40 : Code := Proofs.Try.f40.body.getD .skip
noncomputable def f40_L1 : Code := lft (lft (rgt (lft (rgt (rgt (rgt f40_C40))))))

inductive Of40_1 where
  | r (x4_r1 : Int)
  | x0

def f40_1 (m : Nat) : Nat → List (Int × Int) → List Int → Int → Option Of40_1
  | 0, _, _, _ => none
  | fuel + 1, a, b, x6_1 =>
    cond (decide (x6_1 < ((b.length : Nat) : Int))) (
      cond (inRow x6_1 b.length) (
        (f63 m (List.getD b (Int.toNat x6_1) 0) 0 23).bind fun r4 =>
          cond (!r4) (
            some (.r 1)
          ) (
            cond (decide (x6_1 > 0)) (
              cond (inRow (w64 (x6_1 - 1)) b.length) (
                cond (decide ((List.getD b (Int.toNat x6_1) 0) ≤ (List.getD b (Int.toNat (w64 (x6_1 - 1))) 0))) (
                  some (.r 7)
                ) (
                  f40_1 m fuel a b (w64 (x6_1 + 1))
                )
              ) none
            ) (
              f40_1 m fuel a b (w64 (x6_1 + 1))
            )
          )
      ) none
    ) (
      some (.x0)
    )

theorem f40_1_ok (m : Nat) : ∀ (fuel : Nat) (z0 : Nat) (y0 : Nat) (a : List (Int × Int)) (z1 : Nat) (y1 : Nat) (b : List Int) (x6_1 : Int) (o : Of40_1), f40_1 m fuel a b x6_1 = some o → ∀ Q : QP, (match o with | .r x4_r1 => Q .ret [(4, ii x4_r1)] [(1, rc (encI .i64) b z1 y1 1), (0, rc encP a z0 y0 2)] 2 | .x0 => Q (.exit 0) [(0, s0 0 a.length), (1, s0 1 b.length)] [(1, rc (encI .i64) b z1 y1 1), (0, rc encP a z0 y0 2)] 2) → XL E0 42 2 fuel f40_L1 [(0, s0 0 a.length), (1, s0 1 b.length), (6, ii x6_1)] [(1, rc (encI .i64) b z1 y1 1), (0, rc encP a z0 y0 2)] 2 Q
  | 0, z0, y0, a, z1, y1, b, x6_1, o, h, Q, hQ => by cases h
  | fuel + 1, z0, y0, a, z1, y1, b, x6_1, o, h, Q, hQ => by
    unfold f40_1 at h
    refine XL.succ E0_ok ?_
    refine XQ.seq E0_ok (by kernel_rfl) ?_
    refine XQ.seq E0_ok (by kernel_rfl) ?_
    refine XQ.region (by kernel_rfl) ?_
    refine XR.runS E0_ok 1 4 [(0, s0 0 a.length), (1, s0 1 b.length), (6, ii x6_1), (15, .bool (decide (x6_1 < ((b.length : Nat) : Int))))] rfl (by kernel_rfl) ?_
    refine XR.done (by kernel_rfl) ?_
    show XQ _ _ _ _ _ _ _ _
    cases b1 : (decide (x6_1 < ((b.length : Nat) : Int)) : Bool) with
    | true =>
      have h := cT b1 h
      refine XQ.cond (s := (.tmp 15)) (b := true) (by kernel_rfl) (by kernel_rfl) (fun _ => ?_) (fun q => by cases q)
      refine XQ.skip (by kernel_rfl) ?_
      show XQ _ _ _ _ _ _ _ _
      refine XQ.seq E0_ok (by kernel_rfl) ?_
      refine XQ.block (id := 1) (by kernel_rfl) ?_
      refine XQ.seq E0_ok (by kernel_rfl) ?_
      refine XQ.seq E0_ok (by kernel_rfl) ?_
      refine XQ.region (by kernel_rfl) ?_
      refine XR.runS E0_ok 1 2 [(0, s0 0 a.length), (1, s0 1 b.length), (6, ii x6_1), (18, s0 1 b.length), (19, ii x6_1)] rfl (by kernel_rfl) ?_
      cases b2 : (inRow x6_1 b.length : Bool) with
      | false => cases (cF b2 h)
      | true =>
        have h := cT b2 h
        refine XR.rd E0_ok [0, 1, 6, 20] rfl (v := pp 1 ((Int.toNat x6_1) * 1)) (v_idx (s := 1) (x := (src 42 (.tmp 18))) (y := (src 42 (.tmp 19))) (b := 1) (o := 0) (len := b.length) (cap := b.length) (ik := .i64) (i := x6_1) (off := (Int.toNat x6_1) * 1) (d := (some (path 12 20))) (by kernel_rfl) (by kernel_rfl) (by kernel_rfl) b2 (by omega)) (σ' := [(0, s0 0 a.length), (1, s0 1 b.length), (6, ii x6_1), (20, pp 1 ((Int.toNat x6_1) * 1))]) (by kernel_rfl) ?_
        refine XR.rd E0_ok [0, 1, 6, 21] rfl (v := ii (List.getD b (Int.toNat x6_1) 0)) (v_load1 (encI_ok .i64) (x := (src 42 (.tmp 20))) (b := 1) (off := (Int.toNat x6_1) * 1) (xs := b) (fz := z1) (e := y1) (es := 1) (d := (some (path 12 21))) (by kernel_rfl) (by kernel_rfl) (by kernel_rfl) (Int.toNat x6_1) 0 0 (by first | rfl | omega) (row_len (inRow_toNat b2) (by simp)) rfl rfl) (σ' := [(0, s0 0 a.length), (1, s0 1 b.length), (6, ii x6_1), (21, ii (List.getD b (Int.toNat x6_1) 0))]) (by kernel_rfl) ?_
        obtain ⟨r4, r4_h, h⟩ := bS h
        refine XR.call E0_ok [0, 1, 6, 22] rfl (K := 63) (args := [ii (List.getD b (Int.toNat x6_1) 0), ii 0, ii 23]) (d := (some (path 12 22))) (by kernel_rfl) (KC.of_calls E0_ok (F := Proofs.Try.f63) (v := .bool r4) (by kernel_rfl) rfl rfl (fun w hI => f63_ok m (List.getD b (Int.toNat x6_1) 0) 0 23 r4 r4_h w hI)) ?_
        rintro _ _ _ ⟨rfl, rfl, rfl⟩
        refine XR.conv (σ' := [(0, s0 0 a.length), (1, s0 1 b.length), (6, ii x6_1), (22, .bool r4)]) (h' := [(1, rc (encI .i64) b z1 y1 1), (0, rc encP a z0 y0 2)]) (c' := 2) ?_ (by kernel_rfl)
        refine XR.runS E0_ok 1 1 [(0, s0 0 a.length), (1, s0 1 b.length), (6, ii x6_1), (23, .bool (!r4))] rfl (by kernel_rfl) ?_
        refine XR.done (by kernel_rfl) ?_
        show XQ _ _ _ _ _ _ _ _
        cases b3 : (!r4 : Bool) with
        | true =>
          have h := cT b3 h
          refine XQ.cond (s := (.tmp 23)) (b := true) (by kernel_rfl) (by kernel_rfl) (fun _ => ?_) (fun q => by cases q)
          refine XQ.seq E0_ok (by kernel_rfl) ?_
          refine XQ.region (by kernel_rfl) ?_
          refine XR.runS E0_ok 1 1 [(4, ii 1)] rfl (by kernel_rfl) ?_
          refine XR.done (by kernel_rfl) ?_
          show XQ _ _ _ _ _ _ _ _
          refine XQ.ren (σ' := [(4, ii 1)]) (h' := [(1, rc (encI .i64) b z1 y1 1), (0, rc encP a z0 y0 2)]) (c' := 2) [0, 1] (by decide) rfl ⟨by kernel_rfl, trivial⟩ ⟨⟨_, _, rfl, rfl, .inl ⟨rfl, rowC_scal (encI_ok .i64) _⟩⟩, ⟨_, _, rfl, rfl, .inl ⟨rfl, rowC_scal encP_ok _⟩⟩, trivial⟩ rfl ?_
          refine XQ.ret (by kernel_rfl) ?_
          cases h
          exact hQ
        | false =>
          have h := cF b3 h
          refine XQ.cond (s := (.tmp 23)) (b := false) (by kernel_rfl) (by kernel_rfl) (fun q => by cases q) (fun _ => ?_)
          refine XQ.skip (by kernel_rfl) ?_
          show XQ _ _ _ _ _ _ _ _
          refine XQ.seq E0_ok (by kernel_rfl) ?_
          refine XQ.quiet E0_ok (by kernel_rfl) (by kernel_rfl) ?_
          refine XU.run E0_ok 1 3 [0, 1, 6, 26] rfl (σ' := [(0, s0 0 a.length), (1, s0 1 b.length), (6, ii x6_1), (26, .bool (decide (x6_1 > 0)))]) (by kernel_rfl) ?_
          cases b4 : (decide (x6_1 > 0) : Bool) with
          | true =>
            have h := cT b4 h
            refine XU.run E0_ok 1 2 [0, 1, 6, 26, 27, 28] rfl (σ' := [(0, s0 0 a.length), (1, s0 1 b.length), (6, ii x6_1), (26, .bool true), (27, s0 1 b.length), (28, ii x6_1)]) (by kernel_rfl) ?_
            refine XU.rd E0_ok [0, 1, 6, 26, 29] rfl (v := pp 1 ((Int.toNat x6_1) * 1)) (v_idx (s := 1) (x := (src 42 (.tmp 27))) (y := (src 42 (.tmp 28))) (b := 1) (o := 0) (len := b.length) (cap := b.length) (ik := .i64) (i := x6_1) (off := (Int.toNat x6_1) * 1) (d := (some (path 12 29))) (by kernel_rfl) (by kernel_rfl) (by kernel_rfl) b2 (by omega)) (σ' := [(0, s0 0 a.length), (1, s0 1 b.length), (6, ii x6_1), (26, .bool true), (29, pp 1 ((Int.toNat x6_1) * 1))]) (by kernel_rfl) ?_
            refine XU.rd E0_ok [0, 1, 6, 26, 30] rfl (v := ii (List.getD b (Int.toNat x6_1) 0)) (v_load1 (encI_ok .i64) (x := (src 42 (.tmp 29))) (b := 1) (off := (Int.toNat x6_1) * 1) (xs := b) (fz := z1) (e := y1) (es := 1) (d := (some (path 12 30))) (by kernel_rfl) (by kernel_rfl) (by kernel_rfl) (Int.toNat x6_1) 0 0 (by first | rfl | omega) (row_len (inRow_toNat b2) (by simp)) rfl rfl) (σ' := [(0, s0 0 a.length), (1, s0 1 b.length), (6, ii x6_1), (26, .bool true), (30, ii (List.getD b (Int.toNat x6_1) 0))]) (by kernel_rfl) ?_
            refine XU.run E0_ok 1 3 [0, 1, 6, 26, 30, 31, 33] rfl (σ' := [(0, s0 0 a.length), (1, s0 1 b.length), (6, ii x6_1), (26, .bool true), (30, ii (List.getD b (Int.toNat x6_1) 0)), (31, s0 1 b.length), (33, ii (w64 (x6_1 - 1)))]) (by kernel_rfl) ?_
            cases b5 : (inRow (w64 (x6_1 - 1)) b.length : Bool) with
            | false => cases (cF b5 h)
            | true =>
              have h := cT b5 h
              refine XU.rd E0_ok [0, 1, 6, 26, 30, 34] rfl (v := pp 1 ((Int.toNat (w64 (x6_1 - 1))) * 1)) (v_idx (s := 1) (x := (src 42 (.tmp 31))) (y := (src 42 (.tmp 33))) (b := 1) (o := 0) (len := b.length) (cap := b.length) (ik := .i64) (i := w64 (x6_1 - 1)) (off := (Int.toNat (w64 (x6_1 - 1))) * 1) (d := (some (path 12 34))) (by kernel_rfl) (by kernel_rfl) (by kernel_rfl) b5 (by omega)) (σ' := [(0, s0 0 a.length), (1, s0 1 b.length), (6, ii x6_1), (26, .bool true), (30, ii (List.getD b (Int.toNat x6_1) 0)), (34, pp 1 ((Int.toNat (w64 (x6_1 - 1))) * 1))]) (by kernel_rfl) ?_
              refine XU.rd E0_ok [0, 1, 6, 26, 30, 35] rfl (v := ii (List.getD b (Int.toNat (w64 (x6_1 - 1))) 0)) (v_load1 (encI_ok .i64) (x := (src 42 (.tmp 34))) (b := 1) (off := (Int.toNat (w64 (x6_1 - 1))) * 1) (xs := b) (fz := z1) (e := y1) (es := 1) (d := (some (path 12 35))) (by kernel_rfl) (by kernel_rfl) (by kernel_rfl) (Int.toNat (w64 (x6_1 - 1))) 0 0 (by first | rfl | omega) (row_len (inRow_toNat b5) (by simp)) rfl rfl) (σ' := [(0, s0 0 a.length), (1, s0 1 b.length), (6, ii x6_1), (26, .bool true), (30, ii (List.getD b (Int.toNat x6_1) 0)), (35, ii (List.getD b (Int.toNat (w64 (x6_1 - 1))) 0))]) (by kernel_rfl) ?_
              refine XU.run E0_ok 1 2 [0, 1, 6, 37] rfl (σ' := [(0, s0 0 a.length), (1, s0 1 b.length), (6, ii x6_1), (37, .bool (decide ((List.getD b (Int.toNat x6_1) 0) ≤ (List.getD b (Int.toNat (w64 (x6_1 - 1))) 0))))]) (by kernel_rfl) ?_
              refine XU.done (by kernel_rfl) ?_
              show XQ _ _ _ _ _ _ _ _
              cases b6 : (decide ((List.getD b (Int.toNat x6_1) 0) ≤ (List.getD b (Int.toNat (w64 (x6_1 - 1))) 0)) : Bool) with
              | true =>
                have h := cT b6 h
                refine XQ.cond (s := (.tmp 37)) (b := true) (by kernel_rfl) (by kernel_rfl) (fun _ => ?_) (fun q => by cases q)
                refine XQ.seq E0_ok (by kernel_rfl) ?_
                refine XQ.region (by kernel_rfl) ?_
                refine XR.runS E0_ok 1 1 [(4, ii 7)] rfl (by kernel_rfl) ?_
                refine XR.done (by kernel_rfl) ?_
                show XQ _ _ _ _ _ _ _ _
                refine XQ.ren (σ' := [(4, ii 7)]) (h' := [(1, rc (encI .i64) b z1 y1 1), (0, rc encP a z0 y0 2)]) (c' := 2) [0, 1] (by decide) rfl ⟨by kernel_rfl, trivial⟩ ⟨⟨_, _, rfl, rfl, .inl ⟨rfl, rowC_scal (encI_ok .i64) _⟩⟩, ⟨_, _, rfl, rfl, .inl ⟨rfl, rowC_scal encP_ok _⟩⟩, trivial⟩ rfl ?_
                refine XQ.ret (by kernel_rfl) ?_
                cases h
                exact hQ
              | false =>
                have h := cF b6 h
                refine XQ.cond (s := (.tmp 37)) (b := false) (by kernel_rfl) (by kernel_rfl) (fun q => by cases q) (fun _ => ?_)
                refine XQ.skip (by kernel_rfl) ?_
                show XQ _ _ _ _ _ _ _ _
                refine XQ.region (by kernel_rfl) ?_
                refine XR.runS E0_ok 1 3 [(0, s0 0 a.length), (1, s0 1 b.length), (6, ii (w64 (x6_1 + 1)))] rfl (by kernel_rfl) ?_
                refine XR.done (by kernel_rfl) ?_
                show XL _ _ _ _ _ _ _ _ _
                refine XL.ren (σ' := [(0, s0 0 a.length), (1, s0 1 b.length), (6, ii (w64 (x6_1 + 1)))]) (h' := [(1, rc (encI .i64) b z1 y1 1), (0, rc encP a z0 y0 2)]) (c' := 2) [0, 1] (by decide) rfl ⟨by kernel_rfl, by kernel_rfl, by kernel_rfl, trivial⟩ ⟨⟨_, _, rfl, rfl, .inl ⟨rfl, rowC_scal (encI_ok .i64) _⟩⟩, ⟨_, _, rfl, rfl, .inl ⟨rfl, rowC_scal encP_ok _⟩⟩, trivial⟩ rfl ?_
                refine XL.conv (f40_1_ok m fuel z0 y0 a z1 y1 b (w64 (x6_1 + 1)) o h Q hQ) (by first | rfl | simp)
          | false =>
            have h := cF b4 h
            refine XU.run E0_ok 1 11 [0, 1, 6, 37] rfl (σ' := [(0, s0 0 a.length), (1, s0 1 b.length), (6, ii x6_1), (37, .bool false)]) (by kernel_rfl) ?_
            refine XU.done (by kernel_rfl) ?_
            show XQ _ _ _ _ _ _ _ _
            refine XQ.cond (s := (.tmp 37)) (b := false) (by kernel_rfl) (by kernel_rfl) (fun q => by cases q) (fun _ => ?_)
            refine XQ.skip (by kernel_rfl) ?_
            show XQ _ _ _ _ _ _ _ _
            refine XQ.region (by kernel_rfl) ?_
            refine XR.runS E0_ok 1 3 [(0, s0 0 a.length), (1, s0 1 b.length), (6, ii (w64 (x6_1 + 1)))] rfl (by kernel_rfl) ?_
            refine XR.done (by kernel_rfl) ?_
            show XL _ _ _ _ _ _ _ _ _
            refine XL.ren (σ' := [(0, s0 0 a.length), (1, s0 1 b.length), (6, ii (w64 (x6_1 + 1)))]) (h' := [(1, rc (encI .i64) b z1 y1 1), (0, rc encP a z0 y0 2)]) (c' := 2) [0, 1] (by decide) rfl ⟨by kernel_rfl, by kernel_rfl, by kernel_rfl, trivial⟩ ⟨⟨_, _, rfl, rfl, .inl ⟨rfl, rowC_scal (encI_ok .i64) _⟩⟩, ⟨_, _, rfl, rfl, .inl ⟨rfl, rowC_scal encP_ok _⟩⟩, trivial⟩ rfl ?_
            refine XL.conv (f40_1_ok m fuel z0 y0 a z1 y1 b (w64 (x6_1 + 1)) o h Q hQ) (by first | rfl | simp)
    | false =>
      have h := cF b1 h
      refine XQ.cond (s := (.tmp 15)) (b := false) (by kernel_rfl) (by kernel_rfl) (fun q => by cases q) (fun _ => ?_)
      refine XQ.ren (σ' := [(0, s0 0 a.length), (1, s0 1 b.length)]) (h' := [(1, rc (encI .i64) b z1 y1 1), (0, rc encP a z0 y0 2)]) (c' := 2) [0, 1] (by decide) rfl ⟨by kernel_rfl, by kernel_rfl, trivial⟩ ⟨⟨_, _, rfl, rfl, .inl ⟨rfl, rowC_scal (encI_ok .i64) _⟩⟩, ⟨_, _, rfl, rfl, .inl ⟨rfl, rowC_scal encP_ok _⟩⟩, trivial⟩ rfl ?_
      refine XQ.exit (i := 0) (by kernel_rfl) ?_
      cases h
      exact hQ

def f40 (m : Nat) (a : List (Int × Int)) (b : List Int) : Option (Int) :=
  (f24 m a).bind fun r1 =>
    cond (r1 != 0) (
      some (r1)
    ) (
      (f40_1 m m a b 0).bind fun o1 =>
        match o1 with
        | .r x4_r1 =>
          some (x4_r1)
        | .x0 =>
          (f83 m a b).bind fun r5 =>
            cond (!r5) (
              some (14)
            ) (
              some (0)
            )
    )

theorem f40_ok (m : Nat) (z0 : Nat) (y0 : Nat) (z1 : Nat) (y1 : Nat) (a : List (Int × Int)) (b : List Int) (o : Int) (h : f40 m a b = some o) : KC E0 40 [s0 0 a.length, s0 1 b.length] [(1, rc (encI .i64) b z1 y1 1), (0, rc encP a z0 y0 2)] 2 (fun v _ _ => v = ii o) := by
  refine KC.bodyN E0_ok (F := Proofs.Try.f40) (by kernel_rfl) (code := f40_C40) (by kernel_rfl) (nt := 42) (by kernel_rfl) (rs := [.tmp 4]) (by kernel_rfl) (by kernel_rfl) (σ := [(0, s0 0 a.length), (1, s0 1 b.length)]) (by kernel_rfl) ?_
  unfold f40 at h
  refine XQ.seq E0_ok (by kernel_rfl) ?_
  refine XQ.region (by kernel_rfl) ?_
  refine XR.runS E0_ok 1 1 [(0, s0 0 a.length), (1, s0 1 b.length)] rfl (by kernel_rfl) ?_
  refine XR.done (by kernel_rfl) ?_
  show XQ _ _ _ _ _ _ _ _
  refine XQ.seq E0_ok (by kernel_rfl) ?_
  refine XQ.region (by kernel_rfl) ?_
  refine XR.runS E0_ok 1 1 [(0, s0 0 a.length), (1, s0 1 b.length), (7, s0 0 a.length)] rfl (by kernel_rfl) ?_
  obtain ⟨r1, r1_h, h⟩ := bS h
  refine XR.call E0_ok [0, 1, 8] rfl (K := 24) (args := [s0 0 a.length]) (d := (some (path 12 8))) (by kernel_rfl) (KQ.call (KC.quiet E0_ok (args0 := [s0 0 a.length]) (h0 := [(0, rc encP a (z0 + ((rowC encP a).length + 1)) y0 2)]) (n := 1) (V := ii r1) [0] (f24_ok m (z0 + ((rowC encP a).length + 1)) y0 a r1 r1_h) rfl (by rfl) (by decide) rfl (by kernel_rfl) ⟨⟨_, _, rfl, rfl, .inl ⟨rfl, rowC_scal encP_ok _⟩⟩, trivial⟩) rfl) ?_
  rintro _ _ _ ⟨rfl, rfl, rfl⟩
  refine XR.conv (σ' := [(0, s0 0 a.length), (1, s0 1 b.length), (8, ii r1)]) (h' := [(1, rc (encI .i64) b z1 y1 1), (0, rc encP a z0 y0 2)]) (c' := 2) ?_ (by kernel_rfl)
  refine XR.runS E0_ok 1 1 [(0, s0 0 a.length), (1, s0 1 b.length), (5, ii r1)] rfl (by kernel_rfl) ?_
  refine XR.done (by kernel_rfl) ?_
  show XQ _ _ _ _ _ _ _ _
  refine XQ.seq E0_ok (by kernel_rfl) ?_
  refine XQ.seq E0_ok (by kernel_rfl) ?_
  refine XQ.region (by kernel_rfl) ?_
  refine XR.runS E0_ok 1 2 [(0, s0 0 a.length), (1, s0 1 b.length), (5, ii r1), (10, .bool (r1 != 0))] rfl (by kernel_rfl) ?_
  refine XR.done (by kernel_rfl) ?_
  show XQ _ _ _ _ _ _ _ _
  cases b1 : (r1 != 0 : Bool) with
  | true =>
    have h := cT b1 h
    refine XQ.cond (s := (.tmp 10)) (b := true) (by kernel_rfl) (by kernel_rfl) (fun _ => ?_) (fun q => by cases q)
    refine XQ.seq E0_ok (by kernel_rfl) ?_
    refine XQ.region (by kernel_rfl) ?_
    refine XR.runS E0_ok 1 2 [(4, ii r1)] rfl (by kernel_rfl) ?_
    refine XR.done (by kernel_rfl) ?_
    show XQ _ _ _ _ _ _ _ _
    refine XQ.ret (by kernel_rfl) ?_
    have h := Option.some.inj h
    subst h
    exact ⟨fun i q => (by cases q), ii r1, (by kernel_rfl), rfl⟩
  | false =>
    have h := cF b1 h
    refine XQ.cond (s := (.tmp 10)) (b := false) (by kernel_rfl) (by kernel_rfl) (fun q => by cases q) (fun _ => ?_)
    refine XQ.skip (by kernel_rfl) ?_
    show XQ _ _ _ _ _ _ _ _
    refine XQ.seq E0_ok (by kernel_rfl) ?_
    refine XQ.seq E0_ok (by kernel_rfl) ?_
    refine XQ.region (by kernel_rfl) ?_
    refine XR.runS E0_ok 1 1 [(0, s0 0 a.length), (1, s0 1 b.length), (6, ii 0)] rfl (by kernel_rfl) ?_
    refine XR.done (by kernel_rfl) ?_
    show XQ _ _ _ _ _ _ _ _
    refine XQ.block (id := 0) (by kernel_rfl) ?_
    refine XQ.loop m (by kernel_rfl) ?_
    obtain ⟨o1, o1_h, h⟩ := bS h
    refine XL.ren (σ' := [(0, s0 0 a.length), (1, s0 1 b.length), (6, ii 0)]) (h' := [(1, rc (encI .i64) b z1 y1 1), (0, rc encP a z0 y0 2)]) (c' := 2) [0, 1] (by decide) rfl ⟨by kernel_rfl, by kernel_rfl, by kernel_rfl, trivial⟩ ⟨⟨_, _, rfl, rfl, .inl ⟨rfl, rowC_scal (encI_ok .i64) _⟩⟩, ⟨_, _, rfl, rfl, .inl ⟨rfl, rowC_scal encP_ok _⟩⟩, trivial⟩ rfl ?_
    cases o1 with
    | r x4_r1 =>
      dsimp only at h
      refine XL.conv (f40_1_ok m m z0 y0 a z1 y1 b 0 (.r x4_r1) o1_h _ ?_) (by first | rfl | simp)
      have h := Option.some.inj h
      subst h
      exact ⟨fun i q => (by cases q), ii x4_r1, (by kernel_rfl), rfl⟩
    | x0 =>
      dsimp only at h
      refine XL.conv (f40_1_ok m m z0 y0 a z1 y1 b 0 (.x0) o1_h _ ?_) (by first | rfl | simp)
      show XQ _ _ _ _ _ _ _ _
      refine XQ.seq E0_ok (by kernel_rfl) ?_
      refine XQ.seq E0_ok (by kernel_rfl) ?_
      refine XQ.region (by kernel_rfl) ?_
      refine XR.runS E0_ok 1 2 [(38, s0 0 a.length), (39, s0 1 b.length)] rfl (by kernel_rfl) ?_
      obtain ⟨r5, r5_h, h⟩ := bS h
      refine XR.call E0_ok [40] rfl (K := 83) (args := [s0 0 a.length, s0 1 b.length]) (d := (some (path 12 40))) (by kernel_rfl) (KQ.call (KC.quiet E0_ok (args0 := [s0 0 a.length, s0 1 b.length]) (h0 := [(1, rc (encI .i64) b (z1 + ((rowC (encI .i64) b).length + 1)) y1 1), (0, rc encP a (z0 + ((rowC encP a).length + 1)) y0 2)]) (n := 2) (V := .bool r5) [0, 1] (f83_ok m (z0 + ((rowC encP a).length + 1)) y0 (z1 + ((rowC (encI .i64) b).length + 1)) y1 a b r5 r5_h) rfl (by rfl) (by decide) rfl (by kernel_rfl) ⟨⟨_, _, rfl, rfl, .inl ⟨rfl, rowC_scal (encI_ok .i64) _⟩⟩, ⟨_, _, rfl, rfl, .inl ⟨rfl, rowC_scal encP_ok _⟩⟩, trivial⟩) rfl) ?_
      rintro _ _ _ ⟨rfl, rfl, rfl⟩
      refine XR.conv (σ' := [(40, .bool r5)]) (h' := [(1, rc (encI .i64) b z1 y1 1), (0, rc encP a z0 y0 2)]) (c' := 2) ?_ (by kernel_rfl)
      refine XR.runS E0_ok 1 1 [(41, .bool (!r5))] rfl (by kernel_rfl) ?_
      refine XR.done (by kernel_rfl) ?_
      show XQ _ _ _ _ _ _ _ _
      cases b3 : (!r5 : Bool) with
      | true =>
        have h := cT b3 h
        refine XQ.cond (s := (.tmp 41)) (b := true) (by kernel_rfl) (by kernel_rfl) (fun _ => ?_) (fun q => by cases q)
        refine XQ.seq E0_ok (by kernel_rfl) ?_
        refine XQ.region (by kernel_rfl) ?_
        refine XR.runS E0_ok 1 1 [(4, ii 14)] rfl (by kernel_rfl) ?_
        refine XR.done (by kernel_rfl) ?_
        show XQ _ _ _ _ _ _ _ _
        refine XQ.ret (by kernel_rfl) ?_
        have h := Option.some.inj h
        subst h
        exact ⟨fun i q => (by cases q), ii 14, (by kernel_rfl), rfl⟩
      | false =>
        have h := cF b3 h
        refine XQ.cond (s := (.tmp 41)) (b := false) (by kernel_rfl) (by kernel_rfl) (fun q => by cases q) (fun _ => ?_)
        refine XQ.skip (by kernel_rfl) ?_
        show XQ _ _ _ _ _ _ _ _
        refine XQ.seq E0_ok (by kernel_rfl) ?_
        refine XQ.region (by kernel_rfl) ?_
        refine XR.runS E0_ok 1 1 [(4, ii 0)] rfl (by kernel_rfl) ?_
        refine XR.done (by kernel_rfl) ?_
        show XQ _ _ _ _ _ _ _ _
        refine XQ.ret (by kernel_rfl) ?_
        have h := Option.some.inj h
        subst h
        exact ⟨fun i q => (by cases q), ii 0, (by kernel_rfl), rfl⟩

end Go.Xm
