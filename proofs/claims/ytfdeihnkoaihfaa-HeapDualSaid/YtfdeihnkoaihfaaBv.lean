/- What these functions of the program compute, as functions in Lean, and the proofs that they do: heap.Meets. Conditions: none. -/
import Derived.Test.YtfdeihnkoaihfaaBa
namespace Go.Xm
open Go.RowKit
set_option linter.unusedVariables false
set_option linter.unusedSimpArgs false
set_option maxRecDepth 20000

/-! vitola/heap.Meets -/
noncomputable def f39_C39 : Code := Proofs.Try.f39.body.getD .skip
noncomputable def f39_C55 : Code := Proofs.Try.f55.body.getD .skip
noncomputable def f39_C87 : Code := Proofs.Try.f87.body.getD .skip
noncomputable def f39_C62 : Code := Proofs.Try.f62.body.getD .skip
noncomputable def f39_L1 : Code := lft (lft (rgt (lft (rgt (rgt (rgt f39_C39))))))
noncomputable def f39_L2 : Code := lft (lft (rgt (lft (rgt (rgt (rgt (rgt f39_C39)))))))
noncomputable def f39_L3 : Code := lft (lft (rgt (lft (rgt f39_C87))))

inductive Of39_1 where
  | r (x4_r1 : Int)
  | x0

def f39_1 (m : Nat) : Nat → List (Int × Int) → List Int → Int → Int → Int → Option Of39_1
  | 0, _, _, _, _, _ => none
  | fuel + 1, a, b, x6_1, x17_1, x18_1 =>
    cond (decide (x18_1 < x17_1)) (
      cond (inRow x18_1 b.length) (
        (f64 m 0 (List.getD b (Int.toNat x18_1) 0) 23).bind fun r4 =>
          cond (!r4) (
            some (.r 1)
          ) (
            cond (decide ((List.getD b (Int.toNat x18_1) 0) ≤ x6_1)) (
              some (.r 7)
            ) (
              f39_1 m fuel a b (List.getD b (Int.toNat x18_1) 0) x17_1 (w64 (x18_1 + 1))
            )
          )
      ) none
    ) (
      some (.x0)
    )

theorem f39_1_ok (m : Nat) : ∀ (fuel : Nat) (z0 : Nat) (y0 : Nat) (a : List (Int × Int)) (z1 : Nat) (y1 : Nat) (b : List Int) (x6_1 : Int) (x17_1 : Int) (x18_1 : Int) (o : Of39_1), f39_1 m fuel a b x6_1 x17_1 x18_1 = some o → ∀ Q : QP, (match o with | .r x4_r1 => Q .ret [(4, ii x4_r1)] [(1, rc (encI .i64) b z1 y1 1), (0, rc encP a z0 y0 2)] 2 | .x0 => Q (.exit 0) [(0, s0 0 a.length), (1, s0 1 b.length)] [(1, rc (encI .i64) b z1 y1 1), (0, rc encP a z0 y0 2)] 2) → XL E0 44 2 fuel f39_L1 [(0, s0 0 a.length), (1, s0 1 b.length), (6, ii x6_1), (16, s0 1 b.length), (17, ii x17_1), (18, ii x18_1)] [(1, rc (encI .i64) b z1 y1 1), (0, rc encP a z0 y0 2)] 2 Q
  | 0, z0, y0, a, z1, y1, b, x6_1, x17_1, x18_1, o, h, Q, hQ => by cases h
  | fuel + 1, z0, y0, a, z1, y1, b, x6_1, x17_1, x18_1, o, h, Q, hQ => by
    unfold f39_1 at h
    refine XL.succ E0_ok ?_
    refine XQ.seq E0_ok (by kernel_rfl) ?_
    refine XQ.region (by kernel_rfl) ?_
    refine XR.runS E0_ok 1 1 [(0, s0 0 a.length), (1, s0 1 b.length), (6, ii x6_1), (16, s0 1 b.length), (17, ii x17_1), (18, ii x18_1), (19, .bool (decide (x18_1 < x17_1)))] rfl (by kernel_rfl) ?_
    refine XR.done (by kernel_rfl) ?_
    show XQ _ _ _ _ _ _ _ _
    refine XQ.seq E0_ok (by kernel_rfl) ?_
    cases b1 : (decide (x18_1 < x17_1) : Bool) with
    | true =>
      have h := cT b1 h
      refine XQ.cond (s := (.tmp 19)) (b := true) (by kernel_rfl) (by kernel_rfl) (fun _ => ?_) (fun q => by cases q)
      refine XQ.skip (by kernel_rfl) ?_
      show XQ _ _ _ _ _ _ _ _
      refine XQ.seq E0_ok (by kernel_rfl) ?_
      refine XQ.block (id := 1) (by kernel_rfl) ?_
      refine XQ.seq E0_ok (by kernel_rfl) ?_
      refine XQ.region (by kernel_rfl) ?_
      cases b2 : (inRow x18_1 b.length : Bool) with
      | false => cases (cF b2 h)
      | true =>
        have h := cT b2 h
        refine XR.rd E0_ok [0, 1, 6, 16, 17, 18, 20] rfl (v := pp 1 ((Int.toNat x18_1) * 1)) (v_idx (s := 1) (x := (src 44 (.tmp 16))) (y := (src 44 (.tmp 18))) (b := 1) (o := 0) (len := b.length) (cap := b.length) (ik := .i64) (i := x18_1) (off := (Int.toNat x18_1) * 1) (d := (some (path 12 20))) (by kernel_rfl) (by kernel_rfl) (by kernel_rfl) b2 (by omega)) (σ' := [(0, s0 0 a.length), (1, s0 1 b.length), (6, ii x6_1), (16, s0 1 b.length), (17, ii x17_1), (18, ii x18_1), (20, pp 1 ((Int.toNat x18_1) * 1))]) (by kernel_rfl) ?_
        refine XR.rd E0_ok [0, 1, 6, 16, 17, 18, 21] rfl (v := ii (List.getD b (Int.toNat x18_1) 0)) (v_load1 (encI_ok .i64) (x := (src 44 (.tmp 20))) (b := 1) (off := (Int.toNat x18_1) * 1) (xs := b) (fz := z1) (e := y1) (es := 1) (d := (some (path 12 21))) (by kernel_rfl) (by kernel_rfl) (by kernel_rfl) (Int.toNat x18_1) 0 0 (by first | rfl | omega) (row_len (inRow_toNat b2) (by simp)) rfl rfl) (σ' := [(0, s0 0 a.length), (1, s0 1 b.length), (6, ii x6_1), (16, s0 1 b.length), (17, ii x17_1), (18, ii x18_1), (21, ii (List.getD b (Int.toNat x18_1) 0))]) (by kernel_rfl) ?_
        refine XR.runS E0_ok 1 1 [(0, s0 0 a.length), (1, s0 1 b.length), (6, ii x6_1), (8, ii (List.getD b (Int.toNat x18_1) 0)), (16, s0 1 b.length), (17, ii x17_1), (18, ii x18_1)] rfl (by kernel_rfl) ?_
        refine XR.done (by kernel_rfl) ?_
        show XQ _ _ _ _ _ _ _ _
        refine XQ.seq E0_ok (by kernel_rfl) ?_
        refine XQ.block (id := 2) (by kernel_rfl) ?_
        refine XQ.seq E0_ok (by kernel_rfl) ?_
        refine XQ.region (by kernel_rfl) ?_
        refine XR.runS E0_ok 1 1 [(0, s0 0 a.length), (1, s0 1 b.length), (6, ii x6_1), (8, ii (List.getD b (Int.toNat x18_1) 0)), (16, s0 1 b.length), (17, ii x17_1), (18, ii x18_1), (23, ii (List.getD b (Int.toNat x18_1) 0))] rfl (by kernel_rfl) ?_
        obtain ⟨r4, r4_h, h⟩ := bS h
        refine XR.call E0_ok [0, 1, 6, 8, 16, 17, 18, 24] rfl (K := 64) (args := [ii 0, ii (List.getD b (Int.toNat x18_1) 0), ii 23]) (d := (some (path 12 24))) (by kernel_rfl) (KC.of_calls E0_ok (F := Proofs.Try.f64) (v := .bool r4) (by kernel_rfl) rfl rfl (fun w hI => f64_ok m 0 (List.getD b (Int.toNat x18_1) 0) 23 r4 r4_h w hI)) ?_
        rintro _ _ _ ⟨rfl, rfl, rfl⟩
        refine XR.conv (σ' := [(0, s0 0 a.length), (1, s0 1 b.length), (6, ii x6_1), (8, ii (List.getD b (Int.toNat x18_1) 0)), (16, s0 1 b.length), (17, ii x17_1), (18, ii x18_1), (24, .bool r4)]) (h' := [(1, rc (encI .i64) b z1 y1 1), (0, rc encP a z0 y0 2)]) (c' := 2) ?_ (by kernel_rfl)
        refine XR.runS E0_ok 1 2 [(0, s0 0 a.length), (1, s0 1 b.length), (6, ii x6_1), (8, ii (List.getD b (Int.toNat x18_1) 0)), (16, s0 1 b.length), (17, ii x17_1), (18, ii x18_1), (22, .bool (!r4))] rfl (by kernel_rfl) ?_
        refine XR.done (by kernel_rfl) ?_
        show XQ _ _ _ _ _ _ _ _
        cases b3 : (!r4 : Bool) with
        | true =>
          have h := cT b3 h
          refine XQ.cond (s := (.tmp 22)) (b := true) (by kernel_rfl) (by kernel_rfl) (fun _ => ?_) (fun q => by cases q)
          refine XQ.seq E0_ok (by kernel_rfl) ?_
          refine XQ.region (by kernel_rfl) ?_
          refine XR.runS E0_ok 1 1 [(4, ii 1)] rfl (by kernel_rfl) ?_
          refine XR.done (by kernel_rfl) ?_
          show XQ _ _ _ _ _ _ _ _
          refine XQ.ren (σ' := [(4, ii 1)]) (h' := [(1, rc (encI .i64) b z1 y1 1), (0, rc encP a z0 y0 2)]) (c' := 2) [0, 1] (by decide) rfl ⟨by kernel_rfl, trivial⟩ ⟨⟨_, _, rfl, rfl, .inl ⟨rfl, rowC_scal (encI_ok .i64) _⟩⟩, ⟨_, _, rfl, rfl, .inl ⟨rfl, rowC_scal encP_ok _⟩⟩, trivial⟩ rfl ?_
          refine XQ.ret (by kernel_rfl) ?_
          cases h
          exact hQ
        | false =>
          have h := cF b3 h
          refine XQ.cond (s := (.tmp 22)) (b := false) (by kernel_rfl) (by kernel_rfl) (fun q => by cases q) (fun _ => ?_)
          refine XQ.seq E0_ok (by kernel_rfl) ?_
          refine XQ.region (by kernel_rfl) ?_
          refine XR.runS E0_ok 1 4 [(0, s0 0 a.length), (1, s0 1 b.length), (8, ii (List.getD b (Int.toNat x18_1) 0)), (16, s0 1 b.length), (17, ii x17_1), (18, ii x18_1), (26, .bool (decide ((List.getD b (Int.toNat x18_1) 0) ≤ x6_1)))] rfl (by kernel_rfl) ?_
          refine XR.done (by kernel_rfl) ?_
          show XQ _ _ _ _ _ _ _ _
          cases b4 : (decide ((List.getD b (Int.toNat x18_1) 0) ≤ x6_1) : Bool) with
          | true =>
            have h := cT b4 h
            refine XQ.cond (s := (.tmp 26)) (b := true) (by kernel_rfl) (by kernel_rfl) (fun _ => ?_) (fun q => by cases q)
            refine XQ.seq E0_ok (by kernel_rfl) ?_
            refine XQ.region (by kernel_rfl) ?_
            refine XR.runS E0_ok 1 1 [(4, ii 7)] rfl (by kernel_rfl) ?_
            refine XR.done (by kernel_rfl) ?_
            show XQ _ _ _ _ _ _ _ _
            refine XQ.ren (σ' := [(4, ii 7)]) (h' := [(1, rc (encI .i64) b z1 y1 1), (0, rc encP a z0 y0 2)]) (c' := 2) [0, 1] (by decide) rfl ⟨by kernel_rfl, trivial⟩ ⟨⟨_, _, rfl, rfl, .inl ⟨rfl, rowC_scal (encI_ok .i64) _⟩⟩, ⟨_, _, rfl, rfl, .inl ⟨rfl, rowC_scal encP_ok _⟩⟩, trivial⟩ rfl ?_
            refine XQ.ret (by kernel_rfl) ?_
            cases h
            exact hQ
          | false =>
            have h := cF b4 h
            refine XQ.cond (s := (.tmp 26)) (b := false) (by kernel_rfl) (by kernel_rfl) (fun q => by cases q) (fun _ => ?_)
            refine XQ.skip (by kernel_rfl) ?_
            show XQ _ _ _ _ _ _ _ _
            refine XQ.region (by kernel_rfl) ?_
            refine XR.runS E0_ok 1 2 [(0, s0 0 a.length), (1, s0 1 b.length), (6, ii (List.getD b (Int.toNat x18_1) 0)), (16, s0 1 b.length), (17, ii x17_1), (18, ii x18_1)] rfl (by kernel_rfl) ?_
            refine XR.done (by kernel_rfl) ?_
            show XQ _ _ _ _ _ _ _ _
            refine XQ.region (by kernel_rfl) ?_
            refine XR.runS E0_ok 1 2 [(0, s0 0 a.length), (1, s0 1 b.length), (6, ii (List.getD b (Int.toNat x18_1) 0)), (16, s0 1 b.length), (17, ii x17_1), (18, ii (w64 (x18_1 + 1)))] rfl (by kernel_rfl) ?_
            refine XR.done (by kernel_rfl) ?_
            show XL _ _ _ _ _ _ _ _ _
            refine XL.ren (σ' := [(0, s0 0 a.length), (1, s0 1 b.length), (6, ii (List.getD b (Int.toNat x18_1) 0)), (16, s0 1 b.length), (17, ii x17_1), (18, ii (w64 (x18_1 + 1)))]) (h' := [(1, rc (encI .i64) b z1 y1 1), (0, rc encP a z0 y0 2)]) (c' := 2) [0, 1] (by decide) rfl ⟨by kernel_rfl, by kernel_rfl, by kernel_rfl, by kernel_rfl, by kernel_rfl, by kernel_rfl, trivial⟩ ⟨⟨_, _, rfl, rfl, .inl ⟨rfl, rowC_scal (encI_ok .i64) _⟩⟩, ⟨_, _, rfl, rfl, .inl ⟨rfl, rowC_scal encP_ok _⟩⟩, trivial⟩ rfl ?_
            refine XL.conv (f39_1_ok m fuel z0 y0 a z1 y1 b (List.getD b (Int.toNat x18_1) 0) x17_1 (w64 (x18_1 + 1)) o h Q hQ) (by first | rfl | simp)
    | false =>
      have h := cF b1 h
      refine XQ.cond (s := (.tmp 19)) (b := false) (by kernel_rfl) (by kernel_rfl) (fun q => by cases q) (fun _ => ?_)
      refine XQ.ren (σ' := [(0, s0 0 a.length), (1, s0 1 b.length)]) (h' := [(1, rc (encI .i64) b z1 y1 1), (0, rc encP a z0 y0 2)]) (c' := 2) [0, 1] (by decide) rfl ⟨by kernel_rfl, by kernel_rfl, trivial⟩ ⟨⟨_, _, rfl, rfl, .inl ⟨rfl, rowC_scal (encI_ok .i64) _⟩⟩, ⟨_, _, rfl, rfl, .inl ⟨rfl, rowC_scal encP_ok _⟩⟩, trivial⟩ rfl ?_
      refine XQ.exit (i := 0) (by kernel_rfl) ?_
      cases h
      exact hQ

inductive Of39_3 where
  | r (x4_r3 : Int) (xh2_0_r3 : Int) (xh2_1_r3 : Int)
  | x0 (xh2_0_x03 : Int) (xh2_1_x03 : Int)

def f39_3 (m : Nat) : Nat → List (Int × Int) → List Int → Int → Int → Int → Int → Int → Int → Option Of39_3
  | 0, _, _, _, _, _, _, _, _ => none
  | fuel + 1, a, b, x1_f0_0_3, x1_f0_1_3, x7_3, x8_3, xh2_0_3, xh2_1_3 =>
    cond (decide (x8_3 < x7_3)) (
      cond (inRow x8_3 b.length) (
        (f64 m x1_f0_0_3 (List.getD b (Int.toNat x8_3) 0) x1_f0_1_3).bind fun r13 =>
          cond (r13) (
            some (.r x8_3 xh2_0_3 xh2_1_3)
          ) (
            f39_3 m fuel a b x1_f0_0_3 x1_f0_1_3 x7_3 (w64 (x8_3 + 1)) xh2_0_3 xh2_1_3
          )
      ) none
    ) (
      some (.x0 xh2_0_3 xh2_1_3)
    )

theorem f39_3_ok (m : Nat) : ∀ (fuel : Nat) (z0 : Nat) (y0 : Nat) (a : List (Int × Int)) (z1 : Nat) (y1 : Nat) (b : List Int) (x1_f0_0_3 : Int) (x1_f0_1_3 : Int) (x7_3 : Int) (x8_3 : Int) (xh2_0_3 : Int) (xh2_1_3 : Int) (o : Of39_3), f39_3 m fuel a b x1_f0_0_3 x1_f0_1_3 x7_3 x8_3 xh2_0_3 xh2_1_3 = some o → ∀ Q : QP, (match o with | .r x4_r3 xh2_0_r3 xh2_1_r3 => Q .ret [(4, ii x4_r3)] [(2, .cells [ii xh2_0_r3, ii xh2_1_r3] 0 61 0), (1, rc (encI .i64) b z1 y1 1), (0, rc encP a z0 y0 2)] 3 | .x0 xh2_0_x03 xh2_1_x03 => Q (.exit 0) [] [(2, .cells [ii xh2_0_x03, ii xh2_1_x03] 0 61 0), (1, rc (encI .i64) b z1 y1 1), (0, rc encP a z0 y0 2)] 3) → XL E0 19 3 fuel f39_L3 [(0, s0 1 b.length), (1, .func (.func 62) #[.agg #[ii x1_f0_0_3, ii x1_f0_1_3]] #[]), (7, ii x7_3), (8, ii x8_3)] [(2, .cells [ii xh2_0_3, ii xh2_1_3] 0 61 0), (1, rc (encI .i64) b z1 y1 1), (0, rc encP a z0 y0 2)] 3 Q
  | 0, z0, y0, a, z1, y1, b, x1_f0_0_3, x1_f0_1_3, x7_3, x8_3, xh2_0_3, xh2_1_3, o, h, Q, hQ => by cases h
  | fuel + 1, z0, y0, a, z1, y1, b, x1_f0_0_3, x1_f0_1_3, x7_3, x8_3, xh2_0_3, xh2_1_3, o, h, Q, hQ => by
    unfold f39_3 at h
    refine XL.succ E0_ok ?_
    refine XQ.seq E0_ok (by kernel_rfl) ?_
    refine XQ.region (by kernel_rfl) ?_
    refine XR.runS E0_ok 1 1 [(0, s0 1 b.length), (1, .func (.func 62) #[.agg #[ii x1_f0_0_3, ii x1_f0_1_3]] #[]), (7, ii x7_3), (8, ii x8_3), (9, .bool (decide (x8_3 < x7_3)))] rfl (by kernel_rfl) ?_
    refine XR.done (by kernel_rfl) ?_
    show XQ _ _ _ _ _ _ _ _
    refine XQ.seq E0_ok (by kernel_rfl) ?_
    cases b1 : (decide (x8_3 < x7_3) : Bool) with
    | true =>
      have h := cT b1 h
      refine XQ.cond (s := (.tmp 9)) (b := true) (by kernel_rfl) (by kernel_rfl) (fun _ => ?_) (fun q => by cases q)
      refine XQ.skip (by kernel_rfl) ?_
      show XQ _ _ _ _ _ _ _ _
      refine XQ.seq E0_ok (by kernel_rfl) ?_
      refine XQ.block (id := 1) (by kernel_rfl) ?_
      refine XQ.seq E0_ok (by kernel_rfl) ?_
      refine XQ.region (by kernel_rfl) ?_
      refine XR.runS E0_ok 1 2 [(0, s0 1 b.length), (1, .func (.func 62) #[.agg #[ii x1_f0_0_3, ii x1_f0_1_3]] #[]), (5, ii x8_3), (7, ii x7_3), (8, ii x8_3)] rfl (by kernel_rfl) ?_
      refine XR.done (by kernel_rfl) ?_
      show XQ _ _ _ _ _ _ _ _
      refine XQ.seq E0_ok (by kernel_rfl) ?_
      refine XQ.region (by kernel_rfl) ?_
      refine XR.runS E0_ok 1 3 [(0, s0 1 b.length), (1, .func (.func 62) #[.agg #[ii x1_f0_0_3, ii x1_f0_1_3]] #[]), (5, ii x8_3), (7, ii x7_3), (8, ii x8_3), (11, .func (.func 62) #[.agg #[ii x1_f0_0_3, ii x1_f0_1_3]] #[]), (12, s0 1 b.length), (13, ii x8_3)] rfl (by kernel_rfl) ?_
      cases b2 : (inRow x8_3 b.length : Bool) with
      | false => cases (cF b2 h)
      | true =>
        have h := cT b2 h
        refine XR.rd E0_ok [0, 1, 5, 7, 8, 11, 14] rfl (v := pp 1 ((Int.toNat x8_3) * 1)) (v_idx (s := 1) (x := (src 19 (.tmp 12))) (y := (src 19 (.tmp 13))) (b := 1) (o := 0) (len := b.length) (cap := b.length) (ik := .i64) (i := x8_3) (off := (Int.toNat x8_3) * 1) (d := (some (path 12 14))) (by kernel_rfl) (by kernel_rfl) (by kernel_rfl) b2 (by omega)) (σ' := [(0, s0 1 b.length), (1, .func (.func 62) #[.agg #[ii x1_f0_0_3, ii x1_f0_1_3]] #[]), (5, ii x8_3), (7, ii x7_3), (8, ii x8_3), (11, .func (.func 62) #[.agg #[ii x1_f0_0_3, ii x1_f0_1_3]] #[]), (14, pp 1 ((Int.toNat x8_3) * 1))]) (by kernel_rfl) ?_
        refine XR.rd E0_ok [0, 1, 5, 7, 8, 11, 15] rfl (v := ii (List.getD b (Int.toNat x8_3) 0)) (v_load1 (encI_ok .i64) (x := (src 19 (.tmp 14))) (b := 1) (off := (Int.toNat x8_3) * 1) (xs := b) (fz := z1) (e := y1) (es := 1) (d := (some (path 12 15))) (by kernel_rfl) (by kernel_rfl) (by kernel_rfl) (Int.toNat x8_3) 0 0 (by first | rfl | omega) (row_len (inRow_toNat b2) (by simp)) rfl rfl) (σ' := [(0, s0 1 b.length), (1, .func (.func 62) #[.agg #[ii x1_f0_0_3, ii x1_f0_1_3]] #[]), (5, ii x8_3), (7, ii x7_3), (8, ii x8_3), (11, .func (.func 62) #[.agg #[ii x1_f0_0_3, ii x1_f0_1_3]] #[]), (15, ii (List.getD b (Int.toNat x8_3) 0))]) (by kernel_rfl) ?_
        refine XR.callK E0_ok [0, 1, 5, 7, 8, 16] rfl (K := 62) (args := [.agg #[ii x1_f0_0_3, ii x1_f0_1_3], ii (List.getD b (Int.toNat x8_3) 0)]) (d := (some (path 12 16))) (by kernel_rfl) ?_
        refine KC.bodyN E0_ok (F := Proofs.Try.f62) (by kernel_rfl) (code := f39_C62) (by kernel_rfl) (nt := 11) (by kernel_rfl) (rs := [.tmp 4]) (by kernel_rfl) (by kernel_rfl) (σ := [(0, .agg #[ii x1_f0_0_3, ii x1_f0_1_3]), (1, ii (List.getD b (Int.toNat x8_3) 0))]) (by kernel_rfl) ?_
        refine XQ.seq E0_ok (by kernel_rfl) ?_
        refine XQ.region (by kernel_rfl) ?_
        refine XR.runT E0_ok 1 2 [(1, ii (List.getD b (Int.toNat x8_3) 0)), (2, pp 3 0)] [(3, .cells [ii x1_f0_0_3, ii x1_f0_1_3] 0 61 0), (2, .cells [ii xh2_0_3, ii xh2_1_3] 0 61 0), (1, rc (encI .i64) b z1 y1 1), (0, rc encP a z0 y0 2)] 4 rfl (by kernel_rfl) ?_
        refine XR.done (by kernel_rfl) ?_
        show XQ _ _ _ _ _ _ _ _
        refine XQ.seq E0_ok (by kernel_rfl) ?_
        refine XQ.region (by kernel_rfl) ?_
        refine XR.runS E0_ok 1 5 [(6, ii x1_f0_0_3), (7, ii (List.getD b (Int.toNat x8_3) 0)), (9, ii x1_f0_1_3)] rfl (by kernel_rfl) ?_
        obtain ⟨r13, r13_h, h⟩ := bS h
        refine XR.call E0_ok [10] rfl (K := 64) (args := [ii x1_f0_0_3, ii (List.getD b (Int.toNat x8_3) 0), ii x1_f0_1_3]) (d := (some (path 12 10))) (by kernel_rfl) (KC.of_calls E0_ok (F := Proofs.Try.f64) (v := .bool r13) (by kernel_rfl) rfl rfl (fun w hI => f64_ok m x1_f0_0_3 (List.getD b (Int.toNat x8_3) 0) x1_f0_1_3 r13 r13_h w hI)) ?_
        rintro _ _ _ ⟨rfl, rfl, rfl⟩
        refine XR.conv (σ' := [(10, .bool r13)]) (h' := [(3, .cells [ii x1_f0_0_3, ii x1_f0_1_3] 0 61 0), (2, .cells [ii xh2_0_3, ii xh2_1_3] 0 61 0), (1, rc (encI .i64) b z1 y1 1), (0, rc encP a z0 y0 2)]) (c' := 4) ?_ (by kernel_rfl)
        refine XR.runS E0_ok 1 1 [(4, .bool r13)] rfl (by kernel_rfl) ?_
        refine XR.done (by kernel_rfl) ?_
        show XQ _ _ _ _ _ _ _ _
        refine XQ.ret (by kernel_rfl) ?_
        refine ⟨fun i q => (by cases q), .bool r13, (by kernel_rfl), ?_⟩
        refine XR.conv (σ' := [(0, s0 1 b.length), (1, .func (.func 62) #[.agg #[ii x1_f0_0_3, ii x1_f0_1_3]] #[]), (5, ii x8_3), (7, ii x7_3), (8, ii x8_3), (16, .bool r13)]) (h' := [(3, .cells [ii x1_f0_0_3, ii x1_f0_1_3] 0 61 0), (2, .cells [ii xh2_0_3, ii xh2_1_3] 0 61 0), (1, rc (encI .i64) b z1 y1 1), (0, rc encP a z0 y0 2)]) (c' := 4) ?_ (by kernel_rfl)
        refine XR.done (by kernel_rfl) ?_
        show XQ _ _ _ _ _ _ _ _
        cases b3 : (r13 : Bool) with
        | true =>
          have h := cT b3 h
          refine XQ.cond (s := (.tmp 16)) (b := true) (by kernel_rfl) (by kernel_rfl) (fun _ => ?_) (fun q => by cases q)
          refine XQ.seq E0_ok (by kernel_rfl) ?_
          refine XQ.region (by kernel_rfl) ?_
          refine XR.runS E0_ok 1 2 [(4, ii x8_3)] rfl (by kernel_rfl) ?_
          refine XR.done (by kernel_rfl) ?_
          show XQ _ _ _ _ _ _ _ _
          refine XQ.ren (σ' := [(4, ii x8_3)]) (h' := [(2, .cells [ii xh2_0_3, ii xh2_1_3] 0 61 0), (1, rc (encI .i64) b z1 y1 1), (0, rc encP a z0 y0 2)]) (c' := 3) [0, 1, 2] (by decide) rfl ⟨by kernel_rfl, trivial⟩ ⟨⟨_, _, rfl, rfl, .inr ⟨_, _, _, _, rfl, rfl⟩⟩, ⟨_, _, rfl, rfl, .inl ⟨rfl, rowC_scal (encI_ok .i64) _⟩⟩, ⟨_, _, rfl, rfl, .inl ⟨rfl, rowC_scal encP_ok _⟩⟩, trivial⟩ rfl ?_
          refine XQ.ret (by kernel_rfl) ?_
          cases h
          exact hQ
        | false =>
          have h := cF b3 h
          refine XQ.cond (s := (.tmp 16)) (b := false) (by kernel_rfl) (by kernel_rfl) (fun q => by cases q) (fun _ => ?_)
          refine XQ.skip (by kernel_rfl) ?_
          show XQ _ _ _ _ _ _ _ _
          refine XQ.region (by kernel_rfl) ?_
          refine XR.runS E0_ok 1 2 [(0, s0 1 b.length), (1, .func (.func 62) #[.agg #[ii x1_f0_0_3, ii x1_f0_1_3]] #[]), (7, ii x7_3), (8, ii (w64 (x8_3 + 1)))] rfl (by kernel_rfl) ?_
          refine XR.done (by kernel_rfl) ?_
          show XL _ _ _ _ _ _ _ _ _
          refine XL.ren (σ' := [(0, s0 1 b.length), (1, .func (.func 62) #[.agg #[ii x1_f0_0_3, ii x1_f0_1_3]] #[]), (7, ii x7_3), (8, ii (w64 (x8_3 + 1)))]) (h' := [(2, .cells [ii xh2_0_3, ii xh2_1_3] 0 61 0), (1, rc (encI .i64) b z1 y1 1), (0, rc encP a z0 y0 2)]) (c' := 3) [0, 1, 2] (by decide) rfl ⟨by kernel_rfl, by kernel_rfl, by kernel_rfl, by kernel_rfl, trivial⟩ ⟨⟨_, _, rfl, rfl, .inr ⟨_, _, _, _, rfl, rfl⟩⟩, ⟨_, _, rfl, rfl, .inl ⟨rfl, rowC_scal (encI_ok .i64) _⟩⟩, ⟨_, _, rfl, rfl, .inl ⟨rfl, rowC_scal encP_ok _⟩⟩, trivial⟩ rfl ?_
          refine XL.conv (f39_3_ok m fuel z0 y0 a z1 y1 b x1_f0_0_3 x1_f0_1_3 x7_3 (w64 (x8_3 + 1)) xh2_0_3 xh2_1_3 o h Q hQ) (by first | rfl | simp)
    | false =>
      have h := cF b1 h
      refine XQ.cond (s := (.tmp 9)) (b := false) (by kernel_rfl) (by kernel_rfl) (fun q => by cases q) (fun _ => ?_)
      refine XQ.ren (σ' := []) (h' := [(2, .cells [ii xh2_0_3, ii xh2_1_3] 0 61 0), (1, rc (encI .i64) b z1 y1 1), (0, rc encP a z0 y0 2)]) (c' := 3) [0, 1, 2] (by decide) rfl trivial ⟨⟨_, _, rfl, rfl, .inr ⟨_, _, _, _, rfl, rfl⟩⟩, ⟨_, _, rfl, rfl, .inl ⟨rfl, rowC_scal (encI_ok .i64) _⟩⟩, ⟨_, _, rfl, rfl, .inl ⟨rfl, rowC_scal encP_ok _⟩⟩, trivial⟩ rfl ?_
      refine XQ.exit (i := 0) (by kernel_rfl) ?_
      cases h
      exact hQ

inductive Of39_2 where
  | r
  | x3

def f39_2 (m : Nat) : Nat → List (Int × Int) → List Int → Int → Int → Option Of39_2
  | 0, _, _, _, _ => none
  | fuel + 1, a, b, x33_2, x34_2 =>
    cond (decide (x34_2 < x33_2)) (
      cond (inRow x34_2 a.length) (
        (f39_3 m m a b ((List.getD a (Int.toNat x34_2) (0, 0)).1) ((List.getD a (Int.toNat x34_2) (0, 0)).2) ((b.length : Nat) : Int) 0 ((List.getD a (Int.toNat x34_2) (0, 0)).1) ((List.getD a (Int.toNat x34_2) (0, 0)).2)).bind fun o3 =>
          match o3 with
          | .r x4_r3 xh2_0_r3 xh2_1_r3 =>
            cond (!(decide (x4_r3 ≥ 0))) (
              some (.r)
            ) (
              f39_2 m fuel a b x33_2 (w64 (x34_2 + 1))
            )
          | .x0 xh2_0_x03 xh2_1_x03 =>
            some (.r)
      ) none
    ) (
      some (.x3)
    )

theorem f39_2_ok (m : Nat) : ∀ (fuel : Nat) (z0 : Nat) (y0 : Nat) (a : List (Int × Int)) (z1 : Nat) (y1 : Nat) (b : List Int) (x33_2 : Int) (x34_2 : Int) (o : Of39_2), f39_2 m fuel a b x33_2 x34_2 = some o → ∀ Q : QP, (match o with | .r => Q .ret [(4, ii 14)] [(1, rc (encI .i64) b z1 y1 1), (0, rc encP a z0 y0 2)] 2 | .x3 => Q (.exit 3) [] [(1, rc (encI .i64) b z1 y1 1), (0, rc encP a z0 y0 2)] 2) → XL E0 44 2 fuel f39_L2 [(1, s0 1 b.length), (32, s0 0 a.length), (33, ii x33_2), (34, ii x34_2)] [(1, rc (encI .i64) b z1 y1 1), (0, rc encP a z0 y0 2)] 2 Q
  | 0, z0, y0, a, z1, y1, b, x33_2, x34_2, o, h, Q, hQ => by cases h
  | fuel + 1, z0, y0, a, z1, y1, b, x33_2, x34_2, o, h, Q, hQ => by
    unfold f39_2 at h
    refine XL.succ E0_ok ?_
    refine XQ.seq E0_ok (by kernel_rfl) ?_
    refine XQ.region (by kernel_rfl) ?_
    refine XR.runS E0_ok 1 1 [(1, s0 1 b.length), (32, s0 0 a.length), (33, ii x33_2), (34, ii x34_2), (35, .bool (decide (x34_2 < x33_2)))] rfl (by kernel_rfl) ?_
    refine XR.done (by kernel_rfl) ?_
    show XQ _ _ _ _ _ _ _ _
    refine XQ.seq E0_ok (by kernel_rfl) ?_
    cases b1 : (decide (x34_2 < x33_2) : Bool) with
    | true =>
      have h := cT b1 h
      refine XQ.cond (s := (.tmp 35)) (b := true) (by kernel_rfl) (by kernel_rfl) (fun _ => ?_) (fun q => by cases q)
      refine XQ.skip (by kernel_rfl) ?_
      show XQ _ _ _ _ _ _ _ _
      refine XQ.seq E0_ok (by kernel_rfl) ?_
      refine XQ.block (id := 4) (by kernel_rfl) ?_
      refine XQ.seq E0_ok (by kernel_rfl) ?_
      refine XQ.region (by kernel_rfl) ?_
      cases b2 : (inRow x34_2 a.length : Bool) with
      | false => cases (cF b2 h)
      | true =>
        have h := cT b2 h
        refine XR.rd E0_ok [1, 32, 33, 34, 36] rfl (v := pp 0 ((Int.toNat x34_2) * 2)) (v_idx (s := 2) (x := (src 44 (.tmp 32))) (y := (src 44 (.tmp 34))) (b := 0) (o := 0) (len := a.length) (cap := a.length) (ik := .i64) (i := x34_2) (off := (Int.toNat x34_2) * 2) (d := (some (path 12 36))) (by kernel_rfl) (by kernel_rfl) (by kernel_rfl) b2 (by omega)) (σ' := [(1, s0 1 b.length), (32, s0 0 a.length), (33, ii x33_2), (34, ii x34_2), (36, pp 0 ((Int.toNat x34_2) * 2))]) (by kernel_rfl) ?_
        refine XR.rd E0_ok [1, 32, 33, 34, 37] rfl (v := .agg #[ii ((List.getD a (Int.toNat x34_2) (0, 0)).1), ii ((List.getD a (Int.toNat x34_2) (0, 0)).2)]) (v_loadN encP_ok (x := (src 44 (.tmp 36))) (b := 0) (off := (Int.toNat x34_2) * 2) (xs := a) (fz := z0) (e := y0) (es := 2) (d := (some (path 12 37))) (by kernel_rfl) (by kernel_rfl) (by kernel_rfl) (Int.toNat x34_2) (0, 0) (by first | rfl | omega) (row_len (inRow_toNat b2) (by simp)) rfl) (σ' := [(1, s0 1 b.length), (32, s0 0 a.length), (33, ii x33_2), (34, ii x34_2), (37, .agg #[ii ((List.getD a (Int.toNat x34_2) (0, 0)).1), ii ((List.getD a (Int.toNat x34_2) (0, 0)).2)])]) (by kernel_rfl) ?_
        refine XR.runT E0_ok 1 2 [(1, s0 1 b.length), (10, pp 2 0), (32, s0 0 a.length), (33, ii x33_2), (34, ii x34_2)] [(2, .cells [ii ((List.getD a (Int.toNat x34_2) (0, 0)).1), ii ((List.getD a (Int.toNat x34_2) (0, 0)).2)] 0 61 0), (1, rc (encI .i64) b z1 y1 1), (0, rc encP a z0 y0 2)] 3 rfl (by kernel_rfl) ?_
        refine XR.done (by kernel_rfl) ?_
        show XQ _ _ _ _ _ _ _ _
        refine XQ.seq E0_ok (by kernel_rfl) ?_
        refine XQ.region (by kernel_rfl) ?_
        refine XR.runS E0_ok 1 3 [(1, s0 1 b.length), (32, s0 0 a.length), (33, ii x33_2), (34, ii x34_2), (38, s0 1 b.length), (40, .func (.func 62) #[.agg #[ii ((List.getD a (Int.toNat x34_2) (0, 0)).1), ii ((List.getD a (Int.toNat x34_2) (0, 0)).2)]] #[])] rfl (by kernel_rfl) ?_
        refine XR.callK E0_ok [1, 32, 33, 34, 41] rfl (K := 55) (args := [s0 1 b.length, .func (.func 62) #[.agg #[ii ((List.getD a (Int.toNat x34_2) (0, 0)).1), ii ((List.getD a (Int.toNat x34_2) (0, 0)).2)]] #[]]) (d := (some (path 12 41))) (by kernel_rfl) ?_
        refine KC.bodyN E0_ok (F := Proofs.Try.f55) (by kernel_rfl) (code := f39_C55) (by kernel_rfl) (nt := 9) (by kernel_rfl) (rs := [.tmp 4]) (by kernel_rfl) (by kernel_rfl) (σ := [(0, s0 1 b.length), (1, .func (.func 62) #[.agg #[ii ((List.getD a (Int.toNat x34_2) (0, 0)).1), ii ((List.getD a (Int.toNat x34_2) (0, 0)).2)]] #[])]) (by kernel_rfl) ?_
        refine XQ.seq E0_ok (by kernel_rfl) ?_
        refine XQ.region (by kernel_rfl) ?_
        refine XR.runS E0_ok 1 1 [(0, s0 1 b.length), (1, .func (.func 62) #[.agg #[ii ((List.getD a (Int.toNat x34_2) (0, 0)).1), ii ((List.getD a (Int.toNat x34_2) (0, 0)).2)]] #[])] rfl (by kernel_rfl) ?_
        refine XR.done (by kernel_rfl) ?_
        show XQ _ _ _ _ _ _ _ _
        refine XQ.seq E0_ok (by kernel_rfl) ?_
        refine XQ.region (by kernel_rfl) ?_
        refine XR.runS E0_ok 1 2 [(5, s0 1 b.length), (6, .func (.func 62) #[.agg #[ii ((List.getD a (Int.toNat x34_2) (0, 0)).1), ii ((List.getD a (Int.toNat x34_2) (0, 0)).2)]] #[])] rfl (by kernel_rfl) ?_
        refine XR.callK E0_ok [7] rfl (K := 87) (args := [s0 1 b.length, .func (.func 62) #[.agg #[ii ((List.getD a (Int.toNat x34_2) (0, 0)).1), ii ((List.getD a (Int.toNat x34_2) (0, 0)).2)]] #[]]) (d := (some (path 12 7))) (by kernel_rfl) ?_
        refine KC.bodyN E0_ok (F := Proofs.Try.f87) (by kernel_rfl) (code := f39_C87) (by kernel_rfl) (nt := 19) (by kernel_rfl) (rs := [.tmp 4]) (by kernel_rfl) (by kernel_rfl) (σ := [(0, s0 1 b.length), (1, .func (.func 62) #[.agg #[ii ((List.getD a (Int.toNat x34_2) (0, 0)).1), ii ((List.getD a (Int.toNat x34_2) (0, 0)).2)]] #[])]) (by kernel_rfl) ?_
        refine XQ.seq E0_ok (by kernel_rfl) ?_
        refine XQ.region (by kernel_rfl) ?_
        refine XR.runS E0_ok 1 1 [(0, s0 1 b.length), (1, .func (.func 62) #[.agg #[ii ((List.getD a (Int.toNat x34_2) (0, 0)).1), ii ((List.getD a (Int.toNat x34_2) (0, 0)).2)]] #[])] rfl (by kernel_rfl) ?_
        refine XR.done (by kernel_rfl) ?_
        show XQ _ _ _ _ _ _ _ _
        refine XQ.seq E0_ok (by kernel_rfl) ?_
        refine XQ.seq E0_ok (by kernel_rfl) ?_
        refine XQ.region (by kernel_rfl) ?_
        refine XR.runS E0_ok 1 3 [(0, s0 1 b.length), (1, .func (.func 62) #[.agg #[ii ((List.getD a (Int.toNat x34_2) (0, 0)).1), ii ((List.getD a (Int.toNat x34_2) (0, 0)).2)]] #[]), (7, ii ((b.length : Nat) : Int)), (8, ii 0)] rfl (by kernel_rfl) ?_
        refine XR.done (by kernel_rfl) ?_
        show XQ _ _ _ _ _ _ _ _
        refine XQ.block (id := 0) (by kernel_rfl) ?_
        refine XQ.loop m (by kernel_rfl) ?_
        obtain ⟨o3, o3_h, h⟩ := bS h
        refine XL.ren (σ' := [(0, s0 1 b.length), (1, .func (.func 62) #[.agg #[ii ((List.getD a (Int.toNat x34_2) (0, 0)).1), ii ((List.getD a (Int.toNat x34_2) (0, 0)).2)]] #[]), (7, ii ((b.length : Nat) : Int)), (8, ii 0)]) (h' := [(2, .cells [ii ((List.getD a (Int.toNat x34_2) (0, 0)).1), ii ((List.getD a (Int.toNat x34_2) (0, 0)).2)] 0 61 0), (1, rc (encI .i64) b z1 y1 1), (0, rc encP a z0 y0 2)]) (c' := 3) [0, 1, 2] (by decide) rfl ⟨by kernel_rfl, by kernel_rfl, by kernel_rfl, by kernel_rfl, trivial⟩ ⟨⟨_, _, rfl, rfl, .inr ⟨_, _, _, _, rfl, rfl⟩⟩, ⟨_, _, rfl, rfl, .inl ⟨rfl, rowC_scal (encI_ok .i64) _⟩⟩, ⟨_, _, rfl, rfl, .inl ⟨rfl, rowC_scal encP_ok _⟩⟩, trivial⟩ rfl ?_
        cases o3 with
        | r x4_r3 xh2_0_r3 xh2_1_r3 =>
          dsimp only at h
          refine XL.conv (f39_3_ok m m z0 y0 a z1 y1 b ((List.getD a (Int.toNat x34_2) (0, 0)).1) ((List.getD a (Int.toNat x34_2) (0, 0)).2) ((b.length : Nat) : Int) 0 ((List.getD a (Int.toNat x34_2) (0, 0)).1) ((List.getD a (Int.toNat x34_2) (0, 0)).2) (.r x4_r3 xh2_0_r3 xh2_1_r3) o3_h _ ?_) (by first | rfl | simp)
          refine ⟨fun i q => (by cases q), ii x4_r3, (by kernel_rfl), ?_⟩
          refine XR.conv (σ' := [(7, ii x4_r3)]) (h' := [(2, .cells [ii xh2_0_r3, ii xh2_1_r3] 0 61 0), (1, rc (encI .i64) b z1 y1 1), (0, rc encP a z0 y0 2)]) (c' := 3) ?_ (by kernel_rfl)
          refine XR.runS E0_ok 1 2 [(4, .bool (decide (x4_r3 ≥ 0)))] rfl (by kernel_rfl) ?_
          refine XR.done (by kernel_rfl) ?_
          show XQ _ _ _ _ _ _ _ _
          refine XQ.ret (by kernel_rfl) ?_
          refine ⟨fun i q => (by cases q), .bool (decide (x4_r3 ≥ 0)), (by kernel_rfl), ?_⟩
          refine XR.conv (σ' := [(1, s0 1 b.length), (32, s0 0 a.length), (33, ii x33_2), (34, ii x34_2), (41, .bool (decide (x4_r3 ≥ 0)))]) (h' := [(2, .cells [ii xh2_0_r3, ii xh2_1_r3] 0 61 0), (1, rc (encI .i64) b z1 y1 1), (0, rc encP a z0 y0 2)]) (c' := 3) ?_ (by kernel_rfl)
          refine XR.runS E0_ok 1 1 [(1, s0 1 b.length), (32, s0 0 a.length), (33, ii x33_2), (34, ii x34_2), (42, .bool (!(decide (x4_r3 ≥ 0))))] rfl (by kernel_rfl) ?_
          refine XR.done (by kernel_rfl) ?_
          show XQ _ _ _ _ _ _ _ _
          cases b4 : (!(decide (x4_r3 ≥ 0)) : Bool) with
          | true =>
            have h := cT b4 h
            refine XQ.cond (s := (.tmp 42)) (b := true) (by kernel_rfl) (by kernel_rfl) (fun _ => ?_) (fun q => by cases q)
            refine XQ.seq E0_ok (by kernel_rfl) ?_
            refine XQ.region (by kernel_rfl) ?_
            refine XR.runS E0_ok 1 1 [(4, ii 14)] rfl (by kernel_rfl) ?_
            refine XR.done (by kernel_rfl) ?_
            show XQ _ _ _ _ _ _ _ _
            refine XQ.ren (σ' := [(4, ii 14)]) (h' := [(1, rc (encI .i64) b z1 y1 1), (0, rc encP a z0 y0 2)]) (c' := 2) [0, 1] (by decide) rfl ⟨by kernel_rfl, trivial⟩ ⟨⟨_, _, rfl, rfl, .inl ⟨rfl, rowC_scal (encI_ok .i64) _⟩⟩, ⟨_, _, rfl, rfl, .inl ⟨rfl, rowC_scal encP_ok _⟩⟩, trivial⟩ rfl ?_
            refine XQ.ret (by kernel_rfl) ?_
            cases h
            exact hQ
          | false =>
            have h := cF b4 h
            refine XQ.cond (s := (.tmp 42)) (b := false) (by kernel_rfl) (by kernel_rfl) (fun q => by cases q) (fun _ => ?_)
            refine XQ.skip (by kernel_rfl) ?_
            show XQ _ _ _ _ _ _ _ _
            refine XQ.region (by kernel_rfl) ?_
            refine XR.runS E0_ok 1 2 [(1, s0 1 b.length), (32, s0 0 a.length), (33, ii x33_2), (34, ii (w64 (x34_2 + 1)))] rfl (by kernel_rfl) ?_
            refine XR.done (by kernel_rfl) ?_
            show XL _ _ _ _ _ _ _ _ _
            refine XL.ren (σ' := [(1, s0 1 b.length), (32, s0 0 a.length), (33, ii x33_2), (34, ii (w64 (x34_2 + 1)))]) (h' := [(1, rc (encI .i64) b z1 y1 1), (0, rc encP a z0 y0 2)]) (c' := 2) [0, 1] (by decide) rfl ⟨by kernel_rfl, by kernel_rfl, by kernel_rfl, by kernel_rfl, trivial⟩ ⟨⟨_, _, rfl, rfl, .inl ⟨rfl, rowC_scal (encI_ok .i64) _⟩⟩, ⟨_, _, rfl, rfl, .inl ⟨rfl, rowC_scal encP_ok _⟩⟩, trivial⟩ rfl ?_
            refine XL.conv (f39_2_ok m fuel z0 y0 a z1 y1 b x33_2 (w64 (x34_2 + 1)) o h Q hQ) (by first | rfl | simp)
        | x0 xh2_0_x03 xh2_1_x03 =>
          dsimp only at h
          refine XL.conv (f39_3_ok m m z0 y0 a z1 y1 b ((List.getD a (Int.toNat x34_2) (0, 0)).1) ((List.getD a (Int.toNat x34_2) (0, 0)).2) ((b.length : Nat) : Int) 0 ((List.getD a (Int.toNat x34_2) (0, 0)).1) ((List.getD a (Int.toNat x34_2) (0, 0)).2) (.x0 xh2_0_x03 xh2_1_x03) o3_h _ ?_) (by first | rfl | simp)
          show XQ _ _ _ _ _ _ _ _
          refine XQ.seq E0_ok (by kernel_rfl) ?_
          refine XQ.region (by kernel_rfl) ?_
          refine XR.runS E0_ok 1 1 [(4, ii (-1))] rfl (by kernel_rfl) ?_
          refine XR.done (by kernel_rfl) ?_
          show XQ _ _ _ _ _ _ _ _
          refine XQ.ret (by kernel_rfl) ?_
          refine ⟨fun i q => (by cases q), ii (-1), (by kernel_rfl), ?_⟩
          refine XR.conv (σ' := [(7, ii (-1))]) (h' := [(2, .cells [ii xh2_0_x03, ii xh2_1_x03] 0 61 0), (1, rc (encI .i64) b z1 y1 1), (0, rc encP a z0 y0 2)]) (c' := 3) ?_ (by kernel_rfl)
          refine XR.runS E0_ok 1 2 [(4, .bool false)] rfl (by kernel_rfl) ?_
          refine XR.done (by kernel_rfl) ?_
          show XQ _ _ _ _ _ _ _ _
          refine XQ.ret (by kernel_rfl) ?_
          refine ⟨fun i q => (by cases q), .bool false, (by kernel_rfl), ?_⟩
          refine XR.conv (σ' := [(1, s0 1 b.length), (32, s0 0 a.length), (33, ii x33_2), (34, ii x34_2), (41, .bool false)]) (h' := [(2, .cells [ii xh2_0_x03, ii xh2_1_x03] 0 61 0), (1, rc (encI .i64) b z1 y1 1), (0, rc encP a z0 y0 2)]) (c' := 3) ?_ (by kernel_rfl)
          refine XR.runS E0_ok 1 1 [(1, s0 1 b.length), (32, s0 0 a.length), (33, ii x33_2), (34, ii x34_2), (42, .bool true)] rfl (by kernel_rfl) ?_
          refine XR.done (by kernel_rfl) ?_
          show XQ _ _ _ _ _ _ _ _
          refine XQ.cond (s := (.tmp 42)) (b := true) (by kernel_rfl) (by kernel_rfl) (fun _ => ?_) (fun q => by cases q)
          refine XQ.seq E0_ok (by kernel_rfl) ?_
          refine XQ.region (by kernel_rfl) ?_
          refine XR.runS E0_ok 1 1 [(4, ii 14)] rfl (by kernel_rfl) ?_
          refine XR.done (by kernel_rfl) ?_
          show XQ _ _ _ _ _ _ _ _
          refine XQ.ren (σ' := [(4, ii 14)]) (h' := [(1, rc (encI .i64) b z1 y1 1), (0, rc encP a z0 y0 2)]) (c' := 2) [0, 1] (by decide) rfl ⟨by kernel_rfl, trivial⟩ ⟨⟨_, _, rfl, rfl, .inl ⟨rfl, rowC_scal (encI_ok .i64) _⟩⟩, ⟨_, _, rfl, rfl, .inl ⟨rfl, rowC_scal encP_ok _⟩⟩, trivial⟩ rfl ?_
          refine XQ.ret (by kernel_rfl) ?_
          cases h
          exact hQ
    | false =>
      have h := cF b1 h
      refine XQ.cond (s := (.tmp 35)) (b := false) (by kernel_rfl) (by kernel_rfl) (fun q => by cases q) (fun _ => ?_)
      refine XQ.ren (σ' := []) (h' := [(1, rc (encI .i64) b z1 y1 1), (0, rc encP a z0 y0 2)]) (c' := 2) [0, 1] (by decide) rfl trivial ⟨⟨_, _, rfl, rfl, .inl ⟨rfl, rowC_scal (encI_ok .i64) _⟩⟩, ⟨_, _, rfl, rfl, .inl ⟨rfl, rowC_scal encP_ok _⟩⟩, trivial⟩ rfl ?_
      refine XQ.exit (i := 3) (by kernel_rfl) ?_
      cases h
      exact hQ

def f39 (m : Nat) (a : List (Int × Int)) (b : List Int) : Option (Int) :=
  (f23 m a).bind fun r1 =>
    cond (r1 != 0) (
      some (r1)
    ) (
      (f39_1 m m a b (-1) ((b.length : Nat) : Int) 0).bind fun o1 =>
        match o1 with
        | .r x4_r1 =>
          some (x4_r1)
        | .x0 =>
          (f39_2 m m a b ((a.length : Nat) : Int) 0).bind fun o2 =>
            match o2 with
            | .r =>
              some (14)
            | .x3 =>
              some (0)
    )

theorem f39_ok (m : Nat) (z0 : Nat) (y0 : Nat) (z1 : Nat) (y1 : Nat) (a : List (Int × Int)) (b : List Int) (o : Int) (h : f39 m a b = some o) : KC E0 39 [s0 0 a.length, s0 1 b.length] [(1, rc (encI .i64) b z1 y1 1), (0, rc encP a z0 y0 2)] 2 (fun v _ _ => v = ii o) := by
  refine KC.bodyN E0_ok (F := Proofs.Try.f39) (by kernel_rfl) (code := f39_C39) (by kernel_rfl) (nt := 44) (by kernel_rfl) (rs := [.tmp 4]) (by kernel_rfl) (by kernel_rfl) (σ := [(0, s0 0 a.length), (1, s0 1 b.length)]) (by kernel_rfl) ?_
  unfold f39 at h
  refine XQ.seq E0_ok (by kernel_rfl) ?_
  refine XQ.region (by kernel_rfl) ?_
  refine XR.runS E0_ok 1 1 [(0, s0 0 a.length), (1, s0 1 b.length)] rfl (by kernel_rfl) ?_
  refine XR.done (by kernel_rfl) ?_
  show XQ _ _ _ _ _ _ _ _
  refine XQ.seq E0_ok (by kernel_rfl) ?_
  refine XQ.seq E0_ok (by kernel_rfl) ?_
  refine XQ.region (by kernel_rfl) ?_
  refine XR.runS E0_ok 1 1 [(0, s0 0 a.length), (1, s0 1 b.length), (11, s0 0 a.length)] rfl (by kernel_rfl) ?_
  obtain ⟨r1, r1_h, h⟩ := bS h
  refine XR.call E0_ok [0, 1, 12] rfl (K := 23) (args := [s0 0 a.length]) (d := (some (path 12 12))) (by kernel_rfl) (KQ.call (KC.quiet E0_ok (args0 := [s0 0 a.length]) (h0 := [(0, rc encP a (z0 + ((rowC encP a).length + 1)) y0 2)]) (n := 1) (V := ii r1) [0] (f23_ok m (z0 + ((rowC encP a).length + 1)) y0 a r1 r1_h) rfl (by rfl) (by decide) rfl (by kernel_rfl) ⟨⟨_, _, rfl, rfl, .inl ⟨rfl, rowC_scal encP_ok _⟩⟩, trivial⟩) rfl) ?_
  rintro _ _ _ ⟨rfl, rfl, rfl⟩
  refine XR.conv (σ' := [(0, s0 0 a.length), (1, s0 1 b.length), (12, ii r1)]) (h' := [(1, rc (encI .i64) b z1 y1 1), (0, rc encP a z0 y0 2)]) (c' := 2) ?_ (by kernel_rfl)
  refine XR.runS E0_ok 1 1 [(0, s0 0 a.length), (1, s0 1 b.length), (5, ii r1)] rfl (by kernel_rfl) ?_
  refine XR.done (by kernel_rfl) ?_
  show XQ _ _ _ _ _ _ _ _
  refine XQ.seq E0_ok (by kernel_rfl) ?_
  refine XQ.region (by kernel_rfl) ?_
  refine XR.runS E0_ok 1 2 [(0, s0 0 a.length), (1, s0 1 b.length), (5, ii r1), (14, .bool (r1 != 0))] rfl (by kernel_rfl) ?_
  refine XR.done (by kernel_rfl) ?_
  show XQ _ _ _ _ _ _ _ _
  cases b1 : (r1 != 0 : Bool) with
  | true =>
    have h := cT b1 h
    refine XQ.cond (s := (.tmp 14)) (b := true) (by kernel_rfl) (by kernel_rfl) (fun _ => ?_) (fun q => by cases q)
    refine XQ.seq E0_ok (by kernel_rfl) ?_
    refine XQ.region (by kernel_rfl) ?_
    refine XR.runS E0_ok 1 2 [(4, ii r1)] rfl (by kernel_rfl) ?_
    refine XR.done (by kernel_rfl) ?_
    show XQ _ _ _ _ _ _ _ _
    refine XQ.ret (by kernel_rfl) ?_
    have h := Option.some.inj h
    subst h
    exact ⟨fun i q => (by cases q), ii r1, (by kernel_rfl), rfl⟩
  | false =>
    have h := cF b1 h
    refine XQ.cond (s := (.tmp 14)) (b := false) (by kernel_rfl) (by kernel_rfl) (fun q => by cases q) (fun _ => ?_)
    refine XQ.skip (by kernel_rfl) ?_
    show XQ _ _ _ _ _ _ _ _
    refine XQ.seq E0_ok (by kernel_rfl) ?_
    refine XQ.region (by kernel_rfl) ?_
    refine XR.runS E0_ok 1 1 [(0, s0 0 a.length), (1, s0 1 b.length), (6, ii (-1))] rfl (by kernel_rfl) ?_
    refine XR.done (by kernel_rfl) ?_
    show XQ _ _ _ _ _ _ _ _
    refine XQ.seq E0_ok (by kernel_rfl) ?_
    refine XQ.seq E0_ok (by kernel_rfl) ?_
    refine XQ.region (by kernel_rfl) ?_
    refine XR.runS E0_ok 1 3 [(0, s0 0 a.length), (1, s0 1 b.length), (6, ii (-1)), (16, s0 1 b.length), (17, ii ((b.length : Nat) : Int)), (18, ii 0)] rfl (by kernel_rfl) ?_
    refine XR.done (by kernel_rfl) ?_
    show XQ _ _ _ _ _ _ _ _
    refine XQ.block (id := 0) (by kernel_rfl) ?_
    refine XQ.loop m (by kernel_rfl) ?_
    obtain ⟨o1, o1_h, h⟩ := bS h
    refine XL.ren (σ' := [(0, s0 0 a.length), (1, s0 1 b.length), (6, ii (-1)), (16, s0 1 b.length), (17, ii ((b.length : Nat) : Int)), (18, ii 0)]) (h' := [(1, rc (encI .i64) b z1 y1 1), (0, rc encP a z0 y0 2)]) (c' := 2) [0, 1] (by decide) rfl ⟨by kernel_rfl, by kernel_rfl, by kernel_rfl, by kernel_rfl, by kernel_rfl, by kernel_rfl, trivial⟩ ⟨⟨_, _, rfl, rfl, .inl ⟨rfl, rowC_scal (encI_ok .i64) _⟩⟩, ⟨_, _, rfl, rfl, .inl ⟨rfl, rowC_scal encP_ok _⟩⟩, trivial⟩ rfl ?_
    cases o1 with
    | r x4_r1 =>
      dsimp only at h
      refine XL.conv (f39_1_ok m m z0 y0 a z1 y1 b (-1) ((b.length : Nat) : Int) 0 (.r x4_r1) o1_h _ ?_) (by first | rfl | simp)
      have h := Option.some.inj h
      subst h
      exact ⟨fun i q => (by cases q), ii x4_r1, (by kernel_rfl), rfl⟩
    | x0 =>
      dsimp only at h
      refine XL.conv (f39_1_ok m m z0 y0 a z1 y1 b (-1) ((b.length : Nat) : Int) 0 (.x0) o1_h _ ?_) (by first | rfl | simp)
      show XQ _ _ _ _ _ _ _ _
      refine XQ.seq E0_ok (by kernel_rfl) ?_
      refine XQ.seq E0_ok (by kernel_rfl) ?_
      refine XQ.region (by kernel_rfl) ?_
      refine XR.runS E0_ok 1 3 [(1, s0 1 b.length), (32, s0 0 a.length), (33, ii ((a.length : Nat) : Int)), (34, ii 0)] rfl (by kernel_rfl) ?_
      refine XR.done (by kernel_rfl) ?_
      show XQ _ _ _ _ _ _ _ _
      refine XQ.block (id := 3) (by kernel_rfl) ?_
      refine XQ.loop m (by kernel_rfl) ?_
      obtain ⟨o2, o2_h, h⟩ := bS h
      refine XL.ren (σ' := [(1, s0 1 b.length), (32, s0 0 a.length), (33, ii ((a.length : Nat) : Int)), (34, ii 0)]) (h' := [(1, rc (encI .i64) b z1 y1 1), (0, rc encP a z0 y0 2)]) (c' := 2) [0, 1] (by decide) rfl ⟨by kernel_rfl, by kernel_rfl, by kernel_rfl, by kernel_rfl, trivial⟩ ⟨⟨_, _, rfl, rfl, .inl ⟨rfl, rowC_scal (encI_ok .i64) _⟩⟩, ⟨_, _, rfl, rfl, .inl ⟨rfl, rowC_scal encP_ok _⟩⟩, trivial⟩ rfl ?_
      cases o2 with
      | r =>
        dsimp only at h
        refine XL.conv (f39_2_ok m m z0 y0 a z1 y1 b ((a.length : Nat) : Int) 0 (.r) o2_h _ ?_) (by first | rfl | simp)
        have h := Option.some.inj h
        subst h
        exact ⟨fun i q => (by cases q), ii 14, (by kernel_rfl), rfl⟩
      | x3 =>
        dsimp only at h
        refine XL.conv (f39_2_ok m m z0 y0 a z1 y1 b ((a.length : Nat) : Int) 0 (.x3) o2_h _ ?_) (by first | rfl | simp)
        show XQ _ _ _ _ _ _ _ _
        refine XQ.seq E0_ok (by kernel_rfl) ?_
        refine XQ.region (by kernel_rfl) ?_
        refine XR.runS E0_ok 1 1 [(4, ii 0)] rfl (by kernel_rfl) ?_
        refine XR.done (by kernel_rfl) ?_
        show XQ _ _ _ _ _ _ _ _
        refine XQ.ret (by kernel_rfl) ?_
        have h := Option.some.inj h
        subst h
        exact ⟨fun i q => (by cases q), ii 0, (by kernel_rfl), rfl⟩

end Go.Xm
