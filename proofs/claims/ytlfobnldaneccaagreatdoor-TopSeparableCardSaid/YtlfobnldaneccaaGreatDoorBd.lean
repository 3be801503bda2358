/- What these functions of the program compute, as functions in Lean, and the proofs that they do: slices.Max[[]int,int], slices.Min[[]int,int], vitolatop.separable, grade.From, grade.Check. Conditions: the library's variables hold what their texts lay. -/
import Derived.Test.YtlfobnldaneccaaGreatDoorBc
namespace Go.Xm
open Go.RowKit
set_option linter.unusedVariables false
set_option linter.unusedSimpArgs false
set_option maxRecDepth 20000

/-! slices.Max[[]int,int] -/
noncomputable def f41_C41 : Code := Proofs.Tryz.f41.body.getD .skip
noncomputable def f41_L1 : Code := lft (lft (rgt (lft (rgt (rgt (rgt f41_C41))))))

def f41_1 (m : Nat) : Nat → Nat → Nat → Nat → List Int → Int → Int → Option Int
  | 0, _, _, _, _, _, _ => none
  | fuel + 1, i0, n0, k0, b, x3_1, x4_1 =>
    cond (decide (x4_1 < ((n0 : Nat) : Int))) (
      cond (inRow x4_1 n0) (
        cond (decide (i0 + (Int.toNat x4_1) < b.length)) (
          f41_1 m fuel i0 n0 k0 b (iMax x3_1 (List.getD b (i0 + (Int.toNat x4_1)) 0)) (w64 (x4_1 + 1))
        ) none
      ) none
    ) (
      some (x3_1)
    )

theorem f41_1_ok (m : Nat) : ∀ (fuel : Nat) (z0 : Nat) (y0 : Nat) (i0 : Nat) (n0 : Nat) (k0 : Nat) (b : List Int) (x3_1 : Int) (x4_1 : Int) (o : Int), f41_1 m fuel i0 n0 k0 b x3_1 x4_1 = some o → ∀ Q : QP, Q (.exit 0) [(3, ii o)] [(0, rc (encI .i64) b z0 y0 1)] 1 → XL E0 25 1 fuel f41_L1 [(0, sl 0 (i0 * 1) n0 k0), (3, ii x3_1), (4, ii x4_1)] [(0, rc (encI .i64) b z0 y0 1)] 1 Q
  | 0, z0, y0, i0, n0, k0, b, x3_1, x4_1, o, h, Q, hQ => by cases h
  | fuel + 1, z0, y0, i0, n0, k0, b, x3_1, x4_1, o, h, Q, hQ => by
    unfold f41_1 at h
    refine XL.succ E0_ok ?_
    refine XQ.seq E0_ok (by kernel_rfl) ?_
    refine XQ.seq E0_ok (by kernel_rfl) ?_
    refine XQ.region (by kernel_rfl) ?_
    refine XR.runS E0_ok 1 4 [(0, sl 0 (i0 * 1) n0 k0), (3, ii x3_1), (4, ii x4_1), (15, .bool (decide (x4_1 < ((n0 : Nat) : Int))))] rfl (by kernel_rfl) ?_
    refine XR.done (by kernel_rfl) ?_
    show XQ _ _ _ _ _ _ _ _
    cases b1 : (decide (x4_1 < ((n0 : Nat) : Int)) : Bool) with
    | true =>
      have h := cT b1 h
      refine XQ.cond (s := (.tmp 15)) (b := true) (by kernel_rfl) (by kernel_rfl) (fun _ => ?_) (fun q => by cases q)
      refine XQ.skip (by kernel_rfl) ?_
      show XQ _ _ _ _ _ _ _ _
      refine XQ.seq E0_ok (by kernel_rfl) ?_
      refine XQ.block (id := 1) (by kernel_rfl) ?_
      refine XQ.region (by kernel_rfl) ?_
      refine XR.runS E0_ok 1 3 [(0, sl 0 (i0 * 1) n0 k0), (4, ii x4_1), (18, ii x3_1), (19, sl 0 (i0 * 1) n0 k0), (20, ii x4_1)] rfl (by kernel_rfl) ?_
      cases b2 : (inRow x4_1 n0 : Bool) with
      | false => cases (cF b2 h)
      | true =>
        have h := cT b2 h
        refine XR.rd E0_ok [0, 4, 18, 21] rfl (v := pp 0 ((i0 + (Int.toNat x4_1)) * 1)) (v_idx (s := 1) (x := (src 25 (.tmp 19))) (y := (src 25 (.tmp 20))) (b := 0) (o := i0 * 1) (len := n0) (cap := k0) (ik := .i64) (i := x4_1) (off := (i0 + (Int.toNat x4_1)) * 1) (d := (some (path 12 21))) (by kernel_rfl) (by kernel_rfl) (by kernel_rfl) b2 (by omega)) (σ' := [(0, sl 0 (i0 * 1) n0 k0), (4, ii x4_1), (18, ii x3_1), (21, pp 0 ((i0 + (Int.toNat x4_1)) * 1))]) (by kernel_rfl) ?_
        cases b3 : (decide (i0 + (Int.toNat x4_1) < b.length) : Bool) with
        | false => cases (cF b3 h)
        | true =>
          have h := cT b3 h
          refine XR.rd E0_ok [0, 4, 18, 22] rfl (v := ii (List.getD b (i0 + (Int.toNat x4_1)) 0)) (v_load1 (encI_ok .i64) (x := (src 25 (.tmp 21))) (b := 0) (off := (i0 + (Int.toNat x4_1)) * 1) (xs := b) (fz := z0) (e := y0) (es := 1) (d := (some (path 12 22))) (by kernel_rfl) (by kernel_rfl) (by kernel_rfl) (i0 + (Int.toNat x4_1)) 0 0 (by first | with_reducible rfl | omega | rfl) (row_len b3 (by simp)) rfl rfl) (σ' := [(0, sl 0 (i0 * 1) n0 k0), (4, ii x4_1), (18, ii x3_1), (22, ii (List.getD b (i0 + (Int.toNat x4_1)) 0))]) (by kernel_rfl) ?_
          refine XR.runS E0_ok 1 2 [(0, sl 0 (i0 * 1) n0 k0), (3, ii (iMax x3_1 (List.getD b (i0 + (Int.toNat x4_1)) 0))), (4, ii x4_1)] rfl (by kernel_rfl) ?_
          refine XR.done (by kernel_rfl) ?_
          show XQ _ _ _ _ _ _ _ _
          refine XQ.region (by kernel_rfl) ?_
          refine XR.runS E0_ok 1 3 [(0, sl 0 (i0 * 1) n0 k0), (3, ii (iMax x3_1 (List.getD b (i0 + (Int.toNat x4_1)) 0))), (4, ii (w64 (x4_1 + 1)))] rfl (by kernel_rfl) ?_
          refine XR.done (by kernel_rfl) ?_
          show XL _ _ _ _ _ _ _ _ _
          refine XL.ren (σ' := [(0, sl 0 (i0 * 1) n0 k0), (3, ii (iMax x3_1 (List.getD b (i0 + (Int.toNat x4_1)) 0))), (4, ii (w64 (x4_1 + 1)))]) (h' := [(0, rc (encI .i64) b z0 y0 1)]) (c' := 1) [0] (by decide) rfl ⟨by kernel_rfl, by kernel_rfl, by kernel_rfl, trivial⟩ ⟨⟨_, _, rfl, rfl, .inl ⟨rfl, rowC_scal (encI_ok .i64) _⟩⟩, trivial⟩ rfl ?_
          refine XL.conv (f41_1_ok m fuel z0 y0 i0 n0 k0 b (iMax x3_1 (List.getD b (i0 + (Int.toNat x4_1)) 0)) (w64 (x4_1 + 1)) o h Q hQ) (by first | with_reducible rfl | simp | rfl)
    | false =>
      have h := cF b1 h
      refine XQ.cond (s := (.tmp 15)) (b := false) (by kernel_rfl) (by kernel_rfl) (fun q => by cases q) (fun _ => ?_)
      refine XQ.ren (σ' := [(3, ii x3_1)]) (h' := [(0, rc (encI .i64) b z0 y0 1)]) (c' := 1) [0] (by decide) rfl ⟨by kernel_rfl, trivial⟩ ⟨⟨_, _, rfl, rfl, .inl ⟨rfl, rowC_scal (encI_ok .i64) _⟩⟩, trivial⟩ rfl ?_
      refine XQ.exit (i := 0) (by kernel_rfl) ?_
      cases h
      exact hQ

def f41 (m : Nat) (i0 : Nat) (n0 : Nat) (k0 : Nat) (b : List Int) : Option (Int) :=
  cond (decide (((n0 : Nat) : Int) < 1)) (
    none
  ) (
    cond (inRow 0 n0) (
      cond (decide (i0 + 0 < b.length)) (
        (f41_1 m m i0 n0 k0 b (List.getD b (i0 + 0) 0) 1).bind fun o1 =>
          some (o1)
      ) none
    ) none
  )

theorem f41_ok (m : Nat) (z0 : Nat) (y0 : Nat) (i0 : Nat) (n0 : Nat) (k0 : Nat) (b : List Int) (o : Int) (h : f41 m i0 n0 k0 b = some o) : KC E0 41 [sl 0 (i0 * 1) n0 k0] [(0, rc (encI .i64) b z0 y0 1)] 1 (fun v _ _ => v = ii o) := by
  refine KC.bodyN E0_ok (F := Proofs.Tryz.f41) (by kernel_rfl) (code := f41_C41) (by kernel_rfl) (nt := 25) (by kernel_rfl) (rs := [.tmp 2]) (by kernel_rfl) (by kernel_rfl) (σ := [(0, sl 0 (i0 * 1) n0 k0)]) (by kernel_rfl) ?_
  unfold f41 at h
  refine XQ.seq E0_ok (by kernel_rfl) ?_
  refine XQ.region (by kernel_rfl) ?_
  refine XR.runS E0_ok 1 1 [(0, sl 0 (i0 * 1) n0 k0)] rfl (by kernel_rfl) ?_
  refine XR.done (by kernel_rfl) ?_
  show XQ _ _ _ _ _ _ _ _
  refine XQ.seq E0_ok (by kernel_rfl) ?_
  refine XQ.seq E0_ok (by kernel_rfl) ?_
  refine XQ.region (by kernel_rfl) ?_
  refine XR.runS E0_ok 1 3 [(0, sl 0 (i0 * 1) n0 k0), (7, .bool (decide (((n0 : Nat) : Int) < 1)))] rfl (by kernel_rfl) ?_
  refine XR.done (by kernel_rfl) ?_
  show XQ _ _ _ _ _ _ _ _
  cases b1 : (decide (((n0 : Nat) : Int) < 1) : Bool) with
  | true =>
    have h := cT b1 h
    refine XQ.cond (s := (.tmp 7)) (b := true) (by kernel_rfl) (by kernel_rfl) (fun _ => ?_) (fun q => by cases q)
    refine XQ.region (by kernel_rfl) ?_
    cases h
  | false =>
    have h := cF b1 h
    refine XQ.cond (s := (.tmp 7)) (b := false) (by kernel_rfl) (by kernel_rfl) (fun q => by cases q) (fun _ => ?_)
    refine XQ.skip (by kernel_rfl) ?_
    show XQ _ _ _ _ _ _ _ _
    refine XQ.seq E0_ok (by kernel_rfl) ?_
    refine XQ.region (by kernel_rfl) ?_
    refine XR.runS E0_ok 1 1 [(0, sl 0 (i0 * 1) n0 k0), (9, sl 0 (i0 * 1) n0 k0)] rfl (by kernel_rfl) ?_
    cases b2 : (inRow 0 n0 : Bool) with
    | false => cases (cF b2 h)
    | true =>
      have h := cT b2 h
      refine XR.rd E0_ok [0, 10] rfl (v := pp 0 ((i0 + 0) * 1)) (v_idx (s := 1) (x := (src 25 (.tmp 9))) (y := (src 25 (.const (ii 0)))) (b := 0) (o := i0 * 1) (len := n0) (cap := k0) (ik := .i64) (i := 0) (off := (i0 + 0) * 1) (d := (some (path 12 10))) (by kernel_rfl) (by kernel_rfl) (by kernel_rfl) b2 (by omega)) (σ' := [(0, sl 0 (i0 * 1) n0 k0), (10, pp 0 ((i0 + 0) * 1))]) (by kernel_rfl) ?_
      cases b3 : (decide (i0 + 0 < b.length) : Bool) with
      | false => cases (cF b3 h)
      | true =>
        have h := cT b3 h
        refine XR.rd E0_ok [0, 11] rfl (v := ii (List.getD b (i0 + 0) 0)) (v_load1 (encI_ok .i64) (x := (src 25 (.tmp 10))) (b := 0) (off := (i0 + 0) * 1) (xs := b) (fz := z0) (e := y0) (es := 1) (d := (some (path 12 11))) (by kernel_rfl) (by kernel_rfl) (by kernel_rfl) (i0 + 0) 0 0 (by first | with_reducible rfl | omega | rfl) (row_len b3 (by simp)) rfl rfl) (σ' := [(0, sl 0 (i0 * 1) n0 k0), (11, ii (List.getD b (i0 + 0) 0))]) (by kernel_rfl) ?_
        refine XR.runS E0_ok 1 1 [(0, sl 0 (i0 * 1) n0 k0), (3, ii (List.getD b (i0 + 0) 0))] rfl (by kernel_rfl) ?_
        refine XR.done (by kernel_rfl) ?_
        show XQ _ _ _ _ _ _ _ _
        refine XQ.seq E0_ok (by kernel_rfl) ?_
        refine XQ.seq E0_ok (by kernel_rfl) ?_
        refine XQ.region (by kernel_rfl) ?_
        refine XR.runS E0_ok 1 1 [(0, sl 0 (i0 * 1) n0 k0), (3, ii (List.getD b (i0 + 0) 0)), (4, ii 1)] rfl (by kernel_rfl) ?_
        refine XR.done (by kernel_rfl) ?_
        show XQ _ _ _ _ _ _ _ _
        refine XQ.block (id := 0) (by kernel_rfl) ?_
        refine XQ.loop m (by kernel_rfl) ?_
        obtain ⟨o1, o1_h, h⟩ := bS h
        refine XL.ren (σ' := [(0, sl 0 (i0 * 1) n0 k0), (3, ii (List.getD b (i0 + 0) 0)), (4, ii 1)]) (h' := [(0, rc (encI .i64) b z0 y0 1)]) (c' := 1) [0] (by decide) rfl ⟨by kernel_rfl, by kernel_rfl, by kernel_rfl, trivial⟩ ⟨⟨_, _, rfl, rfl, .inl ⟨rfl, rowC_scal (encI_ok .i64) _⟩⟩, trivial⟩ rfl ?_
        refine XL.conv (f41_1_ok m m z0 y0 i0 n0 k0 b (List.getD b (i0 + 0) 0) 1 o1 o1_h _ ?_) (by first | with_reducible rfl | simp | rfl)
        show XQ _ _ _ _ _ _ _ _
        refine XQ.seq E0_ok (by kernel_rfl) ?_
        refine XQ.region (by kernel_rfl) ?_
        refine XR.runS E0_ok 1 2 [(2, ii o1)] rfl (by kernel_rfl) ?_
        refine XR.done (by kernel_rfl) ?_
        show XQ _ _ _ _ _ _ _ _
        refine XQ.ret (by kernel_rfl) ?_
        have h := Option.some.inj h
        subst h
        exact ⟨fun i q => (by cases q), ii o1, (by kernel_rfl), rfl⟩

/-! slices.Min[[]int,int] -/
noncomputable def f42_C42 : Code := Proofs.Tryz.f42.body.getD .skip
noncomputable def f42_L1 : Code := lft (lft (rgt (lft (rgt (rgt (rgt f42_C42))))))

def f42_1 (m : Nat) : Nat → Nat → Nat → Nat → List Int → Int → Int → Option Int
  | 0, _, _, _, _, _, _ => none
  | fuel + 1, i0, n0, k0, b, x3_1, x4_1 =>
    cond (decide (x4_1 < ((n0 : Nat) : Int))) (
      cond (inRow x4_1 n0) (
        cond (decide (i0 + (Int.toNat x4_1) < b.length)) (
          f42_1 m fuel i0 n0 k0 b (iMin x3_1 (List.getD b (i0 + (Int.toNat x4_1)) 0)) (w64 (x4_1 + 1))
        ) none
      ) none
    ) (
      some (x3_1)
    )

theorem f42_1_ok (m : Nat) : ∀ (fuel : Nat) (z0 : Nat) (y0 : Nat) (i0 : Nat) (n0 : Nat) (k0 : Nat) (b : List Int) (x3_1 : Int) (x4_1 : Int) (o : Int), f42_1 m fuel i0 n0 k0 b x3_1 x4_1 = some o → ∀ Q : QP, Q (.exit 0) [(3, ii o)] [(0, rc (encI .i64) b z0 y0 1)] 1 → XL E0 25 1 fuel f42_L1 [(0, sl 0 (i0 * 1) n0 k0), (3, ii x3_1), (4, ii x4_1)] [(0, rc (encI .i64) b z0 y0 1)] 1 Q
  | 0, z0, y0, i0, n0, k0, b, x3_1, x4_1, o, h, Q, hQ => by cases h
  | fuel + 1, z0, y0, i0, n0, k0, b, x3_1, x4_1, o, h, Q, hQ => by
    unfold f42_1 at h
    refine XL.succ E0_ok ?_
    refine XQ.seq E0_ok (by kernel_rfl) ?_
    refine XQ.seq E0_ok (by kernel_rfl) ?_
    refine XQ.region (by kernel_rfl) ?_
    refine XR.runS E0_ok 1 4 [(0, sl 0 (i0 * 1) n0 k0), (3, ii x3_1), (4, ii x4_1), (15, .bool (decide (x4_1 < ((n0 : Nat) : Int))))] rfl (by kernel_rfl) ?_
    refine XR.done (by kernel_rfl) ?_
    show XQ _ _ _ _ _ _ _ _
    cases b1 : (decide (x4_1 < ((n0 : Nat) : Int)) : Bool) with
    | true =>
      have h := cT b1 h
      refine XQ.cond (s := (.tmp 15)) (b := true) (by kernel_rfl) (by kernel_rfl) (fun _ => ?_) (fun q => by cases q)
      refine XQ.skip (by kernel_rfl) ?_
      show XQ _ _ _ _ _ _ _ _
      refine XQ.seq E0_ok (by kernel_rfl) ?_
      refine XQ.block (id := 1) (by kernel_rfl) ?_
      refine XQ.region (by kernel_rfl) ?_
      refine XR.runS E0_ok 1 3 [(0, sl 0 (i0 * 1) n0 k0), (4, ii x4_1), (18, ii x3_1), (19, sl 0 (i0 * 1) n0 k0), (20, ii x4_1)] rfl (by kernel_rfl) ?_
      cases b2 : (inRow x4_1 n0 : Bool) with
      | false => cases (cF b2 h)
      | true =>
        have h := cT b2 h
        refine XR.rd E0_ok [0, 4, 18, 21] rfl (v := pp 0 ((i0 + (Int.toNat x4_1)) * 1)) (v_idx (s := 1) (x := (src 25 (.tmp 19))) (y := (src 25 (.tmp 20))) (b := 0) (o := i0 * 1) (len := n0) (cap := k0) (ik := .i64) (i := x4_1) (off := (i0 + (Int.toNat x4_1)) * 1) (d := (some (path 12 21))) (by kernel_rfl) (by kernel_rfl) (by kernel_rfl) b2 (by omega)) (σ' := [(0, sl 0 (i0 * 1) n0 k0), (4, ii x4_1), (18, ii x3_1), (21, pp 0 ((i0 + (Int.toNat x4_1)) * 1))]) (by kernel_rfl) ?_
        cases b3 : (decide (i0 + (Int.toNat x4_1) < b.length) : Bool) with
        | false => cases (cF b3 h)
        | true =>
          have h := cT b3 h
          refine XR.rd E0_ok [0, 4, 18, 22] rfl (v := ii (List.getD b (i0 + (Int.toNat x4_1)) 0)) (v_load1 (encI_ok .i64) (x := (src 25 (.tmp 21))) (b := 0) (off := (i0 + (Int.toNat x4_1)) * 1) (xs := b) (fz := z0) (e := y0) (es := 1) (d := (some (path 12 22))) (by kernel_rfl) (by kernel_rfl) (by kernel_rfl) (i0 + (Int.toNat x4_1)) 0 0 (by first | with_reducible rfl | omega | rfl) (row_len b3 (by simp)) rfl rfl) (σ' := [(0, sl 0 (i0 * 1) n0 k0), (4, ii x4_1), (18, ii x3_1), (22, ii (List.getD b (i0 + (Int.toNat x4_1)) 0))]) (by kernel_rfl) ?_
          refine XR.runS E0_ok 1 2 [(0, sl 0 (i0 * 1) n0 k0), (3, ii (iMin x3_1 (List.getD b (i0 + (Int.toNat x4_1)) 0))), (4, ii x4_1)] rfl (by kernel_rfl) ?_
          refine XR.done (by kernel_rfl) ?_
          show XQ _ _ _ _ _ _ _ _
          refine XQ.region (by kernel_rfl) ?_
          refine XR.runS E0_ok 1 3 [(0, sl 0 (i0 * 1) n0 k0), (3, ii (iMin x3_1 (List.getD b (i0 + (Int.toNat x4_1)) 0))), (4, ii (w64 (x4_1 + 1)))] rfl (by kernel_rfl) ?_
          refine XR.done (by kernel_rfl) ?_
          show XL _ _ _ _ _ _ _ _ _
          refine XL.ren (σ' := [(0, sl 0 (i0 * 1) n0 k0), (3, ii (iMin x3_1 (List.getD b (i0 + (Int.toNat x4_1)) 0))), (4, ii (w64 (x4_1 + 1)))]) (h' := [(0, rc (encI .i64) b z0 y0 1)]) (c' := 1) [0] (by decide) rfl ⟨by kernel_rfl, by kernel_rfl, by kernel_rfl, trivial⟩ ⟨⟨_, _, rfl, rfl, .inl ⟨rfl, rowC_scal (encI_ok .i64) _⟩⟩, trivial⟩ rfl ?_
          refine XL.conv (f42_1_ok m fuel z0 y0 i0 n0 k0 b (iMin x3_1 (List.getD b (i0 + (Int.toNat x4_1)) 0)) (w64 (x4_1 + 1)) o h Q hQ) (by first | with_reducible rfl | simp | rfl)
    | false =>
      have h := cF b1 h
      refine XQ.cond (s := (.tmp 15)) (b := false) (by kernel_rfl) (by kernel_rfl) (fun q => by cases q) (fun _ => ?_)
      refine XQ.ren (σ' := [(3, ii x3_1)]) (h' := [(0, rc (encI .i64) b z0 y0 1)]) (c' := 1) [0] (by decide) rfl ⟨by kernel_rfl, trivial⟩ ⟨⟨_, _, rfl, rfl, .inl ⟨rfl, rowC_scal (encI_ok .i64) _⟩⟩, trivial⟩ rfl ?_
      refine XQ.exit (i := 0) (by kernel_rfl) ?_
      cases h
      exact hQ

def f42 (m : Nat) (i0 : Nat) (n0 : Nat) (k0 : Nat) (b : List Int) : Option (Int) :=
  cond (decide (((n0 : Nat) : Int) < 1)) (
    none
  ) (
    cond (inRow 0 n0) (
      cond (decide (i0 + 0 < b.length)) (
        (f42_1 m m i0 n0 k0 b (List.getD b (i0 + 0) 0) 1).bind fun o1 =>
          some (o1)
      ) none
    ) none
  )

theorem f42_ok (m : Nat) (z0 : Nat) (y0 : Nat) (i0 : Nat) (n0 : Nat) (k0 : Nat) (b : List Int) (o : Int) (h : f42 m i0 n0 k0 b = some o) : KC E0 42 [sl 0 (i0 * 1) n0 k0] [(0, rc (encI .i64) b z0 y0 1)] 1 (fun v _ _ => v = ii o) := by
  refine KC.bodyN E0_ok (F := Proofs.Tryz.f42) (by kernel_rfl) (code := f42_C42) (by kernel_rfl) (nt := 25) (by kernel_rfl) (rs := [.tmp 2]) (by kernel_rfl) (by kernel_rfl) (σ := [(0, sl 0 (i0 * 1) n0 k0)]) (by kernel_rfl) ?_
  unfold f42 at h
  refine XQ.seq E0_ok (by kernel_rfl) ?_
  refine XQ.region (by kernel_rfl) ?_
  refine XR.runS E0_ok 1 1 [(0, sl 0 (i0 * 1) n0 k0)] rfl (by kernel_rfl) ?_
  refine XR.done (by kernel_rfl) ?_
  show XQ _ _ _ _ _ _ _ _
  refine XQ.seq E0_ok (by kernel_rfl) ?_
  refine XQ.seq E0_ok (by kernel_rfl) ?_
  refine XQ.region (by kernel_rfl) ?_
  refine XR.runS E0_ok 1 3 [(0, sl 0 (i0 * 1) n0 k0), (7, .bool (decide (((n0 : Nat) : Int) < 1)))] rfl (by kernel_rfl) ?_
  refine XR.done (by kernel_rfl) ?_
  show XQ _ _ _ _ _ _ _ _
  cases b1 : (decide (((n0 : Nat) : Int) < 1) : Bool) with
  | true =>
    have h := cT b1 h
    refine XQ.cond (s := (.tmp 7)) (b := true) (by kernel_rfl) (by kernel_rfl) (fun _ => ?_) (fun q => by cases q)
    refine XQ.region (by kernel_rfl) ?_
    cases h
  | false =>
    have h := cF b1 h
    refine XQ.cond (s := (.tmp 7)) (b := false) (by kernel_rfl) (by kernel_rfl) (fun q => by cases q) (fun _ => ?_)
    refine XQ.skip (by kernel_rfl) ?_
    show XQ _ _ _ _ _ _ _ _
    refine XQ.seq E0_ok (by kernel_rfl) ?_
    refine XQ.region (by kernel_rfl) ?_
    refine XR.runS E0_ok 1 1 [(0, sl 0 (i0 * 1) n0 k0), (9, sl 0 (i0 * 1) n0 k0)] rfl (by kernel_rfl) ?_
    cases b2 : (inRow 0 n0 : Bool) with
    | false => cases (cF b2 h)
    | true =>
      have h := cT b2 h
      refine XR.rd E0_ok [0, 10] rfl (v := pp 0 ((i0 + 0) * 1)) (v_idx (s := 1) (x := (src 25 (.tmp 9))) (y := (src 25 (.const (ii 0)))) (b := 0) (o := i0 * 1) (len := n0) (cap := k0) (ik := .i64) (i := 0) (off := (i0 + 0) * 1) (d := (some (path 12 10))) (by kernel_rfl) (by kernel_rfl) (by kernel_rfl) b2 (by omega)) (σ' := [(0, sl 0 (i0 * 1) n0 k0), (10, pp 0 ((i0 + 0) * 1))]) (by kernel_rfl) ?_
      cases b3 : (decide (i0 + 0 < b.length) : Bool) with
      | false => cases (cF b3 h)
      | true =>
        have h := cT b3 h
        refine XR.rd E0_ok [0, 11] rfl (v := ii (List.getD b (i0 + 0) 0)) (v_load1 (encI_ok .i64) (x := (src 25 (.tmp 10))) (b := 0) (off := (i0 + 0) * 1) (xs := b) (fz := z0) (e := y0) (es := 1) (d := (some (path 12 11))) (by kernel_rfl) (by kernel_rfl) (by kernel_rfl) (i0 + 0) 0 0 (by first | with_reducible rfl | omega | rfl) (row_len b3 (by simp)) rfl rfl) (σ' := [(0, sl 0 (i0 * 1) n0 k0), (11, ii (List.getD b (i0 + 0) 0))]) (by kernel_rfl) ?_
        refine XR.runS E0_ok 1 1 [(0, sl 0 (i0 * 1) n0 k0), (3, ii (List.getD b (i0 + 0) 0))] rfl (by kernel_rfl) ?_
        refine XR.done (by kernel_rfl) ?_
        show XQ _ _ _ _ _ _ _ _
        refine XQ.seq E0_ok (by kernel_rfl) ?_
        refine XQ.seq E0_ok (by kernel_rfl) ?_
        refine XQ.region (by kernel_rfl) ?_
        refine XR.runS E0_ok 1 1 [(0, sl 0 (i0 * 1) n0 k0), (3, ii (List.getD b (i0 + 0) 0)), (4, ii 1)] rfl (by kernel_rfl) ?_
        refine XR.done (by kernel_rfl) ?_
        show XQ _ _ _ _ _ _ _ _
        refine XQ.block (id := 0) (by kernel_rfl) ?_
        refine XQ.loop m (by kernel_rfl) ?_
        obtain ⟨o1, o1_h, h⟩ := bS h
        refine XL.ren (σ' := [(0, sl 0 (i0 * 1) n0 k0), (3, ii (List.getD b (i0 + 0) 0)), (4, ii 1)]) (h' := [(0, rc (encI .i64) b z0 y0 1)]) (c' := 1) [0] (by decide) rfl ⟨by kernel_rfl, by kernel_rfl, by kernel_rfl, trivial⟩ ⟨⟨_, _, rfl, rfl, .inl ⟨rfl, rowC_scal (encI_ok .i64) _⟩⟩, trivial⟩ rfl ?_
        refine XL.conv (f42_1_ok m m z0 y0 i0 n0 k0 b (List.getD b (i0 + 0) 0) 1 o1 o1_h _ ?_) (by first | with_reducible rfl | simp | rfl)
        show XQ _ _ _ _ _ _ _ _
        refine XQ.seq E0_ok (by kernel_rfl) ?_
        refine XQ.region (by kernel_rfl) ?_
        refine XR.runS E0_ok 1 2 [(2, ii o1)] rfl (by kernel_rfl) ?_
        refine XR.done (by kernel_rfl) ?_
        show XQ _ _ _ _ _ _ _ _
        refine XQ.ret (by kernel_rfl) ?_
        have h := Option.some.inj h
        subst h
        exact ⟨fun i q => (by cases q), ii o1, (by kernel_rfl), rfl⟩

/-! vitola/vitolatop.separable -/
noncomputable def f17_C17 : Code := Proofs.Tryz.f17.body.getD .skip
noncomputable def f17_L1 : Code := lft (lft (rgt (lft (rgt (rgt f17_C17)))))

inductive Of17_1 where
  | r
  | x0

def f17_1 (m : Nat) (F : Nat → Nat → Nat → (List Int) → Option Bool) : Nat → Nat → Nat → Nat → List Int → Int → Option Of17_1
  | 0, _, _, _, _, _ => none
  | fuel + 1, i0, n0, k0, b, x3_1 =>
    cond (decide (x3_1 < ((n0 : Nat) : Int))) (
      cond (cutOK 0 x3_1 ((k0 : Nat) : Int) k0) (
        cond (cutOK x3_1 ((n0 : Nat) : Int) ((k0 : Nat) : Int) k0) (
          (f41 m i0 (Int.toNat x3_1) k0 b).bind fun r17 =>
            (f42 m (i0 + (Int.toNat x3_1)) (n0 - (Int.toNat x3_1)) (k0 - (Int.toNat x3_1)) b).bind fun r18 =>
              cond (decide (r17 < r18)) (
                (F i0 (Int.toNat x3_1) k0 b).bind fun r19 =>
                  cond (r19) (
                    (F (i0 + (Int.toNat x3_1)) (n0 - (Int.toNat x3_1)) (k0 - (Int.toNat x3_1)) b).bind fun r20 =>
                      cond (r20) (
                        some (.r)
                      ) (
                        f17_1 m F fuel i0 n0 k0 b (w64 (x3_1 + 1))
                      )
                  ) (
                    f17_1 m F fuel i0 n0 k0 b (w64 (x3_1 + 1))
                  )
              ) (
                (f42 m i0 (Int.toNat x3_1) k0 b).bind fun r21 =>
                  (f41 m (i0 + (Int.toNat x3_1)) (n0 - (Int.toNat x3_1)) (k0 - (Int.toNat x3_1)) b).bind fun r22 =>
                    cond (decide (r21 > r22)) (
                      (F i0 (Int.toNat x3_1) k0 b).bind fun r23 =>
                        cond (r23) (
                          (F (i0 + (Int.toNat x3_1)) (n0 - (Int.toNat x3_1)) (k0 - (Int.toNat x3_1)) b).bind fun r24 =>
                            cond (r24) (
                              some (.r)
                            ) (
                              f17_1 m F fuel i0 n0 k0 b (w64 (x3_1 + 1))
                            )
                        ) (
                          f17_1 m F fuel i0 n0 k0 b (w64 (x3_1 + 1))
                        )
                    ) (
                      f17_1 m F fuel i0 n0 k0 b (w64 (x3_1 + 1))
                    )
              )
        ) none
      ) none
    ) (
      some (.x0)
    )

theorem f17_1_ok (m : Nat) (F : Nat → Nat → Nat → (List Int) → Option Bool) (hF : ∀ (z0 : Nat) (y0 : Nat) (i0 : Nat) (n0 : Nat) (k0 : Nat) (b : List Int) (o : Bool), F i0 n0 k0 b = some o → KC E0 17 [sl 0 (i0 * 1) n0 k0] [(0, rc (encI .i64) b z0 y0 1)] 1 (fun v _ _ => v = .bool o)) : ∀ (fuel : Nat) (z0 : Nat) (y0 : Nat) (i0 : Nat) (n0 : Nat) (k0 : Nat) (b : List Int) (x3_1 : Int) (o : Of17_1), f17_1 m F fuel i0 n0 k0 b x3_1 = some o → ∀ Q : QP, (match o with | .r => Q .ret [(2, .bool true)] [(0, rc (encI .i64) b z0 y0 1)] 1 | .x0 => Q (.exit 0) [] [(0, rc (encI .i64) b z0 y0 1)] 1) → XL E0 41 1 fuel f17_L1 [(0, sl 0 (i0 * 1) n0 k0), (3, ii x3_1)] [(0, rc (encI .i64) b z0 y0 1)] 1 Q
  | 0, z0, y0, i0, n0, k0, b, x3_1, o, h, Q, hQ => by cases h
  | fuel + 1, z0, y0, i0, n0, k0, b, x3_1, o, h, Q, hQ => by
    unfold f17_1 at h
    refine XL.succ E0_ok ?_
    refine XQ.seq E0_ok (by kernel_rfl) ?_
    refine XQ.seq E0_ok (by kernel_rfl) ?_
    refine XQ.region (by kernel_rfl) ?_
    refine XR.runS E0_ok 1 4 [(0, sl 0 (i0 * 1) n0 k0), (3, ii x3_1), (12, .bool (decide (x3_1 < ((n0 : Nat) : Int))))] rfl (by kernel_rfl) ?_
    refine XR.done (by kernel_rfl) ?_
    show XQ _ _ _ _ _ _ _ _
    cases b1 : (decide (x3_1 < ((n0 : Nat) : Int)) : Bool) with
    | true =>
      have h := cT b1 h
      refine XQ.cond (s := (.tmp 12)) (b := true) (by kernel_rfl) (by kernel_rfl) (fun _ => ?_) (fun q => by cases q)
      refine XQ.skip (by kernel_rfl) ?_
      show XQ _ _ _ _ _ _ _ _
      refine XQ.seq E0_ok (by kernel_rfl) ?_
      refine XQ.block (id := 1) (by kernel_rfl) ?_
      refine XQ.seq E0_ok (by kernel_rfl) ?_
      refine XQ.quiet E0_ok (by kernel_rfl) (by kernel_rfl) ?_
      refine XU.run E0_ok 1 2 [0, 3, 15, 16] rfl (σ' := [(0, sl 0 (i0 * 1) n0 k0), (3, ii x3_1), (15, sl 0 (i0 * 1) n0 k0), (16, ii x3_1)]) (by kernel_rfl) ?_
      cases b2 : (cutOK 0 x3_1 ((k0 : Nat) : Int) k0 : Bool) with
      | false => cases (cF b2 h)
      | true =>
        have h := cT b2 h
        refine XU.rd E0_ok [0, 3, 17] rfl (v := sl 0 (i0 * 1) (Int.toNat x3_1) k0) (v_cut (nt := 41) (s := 1) (x := (src 41 (.tmp 15))) (lo := none) (hi := (some (.tmp 16))) (mx := none) (b := 0) (o := i0 * 1) (len := n0) (cap := k0) (l := none) (u := (some x3_1)) (m := none) (cs := rowC (encI .i64) b) (fz := z0) (e := y0) (es := 1) (o' := i0 * 1) (len' := Int.toNat x3_1) (cap' := k0) (d := (some (path 12 17))) (by kernel_rfl) (by kernel_rfl) (by kernel_rfl) (by kernel_rfl) (by kernel_rfl) (by kernel_rfl) (by kernel_rfl) rfl b2 (by simp only [Option.getD_none, Option.getD_some] <;> omega) (by simp only [Option.getD_none, Option.getD_some] <;> omega) (by simp only [Option.getD_none, Option.getD_some] <;> omega)) (σ' := [(0, sl 0 (i0 * 1) n0 k0), (3, ii x3_1), (17, sl 0 (i0 * 1) (Int.toNat x3_1) k0)]) (by kernel_rfl) ?_
        refine XU.run E0_ok 1 2 [0, 3, 17, 18, 19] rfl (σ' := [(0, sl 0 (i0 * 1) n0 k0), (3, ii x3_1), (17, sl 0 (i0 * 1) (Int.toNat x3_1) k0), (18, sl 0 (i0 * 1) n0 k0), (19, ii x3_1)]) (by kernel_rfl) ?_
        cases b3 : (cutOK x3_1 ((n0 : Nat) : Int) ((k0 : Nat) : Int) k0 : Bool) with
        | false => cases (cF b3 h)
        | true =>
          have h := cT b3 h
          refine XU.rd E0_ok [0, 3, 17, 20] rfl (v := sl 0 ((i0 + (Int.toNat x3_1)) * 1) (n0 - (Int.toNat x3_1)) (k0 - (Int.toNat x3_1))) (v_cut (nt := 41) (s := 1) (x := (src 41 (.tmp 18))) (lo := (some (.tmp 19))) (hi := none) (mx := none) (b := 0) (o := i0 * 1) (len := n0) (cap := k0) (l := (some x3_1)) (u := none) (m := none) (cs := rowC (encI .i64) b) (fz := z0) (e := y0) (es := 1) (o' := (i0 + (Int.toNat x3_1)) * 1) (len' := n0 - (Int.toNat x3_1)) (cap' := k0 - (Int.toNat x3_1)) (d := (some (path 12 20))) (by kernel_rfl) (by kernel_rfl) (by kernel_rfl) (by kernel_rfl) (by kernel_rfl) (by kernel_rfl) (by kernel_rfl) rfl b3 (by simp only [Option.getD_none, Option.getD_some] <;> omega) (by simp only [Option.getD_none, Option.getD_some] <;> omega) (by simp only [Option.getD_none, Option.getD_some] <;> omega)) (σ' := [(0, sl 0 (i0 * 1) n0 k0), (3, ii x3_1), (17, sl 0 (i0 * 1) (Int.toNat x3_1) k0), (20, sl 0 ((i0 + (Int.toNat x3_1)) * 1) (n0 - (Int.toNat x3_1)) (k0 - (Int.toNat x3_1)))]) (by kernel_rfl) ?_
          refine XU.run E0_ok 1 2 [0, 3, 4, 5] rfl (σ' := [(0, sl 0 (i0 * 1) n0 k0), (3, ii x3_1), (4, sl 0 (i0 * 1) (Int.toNat x3_1) k0), (5, sl 0 ((i0 + (Int.toNat x3_1)) * 1) (n0 - (Int.toNat x3_1)) (k0 - (Int.toNat x3_1)))]) (by kernel_rfl) ?_
          refine XU.done (by kernel_rfl) ?_
          show XQ _ _ _ _ _ _ _ _
          refine XQ.seq E0_ok (by kernel_rfl) ?_
          refine XQ.region (by kernel_rfl) ?_
          refine XR.runS E0_ok 1 1 [(0, sl 0 (i0 * 1) n0 k0), (3, ii x3_1), (4, sl 0 (i0 * 1) (Int.toNat x3_1) k0), (5, sl 0 ((i0 + (Int.toNat x3_1)) * 1) (n0 - (Int.toNat x3_1)) (k0 - (Int.toNat x3_1))), (21, sl 0 (i0 * 1) (Int.toNat x3_1) k0)] rfl (by kernel_rfl) ?_
          obtain ⟨r17, r17_h, h⟩ := bS h
          refine XR.call E0_ok [0, 3, 4, 5, 22] rfl (K := 41) (args := [sl 0 (i0 * 1) (Int.toNat x3_1) k0]) (d := (some (path 12 22))) (by kernel_rfl) (KQ.call (KC.quiet E0_ok (args0 := [sl 0 (i0 * 1) (Int.toNat x3_1) k0]) (h0 := [(0, rc (encI .i64) b (z0 + ((rowC (encI .i64) b).length + 1)) y0 1)]) (n := 1) (V := ii r17) [0] (f41_ok m (z0 + ((rowC (encI .i64) b).length + 1)) y0 i0 (Int.toNat x3_1) k0 b r17 r17_h) rfl (by rfl) (by decide) rfl (by kernel_rfl) ⟨⟨_, _, rfl, rfl, .inl ⟨rfl, rowC_scal (encI_ok .i64) _⟩⟩, trivial⟩) rfl) ?_
          rintro _ _ _ ⟨rfl, rfl, rfl⟩
          refine XR.conv (σ' := [(0, sl 0 (i0 * 1) n0 k0), (3, ii x3_1), (4, sl 0 (i0 * 1) (Int.toNat x3_1) k0), (5, sl 0 ((i0 + (Int.toNat x3_1)) * 1) (n0 - (Int.toNat x3_1)) (k0 - (Int.toNat x3_1))), (22, ii r17)]) (h' := [(0, rc (encI .i64) b z0 y0 1)]) (c' := 1) ?_ (by kernel_rfl)
          refine XR.runS E0_ok 1 1 [(0, sl 0 (i0 * 1) n0 k0), (3, ii x3_1), (4, sl 0 (i0 * 1) (Int.toNat x3_1) k0), (5, sl 0 ((i0 + (Int.toNat x3_1)) * 1) (n0 - (Int.toNat x3_1)) (k0 - (Int.toNat x3_1))), (22, ii r17), (23, sl 0 ((i0 + (Int.toNat x3_1)) * 1) (n0 - (Int.toNat x3_1)) (k0 - (Int.toNat x3_1)))] rfl (by kernel_rfl) ?_
          obtain ⟨r18, r18_h, h⟩ := bS h
          refine XR.call E0_ok [0, 3, 4, 5, 22, 24] rfl (K := 42) (args := [sl 0 ((i0 + (Int.toNat x3_1)) * 1) (n0 - (Int.toNat x3_1)) (k0 - (Int.toNat x3_1))]) (d := (some (path 12 24))) (by kernel_rfl) (KQ.call (KC.quiet E0_ok (args0 := [sl 0 ((i0 + (Int.toNat x3_1)) * 1) (n0 - (Int.toNat x3_1)) (k0 - (Int.toNat x3_1))]) (h0 := [(0, rc (encI .i64) b (z0 + ((rowC (encI .i64) b).length + 1)) y0 1)]) (n := 1) (V := ii r18) [0] (f42_ok m (z0 + ((rowC (encI .i64) b).length + 1)) y0 (i0 + (Int.toNat x3_1)) (n0 - (Int.toNat x3_1)) (k0 - (Int.toNat x3_1)) b r18 r18_h) rfl (by rfl) (by decide) rfl (by kernel_rfl) ⟨⟨_, _, rfl, rfl, .inl ⟨rfl, rowC_scal (encI_ok .i64) _⟩⟩, trivial⟩) rfl) ?_
          rintro _ _ _ ⟨rfl, rfl, rfl⟩
          refine XR.conv (σ' := [(0, sl 0 (i0 * 1) n0 k0), (3, ii x3_1), (4, sl 0 (i0 * 1) (Int.toNat x3_1) k0), (5, sl 0 ((i0 + (Int.toNat x3_1)) * 1) (n0 - (Int.toNat x3_1)) (k0 - (Int.toNat x3_1))), (22, ii r17), (24, ii r18)]) (h' := [(0, rc (encI .i64) b z0 y0 1)]) (c' := 1) ?_ (by kernel_rfl)
          refine XR.runS E0_ok 1 2 [(0, sl 0 (i0 * 1) n0 k0), (3, ii x3_1), (4, sl 0 (i0 * 1) (Int.toNat x3_1) k0), (5, sl 0 ((i0 + (Int.toNat x3_1)) * 1) (n0 - (Int.toNat x3_1)) (k0 - (Int.toNat x3_1))), (26, .bool (decide (r17 < r18)))] rfl (by kernel_rfl) ?_
          cases b4 : (decide (r17 < r18) : Bool) with
          | true =>
            have h := cT b4 h
            refine XR.runS E0_ok 1 8 [(0, sl 0 (i0 * 1) n0 k0), (3, ii x3_1), (5, sl 0 ((i0 + (Int.toNat x3_1)) * 1) (n0 - (Int.toNat x3_1)) (k0 - (Int.toNat x3_1))), (33, .bool true), (34, sl 0 (i0 * 1) (Int.toNat x3_1) k0)] rfl (by kernel_rfl) ?_
            obtain ⟨r19, r19_h, h⟩ := bS h
            refine XR.call E0_ok [0, 3, 5, 33, 35] rfl (K := 17) (args := [sl 0 (i0 * 1) (Int.toNat x3_1) k0]) (d := (some (path 12 35))) (by kernel_rfl) (KQ.call (KC.quiet E0_ok (args0 := [sl 0 (i0 * 1) (Int.toNat x3_1) k0]) (h0 := [(0, rc (encI .i64) b (z0 + ((rowC (encI .i64) b).length + 1)) y0 1)]) (n := 1) (V := .bool r19) [0] (hF (z0 + ((rowC (encI .i64) b).length + 1)) y0 i0 (Int.toNat x3_1) k0 b r19 r19_h) rfl (by rfl) (by decide) rfl (by kernel_rfl) ⟨⟨_, _, rfl, rfl, .inl ⟨rfl, rowC_scal (encI_ok .i64) _⟩⟩, trivial⟩) rfl) ?_
            rintro _ _ _ ⟨rfl, rfl, rfl⟩
            refine XR.conv (σ' := [(0, sl 0 (i0 * 1) n0 k0), (3, ii x3_1), (5, sl 0 ((i0 + (Int.toNat x3_1)) * 1) (n0 - (Int.toNat x3_1)) (k0 - (Int.toNat x3_1))), (33, .bool true), (35, .bool r19)]) (h' := [(0, rc (encI .i64) b z0 y0 1)]) (c' := 1) ?_ (by kernel_rfl)
            refine XR.runS E0_ok 1 2 [(0, sl 0 (i0 * 1) n0 k0), (3, ii x3_1), (5, sl 0 ((i0 + (Int.toNat x3_1)) * 1) (n0 - (Int.toNat x3_1)) (k0 - (Int.toNat x3_1))), (37, .bool r19)] rfl (by kernel_rfl) ?_
            cases b5 : (r19 : Bool) with
            | true =>
              have h := cT b5 h
              refine XR.runS E0_ok 1 1 [(0, sl 0 (i0 * 1) n0 k0), (3, ii x3_1), (37, .bool true), (38, sl 0 ((i0 + (Int.toNat x3_1)) * 1) (n0 - (Int.toNat x3_1)) (k0 - (Int.toNat x3_1)))] rfl (by kernel_rfl) ?_
              obtain ⟨r20, r20_h, h⟩ := bS h
              refine XR.call E0_ok [0, 3, 37, 39] rfl (K := 17) (args := [sl 0 ((i0 + (Int.toNat x3_1)) * 1) (n0 - (Int.toNat x3_1)) (k0 - (Int.toNat x3_1))]) (d := (some (path 12 39))) (by kernel_rfl) (KQ.call (KC.quiet E0_ok (args0 := [sl 0 ((i0 + (Int.toNat x3_1)) * 1) (n0 - (Int.toNat x3_1)) (k0 - (Int.toNat x3_1))]) (h0 := [(0, rc (encI .i64) b (z0 + ((rowC (encI .i64) b).length + 1)) y0 1)]) (n := 1) (V := .bool r20) [0] (hF (z0 + ((rowC (encI .i64) b).length + 1)) y0 (i0 + (Int.toNat x3_1)) (n0 - (Int.toNat x3_1)) (k0 - (Int.toNat x3_1)) b r20 r20_h) rfl (by rfl) (by decide) rfl (by kernel_rfl) ⟨⟨_, _, rfl, rfl, .inl ⟨rfl, rowC_scal (encI_ok .i64) _⟩⟩, trivial⟩) rfl) ?_
              rintro _ _ _ ⟨rfl, rfl, rfl⟩
              refine XR.conv (σ' := [(0, sl 0 (i0 * 1) n0 k0), (3, ii x3_1), (37, .bool true), (39, .bool r20)]) (h' := [(0, rc (encI .i64) b z0 y0 1)]) (c' := 1) ?_ (by kernel_rfl)
              refine XR.runS E0_ok 1 1 [(0, sl 0 (i0 * 1) n0 k0), (3, ii x3_1), (40, .bool r20)] rfl (by kernel_rfl) ?_
              refine XR.done (by kernel_rfl) ?_
              show XQ _ _ _ _ _ _ _ _
              cases b6 : (r20 : Bool) with
              | true =>
                have h := cT b6 h
                refine XQ.cond (s := (.tmp 40)) (b := true) (by kernel_rfl) (by kernel_rfl) (fun _ => ?_) (fun q => by cases q)
                refine XQ.seq E0_ok (by kernel_rfl) ?_
                refine XQ.region (by kernel_rfl) ?_
                refine XR.runS E0_ok 1 1 [(2, .bool true)] rfl (by kernel_rfl) ?_
                refine XR.done (by kernel_rfl) ?_
                show XQ _ _ _ _ _ _ _ _
                refine XQ.ren (σ' := [(2, .bool true)]) (h' := [(0, rc (encI .i64) b z0 y0 1)]) (c' := 1) [0] (by decide) rfl ⟨by kernel_rfl, trivial⟩ ⟨⟨_, _, rfl, rfl, .inl ⟨rfl, rowC_scal (encI_ok .i64) _⟩⟩, trivial⟩ rfl ?_
                refine XQ.ret (by kernel_rfl) ?_
                cases h
                exact hQ
              | false =>
                have h := cF b6 h
                refine XQ.cond (s := (.tmp 40)) (b := false) (by kernel_rfl) (by kernel_rfl) (fun q => by cases q) (fun _ => ?_)
                refine XQ.skip (by kernel_rfl) ?_
                show XQ _ _ _ _ _ _ _ _
                refine XQ.region (by kernel_rfl) ?_
                refine XR.runS E0_ok 1 3 [(0, sl 0 (i0 * 1) n0 k0), (3, ii (w64 (x3_1 + 1)))] rfl (by kernel_rfl) ?_
                refine XR.done (by kernel_rfl) ?_
                show XL _ _ _ _ _ _ _ _ _
                refine XL.ren (σ' := [(0, sl 0 (i0 * 1) n0 k0), (3, ii (w64 (x3_1 + 1)))]) (h' := [(0, rc (encI .i64) b z0 y0 1)]) (c' := 1) [0] (by decide) rfl ⟨by kernel_rfl, by kernel_rfl, trivial⟩ ⟨⟨_, _, rfl, rfl, .inl ⟨rfl, rowC_scal (encI_ok .i64) _⟩⟩, trivial⟩ rfl ?_
                refine XL.conv (f17_1_ok m F hF fuel z0 y0 i0 n0 k0 b (w64 (x3_1 + 1)) o h Q hQ) (by first | with_reducible rfl | simp | rfl)
            | false =>
              have h := cF b5 h
              refine XR.runS E0_ok 1 3 [(0, sl 0 (i0 * 1) n0 k0), (3, ii x3_1), (40, .bool false)] rfl (by kernel_rfl) ?_
              refine XR.done (by kernel_rfl) ?_
              show XQ _ _ _ _ _ _ _ _
              refine XQ.cond (s := (.tmp 40)) (b := false) (by kernel_rfl) (by kernel_rfl) (fun q => by cases q) (fun _ => ?_)
              refine XQ.skip (by kernel_rfl) ?_
              show XQ _ _ _ _ _ _ _ _
              refine XQ.region (by kernel_rfl) ?_
              refine XR.runS E0_ok 1 3 [(0, sl 0 (i0 * 1) n0 k0), (3, ii (w64 (x3_1 + 1)))] rfl (by kernel_rfl) ?_
              refine XR.done (by kernel_rfl) ?_
              show XL _ _ _ _ _ _ _ _ _
              refine XL.ren (σ' := [(0, sl 0 (i0 * 1) n0 k0), (3, ii (w64 (x3_1 + 1)))]) (h' := [(0, rc (encI .i64) b z0 y0 1)]) (c' := 1) [0] (by decide) rfl ⟨by kernel_rfl, by kernel_rfl, trivial⟩ ⟨⟨_, _, rfl, rfl, .inl ⟨rfl, rowC_scal (encI_ok .i64) _⟩⟩, trivial⟩ rfl ?_
              refine XL.conv (f17_1_ok m F hF fuel z0 y0 i0 n0 k0 b (w64 (x3_1 + 1)) o h Q hQ) (by first | with_reducible rfl | simp | rfl)
          | false =>
            have h := cF b4 h
            refine XR.runS E0_ok 1 1 [(0, sl 0 (i0 * 1) n0 k0), (3, ii x3_1), (4, sl 0 (i0 * 1) (Int.toNat x3_1) k0), (5, sl 0 ((i0 + (Int.toNat x3_1)) * 1) (n0 - (Int.toNat x3_1)) (k0 - (Int.toNat x3_1))), (26, .bool false), (27, sl 0 (i0 * 1) (Int.toNat x3_1) k0)] rfl (by kernel_rfl) ?_
            obtain ⟨r21, r21_h, h⟩ := bS h
            refine XR.call E0_ok [0, 3, 4, 5, 26, 28] rfl (K := 42) (args := [sl 0 (i0 * 1) (Int.toNat x3_1) k0]) (d := (some (path 12 28))) (by kernel_rfl) (KQ.call (KC.quiet E0_ok (args0 := [sl 0 (i0 * 1) (Int.toNat x3_1) k0]) (h0 := [(0, rc (encI .i64) b (z0 + ((rowC (encI .i64) b).length + 1)) y0 1)]) (n := 1) (V := ii r21) [0] (f42_ok m (z0 + ((rowC (encI .i64) b).length + 1)) y0 i0 (Int.toNat x3_1) k0 b r21 r21_h) rfl (by rfl) (by decide) rfl (by kernel_rfl) ⟨⟨_, _, rfl, rfl, .inl ⟨rfl, rowC_scal (encI_ok .i64) _⟩⟩, trivial⟩) rfl) ?_
            rintro _ _ _ ⟨rfl, rfl, rfl⟩
            refine XR.conv (σ' := [(0, sl 0 (i0 * 1) n0 k0), (3, ii x3_1), (4, sl 0 (i0 * 1) (Int.toNat x3_1) k0), (5, sl 0 ((i0 + (Int.toNat x3_1)) * 1) (n0 - (Int.toNat x3_1)) (k0 - (Int.toNat x3_1))), (26, .bool false), (28, ii r21)]) (h' := [(0, rc (encI .i64) b z0 y0 1)]) (c' := 1) ?_ (by kernel_rfl)
            refine XR.runS E0_ok 1 1 [(0, sl 0 (i0 * 1) n0 k0), (3, ii x3_1), (4, sl 0 (i0 * 1) (Int.toNat x3_1) k0), (5, sl 0 ((i0 + (Int.toNat x3_1)) * 1) (n0 - (Int.toNat x3_1)) (k0 - (Int.toNat x3_1))), (26, .bool false), (28, ii r21), (29, sl 0 ((i0 + (Int.toNat x3_1)) * 1) (n0 - (Int.toNat x3_1)) (k0 - (Int.toNat x3_1)))] rfl (by kernel_rfl) ?_
            obtain ⟨r22, r22_h, h⟩ := bS h
            refine XR.call E0_ok [0, 3, 4, 5, 26, 28, 30] rfl (K := 41) (args := [sl 0 ((i0 + (Int.toNat x3_1)) * 1) (n0 - (Int.toNat x3_1)) (k0 - (Int.toNat x3_1))]) (d := (some (path 12 30))) (by kernel_rfl) (KQ.call (KC.quiet E0_ok (args0 := [sl 0 ((i0 + (Int.toNat x3_1)) * 1) (n0 - (Int.toNat x3_1)) (k0 - (Int.toNat x3_1))]) (h0 := [(0, rc (encI .i64) b (z0 + ((rowC (encI .i64) b).length + 1)) y0 1)]) (n := 1) (V := ii r22) [0] (f41_ok m (z0 + ((rowC (encI .i64) b).length + 1)) y0 (i0 + (Int.toNat x3_1)) (n0 - (Int.toNat x3_1)) (k0 - (Int.toNat x3_1)) b r22 r22_h) rfl (by rfl) (by decide) rfl (by kernel_rfl) ⟨⟨_, _, rfl, rfl, .inl ⟨rfl, rowC_scal (encI_ok .i64) _⟩⟩, trivial⟩) rfl) ?_
            rintro _ _ _ ⟨rfl, rfl, rfl⟩
            refine XR.conv (σ' := [(0, sl 0 (i0 * 1) n0 k0), (3, ii x3_1), (4, sl 0 (i0 * 1) (Int.toNat x3_1) k0), (5, sl 0 ((i0 + (Int.toNat x3_1)) * 1) (n0 - (Int.toNat x3_1)) (k0 - (Int.toNat x3_1))), (26, .bool false), (28, ii r21), (30, ii r22)]) (h' := [(0, rc (encI .i64) b z0 y0 1)]) (c' := 1) ?_ (by kernel_rfl)
            refine XR.runS E0_ok 1 3 [(0, sl 0 (i0 * 1) n0 k0), (3, ii x3_1), (4, sl 0 (i0 * 1) (Int.toNat x3_1) k0), (5, sl 0 ((i0 + (Int.toNat x3_1)) * 1) (n0 - (Int.toNat x3_1)) (k0 - (Int.toNat x3_1))), (33, .bool (decide (r21 > r22)))] rfl (by kernel_rfl) ?_
            cases b7 : (decide (r21 > r22) : Bool) with
            | true =>
              have h := cT b7 h
              refine XR.runS E0_ok 1 1 [(0, sl 0 (i0 * 1) n0 k0), (3, ii x3_1), (5, sl 0 ((i0 + (Int.toNat x3_1)) * 1) (n0 - (Int.toNat x3_1)) (k0 - (Int.toNat x3_1))), (33, .bool true), (34, sl 0 (i0 * 1) (Int.toNat x3_1) k0)] rfl (by kernel_rfl) ?_
              obtain ⟨r23, r23_h, h⟩ := bS h
              refine XR.call E0_ok [0, 3, 5, 33, 35] rfl (K := 17) (args := [sl 0 (i0 * 1) (Int.toNat x3_1) k0]) (d := (some (path 12 35))) (by kernel_rfl) (KQ.call (KC.quiet E0_ok (args0 := [sl 0 (i0 * 1) (Int.toNat x3_1) k0]) (h0 := [(0, rc (encI .i64) b (z0 + ((rowC (encI .i64) b).length + 1)) y0 1)]) (n := 1) (V := .bool r23) [0] (hF (z0 + ((rowC (encI .i64) b).length + 1)) y0 i0 (Int.toNat x3_1) k0 b r23 r23_h) rfl (by rfl) (by decide) rfl (by kernel_rfl) ⟨⟨_, _, rfl, rfl, .inl ⟨rfl, rowC_scal (encI_ok .i64) _⟩⟩, trivial⟩) rfl) ?_
              rintro _ _ _ ⟨rfl, rfl, rfl⟩
              refine XR.conv (σ' := [(0, sl 0 (i0 * 1) n0 k0), (3, ii x3_1), (5, sl 0 ((i0 + (Int.toNat x3_1)) * 1) (n0 - (Int.toNat x3_1)) (k0 - (Int.toNat x3_1))), (33, .bool true), (35, .bool r23)]) (h' := [(0, rc (encI .i64) b z0 y0 1)]) (c' := 1) ?_ (by kernel_rfl)
              refine XR.runS E0_ok 1 2 [(0, sl 0 (i0 * 1) n0 k0), (3, ii x3_1), (5, sl 0 ((i0 + (Int.toNat x3_1)) * 1) (n0 - (Int.toNat x3_1)) (k0 - (Int.toNat x3_1))), (37, .bool r23)] rfl (by kernel_rfl) ?_
              cases b8 : (r23 : Bool) with
              | true =>
                have h := cT b8 h
                refine XR.runS E0_ok 1 1 [(0, sl 0 (i0 * 1) n0 k0), (3, ii x3_1), (37, .bool true), (38, sl 0 ((i0 + (Int.toNat x3_1)) * 1) (n0 - (Int.toNat x3_1)) (k0 - (Int.toNat x3_1)))] rfl (by kernel_rfl) ?_
                obtain ⟨r24, r24_h, h⟩ := bS h
                refine XR.call E0_ok [0, 3, 37, 39] rfl (K := 17) (args := [sl 0 ((i0 + (Int.toNat x3_1)) * 1) (n0 - (Int.toNat x3_1)) (k0 - (Int.toNat x3_1))]) (d := (some (path 12 39))) (by kernel_rfl) (KQ.call (KC.quiet E0_ok (args0 := [sl 0 ((i0 + (Int.toNat x3_1)) * 1) (n0 - (Int.toNat x3_1)) (k0 - (Int.toNat x3_1))]) (h0 := [(0, rc (encI .i64) b (z0 + ((rowC (encI .i64) b).length + 1)) y0 1)]) (n := 1) (V := .bool r24) [0] (hF (z0 + ((rowC (encI .i64) b).length + 1)) y0 (i0 + (Int.toNat x3_1)) (n0 - (Int.toNat x3_1)) (k0 - (Int.toNat x3_1)) b r24 r24_h) rfl (by rfl) (by decide) rfl (by kernel_rfl) ⟨⟨_, _, rfl, rfl, .inl ⟨rfl, rowC_scal (encI_ok .i64) _⟩⟩, trivial⟩) rfl) ?_
                rintro _ _ _ ⟨rfl, rfl, rfl⟩
                refine XR.conv (σ' := [(0, sl 0 (i0 * 1) n0 k0), (3, ii x3_1), (37, .bool true), (39, .bool r24)]) (h' := [(0, rc (encI .i64) b z0 y0 1)]) (c' := 1) ?_ (by kernel_rfl)
                refine XR.runS E0_ok 1 1 [(0, sl 0 (i0 * 1) n0 k0), (3, ii x3_1), (40, .bool r24)] rfl (by kernel_rfl) ?_
                refine XR.done (by kernel_rfl) ?_
                show XQ _ _ _ _ _ _ _ _
                cases b9 : (r24 : Bool) with
                | true =>
                  have h := cT b9 h
                  refine XQ.cond (s := (.tmp 40)) (b := true) (by kernel_rfl) (by kernel_rfl) (fun _ => ?_) (fun q => by cases q)
                  refine XQ.seq E0_ok (by kernel_rfl) ?_
                  refine XQ.region (by kernel_rfl) ?_
                  refine XR.runS E0_ok 1 1 [(2, .bool true)] rfl (by kernel_rfl) ?_
                  refine XR.done (by kernel_rfl) ?_
                  show XQ _ _ _ _ _ _ _ _
                  refine XQ.ren (σ' := [(2, .bool true)]) (h' := [(0, rc (encI .i64) b z0 y0 1)]) (c' := 1) [0] (by decide) rfl ⟨by kernel_rfl, trivial⟩ ⟨⟨_, _, rfl, rfl, .inl ⟨rfl, rowC_scal (encI_ok .i64) _⟩⟩, trivial⟩ rfl ?_
                  refine XQ.ret (by kernel_rfl) ?_
                  cases h
                  exact hQ
                | false =>
                  have h := cF b9 h
                  refine XQ.cond (s := (.tmp 40)) (b := false) (by kernel_rfl) (by kernel_rfl) (fun q => by cases q) (fun _ => ?_)
                  refine XQ.skip (by kernel_rfl) ?_
                  show XQ _ _ _ _ _ _ _ _
                  refine XQ.region (by kernel_rfl) ?_
                  refine XR.runS E0_ok 1 3 [(0, sl 0 (i0 * 1) n0 k0), (3, ii (w64 (x3_1 + 1)))] rfl (by kernel_rfl) ?_
                  refine XR.done (by kernel_rfl) ?_
                  show XL _ _ _ _ _ _ _ _ _
                  refine XL.ren (σ' := [(0, sl 0 (i0 * 1) n0 k0), (3, ii (w64 (x3_1 + 1)))]) (h' := [(0, rc (encI .i64) b z0 y0 1)]) (c' := 1) [0] (by decide) rfl ⟨by kernel_rfl, by kernel_rfl, trivial⟩ ⟨⟨_, _, rfl, rfl, .inl ⟨rfl, rowC_scal (encI_ok .i64) _⟩⟩, trivial⟩ rfl ?_
                  refine XL.conv (f17_1_ok m F hF fuel z0 y0 i0 n0 k0 b (w64 (x3_1 + 1)) o h Q hQ) (by first | with_reducible rfl | simp | rfl)
              | false =>
                have h := cF b8 h
                refine XR.runS E0_ok 1 3 [(0, sl 0 (i0 * 1) n0 k0), (3, ii x3_1), (40, .bool false)] rfl (by kernel_rfl) ?_
                refine XR.done (by kernel_rfl) ?_
                show XQ _ _ _ _ _ _ _ _
                refine XQ.cond (s := (.tmp 40)) (b := false) (by kernel_rfl) (by kernel_rfl) (fun q => by cases q) (fun _ => ?_)
                refine XQ.skip (by kernel_rfl) ?_
                show XQ _ _ _ _ _ _ _ _
                refine XQ.region (by kernel_rfl) ?_
                refine XR.runS E0_ok 1 3 [(0, sl 0 (i0 * 1) n0 k0), (3, ii (w64 (x3_1 + 1)))] rfl (by kernel_rfl) ?_
                refine XR.done (by kernel_rfl) ?_
                show XL _ _ _ _ _ _ _ _ _
                refine XL.ren (σ' := [(0, sl 0 (i0 * 1) n0 k0), (3, ii (w64 (x3_1 + 1)))]) (h' := [(0, rc (encI .i64) b z0 y0 1)]) (c' := 1) [0] (by decide) rfl ⟨by kernel_rfl, by kernel_rfl, trivial⟩ ⟨⟨_, _, rfl, rfl, .inl ⟨rfl, rowC_scal (encI_ok .i64) _⟩⟩, trivial⟩ rfl ?_
                refine XL.conv (f17_1_ok m F hF fuel z0 y0 i0 n0 k0 b (w64 (x3_1 + 1)) o h Q hQ) (by first | with_reducible rfl | simp | rfl)
            | false =>
              have h := cF b7 h
              refine XR.runS E0_ok 1 7 [(0, sl 0 (i0 * 1) n0 k0), (3, ii x3_1), (40, .bool false)] rfl (by kernel_rfl) ?_
              refine XR.done (by kernel_rfl) ?_
              show XQ _ _ _ _ _ _ _ _
              refine XQ.cond (s := (.tmp 40)) (b := false) (by kernel_rfl) (by kernel_rfl) (fun q => by cases q) (fun _ => ?_)
              refine XQ.skip (by kernel_rfl) ?_
              show XQ _ _ _ _ _ _ _ _
              refine XQ.region (by kernel_rfl) ?_
              refine XR.runS E0_ok 1 3 [(0, sl 0 (i0 * 1) n0 k0), (3, ii (w64 (x3_1 + 1)))] rfl (by kernel_rfl) ?_
              refine XR.done (by kernel_rfl) ?_
              show XL _ _ _ _ _ _ _ _ _
              refine XL.ren (σ' := [(0, sl 0 (i0 * 1) n0 k0), (3, ii (w64 (x3_1 + 1)))]) (h' := [(0, rc (encI .i64) b z0 y0 1)]) (c' := 1) [0] (by decide) rfl ⟨by kernel_rfl, by kernel_rfl, trivial⟩ ⟨⟨_, _, rfl, rfl, .inl ⟨rfl, rowC_scal (encI_ok .i64) _⟩⟩, trivial⟩ rfl ?_
              refine XL.conv (f17_1_ok m F hF fuel z0 y0 i0 n0 k0 b (w64 (x3_1 + 1)) o h Q hQ) (by first | with_reducible rfl | simp | rfl)
    | false =>
      have h := cF b1 h
      refine XQ.cond (s := (.tmp 12)) (b := false) (by kernel_rfl) (by kernel_rfl) (fun q => by cases q) (fun _ => ?_)
      refine XQ.ren (σ' := []) (h' := [(0, rc (encI .i64) b z0 y0 1)]) (c' := 1) [0] (by decide) rfl trivial ⟨⟨_, _, rfl, rfl, .inl ⟨rfl, rowC_scal (encI_ok .i64) _⟩⟩, trivial⟩ rfl ?_
      refine XQ.exit (i := 0) (by kernel_rfl) ?_
      cases h
      exact hQ

def f17 (m : Nat) : Nat → Nat → Nat → Nat → (List Int) → Option (Bool)
  | 0, _, _, _, _ => none
  | fuel + 1, i0, n0, k0, b =>
    cond (decide (((n0 : Nat) : Int) < 2)) (
      some (true)
    ) (
      (f17_1 m (f17 m fuel) m i0 n0 k0 b 1).bind fun o1 =>
        match o1 with
        | .r =>
          some (true)
        | .x0 =>
          some (false)
    )

theorem f17_ok (m : Nat) : ∀ (fuel : Nat) (z0 : Nat) (y0 : Nat) (i0 : Nat) (n0 : Nat) (k0 : Nat) (b : List Int) (o : Bool), f17 m fuel i0 n0 k0 b = some o → KC E0 17 [sl 0 (i0 * 1) n0 k0] [(0, rc (encI .i64) b z0 y0 1)] 1 (fun v _ _ => v = .bool o)
  | 0, z0, y0, i0, n0, k0, b, o, h => by cases h
  | fuel + 1, z0, y0, i0, n0, k0, b, o, h => by
    refine KC.bodyN E0_ok (F := Proofs.Tryz.f17) (by kernel_rfl) (code := f17_C17) (by kernel_rfl) (nt := 41) (by kernel_rfl) (rs := [.tmp 2]) (by kernel_rfl) (by kernel_rfl) (σ := [(0, sl 0 (i0 * 1) n0 k0)]) (by kernel_rfl) ?_
    unfold f17 at h
    refine XQ.seq E0_ok (by kernel_rfl) ?_
    refine XQ.region (by kernel_rfl) ?_
    refine XR.runS E0_ok 1 1 [(0, sl 0 (i0 * 1) n0 k0)] rfl (by kernel_rfl) ?_
    refine XR.done (by kernel_rfl) ?_
    show XQ _ _ _ _ _ _ _ _
    refine XQ.seq E0_ok (by kernel_rfl) ?_
    refine XQ.seq E0_ok (by kernel_rfl) ?_
    refine XQ.region (by kernel_rfl) ?_
    refine XR.runS E0_ok 1 3 [(0, sl 0 (i0 * 1) n0 k0), (8, .bool (decide (((n0 : Nat) : Int) < 2)))] rfl (by kernel_rfl) ?_
    refine XR.done (by kernel_rfl) ?_
    show XQ _ _ _ _ _ _ _ _
    cases b1 : (decide (((n0 : Nat) : Int) < 2) : Bool) with
    | true =>
      have h := cT b1 h
      refine XQ.cond (s := (.tmp 8)) (b := true) (by kernel_rfl) (by kernel_rfl) (fun _ => ?_) (fun q => by cases q)
      refine XQ.seq E0_ok (by kernel_rfl) ?_
      refine XQ.region (by kernel_rfl) ?_
      refine XR.runS E0_ok 1 1 [(2, .bool true)] rfl (by kernel_rfl) ?_
      refine XR.done (by kernel_rfl) ?_
      show XQ _ _ _ _ _ _ _ _
      refine XQ.ret (by kernel_rfl) ?_
      have h := Option.some.inj h
      subst h
      exact ⟨fun i q => (by cases q), .bool true, (by kernel_rfl), rfl⟩
    | false =>
      have h := cF b1 h
      refine XQ.cond (s := (.tmp 8)) (b := false) (by kernel_rfl) (by kernel_rfl) (fun q => by cases q) (fun _ => ?_)
      refine XQ.skip (by kernel_rfl) ?_
      show XQ _ _ _ _ _ _ _ _
      refine XQ.seq E0_ok (by kernel_rfl) ?_
      refine XQ.seq E0_ok (by kernel_rfl) ?_
      refine XQ.region (by kernel_rfl) ?_
      refine XR.runS E0_ok 1 1 [(0, sl 0 (i0 * 1) n0 k0), (3, ii 1)] rfl (by kernel_rfl) ?_
      refine XR.done (by kernel_rfl) ?_
      show XQ _ _ _ _ _ _ _ _
      refine XQ.block (id := 0) (by kernel_rfl) ?_
      refine XQ.loop m (by kernel_rfl) ?_
      obtain ⟨o1, o1_h, h⟩ := bS h
      refine XL.ren (σ' := [(0, sl 0 (i0 * 1) n0 k0), (3, ii 1)]) (h' := [(0, rc (encI .i64) b z0 y0 1)]) (c' := 1) [0] (by decide) rfl ⟨by kernel_rfl, by kernel_rfl, trivial⟩ ⟨⟨_, _, rfl, rfl, .inl ⟨rfl, rowC_scal (encI_ok .i64) _⟩⟩, trivial⟩ rfl ?_
      cases o1 with
      | r =>
        dsimp only at h
        refine XL.conv (f17_1_ok m (f17 m fuel) (f17_ok m fuel) m z0 y0 i0 n0 k0 b 1 (.r) o1_h _ ?_) (by first | with_reducible rfl | simp | rfl)
        have h := Option.some.inj h
        subst h
        exact ⟨fun i q => (by cases q), .bool true, (by kernel_rfl), rfl⟩
      | x0 =>
        dsimp only at h
        refine XL.conv (f17_1_ok m (f17 m fuel) (f17_ok m fuel) m z0 y0 i0 n0 k0 b 1 (.x0) o1_h _ ?_) (by first | with_reducible rfl | simp | rfl)
        show XQ _ _ _ _ _ _ _ _
        refine XQ.seq E0_ok (by kernel_rfl) ?_
        refine XQ.region (by kernel_rfl) ?_
        refine XR.runS E0_ok 1 1 [(2, .bool false)] rfl (by kernel_rfl) ?_
        refine XR.done (by kernel_rfl) ?_
        show XQ _ _ _ _ _ _ _ _
        refine XQ.ret (by kernel_rfl) ?_
        have h := Option.some.inj h
        subst h
        exact ⟨fun i q => (by cases q), .bool false, (by kernel_rfl), rfl⟩

/-! vitola/grade.From -/
noncomputable def f11_C11 : Code := Proofs.Tryz.f11.body.getD .skip
noncomputable def f11_C35 : Code := Proofs.Tryz.f35.body.getD .skip
noncomputable def f11_L1 : Code := lft (lft (rgt (lft (rgt (rgt (rgt (rgt f11_C11)))))))
noncomputable def f11_L2 : Code := lft (lft (rgt (lft (rgt (rgt (rgt (rgt (rgt f11_C11))))))))

def f11_1 (m : Nat) : Nat → List Int → Int → Int → Int → List Int → Option (Int × (List Int))
  | 0, _, _, _, _, _ => none
  | fuel + 1, a, x4_1, x18_1, x19_1, lh1_1 =>
    cond (decide (x19_1 < x18_1)) (
      cond (fitsB (lh1_1.length + 1) 8) (
        f11_1 m fuel a x4_1 x18_1 (w64 (x19_1 + 1)) (lh1_1 ++ [x19_1])
      ) none
    ) (
      some (x4_1, lh1_1)
    )

theorem f11_1_ok (m : Nat) : ∀ (fuel : Nat) (z0 : Nat) (y0 : Nat) (a : List Int) (x4_1 : Int) (x18_1 : Int) (x19_1 : Int) (lh1_1 : List Int) (o : (Int × (List Int))), f11_1 m fuel a x4_1 x18_1 x19_1 lh1_1 = some o → ∀ Q : QP, Q (.exit 1) [(0, s0 0 a.length), (4, ii o.1), (5, s0 1 o.2.length), (6, s0 2 0)] [(2, rc (encI .i64) [] 0 3 1), (1, rc (encI .i64) o.2 0 3 1), (0, rc (encI .i64) a z0 y0 1)] 3 → XL E0 57 1 fuel f11_L1 [(0, s0 0 a.length), (4, ii x4_1), (5, s0 1 lh1_1.length), (6, s0 2 0), (18, ii x18_1), (19, ii x19_1)] [(2, rc (encI .i64) [] 0 3 1), (1, rc (encI .i64) lh1_1 0 3 1), (0, rc (encI .i64) a z0 y0 1)] 3 Q
  | 0, z0, y0, a, x4_1, x18_1, x19_1, lh1_1, o, h, Q, hQ => by cases h
  | fuel + 1, z0, y0, a, x4_1, x18_1, x19_1, lh1_1, o, h, Q, hQ => by
    unfold f11_1 at h
    refine XL.succ E0_ok ?_
    refine XQ.seq E0_ok (by kernel_rfl) ?_
    refine XQ.region (by kernel_rfl) ?_
    refine XR.runS E0_ok 1 1 [(0, s0 0 a.length), (4, ii x4_1), (5, s0 1 lh1_1.length), (6, s0 2 0), (18, ii x18_1), (19, ii x19_1), (20, .bool (decide (x19_1 < x18_1)))] rfl (by kernel_rfl) ?_
    refine XR.done (by kernel_rfl) ?_
    show XQ _ _ _ _ _ _ _ _
    refine XQ.seq E0_ok (by kernel_rfl) ?_
    cases b1 : (decide (x19_1 < x18_1) : Bool) with
    | true =>
      have h := cT b1 h
      refine XQ.cond (s := (.tmp 20)) (b := true) (by kernel_rfl) (by kernel_rfl) (fun _ => ?_) (fun q => by cases q)
      refine XQ.skip (by kernel_rfl) ?_
      show XQ _ _ _ _ _ _ _ _
      refine XQ.seq E0_ok (by kernel_rfl) ?_
      refine XQ.block (id := 2) (by kernel_rfl) ?_
      refine XQ.seq E0_ok (by kernel_rfl) ?_
      refine XQ.region (by kernel_rfl) ?_
      refine XR.runS E0_ok 1 2 [(0, s0 0 a.length), (4, ii x4_1), (5, s0 1 lh1_1.length), (6, s0 2 0), (7, ii x19_1), (18, ii x18_1), (19, ii x19_1)] rfl (by kernel_rfl) ?_
      refine XR.done (by kernel_rfl) ?_
      show XQ _ _ _ _ _ _ _ _
      refine XQ.region (by kernel_rfl) ?_
      refine XR.runT E0_ok 1 3 [(0, s0 0 a.length), (4, ii x4_1), (6, s0 2 0), (18, ii x18_1), (19, ii x19_1), (22, s0 1 lh1_1.length), (24, s0 3 1)] [(3, .cells [ii x19_1] 0 3 1), (2, rc (encI .i64) [] 0 3 1), (1, rc (encI .i64) lh1_1 0 3 1), (0, rc (encI .i64) a z0 y0 1)] 4 rfl (by kernel_rfl) ?_
      cases b2 : (fitsB (lh1_1.length + 1) 8 : Bool) with
      | false => cases (cF b2 h)
      | true =>
        have h := cT b2 h
        refine XR.ef E0_ok [0, 4, 6, 18, 19, 25] rfl (e_append (encI_ok .i64) (bytes := 8) (e := 3) (x := (src 57 (.tmp 22))) (y := (src 57 (.tmp 24))) (b := 1) (len := lh1_1.length) (cap := lh1_1.length) (xs := lh1_1) (m := 0) (ys := [x19_1]) (d := (some (path 12 25))) (n' := (lh1_1 ++ [x19_1]).length) (h' := [(4, rc (encI .i64) (lh1_1 ++ [x19_1]) 0 3 1), (3, .cells [ii x19_1] 0 3 1), (2, rc (encI .i64) [] 0 3 1), (0, rc (encI .i64) a z0 y0 1)]) (by kernel_rfl) (by kernel_rfl) (by kernel_rfl) (by kernel_rfl) rfl (by simp) (by simp) b2 (by simp) (by kernel_rfl)) (σ' := [(0, s0 0 a.length), (4, ii x4_1), (6, s0 2 0), (18, ii x18_1), (19, ii x19_1), (25, s0 4 ((lh1_1 ++ [x19_1]).length))]) (by kernel_rfl) ?_
        refine XR.runS E0_ok 1 1 [(0, s0 0 a.length), (4, ii x4_1), (5, s0 4 ((lh1_1 ++ [x19_1]).length)), (6, s0 2 0), (18, ii x18_1), (19, ii x19_1)] rfl (by kernel_rfl) ?_
        refine XR.done (by kernel_rfl) ?_
        show XQ _ _ _ _ _ _ _ _
        refine XQ.region (by kernel_rfl) ?_
        refine XR.runS E0_ok 1 2 [(0, s0 0 a.length), (4, ii x4_1), (5, s0 4 ((lh1_1 ++ [x19_1]).length)), (6, s0 2 0), (18, ii x18_1), (19, ii (w64 (x19_1 + 1)))] rfl (by kernel_rfl) ?_
        refine XR.done (by kernel_rfl) ?_
        show XL _ _ _ _ _ _ _ _ _
        refine XL.ren (σ' := [(0, s0 0 a.length), (4, ii x4_1), (5, s0 1 ((lh1_1 ++ [x19_1]).length)), (6, s0 2 0), (18, ii x18_1), (19, ii (w64 (x19_1 + 1)))]) (h' := [(2, rc (encI .i64) [] 0 3 1), (1, rc (encI .i64) (lh1_1 ++ [x19_1]) 0 3 1), (0, rc (encI .i64) a z0 y0 1)]) (c' := 3) [0, 4, 2] (by decide) rfl ⟨by kernel_rfl, by kernel_rfl, by kernel_rfl, by kernel_rfl, by kernel_rfl, by kernel_rfl, trivial⟩ ⟨⟨_, _, rfl, rfl, .inl ⟨rfl, rowC_scal (encI_ok .i64) _⟩⟩, ⟨_, _, rfl, rfl, .inl ⟨rfl, rowC_scal (encI_ok .i64) _⟩⟩, ⟨_, _, rfl, rfl, .inl ⟨rfl, rowC_scal (encI_ok .i64) _⟩⟩, trivial⟩ rfl ?_
        refine XL.conv (f11_1_ok m fuel z0 y0 a x4_1 x18_1 (w64 (x19_1 + 1)) (lh1_1 ++ [x19_1]) o h Q hQ) (by first | with_reducible rfl | simp | rfl)
    | false =>
      have h := cF b1 h
      refine XQ.cond (s := (.tmp 20)) (b := false) (by kernel_rfl) (by kernel_rfl) (fun q => by cases q) (fun _ => ?_)
      refine XQ.ren (σ' := [(0, s0 0 a.length), (4, ii x4_1), (5, s0 1 lh1_1.length), (6, s0 2 0)]) (h' := [(2, rc (encI .i64) [] 0 3 1), (1, rc (encI .i64) lh1_1 0 3 1), (0, rc (encI .i64) a z0 y0 1)]) (c' := 3) [0, 1, 2] (by decide) rfl ⟨by kernel_rfl, by kernel_rfl, by kernel_rfl, by kernel_rfl, trivial⟩ ⟨⟨_, _, rfl, rfl, .inl ⟨rfl, rowC_scal (encI_ok .i64) _⟩⟩, ⟨_, _, rfl, rfl, .inl ⟨rfl, rowC_scal (encI_ok .i64) _⟩⟩, ⟨_, _, rfl, rfl, .inl ⟨rfl, rowC_scal (encI_ok .i64) _⟩⟩, trivial⟩ rfl ?_
      refine XQ.exit (i := 1) (by kernel_rfl) ?_
      cases h
      exact hQ

def f11_3 (m : Nat) (a : List Int) (lh1_2 : List Int) (x1_3 : Int) (x2_3 : Int) (xh3_0_3 : Int) (lh4_3 : List Int) : Option (List Int) :=
  cond (cutOK x1_3 x2_3 ((lh1_2.length : Nat) : Int) lh1_2.length) (
    cond (decide (0 < Int.toNat ((lh1_2.length : Nat) : Int) - (Int.toNat x1_3))) (
      cond (x1_3 == x2_3) (
        some (List.take lh1_2.length lh1_2)
      ) (
        cond (cutOK 0 x1_3 ((lh1_2.length : Nat) : Int) lh1_2.length) (
          cond (cutOK x2_3 ((lh1_2.length : Nat) : Int) ((lh1_2.length : Nat) : Int) lh1_2.length) (
            cond (decide (1 ≤ lh1_2.length)) (
              cond (decide ((Int.toNat x1_3) + (lh1_2.length - (Int.toNat x2_3)) ≤ lh1_2.length)) (
                cond (decide ((lh1_2.length - (Int.toNat x2_3)) ≤ (lh1_2.length - (Int.toNat x2_3)))) (
                  cond (decide ((Int.toNat x2_3) + (lh1_2.length - (Int.toNat x2_3)) ≤ lh1_2.length)) (
                    cond (cutOK (((Int.toNat x1_3) + (lh1_2.length - (Int.toNat x2_3)) : Nat) : Int) ((lh1_2.length : Nat) : Int) ((lh1_2.length : Nat) : Int) lh1_2.length) (
                      cond (decide ((Int.toNat (((Int.toNat x1_3) + (lh1_2.length - (Int.toNat x2_3)) : Nat) : Int)) + (Int.toNat ((lh1_2.length : Nat) : Int) - (Int.toNat (((Int.toNat x1_3) + (lh1_2.length - (Int.toNat x2_3)) : Nat) : Int))) ≤ (List.take (Int.toNat x1_3) lh1_2 ++ List.take (lh1_2.length - (Int.toNat x2_3)) (List.drop (Int.toNat x2_3) lh1_2) ++ List.drop ((Int.toNat x1_3) + (lh1_2.length - (Int.toNat x2_3))) lh1_2).length)) (
                        cond (decide ((Int.toNat x1_3) + (lh1_2.length - (Int.toNat x2_3)) ≤ (clearL 0 (List.take (Int.toNat x1_3) lh1_2 ++ List.take (lh1_2.length - (Int.toNat x2_3)) (List.drop (Int.toNat x2_3) lh1_2) ++ List.drop ((Int.toNat x1_3) + (lh1_2.length - (Int.toNat x2_3))) lh1_2) (Int.toNat (((Int.toNat x1_3) + (lh1_2.length - (Int.toNat x2_3)) : Nat) : Int)) (Int.toNat ((lh1_2.length : Nat) : Int) - (Int.toNat (((Int.toNat x1_3) + (lh1_2.length - (Int.toNat x2_3)) : Nat) : Int)))).length)) (
                          cond (decide ((Int.toNat x1_3) + (lh1_2.length - (Int.toNat x2_3)) ≤ lh1_2.length)) (
                            some (List.take ((Int.toNat x1_3) + (lh1_2.length - (Int.toNat x2_3))) (clearL 0 (List.take (Int.toNat x1_3) lh1_2 ++ List.take (lh1_2.length - (Int.toNat x2_3)) (List.drop (Int.toNat x2_3) lh1_2) ++ List.drop ((Int.toNat x1_3) + (lh1_2.length - (Int.toNat x2_3))) lh1_2) (Int.toNat (((Int.toNat x1_3) + (lh1_2.length - (Int.toNat x2_3)) : Nat) : Int)) (Int.toNat ((lh1_2.length : Nat) : Int) - (Int.toNat (((Int.toNat x1_3) + (lh1_2.length - (Int.toNat x2_3)) : Nat) : Int)))))
                          ) none
                        ) none
                      ) none
                    ) none
                  ) none
                ) none
              ) none
            ) none
          ) none
        ) none
      )
    ) none
  ) none

theorem f11_3_ok (m : Nat) (z0 : Nat) (y0 : Nat) (a : List Int) (lh1_2 : List Int) (x1_3 : Int) (x2_3 : Int) (xh3_0_3 : Int) (lh4_3 : List Int) (o : (List Int)) (h : f11_3 m a lh1_2 x1_3 x2_3 xh3_0_3 lh4_3 = some o) (R : Value → Heap → Nat → Prop) (hR : R (s0 1 o.length) [(4, rc (encI .i64) lh4_3 0 3 1), (3, .cells [ii xh3_0_3] 0 3 1), (1, rc (encI .i64) o 0 3 1), (0, rc (encI .i64) a z0 y0 1)] 5) : KC E0 35 [s0 1 lh1_2.length, ii x1_3, ii x2_3] [(4, rc (encI .i64) lh4_3 0 3 1), (3, .cells [ii xh3_0_3] 0 3 1), (1, rc (encI .i64) lh1_2 0 3 1), (0, rc (encI .i64) a z0 y0 1)] 5 R := by
  refine KC.shrink (encI_ok .i64) rfl (e := 3) 1 ?_
  refine KC.bodyN E0_ok (F := Proofs.Tryz.f35) (by kernel_rfl) (code := f11_C35) (by kernel_rfl) (nt := 33) (by kernel_rfl) (rs := [.tmp 6]) (by kernel_rfl) (by kernel_rfl) (σ := [(0, s0 1 lh1_2.length), (1, ii x1_3), (2, ii x2_3)]) (by kernel_rfl) ?_
  unfold f11_3 at h
  refine XQ.seq E0_ok (by kernel_rfl) ?_
  refine XQ.region (by kernel_rfl) ?_
  refine XR.runS E0_ok 1 1 [(0, s0 1 lh1_2.length), (1, ii x1_3), (2, ii x2_3)] rfl (by kernel_rfl) ?_
  refine XR.done (by kernel_rfl) ?_
  show XQ _ _ _ _ _ _ _ _
  refine XQ.seq E0_ok (by kernel_rfl) ?_
  refine XQ.region (by kernel_rfl) ?_
  refine XR.runS E0_ok 1 5 [(0, s0 1 lh1_2.length), (1, ii x1_3), (2, ii x2_3), (8, s0 1 lh1_2.length), (9, ii x1_3), (10, ii x2_3), (12, ii ((lh1_2.length : Nat) : Int))] rfl (by kernel_rfl) ?_
  cases b1 : (cutOK x1_3 x2_3 ((lh1_2.length : Nat) : Int) lh1_2.length : Bool) with
  | false => cases (cF b1 h)
  | true =>
    have h := cT b1 h
    cases b2 : (decide (0 < Int.toNat ((lh1_2.length : Nat) : Int) - (Int.toNat x1_3)) : Bool) with
    | false => cases (cF b2 h)
    | true =>
      have h := cT b2 h
      refine XR.rd E0_ok [0, 1, 2] rfl (v := sl 1 ((Int.toNat x1_3) * 1) (Int.toNat x2_3 - (Int.toNat x1_3)) (Int.toNat ((lh1_2.length : Nat) : Int) - (Int.toNat x1_3))) (v_cutM (nt := 33) (s := 1) (x := (src 33 (.tmp 8))) (lo := (some (.tmp 9))) (hi := (some (.tmp 10))) (mx := (some (.tmp 12))) (b := 1) (o := 0) (len := lh1_2.length) (cap := lh1_2.length) (l := (some x1_3)) (u := (some x2_3)) (m := (some ((lh1_2.length : Nat) : Int))) (cs := rowC (encI .i64) lh1_2) (fz := 0) (e := 3) (es := 1) (o' := (Int.toNat x1_3) * 1) (len' := Int.toNat x2_3 - (Int.toNat x1_3)) (cap' := Int.toNat ((lh1_2.length : Nat) : Int) - (Int.toNat x1_3)) (d := (some (path 12 13))) (by kernel_rfl) (by kernel_rfl) (by kernel_rfl) (by kernel_rfl) (by kernel_rfl) (by kernel_rfl) (by kernel_rfl) rfl b1 (by simpa using b2) (by simp only [Option.getD_none, Option.getD_some] <;> omega) (by simp only [Option.getD_none, Option.getD_some] <;> omega) (by simp only [Option.getD_none, Option.getD_some] <;> omega)) (σ' := [(0, s0 1 lh1_2.length), (1, ii x1_3), (2, ii x2_3)]) (by kernel_rfl) ?_
      refine XR.done (by kernel_rfl) ?_
      show XQ _ _ _ _ _ _ _ _
      refine XQ.seq E0_ok (by kernel_rfl) ?_
      refine XQ.seq E0_ok (by kernel_rfl) ?_
      refine XQ.region (by kernel_rfl) ?_
      refine XR.runS E0_ok 1 3 [(0, s0 1 lh1_2.length), (1, ii x1_3), (2, ii x2_3), (16, .bool (x1_3 == x2_3))] rfl (by kernel_rfl) ?_
      refine XR.done (by kernel_rfl) ?_
      show XQ _ _ _ _ _ _ _ _
      cases b3 : (x1_3 == x2_3 : Bool) with
      | true =>
        have h := cT b3 h
        refine XQ.cond (s := (.tmp 16)) (b := true) (by kernel_rfl) (by kernel_rfl) (fun _ => ?_) (fun q => by cases q)
        refine XQ.seq E0_ok (by kernel_rfl) ?_
        refine XQ.region (by kernel_rfl) ?_
        refine XR.runS E0_ok 1 2 [(6, s0 1 lh1_2.length)] rfl (by kernel_rfl) ?_
        refine XR.done (by kernel_rfl) ?_
        show XQ _ _ _ _ _ _ _ _
        refine XQ.ren (σ' := [(6, s0 1 lh1_2.length)]) (h' := [(4, rc (encI .i64) lh4_3 0 3 1), (3, .cells [ii xh3_0_3] 0 3 1), (1, rc (encI .i64) lh1_2 0 3 1), (0, rc (encI .i64) a z0 y0 1)]) (c' := 5) [0, 1, 2, 3, 4] (by decide) rfl ⟨by kernel_rfl, trivial⟩ ⟨⟨_, _, rfl, rfl, .inl ⟨rfl, rowC_scal (encI_ok .i64) _⟩⟩, ⟨_, _, rfl, rfl, .inr ⟨_, _, _, _, rfl, rfl⟩⟩, ⟨_, _, rfl, rfl, .inl ⟨rfl, rowC_scal (encI_ok .i64) _⟩⟩, ⟨_, _, rfl, rfl, .inl ⟨rfl, rowC_scal (encI_ok .i64) _⟩⟩, trivial⟩ rfl ?_
        refine XQ.ret (by kernel_rfl) ?_
        cases h
        exact ⟨fun i q => (by cases q), s0 1 lh1_2.length, (by kernel_rfl), lh1_2, lh1_2.length, lh1_2.length, [(4, rc (encI .i64) lh4_3 0 3 1), (3, .cells [ii xh3_0_3] 0 3 1), (1, rc (encI .i64) (List.take lh1_2.length lh1_2) 0 3 1), (0, rc (encI .i64) a z0 y0 1)], rfl, (by kernel_rfl), (Nat.le_refl _), (Nat.le_refl _), (by kernel_rfl), (by first | exact hR | simpa only [List.length_set] using hR)⟩
      | false =>
        have h := cF b3 h
        refine XQ.cond (s := (.tmp 16)) (b := false) (by kernel_rfl) (by kernel_rfl) (fun q => by cases q) (fun _ => ?_)
        refine XQ.skip (by kernel_rfl) ?_
        show XQ _ _ _ _ _ _ _ _
        refine XQ.seq E0_ok (by kernel_rfl) ?_
        refine XQ.region (by kernel_rfl) ?_
        refine XR.runS E0_ok 1 3 [(0, s0 1 lh1_2.length), (1, ii x1_3), (2, ii x2_3), (7, ii ((lh1_2.length : Nat) : Int))] rfl (by kernel_rfl) ?_
        refine XR.done (by kernel_rfl) ?_
        show XQ _ _ _ _ _ _ _ _
        refine XQ.seq E0_ok (by kernel_rfl) ?_
        refine XQ.tail E0_ok 6 (by kernel_rfl) (by kernel_rfl) ?_
        refine XS.step E0_ok 2 rfl [0, 2, 7, 20, 21] rfl (σ' := [(0, s0 1 lh1_2.length), (2, ii x2_3), (7, ii ((lh1_2.length : Nat) : Int)), (20, s0 1 lh1_2.length), (21, ii x1_3)]) (by kernel_rfl) ?_
        cases b4 : (cutOK 0 x1_3 ((lh1_2.length : Nat) : Int) lh1_2.length : Bool) with
        | false => cases (cF b4 h)
        | true =>
          have h := cT b4 h
          refine XS.rd E0_ok rfl [0, 2, 7, 22] rfl (v := sl 1 0 (Int.toNat x1_3) lh1_2.length) (v_cut (nt := 33) (s := 1) (x := (src 33 (.tmp 20))) (lo := none) (hi := (some (.tmp 21))) (mx := none) (b := 1) (o := 0) (len := lh1_2.length) (cap := lh1_2.length) (l := none) (u := (some x1_3)) (m := none) (cs := rowC (encI .i64) lh1_2) (fz := 0) (e := 3) (es := 1) (o' := 0) (len' := Int.toNat x1_3) (cap' := lh1_2.length) (d := (some (path 12 22))) (by kernel_rfl) (by kernel_rfl) (by kernel_rfl) (by kernel_rfl) (by kernel_rfl) (by kernel_rfl) (by kernel_rfl) rfl b4 (by simp only [Option.getD_none, Option.getD_some] <;> omega) (by simp only [Option.getD_none, Option.getD_some] <;> omega) (by simp only [Option.getD_none, Option.getD_some] <;> omega)) (σ' := [(0, s0 1 lh1_2.length), (2, ii x2_3), (7, ii ((lh1_2.length : Nat) : Int)), (22, sl 1 0 (Int.toNat x1_3) lh1_2.length)]) (by kernel_rfl) ?_
          refine XS.step E0_ok 2 rfl [7, 22, 23, 24] rfl (σ' := [(7, ii ((lh1_2.length : Nat) : Int)), (22, sl 1 0 (Int.toNat x1_3) lh1_2.length), (23, s0 1 lh1_2.length), (24, ii x2_3)]) (by kernel_rfl) ?_
          cases b5 : (cutOK x2_3 ((lh1_2.length : Nat) : Int) ((lh1_2.length : Nat) : Int) lh1_2.length : Bool) with
          | false => cases (cF b5 h)
          | true =>
            have h := cT b5 h
            refine XS.rd E0_ok rfl [7, 22, 25] rfl (v := sl 1 ((Int.toNat x2_3) * 1) (lh1_2.length - (Int.toNat x2_3)) (lh1_2.length - (Int.toNat x2_3))) (v_cut (nt := 33) (s := 1) (x := (src 33 (.tmp 23))) (lo := (some (.tmp 24))) (hi := none) (mx := none) (b := 1) (o := 0) (len := lh1_2.length) (cap := lh1_2.length) (l := (some x2_3)) (u := none) (m := none) (cs := rowC (encI .i64) lh1_2) (fz := 0) (e := 3) (es := 1) (o' := (Int.toNat x2_3) * 1) (len' := lh1_2.length - (Int.toNat x2_3)) (cap' := lh1_2.length - (Int.toNat x2_3)) (d := (some (path 12 25))) (by kernel_rfl) (by kernel_rfl) (by kernel_rfl) (by kernel_rfl) (by kernel_rfl) (by kernel_rfl) (by kernel_rfl) rfl b5 (by simp only [Option.getD_none, Option.getD_some] <;> omega) (by simp only [Option.getD_none, Option.getD_some] <;> omega) (by simp only [Option.getD_none, Option.getD_some] <;> omega)) (σ' := [(7, ii ((lh1_2.length : Nat) : Int)), (22, sl 1 0 (Int.toNat x1_3) lh1_2.length), (25, sl 1 ((Int.toNat x2_3) * 1) (lh1_2.length - (Int.toNat x2_3)) (lh1_2.length - (Int.toNat x2_3)))]) (by kernel_rfl) ?_
            refine XS.done (by kernel_rfl) ?_
            cases b6 : (decide (1 ≤ lh1_2.length) : Bool) with
            | false => cases (cF b6 h)
            | true =>
              have h := cT b6 h
              cases b7 : (decide ((Int.toNat x1_3) + (lh1_2.length - (Int.toNat x2_3)) ≤ lh1_2.length) : Bool) with
              | false => cases (cF b7 h)
              | true =>
                have h := cT b7 h
                cases b8 : (decide ((lh1_2.length - (Int.toNat x2_3)) ≤ (lh1_2.length - (Int.toNat x2_3))) : Bool) with
                | false => cases (cF b8 h)
                | true =>
                  have h := cT b8 h
                  cases b9 : (decide ((Int.toNat x2_3) + (lh1_2.length - (Int.toNat x2_3)) ≤ lh1_2.length) : Bool) with
                  | false => cases (cF b9 h)
                  | true =>
                    have h := cT b9 h
                    refine XR.appF E0_ok [7, 26] (d := (some (path 12 26))) (f := eAppend false 1 8 3 (src 33 (.tmp 22)) (src 33 (.tmp 25))) (.tmp 22) (.tmp 25) 23 23 1 rfl (by kernel_rfl) (by kernel_rfl) (by kernel_rfl) (e_appendF (encI_ok .i64) (x := (src 33 (.tmp 22))) (y := (src 33 (.tmp 25))) (b := 1) (n := Int.toNat x1_3) (cap := lh1_2.length) (xs := lh1_2) (e := 3) (Y := sl 1 ((Int.toNat x2_3) * 1) (lh1_2.length - (Int.toNat x2_3)) (lh1_2.length - (Int.toNat x2_3))) (m := lh1_2.length - (Int.toNat x2_3)) (ys := List.take (lh1_2.length - (Int.toNat x2_3)) (List.drop (Int.toNat x2_3) lh1_2)) (n' := (Int.toNat x1_3) + (lh1_2.length - (Int.toNat x2_3))) (h' := [(4, rc (encI .i64) lh4_3 0 3 1), (3, .cells [ii xh3_0_3] 0 3 1), (1, rc (encI .i64) (List.take (Int.toNat x1_3) lh1_2 ++ List.take (lh1_2.length - (Int.toNat x2_3)) (List.drop (Int.toNat x2_3) lh1_2) ++ List.drop ((Int.toNat x1_3) + (lh1_2.length - (Int.toNat x2_3))) lh1_2) 0 3 1), (0, rc (encI .i64) a z0 y0 1)]) (by kernel_rfl) (by kernel_rfl) (by kernel_rfl) (fetch_row (encI_ok .i64) (ys := lh1_2) (fz := 0) (e := 3) (es := 1) (by kernel_rfl) (Int.toNat x2_3) (lh1_2.length - (Int.toNat x2_3)) (lh1_2.length - (Int.toNat x2_3)) (lh1_2.length - (Int.toNat x2_3)) rfl (Nat.ble_eq_true_of_le (of_decide_eq_true b8)) (of_decide_eq_true b9) rfl) (by have := of_decide_eq_true b9; simp only [List.length_take, List.length_drop]; omega) rfl (of_decide_eq_true b6) (of_decide_eq_true b7) (of_decide_eq_true b7) rfl (by kernel_rfl)) (σ' := [(7, ii ((lh1_2.length : Nat) : Int)), (26, sl 1 0 ((Int.toNat x1_3) + (lh1_2.length - (Int.toNat x2_3))) lh1_2.length)]) (by kernel_rfl) ?_
                    refine XR.runS E0_ok 1 1 [(0, sl 1 0 ((Int.toNat x1_3) + (lh1_2.length - (Int.toNat x2_3))) lh1_2.length), (7, ii ((lh1_2.length : Nat) : Int))] rfl (by kernel_rfl) ?_
                    refine XR.done (by kernel_rfl) ?_
                    show XQ _ _ _ _ _ _ _ _
                    refine XQ.seq E0_ok (by kernel_rfl) ?_
                    refine XQ.region (by kernel_rfl) ?_
                    refine XR.runS E0_ok 1 4 [(0, sl 1 0 ((Int.toNat x1_3) + (lh1_2.length - (Int.toNat x2_3))) lh1_2.length), (27, sl 1 0 ((Int.toNat x1_3) + (lh1_2.length - (Int.toNat x2_3))) lh1_2.length), (29, ii (((Int.toNat x1_3) + (lh1_2.length - (Int.toNat x2_3)) : Nat) : Int)), (30, ii ((lh1_2.length : Nat) : Int))] rfl (by kernel_rfl) ?_
                    cases b10 : (cutOK (((Int.toNat x1_3) + (lh1_2.length - (Int.toNat x2_3)) : Nat) : Int) ((lh1_2.length : Nat) : Int) ((lh1_2.length : Nat) : Int) lh1_2.length : Bool) with
                    | false => cases (cF b10 h)
                    | true =>
                      have h := cT b10 h
                      refine XR.rd E0_ok [0, 31] rfl (v := sl 1 ((Int.toNat (((Int.toNat x1_3) + (lh1_2.length - (Int.toNat x2_3)) : Nat) : Int)) * 1) (Int.toNat ((lh1_2.length : Nat) : Int) - (Int.toNat (((Int.toNat x1_3) + (lh1_2.length - (Int.toNat x2_3)) : Nat) : Int))) (lh1_2.length - (Int.toNat (((Int.toNat x1_3) + (lh1_2.length - (Int.toNat x2_3)) : Nat) : Int)))) (v_cut (nt := 33) (s := 1) (x := (src 33 (.tmp 27))) (lo := (some (.tmp 29))) (hi := (some (.tmp 30))) (mx := none) (b := 1) (o := 0) (len := (Int.toNat x1_3) + (lh1_2.length - (Int.toNat x2_3))) (cap := lh1_2.length) (l := (some (((Int.toNat x1_3) + (lh1_2.length - (Int.toNat x2_3)) : Nat) : Int))) (u := (some ((lh1_2.length : Nat) : Int))) (m := none) (cs := rowC (encI .i64) (List.take (Int.toNat x1_3) lh1_2 ++ List.take (lh1_2.length - (Int.toNat x2_3)) (List.drop (Int.toNat x2_3) lh1_2) ++ List.drop ((Int.toNat x1_3) + (lh1_2.length - (Int.toNat x2_3))) lh1_2)) (fz := 0) (e := 3) (es := 1) (o' := (Int.toNat (((Int.toNat x1_3) + (lh1_2.length - (Int.toNat x2_3)) : Nat) : Int)) * 1) (len' := Int.toNat ((lh1_2.length : Nat) : Int) - (Int.toNat (((Int.toNat x1_3) + (lh1_2.length - (Int.toNat x2_3)) : Nat) : Int))) (cap' := lh1_2.length - (Int.toNat (((Int.toNat x1_3) + (lh1_2.length - (Int.toNat x2_3)) : Nat) : Int))) (d := (some (path 12 31))) (by kernel_rfl) (by kernel_rfl) (by kernel_rfl) (by kernel_rfl) (by kernel_rfl) (by kernel_rfl) (by kernel_rfl) rfl b10 (by simp only [Option.getD_none, Option.getD_some] <;> omega) (by simp only [Option.getD_none, Option.getD_some] <;> omega) (by simp only [Option.getD_none, Option.getD_some] <;> omega)) (σ' := [(0, sl 1 0 ((Int.toNat x1_3) + (lh1_2.length - (Int.toNat x2_3))) lh1_2.length), (31, sl 1 ((Int.toNat (((Int.toNat x1_3) + (lh1_2.length - (Int.toNat x2_3)) : Nat) : Int)) * 1) (Int.toNat ((lh1_2.length : Nat) : Int) - (Int.toNat (((Int.toNat x1_3) + (lh1_2.length - (Int.toNat x2_3)) : Nat) : Int))) (lh1_2.length - (Int.toNat (((Int.toNat x1_3) + (lh1_2.length - (Int.toNat x2_3)) : Nat) : Int))))]) (by kernel_rfl) ?_
                      cases b11 : (decide ((Int.toNat (((Int.toNat x1_3) + (lh1_2.length - (Int.toNat x2_3)) : Nat) : Int)) + (Int.toNat ((lh1_2.length : Nat) : Int) - (Int.toNat (((Int.toNat x1_3) + (lh1_2.length - (Int.toNat x2_3)) : Nat) : Int))) ≤ (List.take (Int.toNat x1_3) lh1_2 ++ List.take (lh1_2.length - (Int.toNat x2_3)) (List.drop (Int.toNat x2_3) lh1_2) ++ List.drop ((Int.toNat x1_3) + (lh1_2.length - (Int.toNat x2_3))) lh1_2).length) : Bool) with
                      | false => cases (cF b11 h)
                      | true =>
                        have h := cT b11 h
                        refine XR.ef E0_ok [0] rfl (e_clear (encI_ok .i64) (z := #[ii 0]) (x := (src 33 (.tmp 31))) (b := 1) (o := (Int.toNat (((Int.toNat x1_3) + (lh1_2.length - (Int.toNat x2_3)) : Nat) : Int)) * 1) (len := Int.toNat ((lh1_2.length : Nat) : Int) - (Int.toNat (((Int.toNat x1_3) + (lh1_2.length - (Int.toNat x2_3)) : Nat) : Int))) (cap := lh1_2.length - (Int.toNat (((Int.toNat x1_3) + (lh1_2.length - (Int.toNat x2_3)) : Nat) : Int))) (xs := List.take (Int.toNat x1_3) lh1_2 ++ List.take (lh1_2.length - (Int.toNat x2_3)) (List.drop (Int.toNat x2_3) lh1_2) ++ List.drop ((Int.toNat x1_3) + (lh1_2.length - (Int.toNat x2_3))) lh1_2) (e := 3) (es := 1) (d := none) (h' := [(4, rc (encI .i64) lh4_3 0 3 1), (3, .cells [ii xh3_0_3] 0 3 1), (1, rc (encI .i64) (clearL 0 (List.take (Int.toNat x1_3) lh1_2 ++ List.take (lh1_2.length - (Int.toNat x2_3)) (List.drop (Int.toNat x2_3) lh1_2) ++ List.drop ((Int.toNat x1_3) + (lh1_2.length - (Int.toNat x2_3))) lh1_2) (Int.toNat (((Int.toNat x1_3) + (lh1_2.length - (Int.toNat x2_3)) : Nat) : Int)) (Int.toNat ((lh1_2.length : Nat) : Int) - (Int.toNat (((Int.toNat x1_3) + (lh1_2.length - (Int.toNat x2_3)) : Nat) : Int)))) 0 3 1), (0, rc (encI .i64) a z0 y0 1)]) (by kernel_rfl) (by kernel_rfl) (by kernel_rfl) (Int.toNat (((Int.toNat x1_3) + (lh1_2.length - (Int.toNat x2_3)) : Nat) : Int)) 0 rfl rfl (by first | with_reducible rfl | omega | rfl) b11 (by kernel_rfl)) (σ' := [(0, sl 1 0 ((Int.toNat x1_3) + (lh1_2.length - (Int.toNat x2_3))) lh1_2.length)]) (by kernel_rfl) ?_
                        refine XR.done (by kernel_rfl) ?_
                        show XQ _ _ _ _ _ _ _ _
                        refine XQ.seq E0_ok (by kernel_rfl) ?_
                        refine XQ.region (by kernel_rfl) ?_
                        refine XR.runS E0_ok 1 2 [(6, sl 1 0 ((Int.toNat x1_3) + (lh1_2.length - (Int.toNat x2_3))) lh1_2.length)] rfl (by kernel_rfl) ?_
                        refine XR.done (by kernel_rfl) ?_
                        show XQ _ _ _ _ _ _ _ _
                        refine XQ.ren (σ' := [(6, sl 1 0 ((Int.toNat x1_3) + (lh1_2.length - (Int.toNat x2_3))) lh1_2.length)]) (h' := [(4, rc (encI .i64) lh4_3 0 3 1), (3, .cells [ii xh3_0_3] 0 3 1), (1, rc (encI .i64) (clearL 0 (List.take (Int.toNat x1_3) lh1_2 ++ List.take (lh1_2.length - (Int.toNat x2_3)) (List.drop (Int.toNat x2_3) lh1_2) ++ List.drop ((Int.toNat x1_3) + (lh1_2.length - (Int.toNat x2_3))) lh1_2) (Int.toNat (((Int.toNat x1_3) + (lh1_2.length - (Int.toNat x2_3)) : Nat) : Int)) (Int.toNat ((lh1_2.length : Nat) : Int) - (Int.toNat (((Int.toNat x1_3) + (lh1_2.length - (Int.toNat x2_3)) : Nat) : Int)))) 0 3 1), (0, rc (encI .i64) a z0 y0 1)]) (c' := 5) [0, 1, 2, 3, 4] (by decide) rfl ⟨by kernel_rfl, trivial⟩ ⟨⟨_, _, rfl, rfl, .inl ⟨rfl, rowC_scal (encI_ok .i64) _⟩⟩, ⟨_, _, rfl, rfl, .inr ⟨_, _, _, _, rfl, rfl⟩⟩, ⟨_, _, rfl, rfl, .inl ⟨rfl, rowC_scal (encI_ok .i64) _⟩⟩, ⟨_, _, rfl, rfl, .inl ⟨rfl, rowC_scal (encI_ok .i64) _⟩⟩, trivial⟩ rfl ?_
                        refine XQ.ret (by kernel_rfl) ?_
                        cases b12 : (decide ((Int.toNat x1_3) + (lh1_2.length - (Int.toNat x2_3)) ≤ (clearL 0 (List.take (Int.toNat x1_3) lh1_2 ++ List.take (lh1_2.length - (Int.toNat x2_3)) (List.drop (Int.toNat x2_3) lh1_2) ++ List.drop ((Int.toNat x1_3) + (lh1_2.length - (Int.toNat x2_3))) lh1_2) (Int.toNat (((Int.toNat x1_3) + (lh1_2.length - (Int.toNat x2_3)) : Nat) : Int)) (Int.toNat ((lh1_2.length : Nat) : Int) - (Int.toNat (((Int.toNat x1_3) + (lh1_2.length - (Int.toNat x2_3)) : Nat) : Int)))).length) : Bool) with
                        | false => cases (cF b12 h)
                        | true =>
                          have h := cT b12 h
                          cases b13 : (decide ((Int.toNat x1_3) + (lh1_2.length - (Int.toNat x2_3)) ≤ lh1_2.length) : Bool) with
                          | false => cases (cF b13 h)
                          | true =>
                            have h := cT b13 h
                            cases h
                            exact ⟨fun i q => (by cases q), sl 1 0 ((Int.toNat x1_3) + (lh1_2.length - (Int.toNat x2_3))) lh1_2.length, (by kernel_rfl), clearL 0 (List.take (Int.toNat x1_3) lh1_2 ++ List.take (lh1_2.length - (Int.toNat x2_3)) (List.drop (Int.toNat x2_3) lh1_2) ++ List.drop ((Int.toNat x1_3) + (lh1_2.length - (Int.toNat x2_3))) lh1_2) (Int.toNat (((Int.toNat x1_3) + (lh1_2.length - (Int.toNat x2_3)) : Nat) : Int)) (Int.toNat ((lh1_2.length : Nat) : Int) - (Int.toNat (((Int.toNat x1_3) + (lh1_2.length - (Int.toNat x2_3)) : Nat) : Int))), (Int.toNat x1_3) + (lh1_2.length - (Int.toNat x2_3)), lh1_2.length, [(4, rc (encI .i64) lh4_3 0 3 1), (3, .cells [ii xh3_0_3] 0 3 1), (1, rc (encI .i64) (List.take ((Int.toNat x1_3) + (lh1_2.length - (Int.toNat x2_3))) (clearL 0 (List.take (Int.toNat x1_3) lh1_2 ++ List.take (lh1_2.length - (Int.toNat x2_3)) (List.drop (Int.toNat x2_3) lh1_2) ++ List.drop ((Int.toNat x1_3) + (lh1_2.length - (Int.toNat x2_3))) lh1_2) (Int.toNat (((Int.toNat x1_3) + (lh1_2.length - (Int.toNat x2_3)) : Nat) : Int)) (Int.toNat ((lh1_2.length : Nat) : Int) - (Int.toNat (((Int.toNat x1_3) + (lh1_2.length - (Int.toNat x2_3)) : Nat) : Int))))) 0 3 1), (0, rc (encI .i64) a z0 y0 1)], rfl, (by kernel_rfl), (of_decide_eq_true b12), (of_decide_eq_true b13), (by kernel_rfl), (by first | exact hR | simpa only [List.length_set] using hR)⟩

inductive Of11_2 where
  | r
  | x3 (lh1_x32 : List Int)

def f11_2 (m : Nat) : Nat → List Int → Int → Int → Int → List Int → List Int → Option Of11_2
  | 0, _, _, _, _, _, _ => none
  | fuel + 1, a, x4_2, x28_2, x29_2, lh1_2, lh2_2 =>
    cond (decide (x29_2 < x28_2)) (
      cond (inRow x29_2 a.length) (
        cond (decide ((List.getD a (Int.toNat x29_2) 0) < 0)) (
          some (.r)
        ) (
          cond (decide ((List.getD a (Int.toNat x29_2) 0) ≥ (w64 (x4_2 - x29_2)))) (
            some (.r)
          ) (
            cond (inRow (List.getD a (Int.toNat x29_2) 0) lh1_2.length) (
              cond (fitsB (lh2_2.length + 1) 8) (
                (f11_3 m a lh1_2 (List.getD a (Int.toNat x29_2) 0) (w64 ((List.getD a (Int.toNat x29_2) 0) + 1)) (List.getD lh1_2 (Int.toNat (List.getD a (Int.toNat x29_2) 0)) 0) (lh2_2 ++ [List.getD lh1_2 (Int.toNat (List.getD a (Int.toNat x29_2) 0)) 0])).bind fun o3 =>
                  f11_2 m fuel a x4_2 x28_2 (w64 (x29_2 + 1)) o3 (lh2_2 ++ [List.getD lh1_2 (Int.toNat (List.getD a (Int.toNat x29_2) 0)) 0])
              ) none
            ) none
          )
        )
      ) none
    ) (
      some (.x3 lh2_2)
    )

theorem f11_2_ok (m : Nat) : ∀ (fuel : Nat) (z0 : Nat) (y0 : Nat) (a : List Int) (x4_2 : Int) (x28_2 : Int) (x29_2 : Int) (lh1_2 : List Int) (lh2_2 : List Int) (o : Of11_2), f11_2 m fuel a x4_2 x28_2 x29_2 lh1_2 lh2_2 = some o → ∀ Q : QP, (match o with | .r => Q .ret [(2, s0 1 0), (3, ii 1)] [(1, rc (encI .i64) [] 0 3 1), (0, rc (encI .i64) a z0 y0 1)] 2 | .x3 lh1_x32 => Q (.exit 3) [(6, s0 1 lh1_x32.length)] [(1, rc (encI .i64) lh1_x32 0 3 1), (0, rc (encI .i64) a z0 y0 1)] 2) → XL E0 57 1 fuel f11_L2 [(4, ii x4_2), (5, s0 1 lh1_2.length), (6, s0 2 lh2_2.length), (27, s0 0 a.length), (28, ii x28_2), (29, ii x29_2)] [(2, rc (encI .i64) lh2_2 0 3 1), (1, rc (encI .i64) lh1_2 0 3 1), (0, rc (encI .i64) a z0 y0 1)] 3 Q
  | 0, z0, y0, a, x4_2, x28_2, x29_2, lh1_2, lh2_2, o, h, Q, hQ => by cases h
  | fuel + 1, z0, y0, a, x4_2, x28_2, x29_2, lh1_2, lh2_2, o, h, Q, hQ => by
    unfold f11_2 at h
    refine XL.succ E0_ok ?_
    refine XQ.seq E0_ok (by kernel_rfl) ?_
    refine XQ.region (by kernel_rfl) ?_
    refine XR.runS E0_ok 1 1 [(4, ii x4_2), (5, s0 1 lh1_2.length), (6, s0 2 lh2_2.length), (27, s0 0 a.length), (28, ii x28_2), (29, ii x29_2), (30, .bool (decide (x29_2 < x28_2)))] rfl (by kernel_rfl) ?_
    refine XR.done (by kernel_rfl) ?_
    show XQ _ _ _ _ _ _ _ _
    refine XQ.seq E0_ok (by kernel_rfl) ?_
    cases b1 : (decide (x29_2 < x28_2) : Bool) with
    | true =>
      have h := cT b1 h
      refine XQ.cond (s := (.tmp 30)) (b := true) (by kernel_rfl) (by kernel_rfl) (fun _ => ?_) (fun q => by cases q)
      refine XQ.skip (by kernel_rfl) ?_
      show XQ _ _ _ _ _ _ _ _
      refine XQ.seq E0_ok (by kernel_rfl) ?_
      refine XQ.block (id := 4) (by kernel_rfl) ?_
      refine XQ.seq E0_ok (by kernel_rfl) ?_
      refine XQ.region (by kernel_rfl) ?_
      refine XR.runS E0_ok 1 1 [(4, ii x4_2), (5, s0 1 lh1_2.length), (6, s0 2 lh2_2.length), (27, s0 0 a.length), (28, ii x28_2), (29, ii x29_2), (31, ii x29_2)] rfl (by kernel_rfl) ?_
      cases b2 : (inRow x29_2 a.length : Bool) with
      | false => cases (cF b2 h)
      | true =>
        have h := cT b2 h
        refine XR.rd E0_ok [4, 5, 6, 27, 28, 29, 31, 32] rfl (v := pp 0 ((Int.toNat x29_2) * 1)) (v_idx (s := 1) (x := (src 57 (.tmp 27))) (y := (src 57 (.tmp 29))) (b := 0) (o := 0) (len := a.length) (cap := a.length) (ik := .i64) (i := x29_2) (off := (Int.toNat x29_2) * 1) (d := (some (path 12 32))) (by kernel_rfl) (by kernel_rfl) (by kernel_rfl) b2 (by omega)) (σ' := [(4, ii x4_2), (5, s0 1 lh1_2.length), (6, s0 2 lh2_2.length), (27, s0 0 a.length), (28, ii x28_2), (29, ii x29_2), (31, ii x29_2), (32, pp 0 ((Int.toNat x29_2) * 1))]) (by kernel_rfl) ?_
        refine XR.rd E0_ok [4, 5, 6, 27, 28, 29, 31, 33] rfl (v := ii (List.getD a (Int.toNat x29_2) 0)) (v_load1 (encI_ok .i64) (x := (src 57 (.tmp 32))) (b := 0) (off := (Int.toNat x29_2) * 1) (xs := a) (fz := z0) (e := y0) (es := 1) (d := (some (path 12 33))) (by kernel_rfl) (by kernel_rfl) (by kernel_rfl) (Int.toNat x29_2) 0 0 (by first | with_reducible rfl | omega | rfl) (row_len (inRow_toNat b2) (by simp)) rfl rfl) (σ' := [(4, ii x4_2), (5, s0 1 lh1_2.length), (6, s0 2 lh2_2.length), (27, s0 0 a.length), (28, ii x28_2), (29, ii x29_2), (31, ii x29_2), (33, ii (List.getD a (Int.toNat x29_2) 0))]) (by kernel_rfl) ?_
        refine XR.runS E0_ok 1 2 [(4, ii x4_2), (5, s0 1 lh1_2.length), (6, s0 2 lh2_2.length), (8, ii x29_2), (9, ii (List.getD a (Int.toNat x29_2) 0)), (27, s0 0 a.length), (28, ii x28_2), (29, ii x29_2)] rfl (by kernel_rfl) ?_
        refine XR.done (by kernel_rfl) ?_
        show XQ _ _ _ _ _ _ _ _
        refine XQ.seq E0_ok (by kernel_rfl) ?_
        refine XQ.seq E0_ok (by kernel_rfl) ?_
        refine XQ.region (by kernel_rfl) ?_
        refine XR.runS E0_ok 1 3 [(4, ii x4_2), (5, s0 1 lh1_2.length), (6, s0 2 lh2_2.length), (8, ii x29_2), (9, ii (List.getD a (Int.toNat x29_2) 0)), (27, s0 0 a.length), (28, ii x28_2), (29, ii x29_2), (36, .bool (decide ((List.getD a (Int.toNat x29_2) 0) < 0)))] rfl (by kernel_rfl) ?_
        cases b3 : (decide ((List.getD a (Int.toNat x29_2) 0) < 0) : Bool) with
        | true =>
          have h := cT b3 h
          refine XR.runS E0_ok 1 6 [(4, ii x4_2), (5, s0 1 lh1_2.length), (6, s0 2 lh2_2.length), (9, ii (List.getD a (Int.toNat x29_2) 0)), (27, s0 0 a.length), (28, ii x28_2), (29, ii x29_2), (42, .bool true)] rfl (by kernel_rfl) ?_
          refine XR.done (by kernel_rfl) ?_
          show XQ _ _ _ _ _ _ _ _
          refine XQ.cond (s := (.tmp 42)) (b := true) (by kernel_rfl) (by kernel_rfl) (fun _ => ?_) (fun q => by cases q)
          refine XQ.seq E0_ok (by kernel_rfl) ?_
          refine XQ.region (by kernel_rfl) ?_
          refine XR.runS E0_ok 1 2 [(2, .slice none 0 0), (3, ii 1)] rfl (by kernel_rfl) ?_
          refine XR.done (by kernel_rfl) ?_
          show XQ _ _ _ _ _ _ _ _
          refine XQ.ghost 3 1 rfl (σ' := [(2, s0 3 0), (3, ii 1)]) (h' := [(2, rc (encI .i64) lh2_2 0 3 1), (1, rc (encI .i64) lh1_2 0 3 1), (0, rc (encI .i64) a z0 y0 1)]) ⟨by kernel_rfl, by kernel_rfl, trivial⟩ ⟨⟨_, rfl, .inl rfl⟩, ⟨_, rfl, .inl rfl⟩, ⟨_, rfl, .inl rfl⟩, trivial⟩ ?_
          refine XQ.conv (σ' := [(2, s0 3 0), (3, ii 1)]) (h' := [(3, rc (encI .i64) [] 0 3 1), (2, rc (encI .i64) lh2_2 0 3 1), (1, rc (encI .i64) lh1_2 0 3 1), (0, rc (encI .i64) a z0 y0 1)]) (c' := 4) ?_ (by kernel_rfl)
          refine XQ.ren (σ' := [(2, s0 1 0), (3, ii 1)]) (h' := [(1, rc (encI .i64) [] 0 3 1), (0, rc (encI .i64) a z0 y0 1)]) (c' := 2) [0, 3] (by decide) rfl ⟨by kernel_rfl, by kernel_rfl, trivial⟩ ⟨⟨_, _, rfl, rfl, .inl ⟨rfl, rowC_scal (encI_ok .i64) _⟩⟩, ⟨_, _, rfl, rfl, .inl ⟨rfl, rowC_scal (encI_ok .i64) _⟩⟩, trivial⟩ rfl ?_
          refine XQ.ret (by kernel_rfl) ?_
          cases h
          exact hQ
        | false =>
          have h := cF b3 h
          refine XR.runS E0_ok 1 6 [(4, ii x4_2), (5, s0 1 lh1_2.length), (6, s0 2 lh2_2.length), (9, ii (List.getD a (Int.toNat x29_2) 0)), (27, s0 0 a.length), (28, ii x28_2), (29, ii x29_2), (42, .bool (decide ((List.getD a (Int.toNat x29_2) 0) ≥ (w64 (x4_2 - x29_2)))))] rfl (by kernel_rfl) ?_
          refine XR.done (by kernel_rfl) ?_
          show XQ _ _ _ _ _ _ _ _
          cases b4 : (decide ((List.getD a (Int.toNat x29_2) 0) ≥ (w64 (x4_2 - x29_2))) : Bool) with
          | true =>
            have h := cT b4 h
            refine XQ.cond (s := (.tmp 42)) (b := true) (by kernel_rfl) (by kernel_rfl) (fun _ => ?_) (fun q => by cases q)
            refine XQ.seq E0_ok (by kernel_rfl) ?_
            refine XQ.region (by kernel_rfl) ?_
            refine XR.runS E0_ok 1 2 [(2, .slice none 0 0), (3, ii 1)] rfl (by kernel_rfl) ?_
            refine XR.done (by kernel_rfl) ?_
            show XQ _ _ _ _ _ _ _ _
            refine XQ.ghost 3 1 rfl (σ' := [(2, s0 3 0), (3, ii 1)]) (h' := [(2, rc (encI .i64) lh2_2 0 3 1), (1, rc (encI .i64) lh1_2 0 3 1), (0, rc (encI .i64) a z0 y0 1)]) ⟨by kernel_rfl, by kernel_rfl, trivial⟩ ⟨⟨_, rfl, .inl rfl⟩, ⟨_, rfl, .inl rfl⟩, ⟨_, rfl, .inl rfl⟩, trivial⟩ ?_
            refine XQ.conv (σ' := [(2, s0 3 0), (3, ii 1)]) (h' := [(3, rc (encI .i64) [] 0 3 1), (2, rc (encI .i64) lh2_2 0 3 1), (1, rc (encI .i64) lh1_2 0 3 1), (0, rc (encI .i64) a z0 y0 1)]) (c' := 4) ?_ (by kernel_rfl)
            refine XQ.ren (σ' := [(2, s0 1 0), (3, ii 1)]) (h' := [(1, rc (encI .i64) [] 0 3 1), (0, rc (encI .i64) a z0 y0 1)]) (c' := 2) [0, 3] (by decide) rfl ⟨by kernel_rfl, by kernel_rfl, trivial⟩ ⟨⟨_, _, rfl, rfl, .inl ⟨rfl, rowC_scal (encI_ok .i64) _⟩⟩, ⟨_, _, rfl, rfl, .inl ⟨rfl, rowC_scal (encI_ok .i64) _⟩⟩, trivial⟩ rfl ?_
            refine XQ.ret (by kernel_rfl) ?_
            cases h
            exact hQ
          | false =>
            have h := cF b4 h
            refine XQ.cond (s := (.tmp 42)) (b := false) (by kernel_rfl) (by kernel_rfl) (fun q => by cases q) (fun _ => ?_)
            refine XQ.skip (by kernel_rfl) ?_
            show XQ _ _ _ _ _ _ _ _
            refine XQ.seq E0_ok (by kernel_rfl) ?_
            refine XQ.region (by kernel_rfl) ?_
            refine XR.runS E0_ok 1 3 [(4, ii x4_2), (5, s0 1 lh1_2.length), (9, ii (List.getD a (Int.toNat x29_2) 0)), (27, s0 0 a.length), (28, ii x28_2), (29, ii x29_2), (43, s0 2 lh2_2.length), (44, s0 1 lh1_2.length), (45, ii (List.getD a (Int.toNat x29_2) 0))] rfl (by kernel_rfl) ?_
            cases b5 : (inRow (List.getD a (Int.toNat x29_2) 0) lh1_2.length : Bool) with
            | false => cases (cF b5 h)
            | true =>
              have h := cT b5 h
              refine XR.rd E0_ok [4, 5, 9, 27, 28, 29, 43, 46] rfl (v := pp 1 ((Int.toNat (List.getD a (Int.toNat x29_2) 0)) * 1)) (v_idx (s := 1) (x := (src 57 (.tmp 44))) (y := (src 57 (.tmp 45))) (b := 1) (o := 0) (len := lh1_2.length) (cap := lh1_2.length) (ik := .i64) (i := List.getD a (Int.toNat x29_2) 0) (off := (Int.toNat (List.getD a (Int.toNat x29_2) 0)) * 1) (d := (some (path 12 46))) (by kernel_rfl) (by kernel_rfl) (by kernel_rfl) b5 (by omega)) (σ' := [(4, ii x4_2), (5, s0 1 lh1_2.length), (9, ii (List.getD a (Int.toNat x29_2) 0)), (27, s0 0 a.length), (28, ii x28_2), (29, ii x29_2), (43, s0 2 lh2_2.length), (46, pp 1 ((Int.toNat (List.getD a (Int.toNat x29_2) 0)) * 1))]) (by kernel_rfl) ?_
              refine XR.rd E0_ok [4, 5, 9, 27, 28, 29, 43, 47] rfl (v := ii (List.getD lh1_2 (Int.toNat (List.getD a (Int.toNat x29_2) 0)) 0)) (v_load1 (encI_ok .i64) (x := (src 57 (.tmp 46))) (b := 1) (off := (Int.toNat (List.getD a (Int.toNat x29_2) 0)) * 1) (xs := lh1_2) (fz := 0) (e := 3) (es := 1) (d := (some (path 12 47))) (by kernel_rfl) (by kernel_rfl) (by kernel_rfl) (Int.toNat (List.getD a (Int.toNat x29_2) 0)) 0 0 (by first | with_reducible rfl | omega | rfl) (row_len (inRow_toNat b5) (by simp)) rfl rfl) (σ' := [(4, ii x4_2), (5, s0 1 lh1_2.length), (9, ii (List.getD a (Int.toNat x29_2) 0)), (27, s0 0 a.length), (28, ii x28_2), (29, ii x29_2), (43, s0 2 lh2_2.length), (47, ii (List.getD lh1_2 (Int.toNat (List.getD a (Int.toNat x29_2) 0)) 0))]) (by kernel_rfl) ?_
              refine XR.runT E0_ok 1 1 [(4, ii x4_2), (5, s0 1 lh1_2.length), (9, ii (List.getD a (Int.toNat x29_2) 0)), (27, s0 0 a.length), (28, ii x28_2), (29, ii x29_2), (43, s0 2 lh2_2.length), (48, s0 3 1)] [(3, .cells [ii (List.getD lh1_2 (Int.toNat (List.getD a (Int.toNat x29_2) 0)) 0)] 0 3 1), (2, rc (encI .i64) lh2_2 0 3 1), (1, rc (encI .i64) lh1_2 0 3 1), (0, rc (encI .i64) a z0 y0 1)] 4 rfl (by kernel_rfl) ?_
              cases b6 : (fitsB (lh2_2.length + 1) 8 : Bool) with
              | false => cases (cF b6 h)
              | true =>
                have h := cT b6 h
                refine XR.ef E0_ok [4, 5, 9, 27, 28, 29, 49] rfl (e_append (encI_ok .i64) (bytes := 8) (e := 3) (x := (src 57 (.tmp 43))) (y := (src 57 (.tmp 48))) (b := 2) (len := lh2_2.length) (cap := lh2_2.length) (xs := lh2_2) (m := 0) (ys := [List.getD lh1_2 (Int.toNat (List.getD a (Int.toNat x29_2) 0)) 0]) (d := (some (path 12 49))) (n' := (lh2_2 ++ [List.getD lh1_2 (Int.toNat (List.getD a (Int.toNat x29_2) 0)) 0]).length) (h' := [(4, rc (encI .i64) (lh2_2 ++ [List.getD lh1_2 (Int.toNat (List.getD a (Int.toNat x29_2) 0)) 0]) 0 3 1), (3, .cells [ii (List.getD lh1_2 (Int.toNat (List.getD a (Int.toNat x29_2) 0)) 0)] 0 3 1), (1, rc (encI .i64) lh1_2 0 3 1), (0, rc (encI .i64) a z0 y0 1)]) (by kernel_rfl) (by kernel_rfl) (by kernel_rfl) (by kernel_rfl) rfl (by simp) (by simp) b6 (by simp) (by kernel_rfl)) (σ' := [(4, ii x4_2), (5, s0 1 lh1_2.length), (9, ii (List.getD a (Int.toNat x29_2) 0)), (27, s0 0 a.length), (28, ii x28_2), (29, ii x29_2), (49, s0 4 ((lh2_2 ++ [List.getD lh1_2 (Int.toNat (List.getD a (Int.toNat x29_2) 0)) 0]).length))]) (by kernel_rfl) ?_
                refine XR.runS E0_ok 1 1 [(4, ii x4_2), (5, s0 1 lh1_2.length), (6, s0 4 ((lh2_2 ++ [List.getD lh1_2 (Int.toNat (List.getD a (Int.toNat x29_2) 0)) 0]).length)), (9, ii (List.getD a (Int.toNat x29_2) 0)), (27, s0 0 a.length), (28, ii x28_2), (29, ii x29_2)] rfl (by kernel_rfl) ?_
                refine XR.done (by kernel_rfl) ?_
                show XQ _ _ _ _ _ _ _ _
                refine XQ.region (by kernel_rfl) ?_
                refine XR.runS E0_ok 1 4 [(4, ii x4_2), (6, s0 4 ((lh2_2 ++ [List.getD lh1_2 (Int.toNat (List.getD a (Int.toNat x29_2) 0)) 0]).length)), (27, s0 0 a.length), (28, ii x28_2), (29, ii x29_2), (50, s0 1 lh1_2.length), (51, ii (List.getD a (Int.toNat x29_2) 0)), (53, ii (w64 ((List.getD a (Int.toNat x29_2) 0) + 1)))] rfl (by kernel_rfl) ?_
                obtain ⟨o3, o3_h, h⟩ := bS h
                refine XR.call E0_ok [4, 6, 27, 28, 29, 54] rfl (K := 35) (args := [s0 1 lh1_2.length, ii (List.getD a (Int.toNat x29_2) 0), ii (w64 ((List.getD a (Int.toNat x29_2) 0) + 1))]) (d := (some (path 12 54))) (by kernel_rfl) (f11_3_ok m z0 y0 a lh1_2 (List.getD a (Int.toNat x29_2) 0) (w64 ((List.getD a (Int.toNat x29_2) 0) + 1)) (List.getD lh1_2 (Int.toNat (List.getD a (Int.toNat x29_2) 0)) 0) (lh2_2 ++ [List.getD lh1_2 (Int.toNat (List.getD a (Int.toNat x29_2) 0)) 0]) o3 o3_h (fun v h' c' => v = s0 1 o3.length ∧ h' = [(4, rc (encI .i64) (lh2_2 ++ [List.getD lh1_2 (Int.toNat (List.getD a (Int.toNat x29_2) 0)) 0]) 0 3 1), (3, .cells [ii (List.getD lh1_2 (Int.toNat (List.getD a (Int.toNat x29_2) 0)) 0)] 0 3 1), (1, rc (encI .i64) o3 0 3 1), (0, rc (encI .i64) a z0 y0 1)] ∧ c' = 5) ⟨rfl, rfl, rfl⟩) ?_
                rintro _ _ _ ⟨rfl, rfl, rfl⟩
                refine XR.conv (σ' := [(4, ii x4_2), (6, s0 4 ((lh2_2 ++ [List.getD lh1_2 (Int.toNat (List.getD a (Int.toNat x29_2) 0)) 0]).length)), (27, s0 0 a.length), (28, ii x28_2), (29, ii x29_2), (54, s0 1 o3.length)]) (h' := [(4, rc (encI .i64) (lh2_2 ++ [List.getD lh1_2 (Int.toNat (List.getD a (Int.toNat x29_2) 0)) 0]) 0 3 1), (3, .cells [ii (List.getD lh1_2 (Int.toNat (List.getD a (Int.toNat x29_2) 0)) 0)] 0 3 1), (1, rc (encI .i64) o3 0 3 1), (0, rc (encI .i64) a z0 y0 1)]) (c' := 5) ?_ (by kernel_rfl)
                refine XR.runS E0_ok 1 1 [(4, ii x4_2), (5, s0 1 o3.length), (6, s0 4 ((lh2_2 ++ [List.getD lh1_2 (Int.toNat (List.getD a (Int.toNat x29_2) 0)) 0]).length)), (27, s0 0 a.length), (28, ii x28_2), (29, ii x29_2)] rfl (by kernel_rfl) ?_
                refine XR.done (by kernel_rfl) ?_
                show XQ _ _ _ _ _ _ _ _
                refine XQ.region (by kernel_rfl) ?_
                refine XR.runS E0_ok 1 2 [(4, ii x4_2), (5, s0 1 o3.length), (6, s0 4 ((lh2_2 ++ [List.getD lh1_2 (Int.toNat (List.getD a (Int.toNat x29_2) 0)) 0]).length)), (27, s0 0 a.length), (28, ii x28_2), (29, ii (w64 (x29_2 + 1)))] rfl (by kernel_rfl) ?_
                refine XR.done (by kernel_rfl) ?_
                show XL _ _ _ _ _ _ _ _ _
                refine XL.ren (σ' := [(4, ii x4_2), (5, s0 1 o3.length), (6, s0 2 ((lh2_2 ++ [List.getD lh1_2 (Int.toNat (List.getD a (Int.toNat x29_2) 0)) 0]).length)), (27, s0 0 a.length), (28, ii x28_2), (29, ii (w64 (x29_2 + 1)))]) (h' := [(2, rc (encI .i64) (lh2_2 ++ [List.getD lh1_2 (Int.toNat (List.getD a (Int.toNat x29_2) 0)) 0]) 0 3 1), (1, rc (encI .i64) o3 0 3 1), (0, rc (encI .i64) a z0 y0 1)]) (c' := 3) [0, 1, 4] (by decide) rfl ⟨by kernel_rfl, by kernel_rfl, by kernel_rfl, by kernel_rfl, by kernel_rfl, by kernel_rfl, trivial⟩ ⟨⟨_, _, rfl, rfl, .inl ⟨rfl, rowC_scal (encI_ok .i64) _⟩⟩, ⟨_, _, rfl, rfl, .inl ⟨rfl, rowC_scal (encI_ok .i64) _⟩⟩, ⟨_, _, rfl, rfl, .inl ⟨rfl, rowC_scal (encI_ok .i64) _⟩⟩, trivial⟩ rfl ?_
                refine XL.conv (f11_2_ok m fuel z0 y0 a x4_2 x28_2 (w64 (x29_2 + 1)) o3 (lh2_2 ++ [List.getD lh1_2 (Int.toNat (List.getD a (Int.toNat x29_2) 0)) 0]) o h Q hQ) (by first | with_reducible rfl | simp | rfl)
    | false =>
      have h := cF b1 h
      refine XQ.cond (s := (.tmp 30)) (b := false) (by kernel_rfl) (by kernel_rfl) (fun q => by cases q) (fun _ => ?_)
      refine XQ.ren (σ' := [(6, s0 1 lh2_2.length)]) (h' := [(1, rc (encI .i64) lh2_2 0 3 1), (0, rc (encI .i64) a z0 y0 1)]) (c' := 2) [0, 2] (by decide) rfl ⟨by kernel_rfl, trivial⟩ ⟨⟨_, _, rfl, rfl, .inl ⟨rfl, rowC_scal (encI_ok .i64) _⟩⟩, ⟨_, _, rfl, rfl, .inl ⟨rfl, rowC_scal (encI_ok .i64) _⟩⟩, trivial⟩ rfl ?_
      refine XQ.exit (i := 3) (by kernel_rfl) ?_
      cases h
      exact hQ

def f11 (m : Nat) (a : List Int) : Option ((List Int) × Int) :=
  cond (((a.length : Nat) : Int) == 0) (
    some ([], 4)
  ) (
    cond (decide (((a.length : Nat) : Int) > 7)) (
      some ([], 3)
    ) (
      (f11_1 m m a ((a.length : Nat) : Int) ((a.length : Nat) : Int) 0 []).bind fun o1 =>
        (f11_2 m m a o1.1 ((a.length : Nat) : Int) 0 o1.2 []).bind fun o2 =>
          match o2 with
          | .r =>
            some ([], 1)
          | .x3 lh1_x32 =>
            some (lh1_x32, 0)
    )
  )

theorem f11_ok (m : Nat) (z0 : Nat) (y0 : Nat) (a : List Int) (o : (List Int) × Int) (h : f11 m a = some o) : KC E0 11 [s0 0 a.length] [(0, rc (encI .i64) a z0 y0 1)] 1 (fun v h' c' => v = .tuple #[s0 1 o.1.length, ii o.2] ∧ h' = [(1, rc (encI .i64) o.1 0 3 1)] ++ [(0, rc (encI .i64) a z0 y0 1)] ∧ c' = 2) := by
  refine KC.bodyN E0_ok (F := Proofs.Tryz.f11) (by kernel_rfl) (code := f11_C11) (by kernel_rfl) (nt := 57) (by kernel_rfl) (rs := [.tmp 2, .tmp 3]) (by kernel_rfl) (by kernel_rfl) (σ := [(0, s0 0 a.length)]) (by kernel_rfl) ?_
  unfold f11 at h
  refine XQ.seq E0_ok (by kernel_rfl) ?_
  refine XQ.region (by kernel_rfl) ?_
  refine XR.runS E0_ok 1 2 [(0, s0 0 a.length)] rfl (by kernel_rfl) ?_
  refine XR.done (by kernel_rfl) ?_
  show XQ _ _ _ _ _ _ _ _
  refine XQ.seq E0_ok (by kernel_rfl) ?_
  refine XQ.region (by kernel_rfl) ?_
  refine XR.runS E0_ok 1 3 [(0, s0 0 a.length), (4, ii ((a.length : Nat) : Int))] rfl (by kernel_rfl) ?_
  refine XR.done (by kernel_rfl) ?_
  show XQ _ _ _ _ _ _ _ _
  refine XQ.seq E0_ok (by kernel_rfl) ?_
  refine XQ.block (id := 0) (by kernel_rfl) ?_
  refine XQ.seq E0_ok (by kernel_rfl) ?_
  refine XQ.region (by kernel_rfl) ?_
  refine XR.runS E0_ok 1 3 [(0, s0 0 a.length), (4, ii ((a.length : Nat) : Int)), (12, .bool (((a.length : Nat) : Int) == 0))] rfl (by kernel_rfl) ?_
  refine XR.done (by kernel_rfl) ?_
  show XQ _ _ _ _ _ _ _ _
  cases b1 : (((a.length : Nat) : Int) == 0 : Bool) with
  | true =>
    have h := cT b1 h
    refine XQ.cond (s := (.tmp 12)) (b := true) (by kernel_rfl) (by kernel_rfl) (fun _ => ?_) (fun q => by cases q)
    refine XQ.seq E0_ok (by kernel_rfl) ?_
    refine XQ.region (by kernel_rfl) ?_
    refine XR.runS E0_ok 1 2 [(2, .slice none 0 0), (3, ii 4)] rfl (by kernel_rfl) ?_
    refine XR.done (by kernel_rfl) ?_
    show XQ _ _ _ _ _ _ _ _
    refine XQ.ghost 3 1 rfl (σ' := [(2, s0 1 0), (3, ii 4)]) (h' := [(0, rc (encI .i64) a z0 y0 1)]) ⟨by kernel_rfl, by kernel_rfl, trivial⟩ ⟨⟨_, rfl, .inl rfl⟩, trivial⟩ ?_
    refine XQ.conv (σ' := [(2, s0 1 0), (3, ii 4)]) (h' := [(1, rc (encI .i64) [] 0 3 1), (0, rc (encI .i64) a z0 y0 1)]) (c' := 2) ?_ (by kernel_rfl)
    refine XQ.ren (σ' := [(2, s0 1 0), (3, ii 4)]) (h' := [(1, rc (encI .i64) [] 0 3 1), (0, rc (encI .i64) a z0 y0 1)]) (c' := 2) [0, 1] (by decide) rfl ⟨by kernel_rfl, by kernel_rfl, trivial⟩ ⟨⟨_, _, rfl, rfl, .inl ⟨rfl, rowC_scal (encI_ok .i64) _⟩⟩, ⟨_, _, rfl, rfl, .inl ⟨rfl, rowC_scal (encI_ok .i64) _⟩⟩, trivial⟩ rfl ?_
    refine XQ.ret (by kernel_rfl) ?_
    have h := Option.some.inj h
    subst h
    exact ⟨fun i q => (by cases q), .tuple #[s0 1 0, ii 4], (by kernel_rfl), (by kernel_rfl), (by kernel_rfl), rfl⟩
  | false =>
    have h := cF b1 h
    refine XQ.cond (s := (.tmp 12)) (b := false) (by kernel_rfl) (by kernel_rfl) (fun q => by cases q) (fun _ => ?_)
    refine XQ.seq E0_ok (by kernel_rfl) ?_
    refine XQ.region (by kernel_rfl) ?_
    refine XR.runS E0_ok 1 3 [(0, s0 0 a.length), (4, ii ((a.length : Nat) : Int)), (15, .bool (decide (((a.length : Nat) : Int) > 7)))] rfl (by kernel_rfl) ?_
    refine XR.done (by kernel_rfl) ?_
    show XQ _ _ _ _ _ _ _ _
    cases b2 : (decide (((a.length : Nat) : Int) > 7) : Bool) with
    | true =>
      have h := cT b2 h
      refine XQ.cond (s := (.tmp 15)) (b := true) (by kernel_rfl) (by kernel_rfl) (fun _ => ?_) (fun q => by cases q)
      refine XQ.seq E0_ok (by kernel_rfl) ?_
      refine XQ.region (by kernel_rfl) ?_
      refine XR.runS E0_ok 1 2 [(2, .slice none 0 0), (3, ii 3)] rfl (by kernel_rfl) ?_
      refine XR.done (by kernel_rfl) ?_
      show XQ _ _ _ _ _ _ _ _
      refine XQ.ghost 3 1 rfl (σ' := [(2, s0 1 0), (3, ii 3)]) (h' := [(0, rc (encI .i64) a z0 y0 1)]) ⟨by kernel_rfl, by kernel_rfl, trivial⟩ ⟨⟨_, rfl, .inl rfl⟩, trivial⟩ ?_
      refine XQ.conv (σ' := [(2, s0 1 0), (3, ii 3)]) (h' := [(1, rc (encI .i64) [] 0 3 1), (0, rc (encI .i64) a z0 y0 1)]) (c' := 2) ?_ (by kernel_rfl)
      refine XQ.ren (σ' := [(2, s0 1 0), (3, ii 3)]) (h' := [(1, rc (encI .i64) [] 0 3 1), (0, rc (encI .i64) a z0 y0 1)]) (c' := 2) [0, 1] (by decide) rfl ⟨by kernel_rfl, by kernel_rfl, trivial⟩ ⟨⟨_, _, rfl, rfl, .inl ⟨rfl, rowC_scal (encI_ok .i64) _⟩⟩, ⟨_, _, rfl, rfl, .inl ⟨rfl, rowC_scal (encI_ok .i64) _⟩⟩, trivial⟩ rfl ?_
      refine XQ.ret (by kernel_rfl) ?_
      have h := Option.some.inj h
      subst h
      exact ⟨fun i q => (by cases q), .tuple #[s0 1 0, ii 3], (by kernel_rfl), (by kernel_rfl), (by kernel_rfl), rfl⟩
    | false =>
      have h := cF b2 h
      refine XQ.cond (s := (.tmp 15)) (b := false) (by kernel_rfl) (by kernel_rfl) (fun q => by cases q) (fun _ => ?_)
      refine XQ.skip (by kernel_rfl) ?_
      show XQ _ _ _ _ _ _ _ _
      refine XQ.seq E0_ok (by kernel_rfl) ?_
      refine XQ.region (by kernel_rfl) ?_
      refine XR.runS E0_ok 1 2 [(0, s0 0 a.length), (4, ii ((a.length : Nat) : Int)), (5, .slice none 0 0), (6, .slice none 0 0)] rfl (by kernel_rfl) ?_
      refine XR.done (by kernel_rfl) ?_
      show XQ _ _ _ _ _ _ _ _
      refine XQ.ghost 3 1 rfl (σ' := [(0, s0 0 a.length), (4, ii ((a.length : Nat) : Int)), (5, s0 1 0), (6, .slice none 0 0)]) (h' := [(0, rc (encI .i64) a z0 y0 1)]) ⟨by kernel_rfl, by kernel_rfl, by kernel_rfl, by kernel_rfl, trivial⟩ ⟨⟨_, rfl, .inl rfl⟩, trivial⟩ ?_
      refine XQ.conv (σ' := [(0, s0 0 a.length), (4, ii ((a.length : Nat) : Int)), (5, s0 1 0), (6, .slice none 0 0)]) (h' := [(1, rc (encI .i64) [] 0 3 1), (0, rc (encI .i64) a z0 y0 1)]) (c' := 2) ?_ (by kernel_rfl)
      refine XQ.ghost 3 1 rfl (σ' := [(0, s0 0 a.length), (4, ii ((a.length : Nat) : Int)), (5, s0 1 0), (6, s0 2 0)]) (h' := [(1, rc (encI .i64) [] 0 3 1), (0, rc (encI .i64) a z0 y0 1)]) ⟨by kernel_rfl, by kernel_rfl, by kernel_rfl, by kernel_rfl, trivial⟩ ⟨⟨_, rfl, .inl rfl⟩, ⟨_, rfl, .inl rfl⟩, trivial⟩ ?_
      refine XQ.conv (σ' := [(0, s0 0 a.length), (4, ii ((a.length : Nat) : Int)), (5, s0 1 0), (6, s0 2 0)]) (h' := [(2, rc (encI .i64) [] 0 3 1), (1, rc (encI .i64) [] 0 3 1), (0, rc (encI .i64) a z0 y0 1)]) (c' := 3) ?_ (by kernel_rfl)
      refine XQ.seq E0_ok (by kernel_rfl) ?_
      refine XQ.seq E0_ok (by kernel_rfl) ?_
      refine XQ.region (by kernel_rfl) ?_
      refine XR.runS E0_ok 1 2 [(0, s0 0 a.length), (4, ii ((a.length : Nat) : Int)), (5, s0 1 0), (6, s0 2 0), (18, ii ((a.length : Nat) : Int)), (19, ii 0)] rfl (by kernel_rfl) ?_
      refine XR.done (by kernel_rfl) ?_
      show XQ _ _ _ _ _ _ _ _
      refine XQ.block (id := 1) (by kernel_rfl) ?_
      refine XQ.loop m (by kernel_rfl) ?_
      obtain ⟨o1, o1_h, h⟩ := bS h
      refine XL.ren (σ' := [(0, s0 0 a.length), (4, ii ((a.length : Nat) : Int)), (5, s0 1 0), (6, s0 2 0), (18, ii ((a.length : Nat) : Int)), (19, ii 0)]) (h' := [(2, rc (encI .i64) [] 0 3 1), (1, rc (encI .i64) [] 0 3 1), (0, rc (encI .i64) a z0 y0 1)]) (c' := 3) [0, 1, 2] (by decide) rfl ⟨by kernel_rfl, by kernel_rfl, by kernel_rfl, by kernel_rfl, by kernel_rfl, by kernel_rfl, trivial⟩ ⟨⟨_, _, rfl, rfl, .inl ⟨rfl, rowC_scal (encI_ok .i64) _⟩⟩, ⟨_, _, rfl, rfl, .inl ⟨rfl, rowC_scal (encI_ok .i64) _⟩⟩, ⟨_, _, rfl, rfl, .inl ⟨rfl, rowC_scal (encI_ok .i64) _⟩⟩, trivial⟩ rfl ?_
      refine XL.conv (f11_1_ok m m z0 y0 a ((a.length : Nat) : Int) ((a.length : Nat) : Int) 0 [] o1 o1_h _ ?_) (by first | with_reducible rfl | simp | rfl)
      show XQ _ _ _ _ _ _ _ _
      refine XQ.seq E0_ok (by kernel_rfl) ?_
      refine XQ.seq E0_ok (by kernel_rfl) ?_
      refine XQ.region (by kernel_rfl) ?_
      refine XR.runS E0_ok 1 3 [(4, ii o1.1), (5, s0 1 o1.2.length), (6, s0 2 0), (27, s0 0 a.length), (28, ii ((a.length : Nat) : Int)), (29, ii 0)] rfl (by kernel_rfl) ?_
      refine XR.done (by kernel_rfl) ?_
      show XQ _ _ _ _ _ _ _ _
      refine XQ.block (id := 3) (by kernel_rfl) ?_
      refine XQ.loop m (by kernel_rfl) ?_
      obtain ⟨o2, o2_h, h⟩ := bS h
      refine XL.ren (σ' := [(4, ii o1.1), (5, s0 1 o1.2.length), (6, s0 2 0), (27, s0 0 a.length), (28, ii ((a.length : Nat) : Int)), (29, ii 0)]) (h' := [(2, rc (encI .i64) [] 0 3 1), (1, rc (encI .i64) o1.2 0 3 1), (0, rc (encI .i64) a z0 y0 1)]) (c' := 3) [0, 1, 2] (by decide) rfl ⟨by kernel_rfl, by kernel_rfl, by kernel_rfl, by kernel_rfl, by kernel_rfl, by kernel_rfl, trivial⟩ ⟨⟨_, _, rfl, rfl, .inl ⟨rfl, rowC_scal (encI_ok .i64) _⟩⟩, ⟨_, _, rfl, rfl, .inl ⟨rfl, rowC_scal (encI_ok .i64) _⟩⟩, ⟨_, _, rfl, rfl, .inl ⟨rfl, rowC_scal (encI_ok .i64) _⟩⟩, trivial⟩ rfl ?_
      cases o2 with
      | r =>
        dsimp only at h
        refine XL.conv (f11_2_ok m m z0 y0 a o1.1 ((a.length : Nat) : Int) 0 o1.2 [] (.r) o2_h _ ?_) (by first | with_reducible rfl | simp | rfl)
        have h := Option.some.inj h
        subst h
        exact ⟨fun i q => (by cases q), .tuple #[s0 1 0, ii 1], (by kernel_rfl), (by kernel_rfl), (by kernel_rfl), rfl⟩
      | x3 lh1_x32 =>
        dsimp only at h
        refine XL.conv (f11_2_ok m m z0 y0 a o1.1 ((a.length : Nat) : Int) 0 o1.2 [] (.x3 lh1_x32) o2_h _ ?_) (by first | with_reducible rfl | simp | rfl)
        show XQ _ _ _ _ _ _ _ _
        refine XQ.seq E0_ok (by kernel_rfl) ?_
        refine XQ.region (by kernel_rfl) ?_
        refine XR.runS E0_ok 1 3 [(2, s0 1 lh1_x32.length), (3, ii 0)] rfl (by kernel_rfl) ?_
        refine XR.done (by kernel_rfl) ?_
        show XQ _ _ _ _ _ _ _ _
        refine XQ.ren (σ' := [(2, s0 1 lh1_x32.length), (3, ii 0)]) (h' := [(1, rc (encI .i64) lh1_x32 0 3 1), (0, rc (encI .i64) a z0 y0 1)]) (c' := 2) [0, 1] (by decide) rfl ⟨by kernel_rfl, by kernel_rfl, trivial⟩ ⟨⟨_, _, rfl, rfl, .inl ⟨rfl, rowC_scal (encI_ok .i64) _⟩⟩, ⟨_, _, rfl, rfl, .inl ⟨rfl, rowC_scal (encI_ok .i64) _⟩⟩, trivial⟩ rfl ?_
        refine XQ.ret (by kernel_rfl) ?_
        have h := Option.some.inj h
        subst h
        exact ⟨fun i q => (by cases q), .tuple #[s0 1 lh1_x32.length, ii 0], (by kernel_rfl), (by kernel_rfl), (by kernel_rfl), rfl⟩

/-! vitola/grade.Check -/
noncomputable def f12_C12 : Code := Proofs.Tryz.f12.body.getD .skip
noncomputable def f12_L1 : Code := lft (lft (rgt (lft (rgt (rgt (rgt f12_C12))))))

inductive Of12_1 where
  | r (x2_r1 : Int)
  | x1

def f12_1 (m : Nat) : Nat → List Int → Int → Int → List Bool → Option Of12_1
  | 0, _, _, _, _ => none
  | fuel + 1, a, x16_1, x17_1, lh1_1 =>
    cond (decide (x17_1 < x16_1)) (
      cond (inRow x17_1 a.length) (
        cond (decide ((List.getD a (Int.toNat x17_1) 0) < 0)) (
          some (.r 2)
        ) (
          cond (decide ((List.getD a (Int.toNat x17_1) 0) ≥ ((a.length : Nat) : Int))) (
            some (.r 2)
          ) (
            cond (inRow (List.getD a (Int.toNat x17_1) 0) 7) (
              cond (decide (Int.toNat (List.getD a (Int.toNat x17_1) 0) < lh1_1.length)) (
                cond (List.getD lh1_1 (Int.toNat (List.getD a (Int.toNat x17_1) 0)) false) (
                  some (.r 6)
                ) (
                  f12_1 m fuel a x16_1 (w64 (x17_1 + 1)) (List.set lh1_1 (Int.toNat (List.getD a (Int.toNat x17_1) 0)) true)
                )
              ) none
            ) none
          )
        )
      ) none
    ) (
      some (.x1)
    )

theorem f12_1_ok (m : Nat) : ∀ (fuel : Nat) (z0 : Nat) (y0 : Nat) (a : List Int) (x16_1 : Int) (x17_1 : Int) (lh1_1 : List Bool) (o : Of12_1), f12_1 m fuel a x16_1 x17_1 lh1_1 = some o → ∀ Q : QP, (match o with | .r x2_r1 => Q .ret [(2, ii x2_r1)] [(0, rc (encI .i64) a z0 y0 1)] 1 | .x1 => Q (.exit 1) [] [(0, rc (encI .i64) a z0 y0 1)] 1) → XL E0 37 1 fuel f12_L1 [(0, s0 0 a.length), (4, pp 1 0), (15, s0 0 a.length), (16, ii x16_1), (17, ii x17_1)] [(1, rc encB lh1_1 0 86 0), (0, rc (encI .i64) a z0 y0 1)] 2 Q
  | 0, z0, y0, a, x16_1, x17_1, lh1_1, o, h, Q, hQ => by cases h
  | fuel + 1, z0, y0, a, x16_1, x17_1, lh1_1, o, h, Q, hQ => by
    unfold f12_1 at h
    refine XL.succ E0_ok ?_
    refine XQ.seq E0_ok (by kernel_rfl) ?_
    refine XQ.region (by kernel_rfl) ?_
    refine XR.runS E0_ok 1 1 [(0, s0 0 a.length), (4, pp 1 0), (15, s0 0 a.length), (16, ii x16_1), (17, ii x17_1), (18, .bool (decide (x17_1 < x16_1)))] rfl (by kernel_rfl) ?_
    refine XR.done (by kernel_rfl) ?_
    show XQ _ _ _ _ _ _ _ _
    refine XQ.seq E0_ok (by kernel_rfl) ?_
    cases b1 : (decide (x17_1 < x16_1) : Bool) with
    | true =>
      have h := cT b1 h
      refine XQ.cond (s := (.tmp 18)) (b := true) (by kernel_rfl) (by kernel_rfl) (fun _ => ?_) (fun q => by cases q)
      refine XQ.skip (by kernel_rfl) ?_
      show XQ _ _ _ _ _ _ _ _
      refine XQ.seq E0_ok (by kernel_rfl) ?_
      refine XQ.block (id := 2) (by kernel_rfl) ?_
      refine XQ.seq E0_ok (by kernel_rfl) ?_
      refine XQ.region (by kernel_rfl) ?_
      cases b2 : (inRow x17_1 a.length : Bool) with
      | false => cases (cF b2 h)
      | true =>
        have h := cT b2 h
        refine XR.rd E0_ok [0, 4, 15, 16, 17, 19] rfl (v := pp 0 ((Int.toNat x17_1) * 1)) (v_idx (s := 1) (x := (src 37 (.tmp 15))) (y := (src 37 (.tmp 17))) (b := 0) (o := 0) (len := a.length) (cap := a.length) (ik := .i64) (i := x17_1) (off := (Int.toNat x17_1) * 1) (d := (some (path 12 19))) (by kernel_rfl) (by kernel_rfl) (by kernel_rfl) b2 (by omega)) (σ' := [(0, s0 0 a.length), (4, pp 1 0), (15, s0 0 a.length), (16, ii x16_1), (17, ii x17_1), (19, pp 0 ((Int.toNat x17_1) * 1))]) (by kernel_rfl) ?_
        refine XR.rd E0_ok [0, 4, 15, 16, 17, 20] rfl (v := ii (List.getD a (Int.toNat x17_1) 0)) (v_load1 (encI_ok .i64) (x := (src 37 (.tmp 19))) (b := 0) (off := (Int.toNat x17_1) * 1) (xs := a) (fz := z0) (e := y0) (es := 1) (d := (some (path 12 20))) (by kernel_rfl) (by kernel_rfl) (by kernel_rfl) (Int.toNat x17_1) 0 0 (by first | with_reducible rfl | omega | rfl) (row_len (inRow_toNat b2) (by simp)) rfl rfl) (σ' := [(0, s0 0 a.length), (4, pp 1 0), (15, s0 0 a.length), (16, ii x16_1), (17, ii x17_1), (20, ii (List.getD a (Int.toNat x17_1) 0))]) (by kernel_rfl) ?_
        refine XR.runS E0_ok 1 1 [(0, s0 0 a.length), (4, pp 1 0), (6, ii (List.getD a (Int.toNat x17_1) 0)), (15, s0 0 a.length), (16, ii x16_1), (17, ii x17_1)] rfl (by kernel_rfl) ?_
        refine XR.done (by kernel_rfl) ?_
        show XQ _ _ _ _ _ _ _ _
        refine XQ.seq E0_ok (by kernel_rfl) ?_
        refine XQ.block (id := 3) (by kernel_rfl) ?_
        refine XQ.seq E0_ok (by kernel_rfl) ?_
        refine XQ.region (by kernel_rfl) ?_
        refine XR.runS E0_ok 1 3 [(0, s0 0 a.length), (4, pp 1 0), (6, ii (List.getD a (Int.toNat x17_1) 0)), (15, s0 0 a.length), (16, ii x16_1), (17, ii x17_1), (24, .bool (decide ((List.getD a (Int.toNat x17_1) 0) < 0)))] rfl (by kernel_rfl) ?_
        cases b3 : (decide ((List.getD a (Int.toNat x17_1) 0) < 0) : Bool) with
        | true =>
          have h := cT b3 h
          refine XR.runS E0_ok 1 6 [(0, s0 0 a.length), (4, pp 1 0), (6, ii (List.getD a (Int.toNat x17_1) 0)), (15, s0 0 a.length), (16, ii x16_1), (17, ii x17_1), (21, .bool true)] rfl (by kernel_rfl) ?_
          refine XR.done (by kernel_rfl) ?_
          show XQ _ _ _ _ _ _ _ _
          refine XQ.cond (s := (.tmp 21)) (b := true) (by kernel_rfl) (by kernel_rfl) (fun _ => ?_) (fun q => by cases q)
          refine XQ.seq E0_ok (by kernel_rfl) ?_
          refine XQ.region (by kernel_rfl) ?_
          refine XR.runS E0_ok 1 1 [(2, ii 2)] rfl (by kernel_rfl) ?_
          refine XR.done (by kernel_rfl) ?_
          show XQ _ _ _ _ _ _ _ _
          refine XQ.ren (σ' := [(2, ii 2)]) (h' := [(0, rc (encI .i64) a z0 y0 1)]) (c' := 1) [0] (by decide) rfl ⟨by kernel_rfl, trivial⟩ ⟨⟨_, _, rfl, rfl, .inl ⟨rfl, rowC_scal (encI_ok .i64) _⟩⟩, trivial⟩ rfl ?_
          refine XQ.ret (by kernel_rfl) ?_
          cases h
          exact hQ
        | false =>
          have h := cF b3 h
          refine XR.runS E0_ok 1 6 [(0, s0 0 a.length), (4, pp 1 0), (6, ii (List.getD a (Int.toNat x17_1) 0)), (15, s0 0 a.length), (16, ii x16_1), (17, ii x17_1), (21, .bool (decide ((List.getD a (Int.toNat x17_1) 0) ≥ ((a.length : Nat) : Int))))] rfl (by kernel_rfl) ?_
          refine XR.done (by kernel_rfl) ?_
          show XQ _ _ _ _ _ _ _ _
          cases b4 : (decide ((List.getD a (Int.toNat x17_1) 0) ≥ ((a.length : Nat) : Int)) : Bool) with
          | true =>
            have h := cT b4 h
            refine XQ.cond (s := (.tmp 21)) (b := true) (by kernel_rfl) (by kernel_rfl) (fun _ => ?_) (fun q => by cases q)
            refine XQ.seq E0_ok (by kernel_rfl) ?_
            refine XQ.region (by kernel_rfl) ?_
            refine XR.runS E0_ok 1 1 [(2, ii 2)] rfl (by kernel_rfl) ?_
            refine XR.done (by kernel_rfl) ?_
            show XQ _ _ _ _ _ _ _ _
            refine XQ.ren (σ' := [(2, ii 2)]) (h' := [(0, rc (encI .i64) a z0 y0 1)]) (c' := 1) [0] (by decide) rfl ⟨by kernel_rfl, trivial⟩ ⟨⟨_, _, rfl, rfl, .inl ⟨rfl, rowC_scal (encI_ok .i64) _⟩⟩, trivial⟩ rfl ?_
            refine XQ.ret (by kernel_rfl) ?_
            cases h
            exact hQ
          | false =>
            have h := cF b4 h
            refine XQ.cond (s := (.tmp 21)) (b := false) (by kernel_rfl) (by kernel_rfl) (fun q => by cases q) (fun _ => ?_)
            refine XQ.seq E0_ok (by kernel_rfl) ?_
            refine XQ.region (by kernel_rfl) ?_
            refine XR.runS E0_ok 1 1 [(0, s0 0 a.length), (4, pp 1 0), (6, ii (List.getD a (Int.toNat x17_1) 0)), (15, s0 0 a.length), (16, ii x16_1), (17, ii x17_1), (31, ii (List.getD a (Int.toNat x17_1) 0))] rfl (by kernel_rfl) ?_
            cases b5 : (inRow (List.getD a (Int.toNat x17_1) 0) 7 : Bool) with
            | false => cases (cF b5 h)
            | true =>
              have h := cT b5 h
              refine XR.rd E0_ok [0, 4, 6, 15, 16, 17, 32] rfl (v := pp 1 ((Int.toNat (List.getD a (Int.toNat x17_1) 0)) * 1)) (v_idxA (s := 1) (len := 7) (x := (src 37 (.tmp 4))) (y := (src 37 (.tmp 31))) (b := 1) (o := 0) (ik := .i64) (i := List.getD a (Int.toNat x17_1) 0) (off := (Int.toNat (List.getD a (Int.toNat x17_1) 0)) * 1) (d := (some (path 12 32))) (by kernel_rfl) (by kernel_rfl) (by kernel_rfl) b5 (by omega)) (σ' := [(0, s0 0 a.length), (4, pp 1 0), (6, ii (List.getD a (Int.toNat x17_1) 0)), (15, s0 0 a.length), (16, ii x16_1), (17, ii x17_1), (32, pp 1 ((Int.toNat (List.getD a (Int.toNat x17_1) 0)) * 1))]) (by kernel_rfl) ?_
              cases b6 : (decide (Int.toNat (List.getD a (Int.toNat x17_1) 0) < lh1_1.length) : Bool) with
              | false => cases (cF b6 h)
              | true =>
                have h := cT b6 h
                refine XR.rd E0_ok [0, 4, 6, 15, 16, 17, 33] rfl (v := .bool (List.getD lh1_1 (Int.toNat (List.getD a (Int.toNat x17_1) 0)) false)) (v_load1 encB_ok (x := (src 37 (.tmp 32))) (b := 1) (off := (Int.toNat (List.getD a (Int.toNat x17_1) 0)) * 1) (xs := lh1_1) (fz := 0) (e := 86) (es := 0) (d := (some (path 12 33))) (by kernel_rfl) (by kernel_rfl) (by kernel_rfl) (Int.toNat (List.getD a (Int.toNat x17_1) 0)) 0 false (by first | with_reducible rfl | omega | rfl) (row_len b6 (by simp)) rfl rfl) (σ' := [(0, s0 0 a.length), (4, pp 1 0), (6, ii (List.getD a (Int.toNat x17_1) 0)), (15, s0 0 a.length), (16, ii x16_1), (17, ii x17_1), (33, .bool (List.getD lh1_1 (Int.toNat (List.getD a (Int.toNat x17_1) 0)) false))]) (by kernel_rfl) ?_
                refine XR.runS E0_ok 1 1 [(0, s0 0 a.length), (4, pp 1 0), (6, ii (List.getD a (Int.toNat x17_1) 0)), (15, s0 0 a.length), (16, ii x16_1), (17, ii x17_1), (30, .bool (List.getD lh1_1 (Int.toNat (List.getD a (Int.toNat x17_1) 0)) false))] rfl (by kernel_rfl) ?_
                refine XR.done (by kernel_rfl) ?_
                show XQ _ _ _ _ _ _ _ _
                cases b7 : (List.getD lh1_1 (Int.toNat (List.getD a (Int.toNat x17_1) 0)) false : Bool) with
                | true =>
                  have h := cT b7 h
                  refine XQ.cond (s := (.tmp 30)) (b := true) (by kernel_rfl) (by kernel_rfl) (fun _ => ?_) (fun q => by cases q)
                  refine XQ.seq E0_ok (by kernel_rfl) ?_
                  refine XQ.region (by kernel_rfl) ?_
                  refine XR.runS E0_ok 1 1 [(2, ii 6)] rfl (by kernel_rfl) ?_
                  refine XR.done (by kernel_rfl) ?_
                  show XQ _ _ _ _ _ _ _ _
                  refine XQ.ren (σ' := [(2, ii 6)]) (h' := [(0, rc (encI .i64) a z0 y0 1)]) (c' := 1) [0] (by decide) rfl ⟨by kernel_rfl, trivial⟩ ⟨⟨_, _, rfl, rfl, .inl ⟨rfl, rowC_scal (encI_ok .i64) _⟩⟩, trivial⟩ rfl ?_
                  refine XQ.ret (by kernel_rfl) ?_
                  cases h
                  exact hQ
                | false =>
                  have h := cF b7 h
                  refine XQ.cond (s := (.tmp 30)) (b := false) (by kernel_rfl) (by kernel_rfl) (fun q => by cases q) (fun _ => ?_)
                  refine XQ.skip (by kernel_rfl) ?_
                  show XQ _ _ _ _ _ _ _ _
                  refine XQ.region (by kernel_rfl) ?_
                  refine XR.runS E0_ok 1 1 [(0, s0 0 a.length), (4, pp 1 0), (15, s0 0 a.length), (16, ii x16_1), (17, ii x17_1), (34, ii (List.getD a (Int.toNat x17_1) 0))] rfl (by kernel_rfl) ?_
                  refine XR.rd E0_ok [0, 4, 15, 16, 17, 35] rfl (v := pp 1 ((Int.toNat (List.getD a (Int.toNat x17_1) 0)) * 1)) (v_idxA (s := 1) (len := 7) (x := (src 37 (.tmp 4))) (y := (src 37 (.tmp 34))) (b := 1) (o := 0) (ik := .i64) (i := List.getD a (Int.toNat x17_1) 0) (off := (Int.toNat (List.getD a (Int.toNat x17_1) 0)) * 1) (d := (some (path 12 35))) (by kernel_rfl) (by kernel_rfl) (by kernel_rfl) b5 (by omega)) (σ' := [(0, s0 0 a.length), (4, pp 1 0), (15, s0 0 a.length), (16, ii x16_1), (17, ii x17_1), (35, pp 1 ((Int.toNat (List.getD a (Int.toNat x17_1) 0)) * 1))]) (by kernel_rfl) ?_
                  refine XR.ef E0_ok [0, 4, 15, 16, 17] rfl (e_store encB_ok (size := 1) (x := (src 37 (.tmp 35))) (y := (src 37 (.const (.bool true)))) (b := 1) (off := (Int.toNat (List.getD a (Int.toNat x17_1) 0)) * 1) (xs := lh1_1) (e := 86) (es := 0) (d := none) (h' := [(1, rc encB (List.set lh1_1 (Int.toNat (List.getD a (Int.toNat x17_1) 0)) true) 0 86 0), (0, rc (encI .i64) a z0 y0 1)]) (w := .bool true) (ws := [.bool true]) (a := true) (by kernel_rfl) (by kernel_rfl) (by kernel_rfl) (Int.toNat (List.getD a (Int.toNat x17_1) 0)) 0 false (by first | with_reducible rfl | omega | rfl) (row_len b6 (by simp)) (by kernel_rfl) rfl rfl rfl rfl rfl (by kernel_rfl)) (σ' := [(0, s0 0 a.length), (4, pp 1 0), (15, s0 0 a.length), (16, ii x16_1), (17, ii x17_1)]) (by kernel_rfl) ?_
                  refine XR.done (by kernel_rfl) ?_
                  show XQ _ _ _ _ _ _ _ _
                  refine XQ.region (by kernel_rfl) ?_
                  refine XR.runS E0_ok 1 2 [(0, s0 0 a.length), (4, pp 1 0), (15, s0 0 a.length), (16, ii x16_1), (17, ii (w64 (x17_1 + 1)))] rfl (by kernel_rfl) ?_
                  refine XR.done (by kernel_rfl) ?_
                  show XL _ _ _ _ _ _ _ _ _
                  refine XL.ren (σ' := [(0, s0 0 a.length), (4, pp 1 0), (15, s0 0 a.length), (16, ii x16_1), (17, ii (w64 (x17_1 + 1)))]) (h' := [(1, rc encB (List.set lh1_1 (Int.toNat (List.getD a (Int.toNat x17_1) 0)) true) 0 86 0), (0, rc (encI .i64) a z0 y0 1)]) (c' := 2) [0, 1] (by decide) rfl ⟨by kernel_rfl, by kernel_rfl, by kernel_rfl, by kernel_rfl, by kernel_rfl, trivial⟩ ⟨⟨_, _, rfl, rfl, .inl ⟨rfl, rowC_scal encB_ok _⟩⟩, ⟨_, _, rfl, rfl, .inl ⟨rfl, rowC_scal (encI_ok .i64) _⟩⟩, trivial⟩ rfl ?_
                  refine XL.conv (f12_1_ok m fuel z0 y0 a x16_1 (w64 (x17_1 + 1)) (List.set lh1_1 (Int.toNat (List.getD a (Int.toNat x17_1) 0)) true) o h Q hQ) (by first | with_reducible rfl | simp | rfl)
    | false =>
      have h := cF b1 h
      refine XQ.cond (s := (.tmp 18)) (b := false) (by kernel_rfl) (by kernel_rfl) (fun q => by cases q) (fun _ => ?_)
      refine XQ.ren (σ' := []) (h' := [(0, rc (encI .i64) a z0 y0 1)]) (c' := 1) [0] (by decide) rfl trivial ⟨⟨_, _, rfl, rfl, .inl ⟨rfl, rowC_scal (encI_ok .i64) _⟩⟩, trivial⟩ rfl ?_
      refine XQ.exit (i := 1) (by kernel_rfl) ?_
      cases h
      exact hQ

def f12 (m : Nat) (a : List Int) : Option (Int) :=
  cond (((a.length : Nat) : Int) == 0) (
    some (4)
  ) (
    cond (decide (((a.length : Nat) : Int) > 7)) (
      some (3)
    ) (
      (f12_1 m m a ((a.length : Nat) : Int) 0 [false, false, false, false, false, false, false]).bind fun o1 =>
        match o1 with
        | .r x2_r1 =>
          some (x2_r1)
        | .x1 =>
          some (0)
    )
  )

theorem f12_ok (m : Nat) (z0 : Nat) (y0 : Nat) (a : List Int) (o : Int) (h : f12 m a = some o) : KC E0 12 [s0 0 a.length] [(0, rc (encI .i64) a z0 y0 1)] 1 (fun v _ _ => v = ii o) := by
  refine KC.bodyN E0_ok (F := Proofs.Tryz.f12) (by kernel_rfl) (code := f12_C12) (by kernel_rfl) (nt := 37) (by kernel_rfl) (rs := [.tmp 2]) (by kernel_rfl) (by kernel_rfl) (σ := [(0, s0 0 a.length)]) (by kernel_rfl) ?_
  unfold f12 at h
  refine XQ.seq E0_ok (by kernel_rfl) ?_
  refine XQ.region (by kernel_rfl) ?_
  refine XR.runS E0_ok 1 1 [(0, s0 0 a.length)] rfl (by kernel_rfl) ?_
  refine XR.done (by kernel_rfl) ?_
  show XQ _ _ _ _ _ _ _ _
  refine XQ.seq E0_ok (by kernel_rfl) ?_
  refine XQ.seq E0_ok (by kernel_rfl) ?_
  refine XQ.region (by kernel_rfl) ?_
  refine XR.runS E0_ok 1 3 [(0, s0 0 a.length), (3, ii ((a.length : Nat) : Int))] rfl (by kernel_rfl) ?_
  refine XR.done (by kernel_rfl) ?_
  show XQ _ _ _ _ _ _ _ _
  refine XQ.block (id := 0) (by kernel_rfl) ?_
  refine XQ.seq E0_ok (by kernel_rfl) ?_
  refine XQ.region (by kernel_rfl) ?_
  refine XR.runS E0_ok 1 3 [(0, s0 0 a.length), (3, ii ((a.length : Nat) : Int)), (9, .bool (((a.length : Nat) : Int) == 0))] rfl (by kernel_rfl) ?_
  refine XR.done (by kernel_rfl) ?_
  show XQ _ _ _ _ _ _ _ _
  cases b1 : (((a.length : Nat) : Int) == 0 : Bool) with
  | true =>
    have h := cT b1 h
    refine XQ.cond (s := (.tmp 9)) (b := true) (by kernel_rfl) (by kernel_rfl) (fun _ => ?_) (fun q => by cases q)
    refine XQ.seq E0_ok (by kernel_rfl) ?_
    refine XQ.region (by kernel_rfl) ?_
    refine XR.runS E0_ok 1 1 [(2, ii 4)] rfl (by kernel_rfl) ?_
    refine XR.done (by kernel_rfl) ?_
    show XQ _ _ _ _ _ _ _ _
    refine XQ.ret (by kernel_rfl) ?_
    have h := Option.some.inj h
    subst h
    exact ⟨fun i q => (by cases q), ii 4, (by kernel_rfl), rfl⟩
  | false =>
    have h := cF b1 h
    refine XQ.cond (s := (.tmp 9)) (b := false) (by kernel_rfl) (by kernel_rfl) (fun q => by cases q) (fun _ => ?_)
    refine XQ.seq E0_ok (by kernel_rfl) ?_
    refine XQ.region (by kernel_rfl) ?_
    refine XR.runS E0_ok 1 3 [(0, s0 0 a.length), (12, .bool (decide (((a.length : Nat) : Int) > 7)))] rfl (by kernel_rfl) ?_
    refine XR.done (by kernel_rfl) ?_
    show XQ _ _ _ _ _ _ _ _
    cases b2 : (decide (((a.length : Nat) : Int) > 7) : Bool) with
    | true =>
      have h := cT b2 h
      refine XQ.cond (s := (.tmp 12)) (b := true) (by kernel_rfl) (by kernel_rfl) (fun _ => ?_) (fun q => by cases q)
      refine XQ.seq E0_ok (by kernel_rfl) ?_
      refine XQ.region (by kernel_rfl) ?_
      refine XR.runS E0_ok 1 1 [(2, ii 3)] rfl (by kernel_rfl) ?_
      refine XR.done (by kernel_rfl) ?_
      show XQ _ _ _ _ _ _ _ _
      refine XQ.ret (by kernel_rfl) ?_
      have h := Option.some.inj h
      subst h
      exact ⟨fun i q => (by cases q), ii 3, (by kernel_rfl), rfl⟩
    | false =>
      have h := cF b2 h
      refine XQ.cond (s := (.tmp 12)) (b := false) (by kernel_rfl) (by kernel_rfl) (fun q => by cases q) (fun _ => ?_)
      refine XQ.skip (by kernel_rfl) ?_
      show XQ _ _ _ _ _ _ _ _
      refine XQ.seq E0_ok (by kernel_rfl) ?_
      refine XQ.region (by kernel_rfl) ?_
      refine XR.runT E0_ok 1 1 [(0, s0 0 a.length), (4, pp 1 0)] [(1, .cells [.bool false, .bool false, .bool false, .bool false, .bool false, .bool false, .bool false] 0 86 0), (0, rc (encI .i64) a z0 y0 1)] 2 rfl (by kernel_rfl) ?_
      refine XR.done (by kernel_rfl) ?_
      show XQ _ _ _ _ _ _ _ _
      refine XQ.seq E0_ok (by kernel_rfl) ?_
      refine XQ.seq E0_ok (by kernel_rfl) ?_
      refine XQ.region (by kernel_rfl) ?_
      refine XR.runS E0_ok 1 3 [(0, s0 0 a.length), (4, pp 1 0), (15, s0 0 a.length), (16, ii ((a.length : Nat) : Int)), (17, ii 0)] rfl (by kernel_rfl) ?_
      refine XR.done (by kernel_rfl) ?_
      show XQ _ _ _ _ _ _ _ _
      refine XQ.block (id := 1) (by kernel_rfl) ?_
      refine XQ.loop m (by kernel_rfl) ?_
      obtain ⟨o1, o1_h, h⟩ := bS h
      refine XL.ren (σ' := [(0, s0 0 a.length), (4, pp 1 0), (15, s0 0 a.length), (16, ii ((a.length : Nat) : Int)), (17, ii 0)]) (h' := [(1, .cells [.bool false, .bool false, .bool false, .bool false, .bool false, .bool false, .bool false] 0 86 0), (0, rc (encI .i64) a z0 y0 1)]) (c' := 2) [0, 1] (by decide) rfl ⟨by kernel_rfl, by kernel_rfl, by kernel_rfl, by kernel_rfl, by kernel_rfl, trivial⟩ ⟨⟨_, _, rfl, rfl, .inr ⟨_, _, _, _, rfl, rfl⟩⟩, ⟨_, _, rfl, rfl, .inl ⟨rfl, rowC_scal (encI_ok .i64) _⟩⟩, trivial⟩ rfl ?_
      refine XL.conv (σ' := [(0, s0 0 a.length), (4, pp 1 0), (15, s0 0 a.length), (16, ii ((a.length : Nat) : Int)), (17, ii 0)]) (h' := [(1, rc encB [false, false, false, false, false, false, false] 0 86 0), (0, rc (encI .i64) a z0 y0 1)]) (c' := 2) ?_ (by kernel_rfl)
      cases o1 with
      | r x2_r1 =>
        dsimp only at h
        refine XL.conv (f12_1_ok m m z0 y0 a ((a.length : Nat) : Int) 0 [false, false, false, false, false, false, false] (.r x2_r1) o1_h _ ?_) (by first | with_reducible rfl | simp | rfl)
        have h := Option.some.inj h
        subst h
        exact ⟨fun i q => (by cases q), ii x2_r1, (by kernel_rfl), rfl⟩
      | x1 =>
        dsimp only at h
        refine XL.conv (f12_1_ok m m z0 y0 a ((a.length : Nat) : Int) 0 [false, false, false, false, false, false, false] (.x1) o1_h _ ?_) (by first | with_reducible rfl | simp | rfl)
        show XQ _ _ _ _ _ _ _ _
        refine XQ.seq E0_ok (by kernel_rfl) ?_
        refine XQ.region (by kernel_rfl) ?_
        refine XR.runS E0_ok 1 1 [(2, ii 0)] rfl (by kernel_rfl) ?_
        refine XR.done (by kernel_rfl) ?_
        show XQ _ _ _ _ _ _ _ _
        refine XQ.ret (by kernel_rfl) ?_
        have h := Option.some.inj h
        subst h
        exact ⟨fun i q => (by cases q), ii 0, (by kernel_rfl), rfl⟩

end Go.Xm
