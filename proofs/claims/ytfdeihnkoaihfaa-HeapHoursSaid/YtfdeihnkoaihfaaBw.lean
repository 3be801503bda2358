/- What these functions of the program compute, as functions in Lean, and the proofs that they do: vitolaref02.shared, vitolaref02.most, vitolaref02.first. Conditions: none. -/
import Derived.Test.YtfdeihnkoaihfaaBe
namespace Go.Xm
open Go.RowKit
set_option linter.unusedVariables false
set_option linter.unusedSimpArgs false
set_option maxRecDepth 20000

/-! vitola/vitolaref02.shared -/
noncomputable def f82_C82 : Code := Proofs.Try.f82.body.getD .skip

def f82 (m : Nat) (a_From : Int) (a_To : Int) (b_From : Int) (b_To : Int) : Option (Bool) :=
  some (decide ((iMax a_From b_From) ≤ (iMin a_To b_To)))

theorem f82_ok (m : Nat) (a_From : Int) (a_To : Int) (b_From : Int) (b_To : Int) (o : Bool) (h : f82 m a_From a_To b_From b_To = some o) (w : World) (hI : anyInv w) : Calls Proofs.Try.prog 82 #[.agg #[ii a_From, ii a_To], .agg #[ii b_From, ii b_To]] w fun e w' => e = .returned (.bool o) ∧ Below w.heap.size w w' := by
  refine KC.calls (E := E0) (args := [.agg #[ii a_From, ii a_To], .agg #[ii b_From, ii b_To]]) (v := .bool o) rfl rfl (KC.bodyN E0_ok (F := Proofs.Try.f82) (by kernel_rfl) (code := f82_C82) (by kernel_rfl) (nt := 16) (by kernel_rfl) (rs := [.tmp 4]) (by kernel_rfl) (by kernel_rfl) (σ := [(0, .agg #[ii a_From, ii a_To]), (1, .agg #[ii b_From, ii b_To])]) (by kernel_rfl) ?_) w (anyInv_size hI) hI
  unfold f82 at h
  refine XQ.seq E0_ok (by kernel_rfl) ?_
  refine XQ.region (by kernel_rfl) ?_
  refine XR.runT E0_ok 1 3 [(2, pp 0 0), (3, pp 1 0)] [(1, .cells [ii b_From, ii b_To] 0 83 0), (0, .cells [ii a_From, ii a_To] 0 83 0)] 2 rfl (by kernel_rfl) ?_
  refine XR.done (by kernel_rfl) ?_
  show XQ _ _ _ _ _ _ _ _
  refine XQ.seq E0_ok (by kernel_rfl) ?_
  refine XQ.region (by kernel_rfl) ?_
  refine XR.runS E0_ok 1 12 [(4, .bool (decide ((iMax a_From b_From) ≤ (iMin a_To b_To))))] rfl (by kernel_rfl) ?_
  refine XR.done (by kernel_rfl) ?_
  show XQ _ _ _ _ _ _ _ _
  refine XQ.ret (by kernel_rfl) ?_
  have h := Option.some.inj h
  subst h
  exact ⟨fun i q => (by cases q), .bool (decide ((iMax a_From b_From) ≤ (iMin a_To b_To))), (by kernel_rfl), rfl⟩

/-! vitola/vitolaref02.most -/
noncomputable def f81_C81 : Code := Proofs.Try.f81.body.getD .skip
noncomputable def f81_L1 : Code := lft (lft (rgt (lft (rgt (rgt (rgt f81_C81))))))

inductive Of81_1 where
  | r (x6_r1 : Int)
  | x0 (x7_x01 : Int)

def f81_1 (m : Nat) : Nat → List (Int × Int) → List (Int × Int) → Int → Int → Int → Option Of81_1
  | 0, _, _, _, _, _ => none
  | fuel + 1, a, b, c, x7_1, x8_1 =>
    cond (decide (x8_1 < ((b.length : Nat) : Int))) (
      cond (inRow x8_1 b.length) (
        cond (inRow c a.length) (
          (f82 m ((List.getD b (Int.toNat x8_1) (0, 0)).1) ((List.getD b (Int.toNat x8_1) (0, 0)).2) ((List.getD a (Int.toNat c) (0, 0)).1) ((List.getD a (Int.toNat c) (0, 0)).2)).bind fun r4 =>
            cond (r4) (
              some (.r x7_1)
            ) (
              f81_1 m fuel a b c x7_1 (w64 (x8_1 + 1))
            )
        ) none
      ) none
    ) (
      some (.x0 x7_1)
    )

theorem f81_1_ok (m : Nat) : ∀ (fuel : Nat) (z0 : Nat) (y0 : Nat) (a : List (Int × Int)) (z1 : Nat) (y1 : Nat) (b : List (Int × Int)) (c : Int) (x7_1 : Int) (x8_1 : Int) (o : Of81_1), f81_1 m fuel a b c x7_1 x8_1 = some o → ∀ Q : QP, (match o with | .r x6_r1 => Q .ret [(6, ii x6_r1)] [(1, rc encP b z1 y1 2), (0, rc encP a z0 y0 2)] 2 | .x0 x7_x01 => Q (.exit 0) [(0, s0 0 a.length), (1, s0 1 b.length), (2, ii c), (7, ii x7_x01)] [(1, rc encP b z1 y1 2), (0, rc encP a z0 y0 2)] 2) → XL E0 50 2 fuel f81_L1 [(0, s0 0 a.length), (1, s0 1 b.length), (2, ii c), (7, ii x7_1), (8, ii x8_1)] [(1, rc encP b z1 y1 2), (0, rc encP a z0 y0 2)] 2 Q
  | 0, z0, y0, a, z1, y1, b, c, x7_1, x8_1, o, h, Q, hQ => by cases h
  | fuel + 1, z0, y0, a, z1, y1, b, c, x7_1, x8_1, o, h, Q, hQ => by
    unfold f81_1 at h
    refine XL.succ E0_ok ?_
    refine XQ.seq E0_ok (by kernel_rfl) ?_
    refine XQ.seq E0_ok (by kernel_rfl) ?_
    refine XQ.region (by kernel_rfl) ?_
    refine XR.runS E0_ok 1 4 [(0, s0 0 a.length), (1, s0 1 b.length), (2, ii c), (7, ii x7_1), (8, ii x8_1), (21, .bool (decide (x8_1 < ((b.length : Nat) : Int))))] rfl (by kernel_rfl) ?_
    refine XR.done (by kernel_rfl) ?_
    show XQ _ _ _ _ _ _ _ _
    cases b1 : (decide (x8_1 < ((b.length : Nat) : Int)) : Bool) with
    | true =>
      have h := cT b1 h
      refine XQ.cond (s := (.tmp 21)) (b := true) (by kernel_rfl) (by kernel_rfl) (fun _ => ?_) (fun q => by cases q)
      refine XQ.skip (by kernel_rfl) ?_
      show XQ _ _ _ _ _ _ _ _
      refine XQ.seq E0_ok (by kernel_rfl) ?_
      refine XQ.block (id := 1) (by kernel_rfl) ?_
      refine XQ.seq E0_ok (by kernel_rfl) ?_
      refine XQ.quiet E0_ok (by kernel_rfl) (by kernel_rfl) ?_
      refine XU.run E0_ok 1 2 [0, 1, 2, 7, 8, 24, 25] rfl (σ' := [(0, s0 0 a.length), (1, s0 1 b.length), (2, ii c), (7, ii x7_1), (8, ii x8_1), (24, s0 1 b.length), (25, ii x8_1)]) (by kernel_rfl) ?_
      cases b2 : (inRow x8_1 b.length : Bool) with
      | false => cases (cF b2 h)
      | true =>
        have h := cT b2 h
        refine XU.rd E0_ok [0, 1, 2, 7, 8, 26] rfl (v := pp 1 ((Int.toNat x8_1) * 2)) (v_idx (s := 2) (x := (src 50 (.tmp 24))) (y := (src 50 (.tmp 25))) (b := 1) (o := 0) (len := b.length) (cap := b.length) (ik := .i64) (i := x8_1) (off := (Int.toNat x8_1) * 2) (d := (some (path 12 26))) (by kernel_rfl) (by kernel_rfl) (by kernel_rfl) b2 (by omega)) (σ' := [(0, s0 0 a.length), (1, s0 1 b.length), (2, ii c), (7, ii x7_1), (8, ii x8_1), (26, pp 1 ((Int.toNat x8_1) * 2))]) (by kernel_rfl) ?_
        refine XU.rd E0_ok [0, 1, 2, 7, 8, 27] rfl (v := .agg #[ii ((List.getD b (Int.toNat x8_1) (0, 0)).1), ii ((List.getD b (Int.toNat x8_1) (0, 0)).2)]) (v_loadN encP_ok (x := (src 50 (.tmp 26))) (b := 1) (off := (Int.toNat x8_1) * 2) (xs := b) (fz := z1) (e := y1) (es := 2) (d := (some (path 12 27))) (by kernel_rfl) (by kernel_rfl) (by kernel_rfl) (Int.toNat x8_1) (0, 0) (by first | rfl | omega) (row_len (inRow_toNat b2) (by simp)) rfl) (σ' := [(0, s0 0 a.length), (1, s0 1 b.length), (2, ii c), (7, ii x7_1), (8, ii x8_1), (27, .agg #[ii ((List.getD b (Int.toNat x8_1) (0, 0)).1), ii ((List.getD b (Int.toNat x8_1) (0, 0)).2)])]) (by kernel_rfl) ?_
        refine XU.run E0_ok 1 2 [0, 1, 2, 7, 8, 27, 28, 29] rfl (σ' := [(0, s0 0 a.length), (1, s0 1 b.length), (2, ii c), (7, ii x7_1), (8, ii x8_1), (27, .agg #[ii ((List.getD b (Int.toNat x8_1) (0, 0)).1), ii ((List.getD b (Int.toNat x8_1) (0, 0)).2)]), (28, s0 0 a.length), (29, ii c)]) (by kernel_rfl) ?_
        cases b3 : (inRow c a.length : Bool) with
        | false => cases (cF b3 h)
        | true =>
          have h := cT b3 h
          refine XU.rd E0_ok [0, 1, 2, 7, 8, 27, 30] rfl (v := pp 0 ((Int.toNat c) * 2)) (v_idx (s := 2) (x := (src 50 (.tmp 28))) (y := (src 50 (.tmp 29))) (b := 0) (o := 0) (len := a.length) (cap := a.length) (ik := .i64) (i := c) (off := (Int.toNat c) * 2) (d := (some (path 12 30))) (by kernel_rfl) (by kernel_rfl) (by kernel_rfl) b3 (by omega)) (σ' := [(0, s0 0 a.length), (1, s0 1 b.length), (2, ii c), (7, ii x7_1), (8, ii x8_1), (27, .agg #[ii ((List.getD b (Int.toNat x8_1) (0, 0)).1), ii ((List.getD b (Int.toNat x8_1) (0, 0)).2)]), (30, pp 0 ((Int.toNat c) * 2))]) (by kernel_rfl) ?_
          refine XU.rd E0_ok [0, 1, 2, 7, 8, 27, 31] rfl (v := .agg #[ii ((List.getD a (Int.toNat c) (0, 0)).1), ii ((List.getD a (Int.toNat c) (0, 0)).2)]) (v_loadN encP_ok (x := (src 50 (.tmp 30))) (b := 0) (off := (Int.toNat c) * 2) (xs := a) (fz := z0) (e := y0) (es := 2) (d := (some (path 12 31))) (by kernel_rfl) (by kernel_rfl) (by kernel_rfl) (Int.toNat c) (0, 0) (by first | rfl | omega) (row_len (inRow_toNat b3) (by simp)) rfl) (σ' := [(0, s0 0 a.length), (1, s0 1 b.length), (2, ii c), (7, ii x7_1), (8, ii x8_1), (27, .agg #[ii ((List.getD b (Int.toNat x8_1) (0, 0)).1), ii ((List.getD b (Int.toNat x8_1) (0, 0)).2)]), (31, .agg #[ii ((List.getD a (Int.toNat c) (0, 0)).1), ii ((List.getD a (Int.toNat c) (0, 0)).2)])]) (by kernel_rfl) ?_
          obtain ⟨r4, r4_h, h⟩ := bS h
          refine XU.call E0_ok [0, 1, 2, 7, 8, 32] rfl (K := 82) (F := Proofs.Try.f82) (args := [.agg #[ii ((List.getD b (Int.toNat x8_1) (0, 0)).1), ii ((List.getD b (Int.toNat x8_1) (0, 0)).2)], .agg #[ii ((List.getD a (Int.toNat c) (0, 0)).1), ii ((List.getD a (Int.toNat c) (0, 0)).2)]]) (d := (some (path 12 32))) (v := .bool r4) (by kernel_rfl) (by kernel_rfl) rfl rfl (fun w hI => f82_ok m ((List.getD b (Int.toNat x8_1) (0, 0)).1) ((List.getD b (Int.toNat x8_1) (0, 0)).2) ((List.getD a (Int.toNat c) (0, 0)).1) ((List.getD a (Int.toNat c) (0, 0)).2) r4 r4_h w hI) (σ' := [(0, s0 0 a.length), (1, s0 1 b.length), (2, ii c), (7, ii x7_1), (8, ii x8_1), (32, .bool r4)]) (by kernel_rfl) ?_
          refine XU.done (by kernel_rfl) ?_
          show XQ _ _ _ _ _ _ _ _
          cases b4 : (r4 : Bool) with
          | true =>
            have h := cT b4 h
            refine XQ.cond (s := (.tmp 32)) (b := true) (by kernel_rfl) (by kernel_rfl) (fun _ => ?_) (fun q => by cases q)
            refine XQ.seq E0_ok (by kernel_rfl) ?_
            refine XQ.region (by kernel_rfl) ?_
            refine XR.runS E0_ok 1 2 [(6, ii x7_1)] rfl (by kernel_rfl) ?_
            refine XR.done (by kernel_rfl) ?_
            show XQ _ _ _ _ _ _ _ _
            refine XQ.ren (σ' := [(6, ii x7_1)]) (h' := [(1, rc encP b z1 y1 2), (0, rc encP a z0 y0 2)]) (c' := 2) [0, 1] (by decide) rfl ⟨by kernel_rfl, trivial⟩ ⟨⟨_, _, rfl, rfl, .inl ⟨rfl, rowC_scal encP_ok _⟩⟩, ⟨_, _, rfl, rfl, .inl ⟨rfl, rowC_scal encP_ok _⟩⟩, trivial⟩ rfl ?_
            refine XQ.ret (by kernel_rfl) ?_
            cases h
            exact hQ
          | false =>
            have h := cF b4 h
            refine XQ.cond (s := (.tmp 32)) (b := false) (by kernel_rfl) (by kernel_rfl) (fun q => by cases q) (fun _ => ?_)
            refine XQ.skip (by kernel_rfl) ?_
            show XQ _ _ _ _ _ _ _ _
            refine XQ.region (by kernel_rfl) ?_
            refine XR.runS E0_ok 1 3 [(0, s0 0 a.length), (1, s0 1 b.length), (2, ii c), (7, ii x7_1), (8, ii (w64 (x8_1 + 1)))] rfl (by kernel_rfl) ?_
            refine XR.done (by kernel_rfl) ?_
            show XL _ _ _ _ _ _ _ _ _
            refine XL.ren (σ' := [(0, s0 0 a.length), (1, s0 1 b.length), (2, ii c), (7, ii x7_1), (8, ii (w64 (x8_1 + 1)))]) (h' := [(1, rc encP b z1 y1 2), (0, rc encP a z0 y0 2)]) (c' := 2) [0, 1] (by decide) rfl ⟨by kernel_rfl, by kernel_rfl, by kernel_rfl, by kernel_rfl, by kernel_rfl, trivial⟩ ⟨⟨_, _, rfl, rfl, .inl ⟨rfl, rowC_scal encP_ok _⟩⟩, ⟨_, _, rfl, rfl, .inl ⟨rfl, rowC_scal encP_ok _⟩⟩, trivial⟩ rfl ?_
            refine XL.conv (f81_1_ok m fuel z0 y0 a z1 y1 b c x7_1 (w64 (x8_1 + 1)) o h Q hQ) (by first | rfl | simp)
    | false =>
      have h := cF b1 h
      refine XQ.cond (s := (.tmp 21)) (b := false) (by kernel_rfl) (by kernel_rfl) (fun q => by cases q) (fun _ => ?_)
      refine XQ.ren (σ' := [(0, s0 0 a.length), (1, s0 1 b.length), (2, ii c), (7, ii x7_1)]) (h' := [(1, rc encP b z1 y1 2), (0, rc encP a z0 y0 2)]) (c' := 2) [0, 1] (by decide) rfl ⟨by kernel_rfl, by kernel_rfl, by kernel_rfl, by kernel_rfl, trivial⟩ ⟨⟨_, _, rfl, rfl, .inl ⟨rfl, rowC_scal encP_ok _⟩⟩, ⟨_, _, rfl, rfl, .inl ⟨rfl, rowC_scal encP_ok _⟩⟩, trivial⟩ rfl ?_
      refine XQ.exit (i := 0) (by kernel_rfl) ?_
      cases h
      exact hQ

def f81 (m : Nat) : Nat → (List (Int × Int)) → (List (Int × Int)) → Int → Option (Int)
  | 0, _, _, _ => none
  | fuel + 1, a, b, c =>
    cond (c == ((a.length : Nat) : Int)) (
      some (0)
    ) (
      (f81 m fuel a b (w64 (c + 1))).bind fun r1 =>
        (f81_1 m m a b c r1 0).bind fun o1 =>
          match o1 with
          | .r x6_r1 =>
            some (x6_r1)
          | .x0 x7_x01 =>
            cond (fitsB (0 + b.length) 16) (
              cond (inRow c a.length) (
                cond (fitsB (b.length + 1) 16) (
                  (f81 m fuel a (b ++ [((List.getD a (Int.toNat c) (0, 0)).1, (List.getD a (Int.toNat c) (0, 0)).2)]) (w64 (c + 1))).bind fun r5 =>
                    some (iMax x7_x01 (w64 (1 + r5)))
                ) none
              ) none
            ) none
    )

theorem f81_ok (m : Nat) : ∀ (fuel : Nat) (z0 : Nat) (y0 : Nat) (z1 : Nat) (y1 : Nat) (a : List (Int × Int)) (b : List (Int × Int)) (c : Int) (o : Int), f81 m fuel a b c = some o → KC E0 81 [s0 0 a.length, s0 1 b.length, ii c] [(1, rc encP b z1 y1 2), (0, rc encP a z0 y0 2)] 2 (fun v _ _ => v = ii o)
  | 0, z0, y0, z1, y1, a, b, c, o, h => by cases h
  | fuel + 1, z0, y0, z1, y1, a, b, c, o, h => by
    refine KC.bodyN E0_ok (F := Proofs.Try.f81) (by kernel_rfl) (code := f81_C81) (by kernel_rfl) (nt := 50) (by kernel_rfl) (rs := [.tmp 6]) (by kernel_rfl) (by kernel_rfl) (σ := [(0, s0 0 a.length), (1, s0 1 b.length), (2, ii c)]) (by kernel_rfl) ?_
    unfold f81 at h
    refine XQ.seq E0_ok (by kernel_rfl) ?_
    refine XQ.region (by kernel_rfl) ?_
    refine XR.runS E0_ok 1 1 [(0, s0 0 a.length), (1, s0 1 b.length), (2, ii c)] rfl (by kernel_rfl) ?_
    refine XR.done (by kernel_rfl) ?_
    show XQ _ _ _ _ _ _ _ _
    refine XQ.seq E0_ok (by kernel_rfl) ?_
    refine XQ.seq E0_ok (by kernel_rfl) ?_
    refine XQ.region (by kernel_rfl) ?_
    refine XR.runS E0_ok 1 4 [(0, s0 0 a.length), (1, s0 1 b.length), (2, ii c), (12, .bool (c == ((a.length : Nat) : Int)))] rfl (by kernel_rfl) ?_
    refine XR.done (by kernel_rfl) ?_
    show XQ _ _ _ _ _ _ _ _
    cases b1 : (c == ((a.length : Nat) : Int) : Bool) with
    | true =>
      have h := cT b1 h
      refine XQ.cond (s := (.tmp 12)) (b := true) (by kernel_rfl) (by kernel_rfl) (fun _ => ?_) (fun q => by cases q)
      refine XQ.seq E0_ok (by kernel_rfl) ?_
      refine XQ.region (by kernel_rfl) ?_
      refine XR.runS E0_ok 1 1 [(6, ii 0)] rfl (by kernel_rfl) ?_
      refine XR.done (by kernel_rfl) ?_
      show XQ _ _ _ _ _ _ _ _
      refine XQ.ret (by kernel_rfl) ?_
      have h := Option.some.inj h
      subst h
      exact ⟨fun i q => (by cases q), ii 0, (by kernel_rfl), rfl⟩
    | false =>
      have h := cF b1 h
      refine XQ.cond (s := (.tmp 12)) (b := false) (by kernel_rfl) (by kernel_rfl) (fun q => by cases q) (fun _ => ?_)
      refine XQ.skip (by kernel_rfl) ?_
      show XQ _ _ _ _ _ _ _ _
      refine XQ.seq E0_ok (by kernel_rfl) ?_
      refine XQ.region (by kernel_rfl) ?_
      refine XR.runS E0_ok 1 4 [(0, s0 0 a.length), (1, s0 1 b.length), (2, ii c), (13, s0 0 a.length), (14, s0 1 b.length), (16, ii (w64 (c + 1)))] rfl (by kernel_rfl) ?_
      obtain ⟨r1, r1_h, h⟩ := bS h
      refine XR.call E0_ok [0, 1, 2, 17] rfl (K := 81) (args := [s0 0 a.length, s0 1 b.length, ii (w64 (c + 1))]) (d := (some (path 12 17))) (by kernel_rfl) (KQ.call (KC.quiet E0_ok (args0 := [s0 0 a.length, s0 1 b.length, ii (w64 (c + 1))]) (h0 := [(1, rc encP b (z1 + ((rowC encP b).length + 1)) y1 2), (0, rc encP a (z0 + ((rowC encP a).length + 1)) y0 2)]) (n := 2) (V := ii r1) [0, 1] (f81_ok m fuel (z0 + ((rowC encP a).length + 1)) y0 (z1 + ((rowC encP b).length + 1)) y1 a b (w64 (c + 1)) r1 r1_h) rfl (by rfl) (by decide) rfl (by kernel_rfl) ⟨⟨_, _, rfl, rfl, .inl ⟨rfl, rowC_scal encP_ok _⟩⟩, ⟨_, _, rfl, rfl, .inl ⟨rfl, rowC_scal encP_ok _⟩⟩, trivial⟩) rfl) ?_
      rintro _ _ _ ⟨rfl, rfl, rfl⟩
      refine XR.conv (σ' := [(0, s0 0 a.length), (1, s0 1 b.length), (2, ii c), (17, ii r1)]) (h' := [(1, rc encP b z1 y1 2), (0, rc encP a z0 y0 2)]) (c' := 2) ?_ (by kernel_rfl)
      refine XR.runS E0_ok 1 1 [(0, s0 0 a.length), (1, s0 1 b.length), (2, ii c), (7, ii r1)] rfl (by kernel_rfl) ?_
      refine XR.done (by kernel_rfl) ?_
      show XQ _ _ _ _ _ _ _ _
      refine XQ.seq E0_ok (by kernel_rfl) ?_
      refine XQ.seq E0_ok (by kernel_rfl) ?_
      refine XQ.region (by kernel_rfl) ?_
      refine XR.runS E0_ok 1 1 [(0, s0 0 a.length), (1, s0 1 b.length), (2, ii c), (7, ii r1), (8, ii 0)] rfl (by kernel_rfl) ?_
      refine XR.done (by kernel_rfl) ?_
      show XQ _ _ _ _ _ _ _ _
      refine XQ.block (id := 0) (by kernel_rfl) ?_
      refine XQ.loop m (by kernel_rfl) ?_
      obtain ⟨o1, o1_h, h⟩ := bS h
      refine XL.ren (σ' := [(0, s0 0 a.length), (1, s0 1 b.length), (2, ii c), (7, ii r1), (8, ii 0)]) (h' := [(1, rc encP b z1 y1 2), (0, rc encP a z0 y0 2)]) (c' := 2) [0, 1] (by decide) rfl ⟨by kernel_rfl, by kernel_rfl, by kernel_rfl, by kernel_rfl, by kernel_rfl, trivial⟩ ⟨⟨_, _, rfl, rfl, .inl ⟨rfl, rowC_scal encP_ok _⟩⟩, ⟨_, _, rfl, rfl, .inl ⟨rfl, rowC_scal encP_ok _⟩⟩, trivial⟩ rfl ?_
      cases o1 with
      | r x6_r1 =>
        dsimp only at h
        refine XL.conv (f81_1_ok m m z0 y0 a z1 y1 b c r1 0 (.r x6_r1) o1_h _ ?_) (by first | rfl | simp)
        have h := Option.some.inj h
        subst h
        exact ⟨fun i q => (by cases q), ii x6_r1, (by kernel_rfl), rfl⟩
      | x0 x7_x01 =>
        dsimp only at h
        refine XL.conv (f81_1_ok m m z0 y0 a z1 y1 b c r1 0 (.x0 x7_x01) o1_h _ ?_) (by first | rfl | simp)
        show XQ _ _ _ _ _ _ _ _
        refine XQ.seq E0_ok (by kernel_rfl) ?_
        cases b3 : (fitsB (0 + b.length) 16 : Bool) with
        | false => cases (cF b3 h)
        | true =>
          have h := cT b3 h
          cases b4 : (inRow c a.length : Bool) with
          | false => cases (cF b4 h)
          | true =>
            have h := cT b4 h
            cases b5 : (fitsB (b.length + 1) 16 : Bool) with
            | false => cases (cF b5 h)
            | true =>
              have h := cT b5 h
              obtain ⟨r5, r5_h, h⟩ := bS h
              refine XQ.preA E0_ok [0, 1, 3, 5, 6, 7, 11, 12] (by kernel_rfl) (g := 9) (listed := #[true, true, false, true, false, true, true, true, false, false, false, true, true, false, false, false, false]) (by kernel_rfl) (by kernel_rfl) (by kernel_rfl) (by kernel_rfl) (by kernel_rfl) (σ' := [(6, ii (iMax x7_x01 (w64 (1 + r5))))]) (h' := [(1, rc encP b z1 y1 2), (0, rc encP a z0 y0 2)]) (c' := 2) ?_ ?_
              · show XQ _ _ _ _ _ _ _ _
                refine XQ.ret (by kernel_rfl) ?_
                have h := Option.some.inj h
                subst h
                exact ⟨fun i q => (by cases q), ii (iMax x7_x01 (w64 (1 + r5))), (by kernel_rfl), rfl⟩
              · have xa9 : XA E0 50 2 (opsOf (lft (rgt (rgt (rgt (rgt f81_C81)))))) 0 #[true, true, true, true, true, true, true, true, true, true, true, true, true, true, true, true, true] [(6, ii (iMax x7_x01 (w64 (1 + r5))))] [(1, rc encP b z1 y1 2), (0, rc encP a z0 y0 2)] 2 (fun e σ1 h1 c1 => e = .normal ∧ (σ1, h1, c1) = ([(6, ii (iMax x7_x01 (w64 (1 + r5))))], [(1, rc encP b z1 y1 2), (0, rc encP a z0 y0 2)], 2)) := by
                  exact XA.done (by kernel_rfl) ⟨rfl, rfl⟩
                have xa8 : XA E0 50 2 (opsOf (lft (rgt (rgt (rgt (rgt f81_C81)))))) 1 #[true, true, true, true, true, true, true, true, true, true, true, true, true, true, true, true, false] [(49, ii (iMax x7_x01 (w64 (1 + r5))))] [(1, rc encP b z1 y1 2), (0, rc encP a z0 y0 2)] 2 (fun e σ1 h1 c1 => e = .normal ∧ (σ1, h1, c1) = ([(6, ii (iMax x7_x01 (w64 (1 + r5))))], [(1, rc encP b z1 y1 2), (0, rc encP a z0 y0 2)], 2)) := by
                  refine XA.step E0_ok [16] (by kernel_rfl) rfl (by kernel_rfl) ⟨?_, trivial⟩
                  · refine XR.runS E0_ok 1 1 [(6, ii (iMax x7_x01 (w64 (1 + r5))))] rfl (by kernel_rfl) ?_
                    refine XR.done (by kernel_rfl) ?_
                    refine ⟨rfl, ?_⟩
                    show XA _ _ _ _ _ _ _ _ _ _
                    exact xa9
                have xa7 : XA E0 50 2 (opsOf (lft (rgt (rgt (rgt (rgt f81_C81)))))) 2 #[true, true, true, true, true, true, true, true, true, true, true, true, true, true, true, false, false] [(34, ii x7_x01), (48, ii (w64 (1 + r5)))] [(1, rc encP b z1 y1 2), (0, rc encP a z0 y0 2)] 2 (fun e σ1 h1 c1 => e = .normal ∧ (σ1, h1, c1) = ([(6, ii (iMax x7_x01 (w64 (1 + r5))))], [(1, rc encP b z1 y1 2), (0, rc encP a z0 y0 2)], 2)) := by
                  refine XA.step E0_ok [15] (by kernel_rfl) rfl (by kernel_rfl) ⟨?_, trivial⟩
                  · refine XR.runS E0_ok 1 1 [(49, ii (iMax x7_x01 (w64 (1 + r5))))] rfl (by kernel_rfl) ?_
                    refine XR.done (by kernel_rfl) ?_
                    refine ⟨rfl, ?_⟩
                    show XA _ _ _ _ _ _ _ _ _ _
                    exact xa8
                have xa6 : XA E0 50 2 (opsOf (lft (rgt (rgt (rgt (rgt f81_C81)))))) 3 #[true, true, true, true, true, true, true, true, true, true, true, true, true, true, false, false, false] [(34, ii x7_x01), (47, ii r5)] [(1, rc encP b z1 y1 2), (0, rc encP a z0 y0 2)] 2 (fun e σ1 h1 c1 => e = .normal ∧ (σ1, h1, c1) = ([(6, ii (iMax x7_x01 (w64 (1 + r5))))], [(1, rc encP b z1 y1 2), (0, rc encP a z0 y0 2)], 2)) := by
                  refine XA.step E0_ok [14] (by kernel_rfl) rfl (by kernel_rfl) ⟨?_, trivial⟩
                  · refine XR.runS E0_ok 1 1 [(34, ii x7_x01), (48, ii (w64 (1 + r5)))] rfl (by kernel_rfl) ?_
                    refine XR.done (by kernel_rfl) ?_
                    refine ⟨rfl, ?_⟩
                    show XA _ _ _ _ _ _ _ _ _ _
                    exact xa7
                have xa5 : XA E0 50 2 (opsOf (lft (rgt (rgt (rgt (rgt f81_C81)))))) 4 #[true, true, true, true, true, true, true, true, true, true, true, true, true, false, false, false, false] [(34, ii x7_x01), (35, s0 0 a.length), (44, s0 2 ((b ++ [((List.getD a (Int.toNat c) (0, 0)).1, (List.getD a (Int.toNat c) (0, 0)).2)]).length)), (46, ii (w64 (c + 1)))] [(2, rc encP (b ++ [((List.getD a (Int.toNat c) (0, 0)).1, (List.getD a (Int.toNat c) (0, 0)).2)]) 0 83 2), (1, rc encP b z1 y1 2), (0, rc encP a z0 y0 2)] 3 (fun e σ1 h1 c1 => e = .normal ∧ (σ1, h1, c1) = ([(6, ii (iMax x7_x01 (w64 (1 + r5))))], [(1, rc encP b z1 y1 2), (0, rc encP a z0 y0 2)], 2)) := by
                  refine XA.step E0_ok [13] (by kernel_rfl) rfl (by kernel_rfl) ⟨?_, trivial⟩
                  · refine XR.call E0_ok [34, 47] rfl (K := 81) (args := [s0 0 a.length, s0 2 ((b ++ [((List.getD a (Int.toNat c) (0, 0)).1, (List.getD a (Int.toNat c) (0, 0)).2)]).length), ii (w64 (c + 1))]) (d := (some (path 12 47))) (by kernel_rfl) (KQ.call (KC.quiet E0_ok (args0 := [s0 0 a.length, s0 1 ((b ++ [((List.getD a (Int.toNat c) (0, 0)).1, (List.getD a (Int.toNat c) (0, 0)).2)]).length), ii (w64 (c + 1))]) (h0 := [(1, rc encP (b ++ [((List.getD a (Int.toNat c) (0, 0)).1, (List.getD a (Int.toNat c) (0, 0)).2)]) (0 + ((rowC encP (b ++ [((List.getD a (Int.toNat c) (0, 0)).1, (List.getD a (Int.toNat c) (0, 0)).2)])).length + 1)) 83 2), (0, rc encP a (z0 + ((rowC encP a).length + 1)) y0 2)]) (n := 2) (V := ii r5) [0, 2] (f81_ok m fuel (z0 + ((rowC encP a).length + 1)) y0 (0 + ((rowC encP (b ++ [((List.getD a (Int.toNat c) (0, 0)).1, (List.getD a (Int.toNat c) (0, 0)).2)])).length + 1)) 83 a (b ++ [((List.getD a (Int.toNat c) (0, 0)).1, (List.getD a (Int.toNat c) (0, 0)).2)]) (w64 (c + 1)) r5 r5_h) rfl (by rfl) (by decide) rfl (by kernel_rfl) ⟨⟨_, _, rfl, rfl, .inl ⟨rfl, rowC_scal encP_ok _⟩⟩, ⟨_, _, rfl, rfl, .inl ⟨rfl, rowC_scal encP_ok _⟩⟩, trivial⟩) rfl) ?_
                    rintro _ _ _ ⟨rfl, rfl, rfl⟩
                    refine XR.conv (σ' := [(34, ii x7_x01), (47, ii r5)]) (h' := [(2, rc encP (b ++ [((List.getD a (Int.toNat c) (0, 0)).1, (List.getD a (Int.toNat c) (0, 0)).2)]) 0 83 2), (1, rc encP b z1 y1 2), (0, rc encP a z0 y0 2)]) (c' := 3) ?_ (by kernel_rfl)
                    refine XR.done (by kernel_rfl) ?_
                    refine ⟨rfl, ?_⟩
                    show XA _ _ _ _ _ _ _ _ _ _
                    refine XA.ren (σ' := [(34, ii x7_x01), (47, ii r5)]) (h' := [(1, rc encP b z1 y1 2), (0, rc encP a z0 y0 2)]) (c' := 2) [0, 1] (by decide) rfl ⟨by kernel_rfl, by kernel_rfl, trivial⟩ ⟨⟨_, _, rfl, rfl, .inl ⟨rfl, rowC_scal encP_ok _⟩⟩, ⟨_, _, rfl, rfl, .inl ⟨rfl, rowC_scal encP_ok _⟩⟩, trivial⟩ rfl ?_
                    exact xa6
                have xa4 : XA E0 50 2 (opsOf (lft (rgt (rgt (rgt (rgt f81_C81)))))) 5 #[true, true, true, true, true, true, true, true, true, true, false, true, true, false, false, false, false] [(34, ii x7_x01), (35, s0 0 a.length), (38, s0 2 b.length), (43, s0 3 1), (46, ii (w64 (c + 1)))] [(3, .cells [ii ((List.getD a (Int.toNat c) (0, 0)).1), ii ((List.getD a (Int.toNat c) (0, 0)).2)] 0 83 2), (2, rc encP b 0 83 2), (1, rc encP b z1 y1 2), (0, rc encP a z0 y0 2)] 4 (fun e σ1 h1 c1 => e = .normal ∧ (σ1, h1, c1) = ([(6, ii (iMax x7_x01 (w64 (1 + r5))))], [(1, rc encP b z1 y1 2), (0, rc encP a z0 y0 2)], 2)) := by
                  refine XA.step E0_ok [10] (by kernel_rfl) rfl (by kernel_rfl) ⟨?_, trivial⟩
                  · refine XR.ef E0_ok [34, 35, 44, 46] rfl (e_append encP_ok (bytes := 16) (e := 83) (x := (src 50 (.tmp 38))) (y := (src 50 (.tmp 43))) (b := 2) (len := b.length) (cap := b.length) (xs := b) (m := 0) (ys := [((List.getD a (Int.toNat c) (0, 0)).1, (List.getD a (Int.toNat c) (0, 0)).2)]) (d := (some (path 12 44))) (n' := (b ++ [((List.getD a (Int.toNat c) (0, 0)).1, (List.getD a (Int.toNat c) (0, 0)).2)]).length) (h' := [(4, rc encP (b ++ [((List.getD a (Int.toNat c) (0, 0)).1, (List.getD a (Int.toNat c) (0, 0)).2)]) 0 83 2), (3, .cells [ii ((List.getD a (Int.toNat c) (0, 0)).1), ii ((List.getD a (Int.toNat c) (0, 0)).2)] 0 83 2), (1, rc encP b z1 y1 2), (0, rc encP a z0 y0 2)]) (by kernel_rfl) (by kernel_rfl) (by kernel_rfl) (by kernel_rfl) rfl (by simp) (by simp) b5 (by simp) (by kernel_rfl)) (σ' := [(34, ii x7_x01), (35, s0 0 a.length), (44, s0 4 ((b ++ [((List.getD a (Int.toNat c) (0, 0)).1, (List.getD a (Int.toNat c) (0, 0)).2)]).length)), (46, ii (w64 (c + 1)))]) (by kernel_rfl) ?_
                    refine XR.done (by kernel_rfl) ?_
                    refine ⟨rfl, ?_⟩
                    show XA _ _ _ _ _ _ _ _ _ _
                    refine XA.ren (σ' := [(34, ii x7_x01), (35, s0 0 a.length), (44, s0 2 ((b ++ [((List.getD a (Int.toNat c) (0, 0)).1, (List.getD a (Int.toNat c) (0, 0)).2)]).length)), (46, ii (w64 (c + 1)))]) (h' := [(2, rc encP (b ++ [((List.getD a (Int.toNat c) (0, 0)).1, (List.getD a (Int.toNat c) (0, 0)).2)]) 0 83 2), (1, rc encP b z1 y1 2), (0, rc encP a z0 y0 2)]) (c' := 3) [0, 1, 4] (by decide) rfl ⟨by kernel_rfl, by kernel_rfl, by kernel_rfl, by kernel_rfl, trivial⟩ ⟨⟨_, _, rfl, rfl, .inl ⟨rfl, rowC_scal encP_ok _⟩⟩, ⟨_, _, rfl, rfl, .inl ⟨rfl, rowC_scal encP_ok _⟩⟩, ⟨_, _, rfl, rfl, .inl ⟨rfl, rowC_scal encP_ok _⟩⟩, trivial⟩ rfl ?_
                    exact xa5
                have xa3 : XA E0 50 2 (opsOf (lft (rgt (rgt (rgt (rgt f81_C81)))))) 6 #[true, true, true, true, true, true, true, true, true, false, false, true, true, false, false, false, false] [(34, ii x7_x01), (35, s0 0 a.length), (38, s0 2 b.length), (42, .agg #[ii ((List.getD a (Int.toNat c) (0, 0)).1), ii ((List.getD a (Int.toNat c) (0, 0)).2)]), (46, ii (w64 (c + 1)))] [(2, rc encP b 0 83 2), (1, rc encP b z1 y1 2), (0, rc encP a z0 y0 2)] 3 (fun e σ1 h1 c1 => e = .normal ∧ (σ1, h1, c1) = ([(6, ii (iMax x7_x01 (w64 (1 + r5))))], [(1, rc encP b z1 y1 2), (0, rc encP a z0 y0 2)], 2)) := by
                  refine XA.step E0_ok [9] (by kernel_rfl) rfl (by kernel_rfl) ⟨?_, trivial⟩
                  · refine XR.runT E0_ok 1 1 [(34, ii x7_x01), (35, s0 0 a.length), (38, s0 2 b.length), (43, s0 3 1), (46, ii (w64 (c + 1)))] [(3, .cells [ii ((List.getD a (Int.toNat c) (0, 0)).1), ii ((List.getD a (Int.toNat c) (0, 0)).2)] 0 83 2), (2, rc encP b 0 83 2), (1, rc encP b z1 y1 2), (0, rc encP a z0 y0 2)] 4 rfl (by kernel_rfl) ?_
                    refine XR.done (by kernel_rfl) ?_
                    refine ⟨rfl, ?_⟩
                    show XA _ _ _ _ _ _ _ _ _ _
                    exact xa4
                have xa2 : XA E0 50 2 (opsOf (lft (rgt (rgt (rgt (rgt f81_C81)))))) 7 #[true, true, true, true, true, true, true, true, false, false, false, true, true, false, false, false, false] [(34, ii x7_x01), (35, s0 0 a.length), (38, s0 2 b.length), (41, pp 0 ((Int.toNat c) * 2)), (46, ii (w64 (c + 1)))] [(2, rc encP b 0 83 2), (1, rc encP b z1 y1 2), (0, rc encP a z0 y0 2)] 3 (fun e σ1 h1 c1 => e = .normal ∧ (σ1, h1, c1) = ([(6, ii (iMax x7_x01 (w64 (1 + r5))))], [(1, rc encP b z1 y1 2), (0, rc encP a z0 y0 2)], 2)) := by
                  refine XA.step E0_ok [8] (by kernel_rfl) rfl (by kernel_rfl) ⟨?_, trivial⟩
                  · refine XR.rd E0_ok [34, 35, 38, 42, 46] rfl (v := .agg #[ii ((List.getD a (Int.toNat c) (0, 0)).1), ii ((List.getD a (Int.toNat c) (0, 0)).2)]) (v_loadN encP_ok (x := (src 50 (.tmp 41))) (b := 0) (off := (Int.toNat c) * 2) (xs := a) (fz := z0) (e := y0) (es := 2) (d := (some (path 12 42))) (by kernel_rfl) (by kernel_rfl) (by kernel_rfl) (Int.toNat c) (0, 0) (by first | rfl | omega) (row_len (inRow_toNat b4) (by simp)) rfl) (σ' := [(34, ii x7_x01), (35, s0 0 a.length), (38, s0 2 b.length), (42, .agg #[ii ((List.getD a (Int.toNat c) (0, 0)).1), ii ((List.getD a (Int.toNat c) (0, 0)).2)]), (46, ii (w64 (c + 1)))]) (by kernel_rfl) ?_
                    refine XR.done (by kernel_rfl) ?_
                    refine ⟨rfl, ?_⟩
                    show XA _ _ _ _ _ _ _ _ _ _
                    exact xa3
                have xa11 : XA E0 50 2 (opsOf (lft (rgt (rgt (rgt (rgt f81_C81)))))) 6 #[true, true, true, true, false, true, true, true, true, true, false, true, true, false, false, false, false] [(34, ii x7_x01), (35, s0 0 a.length), (36, s0 2 0), (37, s0 1 b.length), (43, s0 3 1), (46, ii (w64 (c + 1)))] [(3, .cells [ii ((List.getD a (Int.toNat c) (0, 0)).1), ii ((List.getD a (Int.toNat c) (0, 0)).2)] 0 83 2), (2, .cells [] 0 83 2), (1, rc encP b z1 y1 2), (0, rc encP a z0 y0 2)] 4 (fun e σ1 h1 c1 => e = .normal ∧ (σ1, h1, c1) = ([(6, ii (iMax x7_x01 (w64 (1 + r5))))], [(1, rc encP b z1 y1 2), (0, rc encP a z0 y0 2)], 2)) := by
                  refine XA.step E0_ok [4] (by kernel_rfl) rfl (by kernel_rfl) ⟨?_, trivial⟩
                  · refine XR.efX E0_ok [34, 35, 38, 43, 46] rfl (d := (some (path 12 38))) (f := eAppend false 2 16 83 (src 50 (.tmp 36)) (src 50 (.tmp 37))) (by kernel_rfl) (fun _ => eAppendA_ok) (e_appendA encP_ok (bytes := 16) (e := 83) (x := (src 50 (.tmp 36))) (y := (src 50 (.tmp 37))) (b := 2) (len := 0) (cap := 0) (xs := []) (n := b.length) (ys := b) (n' := b.length) (h' := [(4, rc encP b 0 83 2), (3, .cells [ii ((List.getD a (Int.toNat c) (0, 0)).1), ii ((List.getD a (Int.toNat c) (0, 0)).2)] 0 83 2), (1, rc encP b z1 y1 2), (0, rc encP a z0 y0 2)]) (Y := s0 1 b.length) (by kernel_rfl) (by kernel_rfl) (by kernel_rfl) (fetch_all encP_ok (ys := b) (fz := z1) (e := y1) (es := 2) (by kernel_rfl) (by simp) (Nat.le_refl _)) (by simp) rfl (by simp) (by simp) b3 (by first | (simp; done) | (simp; omega)) (by kernel_rfl)) (σ' := [(34, ii x7_x01), (35, s0 0 a.length), (38, s0 4 b.length), (43, s0 3 1), (46, ii (w64 (c + 1)))]) (by kernel_rfl) ?_
                    refine XR.done (by kernel_rfl) ?_
                    refine ⟨rfl, ?_⟩
                    show XA _ _ _ _ _ _ _ _ _ _
                    refine XA.ren (σ' := [(34, ii x7_x01), (35, s0 0 a.length), (38, s0 2 b.length), (43, s0 3 1), (46, ii (w64 (c + 1)))]) (h' := [(3, .cells [ii ((List.getD a (Int.toNat c) (0, 0)).1), ii ((List.getD a (Int.toNat c) (0, 0)).2)] 0 83 2), (2, rc encP b 0 83 2), (1, rc encP b z1 y1 2), (0, rc encP a z0 y0 2)]) (c' := 4) [0, 1, 4, 3] (by decide) rfl ⟨by kernel_rfl, by kernel_rfl, by kernel_rfl, by kernel_rfl, by kernel_rfl, trivial⟩ ⟨⟨_, _, rfl, rfl, .inr ⟨_, _, _, _, rfl, rfl⟩⟩, ⟨_, _, rfl, rfl, .inl ⟨rfl, rowC_scal encP_ok _⟩⟩, ⟨_, _, rfl, rfl, .inl ⟨rfl, rowC_scal encP_ok _⟩⟩, ⟨_, _, rfl, rfl, .inl ⟨rfl, rowC_scal encP_ok _⟩⟩, trivial⟩ rfl ?_
                    exact xa4
                have xa10 : XA E0 50 2 (opsOf (lft (rgt (rgt (rgt (rgt f81_C81)))))) 7 #[true, true, true, true, false, true, true, true, true, false, false, true, true, false, false, false, false] [(34, ii x7_x01), (35, s0 0 a.length), (36, s0 2 0), (37, s0 1 b.length), (42, .agg #[ii ((List.getD a (Int.toNat c) (0, 0)).1), ii ((List.getD a (Int.toNat c) (0, 0)).2)]), (46, ii (w64 (c + 1)))] [(2, .cells [] 0 83 2), (1, rc encP b z1 y1 2), (0, rc encP a z0 y0 2)] 3 (fun e σ1 h1 c1 => e = .normal ∧ (σ1, h1, c1) = ([(6, ii (iMax x7_x01 (w64 (1 + r5))))], [(1, rc encP b z1 y1 2), (0, rc encP a z0 y0 2)], 2)) := by
                  refine XA.step E0_ok [4, 9] (by kernel_rfl) rfl (by kernel_rfl) ⟨?_, ?_, trivial⟩
                  · refine XR.efX E0_ok [34, 35, 38, 42, 46] rfl (d := (some (path 12 38))) (f := eAppend false 2 16 83 (src 50 (.tmp 36)) (src 50 (.tmp 37))) (by kernel_rfl) (fun _ => eAppendA_ok) (e_appendA encP_ok (bytes := 16) (e := 83) (x := (src 50 (.tmp 36))) (y := (src 50 (.tmp 37))) (b := 2) (len := 0) (cap := 0) (xs := []) (n := b.length) (ys := b) (n' := b.length) (h' := [(3, rc encP b 0 83 2), (1, rc encP b z1 y1 2), (0, rc encP a z0 y0 2)]) (Y := s0 1 b.length) (by kernel_rfl) (by kernel_rfl) (by kernel_rfl) (fetch_all encP_ok (ys := b) (fz := z1) (e := y1) (es := 2) (by kernel_rfl) (by simp) (Nat.le_refl _)) (by simp) rfl (by simp) (by simp) b3 (by first | (simp; done) | (simp; omega)) (by kernel_rfl)) (σ' := [(34, ii x7_x01), (35, s0 0 a.length), (38, s0 3 b.length), (42, .agg #[ii ((List.getD a (Int.toNat c) (0, 0)).1), ii ((List.getD a (Int.toNat c) (0, 0)).2)]), (46, ii (w64 (c + 1)))]) (by kernel_rfl) ?_
                    refine XR.done (by kernel_rfl) ?_
                    refine ⟨rfl, ?_⟩
                    show XA _ _ _ _ _ _ _ _ _ _
                    refine XA.ren (σ' := [(34, ii x7_x01), (35, s0 0 a.length), (38, s0 2 b.length), (42, .agg #[ii ((List.getD a (Int.toNat c) (0, 0)).1), ii ((List.getD a (Int.toNat c) (0, 0)).2)]), (46, ii (w64 (c + 1)))]) (h' := [(2, rc encP b 0 83 2), (1, rc encP b z1 y1 2), (0, rc encP a z0 y0 2)]) (c' := 3) [0, 1, 3] (by decide) rfl ⟨by kernel_rfl, by kernel_rfl, by kernel_rfl, by kernel_rfl, by kernel_rfl, trivial⟩ ⟨⟨_, _, rfl, rfl, .inl ⟨rfl, rowC_scal encP_ok _⟩⟩, ⟨_, _, rfl, rfl, .inl ⟨rfl, rowC_scal encP_ok _⟩⟩, ⟨_, _, rfl, rfl, .inl ⟨rfl, rowC_scal encP_ok _⟩⟩, trivial⟩ rfl ?_
                    exact xa3
                  · refine XR.runT E0_ok 1 1 [(34, ii x7_x01), (35, s0 0 a.length), (36, s0 2 0), (37, s0 1 b.length), (43, s0 3 1), (46, ii (w64 (c + 1)))] [(3, .cells [ii ((List.getD a (Int.toNat c) (0, 0)).1), ii ((List.getD a (Int.toNat c) (0, 0)).2)] 0 83 2), (2, .cells [] 0 83 2), (1, rc encP b z1 y1 2), (0, rc encP a z0 y0 2)] 4 rfl (by kernel_rfl) ?_
                    refine XR.done (by kernel_rfl) ?_
                    refine ⟨rfl, ?_⟩
                    show XA _ _ _ _ _ _ _ _ _ _
                    exact xa11
                have xa1 : XA E0 50 2 (opsOf (lft (rgt (rgt (rgt (rgt f81_C81)))))) 8 #[true, true, true, true, false, true, true, true, false, false, false, true, true, false, false, false, false] [(34, ii x7_x01), (35, s0 0 a.length), (36, s0 2 0), (37, s0 1 b.length), (41, pp 0 ((Int.toNat c) * 2)), (46, ii (w64 (c + 1)))] [(2, .cells [] 0 83 2), (1, rc encP b z1 y1 2), (0, rc encP a z0 y0 2)] 3 (fun e σ1 h1 c1 => e = .normal ∧ (σ1, h1, c1) = ([(6, ii (iMax x7_x01 (w64 (1 + r5))))], [(1, rc encP b z1 y1 2), (0, rc encP a z0 y0 2)], 2)) := by
                  refine XA.step E0_ok [4, 8] (by kernel_rfl) rfl (by kernel_rfl) ⟨?_, ?_, trivial⟩
                  · refine XR.efX E0_ok [34, 35, 38, 41, 46] rfl (d := (some (path 12 38))) (f := eAppend false 2 16 83 (src 50 (.tmp 36)) (src 50 (.tmp 37))) (by kernel_rfl) (fun _ => eAppendA_ok) (e_appendA encP_ok (bytes := 16) (e := 83) (x := (src 50 (.tmp 36))) (y := (src 50 (.tmp 37))) (b := 2) (len := 0) (cap := 0) (xs := []) (n := b.length) (ys := b) (n' := b.length) (h' := [(3, rc encP b 0 83 2), (1, rc encP b z1 y1 2), (0, rc encP a z0 y0 2)]) (Y := s0 1 b.length) (by kernel_rfl) (by kernel_rfl) (by kernel_rfl) (fetch_all encP_ok (ys := b) (fz := z1) (e := y1) (es := 2) (by kernel_rfl) (by simp) (Nat.le_refl _)) (by simp) rfl (by simp) (by simp) b3 (by first | (simp; done) | (simp; omega)) (by kernel_rfl)) (σ' := [(34, ii x7_x01), (35, s0 0 a.length), (38, s0 3 b.length), (41, pp 0 ((Int.toNat c) * 2)), (46, ii (w64 (c + 1)))]) (by kernel_rfl) ?_
                    refine XR.done (by kernel_rfl) ?_
                    refine ⟨rfl, ?_⟩
                    show XA _ _ _ _ _ _ _ _ _ _
                    refine XA.ren (σ' := [(34, ii x7_x01), (35, s0 0 a.length), (38, s0 2 b.length), (41, pp 0 ((Int.toNat c) * 2)), (46, ii (w64 (c + 1)))]) (h' := [(2, rc encP b 0 83 2), (1, rc encP b z1 y1 2), (0, rc encP a z0 y0 2)]) (c' := 3) [0, 1, 3] (by decide) rfl ⟨by kernel_rfl, by kernel_rfl, by kernel_rfl, by kernel_rfl, by kernel_rfl, trivial⟩ ⟨⟨_, _, rfl, rfl, .inl ⟨rfl, rowC_scal encP_ok _⟩⟩, ⟨_, _, rfl, rfl, .inl ⟨rfl, rowC_scal encP_ok _⟩⟩, ⟨_, _, rfl, rfl, .inl ⟨rfl, rowC_scal encP_ok _⟩⟩, trivial⟩ rfl ?_
                    exact xa2
                  · refine XR.rd E0_ok [34, 35, 36, 37, 42, 46] rfl (v := .agg #[ii ((List.getD a (Int.toNat c) (0, 0)).1), ii ((List.getD a (Int.toNat c) (0, 0)).2)]) (v_loadN encP_ok (x := (src 50 (.tmp 41))) (b := 0) (off := (Int.toNat c) * 2) (xs := a) (fz := z0) (e := y0) (es := 2) (d := (some (path 12 42))) (by kernel_rfl) (by kernel_rfl) (by kernel_rfl) (Int.toNat c) (0, 0) (by first | rfl | omega) (row_len (inRow_toNat b4) (by simp)) rfl) (σ' := [(34, ii x7_x01), (35, s0 0 a.length), (36, s0 2 0), (37, s0 1 b.length), (42, .agg #[ii ((List.getD a (Int.toNat c) (0, 0)).1), ii ((List.getD a (Int.toNat c) (0, 0)).2)]), (46, ii (w64 (c + 1)))]) (by kernel_rfl) ?_
                    refine XR.done (by kernel_rfl) ?_
                    refine ⟨rfl, ?_⟩
                    show XA _ _ _ _ _ _ _ _ _ _
                    exact xa10
                have xa13 : XA E0 50 2 (opsOf (lft (rgt (rgt (rgt (rgt f81_C81)))))) 7 #[true, true, false, true, false, true, true, true, true, true, false, true, true, false, false, false, false] [(34, ii x7_x01), (35, s0 0 a.length), (37, s0 1 b.length), (43, s0 2 1), (46, ii (w64 (c + 1)))] [(2, .cells [ii ((List.getD a (Int.toNat c) (0, 0)).1), ii ((List.getD a (Int.toNat c) (0, 0)).2)] 0 83 2), (1, rc encP b z1 y1 2), (0, rc encP a z0 y0 2)] 3 (fun e σ1 h1 c1 => e = .normal ∧ (σ1, h1, c1) = ([(6, ii (iMax x7_x01 (w64 (1 + r5))))], [(1, rc encP b z1 y1 2), (0, rc encP a z0 y0 2)], 2)) := by
                  refine XA.step E0_ok [2] (by kernel_rfl) rfl (by kernel_rfl) ⟨?_, trivial⟩
                  · refine XR.runT E0_ok 1 1 [(34, ii x7_x01), (35, s0 0 a.length), (36, s0 3 0), (37, s0 1 b.length), (43, s0 2 1), (46, ii (w64 (c + 1)))] [(3, .cells [] 0 83 2), (2, .cells [ii ((List.getD a (Int.toNat c) (0, 0)).1), ii ((List.getD a (Int.toNat c) (0, 0)).2)] 0 83 2), (1, rc encP b z1 y1 2), (0, rc encP a z0 y0 2)] 4 rfl (by kernel_rfl) ?_
                    refine XR.done (by kernel_rfl) ?_
                    refine ⟨rfl, ?_⟩
                    show XA _ _ _ _ _ _ _ _ _ _
                    refine XA.ren (σ' := [(34, ii x7_x01), (35, s0 0 a.length), (36, s0 2 0), (37, s0 1 b.length), (43, s0 3 1), (46, ii (w64 (c + 1)))]) (h' := [(3, .cells [ii ((List.getD a (Int.toNat c) (0, 0)).1), ii ((List.getD a (Int.toNat c) (0, 0)).2)] 0 83 2), (2, .cells [] 0 83 2), (1, rc encP b z1 y1 2), (0, rc encP a z0 y0 2)]) (c' := 4) [0, 1, 3, 2] (by decide) rfl ⟨by kernel_rfl, by kernel_rfl, by kernel_rfl, by kernel_rfl, by kernel_rfl, by kernel_rfl, trivial⟩ ⟨⟨_, _, rfl, rfl, .inr ⟨_, _, _, _, rfl, rfl⟩⟩, ⟨_, _, rfl, rfl, .inr ⟨_, _, _, _, rfl, rfl⟩⟩, ⟨_, _, rfl, rfl, .inl ⟨rfl, rowC_scal encP_ok _⟩⟩, ⟨_, _, rfl, rfl, .inl ⟨rfl, rowC_scal encP_ok _⟩⟩, trivial⟩ rfl ?_
                    exact xa11
                have xa12 : XA E0 50 2 (opsOf (lft (rgt (rgt (rgt (rgt f81_C81)))))) 8 #[true, true, false, true, false, true, true, true, true, false, false, true, true, false, false, false, false] [(34, ii x7_x01), (35, s0 0 a.length), (37, s0 1 b.length), (42, .agg #[ii ((List.getD a (Int.toNat c) (0, 0)).1), ii ((List.getD a (Int.toNat c) (0, 0)).2)]), (46, ii (w64 (c + 1)))] [(1, rc encP b z1 y1 2), (0, rc encP a z0 y0 2)] 2 (fun e σ1 h1 c1 => e = .normal ∧ (σ1, h1, c1) = ([(6, ii (iMax x7_x01 (w64 (1 + r5))))], [(1, rc encP b z1 y1 2), (0, rc encP a z0 y0 2)], 2)) := by
                  refine XA.step E0_ok [2, 9] (by kernel_rfl) rfl (by kernel_rfl) ⟨?_, ?_, trivial⟩
                  · refine XR.runT E0_ok 1 1 [(34, ii x7_x01), (35, s0 0 a.length), (36, s0 2 0), (37, s0 1 b.length), (42, .agg #[ii ((List.getD a (Int.toNat c) (0, 0)).1), ii ((List.getD a (Int.toNat c) (0, 0)).2)]), (46, ii (w64 (c + 1)))] [(2, .cells [] 0 83 2), (1, rc encP b z1 y1 2), (0, rc encP a z0 y0 2)] 3 rfl (by kernel_rfl) ?_
                    refine XR.done (by kernel_rfl) ?_
                    refine ⟨rfl, ?_⟩
                    show XA _ _ _ _ _ _ _ _ _ _
                    exact xa10
                  · refine XR.runT E0_ok 1 1 [(34, ii x7_x01), (35, s0 0 a.length), (37, s0 1 b.length), (43, s0 2 1), (46, ii (w64 (c + 1)))] [(2, .cells [ii ((List.getD a (Int.toNat c) (0, 0)).1), ii ((List.getD a (Int.toNat c) (0, 0)).2)] 0 83 2), (1, rc encP b z1 y1 2), (0, rc encP a z0 y0 2)] 3 rfl (by kernel_rfl) ?_
                    refine XR.done (by kernel_rfl) ?_
                    refine ⟨rfl, ?_⟩
                    show XA _ _ _ _ _ _ _ _ _ _
                    exact xa13
                have xa0 : XA E0 50 2 (opsOf (lft (rgt (rgt (rgt (rgt f81_C81)))))) 9 #[true, true, false, true, false, true, true, true, false, false, false, true, true, false, false, false, false] [(34, ii x7_x01), (35, s0 0 a.length), (37, s0 1 b.length), (41, pp 0 ((Int.toNat c) * 2)), (46, ii (w64 (c + 1)))] [(1, rc encP b z1 y1 2), (0, rc encP a z0 y0 2)] 2 (fun e σ1 h1 c1 => e = .normal ∧ (σ1, h1, c1) = ([(6, ii (iMax x7_x01 (w64 (1 + r5))))], [(1, rc encP b z1 y1 2), (0, rc encP a z0 y0 2)], 2)) := by
                  refine XA.step E0_ok [2, 8] (by kernel_rfl) rfl (by kernel_rfl) ⟨?_, ?_, trivial⟩
                  · refine XR.runT E0_ok 1 1 [(34, ii x7_x01), (35, s0 0 a.length), (36, s0 2 0), (37, s0 1 b.length), (41, pp 0 ((Int.toNat c) * 2)), (46, ii (w64 (c + 1)))] [(2, .cells [] 0 83 2), (1, rc encP b z1 y1 2), (0, rc encP a z0 y0 2)] 3 rfl (by kernel_rfl) ?_
                    refine XR.done (by kernel_rfl) ?_
                    refine ⟨rfl, ?_⟩
                    show XA _ _ _ _ _ _ _ _ _ _
                    exact xa1
                  · refine XR.rd E0_ok [34, 35, 37, 42, 46] rfl (v := .agg #[ii ((List.getD a (Int.toNat c) (0, 0)).1), ii ((List.getD a (Int.toNat c) (0, 0)).2)]) (v_loadN encP_ok (x := (src 50 (.tmp 41))) (b := 0) (off := (Int.toNat c) * 2) (xs := a) (fz := z0) (e := y0) (es := 2) (d := (some (path 12 42))) (by kernel_rfl) (by kernel_rfl) (by kernel_rfl) (Int.toNat c) (0, 0) (by first | rfl | omega) (row_len (inRow_toNat b4) (by simp)) rfl) (σ' := [(34, ii x7_x01), (35, s0 0 a.length), (37, s0 1 b.length), (42, .agg #[ii ((List.getD a (Int.toNat c) (0, 0)).1), ii ((List.getD a (Int.toNat c) (0, 0)).2)]), (46, ii (w64 (c + 1)))]) (by kernel_rfl) ?_
                    refine XR.done (by kernel_rfl) ?_
                    refine ⟨rfl, ?_⟩
                    show XA _ _ _ _ _ _ _ _ _ _
                    exact xa12
                refine XP.step E0_ok 5 [2, 34, 35, 37, 39, 40] rfl (σ' := [(2, ii c), (34, ii x7_x01), (35, s0 0 a.length), (37, s0 1 b.length), (39, s0 0 a.length), (40, ii c)]) (by kernel_rfl) ?_
                refine XP.rd E0_ok (by kernel_rfl) [2, 34, 35, 37, 41] rfl rfl (v := pp 0 ((Int.toNat c) * 2)) (v_idx (s := 2) (x := (src 50 (.tmp 39))) (y := (src 50 (.tmp 40))) (b := 0) (o := 0) (len := a.length) (cap := a.length) (ik := .i64) (i := c) (off := (Int.toNat c) * 2) (d := (some (path 12 41))) (by kernel_rfl) (by kernel_rfl) (by kernel_rfl) b4 (by omega)) (σ' := [(2, ii c), (34, ii x7_x01), (35, s0 0 a.length), (37, s0 1 b.length), (41, pp 0 ((Int.toNat c) * 2))]) (by kernel_rfl) ?_
                refine XP.step E0_ok 2 [34, 35, 37, 41, 46] rfl (σ' := [(34, ii x7_x01), (35, s0 0 a.length), (37, s0 1 b.length), (41, pp 0 ((Int.toNat c) * 2)), (46, ii (w64 (c + 1)))]) (by kernel_rfl) ?_
                refine XP.done (by kernel_rfl) ?_
                show XA _ _ _ _ _ _ _ _ _ _
                exact xa0

/-! vitola/vitolaref02.first -/
noncomputable def f78_C78 : Code := Proofs.Try.f78.body.getD .skip
noncomputable def f78_L1 : Code := lft (lft (rgt (lft (rgt (rgt f78_C78)))))
noncomputable def f78_L2 : Code := lft (lft (rgt (lft (rgt (lft (lft (rgt f78_L1)))))))
noncomputable def f78_L3 : Code := lft (lft (rgt (rgt (rgt (rgt (rgt (lft (lft (rgt f78_L1)))))))))

def f78_2 (m : Nat) : Nat → List (Int × Int) → Int → Int → Int → List (Int × Int) → Option (List (Int × Int))
  | 0, _, _, _, _, _ => none
  | fuel + 1, a, c, x8_1, x10_2, lh1_2 =>
    cond (decide (x10_2 < ((a.length : Nat) : Int))) (
      cond (inRow x10_2 a.length) (
        (f63 m x8_1 ((List.getD a (Int.toNat x10_2) (0, 0)).1) ((List.getD a (Int.toNat x10_2) (0, 0)).2)).bind fun r11 =>
          cond (!r11) (
            cond (fitsB (lh1_2.length + 1) 16) (
              f78_2 m fuel a c x8_1 (w64 (x10_2 + 1)) (lh1_2 ++ [((List.getD a (Int.toNat x10_2) (0, 0)).1, (List.getD a (Int.toNat x10_2) (0, 0)).2)])
            ) none
          ) (
            f78_2 m fuel a c x8_1 (w64 (x10_2 + 1)) lh1_2
          )
      ) none
    ) (
      some (lh1_2)
    )

theorem f78_2_ok (m : Nat) : ∀ (fuel : Nat) (z0 : Nat) (y0 : Nat) (a : List (Int × Int)) (c : Int) (x8_1 : Int) (x10_2 : Int) (lh1_2 : List (Int × Int)) (o : (List (Int × Int))), f78_2 m fuel a c x8_1 x10_2 lh1_2 = some o → ∀ Q : QP, Q (.exit 2) [(0, s0 0 a.length), (2, ii c), (8, ii x8_1), (9, s0 1 o.length)] [(1, rc encP o 0 83 2), (0, rc encP a z0 y0 2)] 2 → XL E0 77 1 fuel f78_L2 [(0, s0 0 a.length), (2, ii c), (8, ii x8_1), (9, s0 1 lh1_2.length), (10, ii x10_2)] [(1, rc encP lh1_2 0 83 2), (0, rc encP a z0 y0 2)] 2 Q
  | 0, z0, y0, a, c, x8_1, x10_2, lh1_2, o, h, Q, hQ => by cases h
  | fuel + 1, z0, y0, a, c, x8_1, x10_2, lh1_2, o, h, Q, hQ => by
    unfold f78_2 at h
    refine XL.succ E0_ok ?_
    refine XQ.seq E0_ok (by kernel_rfl) ?_
    refine XQ.seq E0_ok (by kernel_rfl) ?_
    refine XQ.region (by kernel_rfl) ?_
    refine XR.runS E0_ok 1 4 [(0, s0 0 a.length), (2, ii c), (8, ii x8_1), (9, s0 1 lh1_2.length), (10, ii x10_2), (27, .bool (decide (x10_2 < ((a.length : Nat) : Int))))] rfl (by kernel_rfl) ?_
    refine XR.done (by kernel_rfl) ?_
    show XQ _ _ _ _ _ _ _ _
    cases b1 : (decide (x10_2 < ((a.length : Nat) : Int)) : Bool) with
    | true =>
      have h := cT b1 h
      refine XQ.cond (s := (.tmp 27)) (b := true) (by kernel_rfl) (by kernel_rfl) (fun _ => ?_) (fun q => by cases q)
      refine XQ.skip (by kernel_rfl) ?_
      show XQ _ _ _ _ _ _ _ _
      refine XQ.seq E0_ok (by kernel_rfl) ?_
      refine XQ.block (id := 3) (by kernel_rfl) ?_
      refine XQ.seq E0_ok (by kernel_rfl) ?_
      refine XQ.quiet E0_ok (by kernel_rfl) (by kernel_rfl) ?_
      refine XU.run E0_ok 1 3 [0, 2, 8, 9, 10, 30, 31, 32] rfl (σ' := [(0, s0 0 a.length), (2, ii c), (8, ii x8_1), (9, s0 1 lh1_2.length), (10, ii x10_2), (30, ii x8_1), (31, s0 0 a.length), (32, ii x10_2)]) (by kernel_rfl) ?_
      cases b2 : (inRow x10_2 a.length : Bool) with
      | false => cases (cF b2 h)
      | true =>
        have h := cT b2 h
        refine XU.rd E0_ok [0, 2, 8, 9, 10, 30, 33] rfl (v := pp 0 ((Int.toNat x10_2) * 2)) (v_idx (s := 2) (x := (src 77 (.tmp 31))) (y := (src 77 (.tmp 32))) (b := 0) (o := 0) (len := a.length) (cap := a.length) (ik := .i64) (i := x10_2) (off := (Int.toNat x10_2) * 2) (d := (some (path 12 33))) (by kernel_rfl) (by kernel_rfl) (by kernel_rfl) b2 (by omega)) (σ' := [(0, s0 0 a.length), (2, ii c), (8, ii x8_1), (9, s0 1 lh1_2.length), (10, ii x10_2), (30, ii x8_1), (33, pp 0 ((Int.toNat x10_2) * 2))]) (by kernel_rfl) ?_
        refine XU.run E0_ok 1 1 [0, 2, 8, 9, 10, 30, 34] rfl (σ' := [(0, s0 0 a.length), (2, ii c), (8, ii x8_1), (9, s0 1 lh1_2.length), (10, ii x10_2), (30, ii x8_1), (34, pp 0 ((Int.toNat x10_2) * 2))]) (by kernel_rfl) ?_
        refine XU.rd E0_ok [0, 2, 8, 9, 10, 30, 35] rfl (v := ii ((List.getD a (Int.toNat x10_2) (0, 0)).1)) (v_load1 encP_ok (x := (src 77 (.tmp 34))) (b := 0) (off := (Int.toNat x10_2) * 2) (xs := a) (fz := z0) (e := y0) (es := 2) (d := (some (path 12 35))) (by kernel_rfl) (by kernel_rfl) (by kernel_rfl) (Int.toNat x10_2) 0 (0, 0) (by first | rfl | omega) (row_len (inRow_toNat b2) (by simp)) rfl rfl) (σ' := [(0, s0 0 a.length), (2, ii c), (8, ii x8_1), (9, s0 1 lh1_2.length), (10, ii x10_2), (30, ii x8_1), (35, ii ((List.getD a (Int.toNat x10_2) (0, 0)).1))]) (by kernel_rfl) ?_
        refine XU.run E0_ok 1 2 [0, 2, 8, 9, 10, 30, 35, 36, 37] rfl (σ' := [(0, s0 0 a.length), (2, ii c), (8, ii x8_1), (9, s0 1 lh1_2.length), (10, ii x10_2), (30, ii x8_1), (35, ii ((List.getD a (Int.toNat x10_2) (0, 0)).1)), (36, s0 0 a.length), (37, ii x10_2)]) (by kernel_rfl) ?_
        refine XU.rd E0_ok [0, 2, 8, 9, 10, 30, 35, 38] rfl (v := pp 0 ((Int.toNat x10_2) * 2)) (v_idx (s := 2) (x := (src 77 (.tmp 36))) (y := (src 77 (.tmp 37))) (b := 0) (o := 0) (len := a.length) (cap := a.length) (ik := .i64) (i := x10_2) (off := (Int.toNat x10_2) * 2) (d := (some (path 12 38))) (by kernel_rfl) (by kernel_rfl) (by kernel_rfl) b2 (by omega)) (σ' := [(0, s0 0 a.length), (2, ii c), (8, ii x8_1), (9, s0 1 lh1_2.length), (10, ii x10_2), (30, ii x8_1), (35, ii ((List.getD a (Int.toNat x10_2) (0, 0)).1)), (38, pp 0 ((Int.toNat x10_2) * 2))]) (by kernel_rfl) ?_
        refine XU.run E0_ok 1 1 [0, 2, 8, 9, 10, 30, 35, 39] rfl (σ' := [(0, s0 0 a.length), (2, ii c), (8, ii x8_1), (9, s0 1 lh1_2.length), (10, ii x10_2), (30, ii x8_1), (35, ii ((List.getD a (Int.toNat x10_2) (0, 0)).1)), (39, pp 0 ((Int.toNat x10_2) * 2 + 1))]) (by kernel_rfl) ?_
        refine XU.rd E0_ok [0, 2, 8, 9, 10, 30, 35, 40] rfl (v := ii ((List.getD a (Int.toNat x10_2) (0, 0)).2)) (v_load1 encP_ok (x := (src 77 (.tmp 39))) (b := 0) (off := (Int.toNat x10_2) * 2 + 1) (xs := a) (fz := z0) (e := y0) (es := 2) (d := (some (path 12 40))) (by kernel_rfl) (by kernel_rfl) (by kernel_rfl) (Int.toNat x10_2) 1 (0, 0) (by first | rfl | omega) (row_len (inRow_toNat b2) (by simp)) rfl rfl) (σ' := [(0, s0 0 a.length), (2, ii c), (8, ii x8_1), (9, s0 1 lh1_2.length), (10, ii x10_2), (30, ii x8_1), (35, ii ((List.getD a (Int.toNat x10_2) (0, 0)).1)), (40, ii ((List.getD a (Int.toNat x10_2) (0, 0)).2))]) (by kernel_rfl) ?_
        obtain ⟨r11, r11_h, h⟩ := bS h
        refine XU.call E0_ok [0, 2, 8, 9, 10, 41] rfl (K := 63) (F := Proofs.Try.f63) (args := [ii x8_1, ii ((List.getD a (Int.toNat x10_2) (0, 0)).1), ii ((List.getD a (Int.toNat x10_2) (0, 0)).2)]) (d := (some (path 12 41))) (v := .bool r11) (by kernel_rfl) (by kernel_rfl) rfl rfl (fun w hI => f63_ok m x8_1 ((List.getD a (Int.toNat x10_2) (0, 0)).1) ((List.getD a (Int.toNat x10_2) (0, 0)).2) r11 r11_h w hI) (σ' := [(0, s0 0 a.length), (2, ii c), (8, ii x8_1), (9, s0 1 lh1_2.length), (10, ii x10_2), (41, .bool r11)]) (by kernel_rfl) ?_
        refine XU.run E0_ok 1 1 [0, 2, 8, 9, 10, 42] rfl (σ' := [(0, s0 0 a.length), (2, ii c), (8, ii x8_1), (9, s0 1 lh1_2.length), (10, ii x10_2), (42, .bool (!r11))]) (by kernel_rfl) ?_
        refine XU.done (by kernel_rfl) ?_
        show XQ _ _ _ _ _ _ _ _
        cases b3 : (!r11 : Bool) with
        | true =>
          have h := cT b3 h
          refine XQ.cond (s := (.tmp 42)) (b := true) (by kernel_rfl) (by kernel_rfl) (fun _ => ?_) (fun q => by cases q)
          refine XQ.region (by kernel_rfl) ?_
          refine XR.runS E0_ok 1 3 [(0, s0 0 a.length), (2, ii c), (8, ii x8_1), (10, ii x10_2), (43, s0 1 lh1_2.length), (44, s0 0 a.length), (45, ii x10_2)] rfl (by kernel_rfl) ?_
          refine XR.rd E0_ok [0, 2, 8, 10, 43, 46] rfl (v := pp 0 ((Int.toNat x10_2) * 2)) (v_idx (s := 2) (x := (src 77 (.tmp 44))) (y := (src 77 (.tmp 45))) (b := 0) (o := 0) (len := a.length) (cap := a.length) (ik := .i64) (i := x10_2) (off := (Int.toNat x10_2) * 2) (d := (some (path 12 46))) (by kernel_rfl) (by kernel_rfl) (by kernel_rfl) b2 (by omega)) (σ' := [(0, s0 0 a.length), (2, ii c), (8, ii x8_1), (10, ii x10_2), (43, s0 1 lh1_2.length), (46, pp 0 ((Int.toNat x10_2) * 2))]) (by kernel_rfl) ?_
          refine XR.rd E0_ok [0, 2, 8, 10, 43, 47] rfl (v := .agg #[ii ((List.getD a (Int.toNat x10_2) (0, 0)).1), ii ((List.getD a (Int.toNat x10_2) (0, 0)).2)]) (v_loadN encP_ok (x := (src 77 (.tmp 46))) (b := 0) (off := (Int.toNat x10_2) * 2) (xs := a) (fz := z0) (e := y0) (es := 2) (d := (some (path 12 47))) (by kernel_rfl) (by kernel_rfl) (by kernel_rfl) (Int.toNat x10_2) (0, 0) (by first | rfl | omega) (row_len (inRow_toNat b2) (by simp)) rfl) (σ' := [(0, s0 0 a.length), (2, ii c), (8, ii x8_1), (10, ii x10_2), (43, s0 1 lh1_2.length), (47, .agg #[ii ((List.getD a (Int.toNat x10_2) (0, 0)).1), ii ((List.getD a (Int.toNat x10_2) (0, 0)).2)])]) (by kernel_rfl) ?_
          refine XR.runT E0_ok 1 1 [(0, s0 0 a.length), (2, ii c), (8, ii x8_1), (10, ii x10_2), (43, s0 1 lh1_2.length), (48, s0 2 1)] [(2, .cells [ii ((List.getD a (Int.toNat x10_2) (0, 0)).1), ii ((List.getD a (Int.toNat x10_2) (0, 0)).2)] 0 83 2), (1, rc encP lh1_2 0 83 2), (0, rc encP a z0 y0 2)] 3 rfl (by kernel_rfl) ?_
          cases b4 : (fitsB (lh1_2.length + 1) 16 : Bool) with
          | false => cases (cF b4 h)
          | true =>
            have h := cT b4 h
            refine XR.ef E0_ok [0, 2, 8, 10, 49] rfl (e_append encP_ok (bytes := 16) (e := 83) (x := (src 77 (.tmp 43))) (y := (src 77 (.tmp 48))) (b := 1) (len := lh1_2.length) (cap := lh1_2.length) (xs := lh1_2) (m := 0) (ys := [((List.getD a (Int.toNat x10_2) (0, 0)).1, (List.getD a (Int.toNat x10_2) (0, 0)).2)]) (d := (some (path 12 49))) (n' := (lh1_2 ++ [((List.getD a (Int.toNat x10_2) (0, 0)).1, (List.getD a (Int.toNat x10_2) (0, 0)).2)]).length) (h' := [(3, rc encP (lh1_2 ++ [((List.getD a (Int.toNat x10_2) (0, 0)).1, (List.getD a (Int.toNat x10_2) (0, 0)).2)]) 0 83 2), (2, .cells [ii ((List.getD a (Int.toNat x10_2) (0, 0)).1), ii ((List.getD a (Int.toNat x10_2) (0, 0)).2)] 0 83 2), (0, rc encP a z0 y0 2)]) (by kernel_rfl) (by kernel_rfl) (by kernel_rfl) (by kernel_rfl) rfl (by simp) (by simp) b4 (by simp) (by kernel_rfl)) (σ' := [(0, s0 0 a.length), (2, ii c), (8, ii x8_1), (10, ii x10_2), (49, s0 3 ((lh1_2 ++ [((List.getD a (Int.toNat x10_2) (0, 0)).1, (List.getD a (Int.toNat x10_2) (0, 0)).2)]).length))]) (by kernel_rfl) ?_
            refine XR.runS E0_ok 1 1 [(0, s0 0 a.length), (2, ii c), (8, ii x8_1), (9, s0 3 ((lh1_2 ++ [((List.getD a (Int.toNat x10_2) (0, 0)).1, (List.getD a (Int.toNat x10_2) (0, 0)).2)]).length)), (10, ii x10_2)] rfl (by kernel_rfl) ?_
            refine XR.done (by kernel_rfl) ?_
            show XQ _ _ _ _ _ _ _ _
            refine XQ.region (by kernel_rfl) ?_
            refine XR.runS E0_ok 1 3 [(0, s0 0 a.length), (2, ii c), (8, ii x8_1), (9, s0 3 ((lh1_2 ++ [((List.getD a (Int.toNat x10_2) (0, 0)).1, (List.getD a (Int.toNat x10_2) (0, 0)).2)]).length)), (10, ii (w64 (x10_2 + 1)))] rfl (by kernel_rfl) ?_
            refine XR.done (by kernel_rfl) ?_
            show XL _ _ _ _ _ _ _ _ _
            refine XL.ren (σ' := [(0, s0 0 a.length), (2, ii c), (8, ii x8_1), (9, s0 1 ((lh1_2 ++ [((List.getD a (Int.toNat x10_2) (0, 0)).1, (List.getD a (Int.toNat x10_2) (0, 0)).2)]).length)), (10, ii (w64 (x10_2 + 1)))]) (h' := [(1, rc encP (lh1_2 ++ [((List.getD a (Int.toNat x10_2) (0, 0)).1, (List.getD a (Int.toNat x10_2) (0, 0)).2)]) 0 83 2), (0, rc encP a z0 y0 2)]) (c' := 2) [0, 3] (by decide) rfl ⟨by kernel_rfl, by kernel_rfl, by kernel_rfl, by kernel_rfl, by kernel_rfl, trivial⟩ ⟨⟨_, _, rfl, rfl, .inl ⟨rfl, rowC_scal encP_ok _⟩⟩, ⟨_, _, rfl, rfl, .inl ⟨rfl, rowC_scal encP_ok _⟩⟩, trivial⟩ rfl ?_
            refine XL.conv (f78_2_ok m fuel z0 y0 a c x8_1 (w64 (x10_2 + 1)) (lh1_2 ++ [((List.getD a (Int.toNat x10_2) (0, 0)).1, (List.getD a (Int.toNat x10_2) (0, 0)).2)]) o h Q hQ) (by first | rfl | simp)
        | false =>
          have h := cF b3 h
          refine XQ.cond (s := (.tmp 42)) (b := false) (by kernel_rfl) (by kernel_rfl) (fun q => by cases q) (fun _ => ?_)
          refine XQ.skip (by kernel_rfl) ?_
          show XQ _ _ _ _ _ _ _ _
          refine XQ.region (by kernel_rfl) ?_
          refine XR.runS E0_ok 1 3 [(0, s0 0 a.length), (2, ii c), (8, ii x8_1), (9, s0 1 lh1_2.length), (10, ii (w64 (x10_2 + 1)))] rfl (by kernel_rfl) ?_
          refine XR.done (by kernel_rfl) ?_
          show XL _ _ _ _ _ _ _ _ _
          refine XL.ren (σ' := [(0, s0 0 a.length), (2, ii c), (8, ii x8_1), (9, s0 1 lh1_2.length), (10, ii (w64 (x10_2 + 1)))]) (h' := [(1, rc encP lh1_2 0 83 2), (0, rc encP a z0 y0 2)]) (c' := 2) [0, 1] (by decide) rfl ⟨by kernel_rfl, by kernel_rfl, by kernel_rfl, by kernel_rfl, by kernel_rfl, trivial⟩ ⟨⟨_, _, rfl, rfl, .inl ⟨rfl, rowC_scal encP_ok _⟩⟩, ⟨_, _, rfl, rfl, .inl ⟨rfl, rowC_scal encP_ok _⟩⟩, trivial⟩ rfl ?_
          refine XL.conv (f78_2_ok m fuel z0 y0 a c x8_1 (w64 (x10_2 + 1)) lh1_2 o h Q hQ) (by first | rfl | simp)
    | false =>
      have h := cF b1 h
      refine XQ.cond (s := (.tmp 27)) (b := false) (by kernel_rfl) (by kernel_rfl) (fun q => by cases q) (fun _ => ?_)
      refine XQ.ren (σ' := [(0, s0 0 a.length), (2, ii c), (8, ii x8_1), (9, s0 1 lh1_2.length)]) (h' := [(1, rc encP lh1_2 0 83 2), (0, rc encP a z0 y0 2)]) (c' := 2) [0, 1] (by decide) rfl ⟨by kernel_rfl, by kernel_rfl, by kernel_rfl, by kernel_rfl, trivial⟩ ⟨⟨_, _, rfl, rfl, .inl ⟨rfl, rowC_scal encP_ok _⟩⟩, ⟨_, _, rfl, rfl, .inl ⟨rfl, rowC_scal encP_ok _⟩⟩, trivial⟩ rfl ?_
      refine XQ.exit (i := 2) (by kernel_rfl) ?_
      cases h
      exact hQ

inductive Of78_3 where
  | r
  | x4

def f78_3 (m : Nat) : Nat → List (Int × Int) → Int → Int → Int → Option Of78_3
  | 0, _, _, _, _ => none
  | fuel + 1, a, c, x8_1, x13_3 =>
    cond (decide (x13_3 < ((a.length : Nat) : Int))) (
      cond (inRow x13_3 a.length) (
        cond (decide (((List.getD a (Int.toNat x13_3) (0, 0)).2) ≤ x8_1)) (
          some (.r)
        ) (
          f78_3 m fuel a c x8_1 (w64 (x13_3 + 1))
        )
      ) none
    ) (
      some (.x4)
    )

theorem f78_3_ok (m : Nat) : ∀ (fuel : Nat) (z0 : Nat) (y0 : Nat) (a : List (Int × Int)) (c : Int) (x8_1 : Int) (x13_3 : Int) (o : Of78_3), f78_3 m fuel a c x8_1 x13_3 = some o → ∀ Q : QP, (match o with | .r => Q .ret [(6, s0 1 0), (7, .bool false)] [(1, rc (encI .i64) [] 0 3 1), (0, rc encP a z0 y0 2)] 2 | .x4 => Q (.exit 4) [(0, s0 0 a.length), (2, ii c), (8, ii x8_1)] [(0, rc encP a z0 y0 2)] 1) → XL E0 77 1 fuel f78_L3 [(0, s0 0 a.length), (2, ii c), (8, ii x8_1), (13, ii x13_3)] [(0, rc encP a z0 y0 2)] 1 Q
  | 0, z0, y0, a, c, x8_1, x13_3, o, h, Q, hQ => by cases h
  | fuel + 1, z0, y0, a, c, x8_1, x13_3, o, h, Q, hQ => by
    unfold f78_3 at h
    refine XL.succ E0_ok ?_
    refine XQ.seq E0_ok (by kernel_rfl) ?_
    refine XQ.seq E0_ok (by kernel_rfl) ?_
    refine XQ.region (by kernel_rfl) ?_
    refine XR.runS E0_ok 1 4 [(0, s0 0 a.length), (2, ii c), (8, ii x8_1), (13, ii x13_3), (67, .bool (decide (x13_3 < ((a.length : Nat) : Int))))] rfl (by kernel_rfl) ?_
    refine XR.done (by kernel_rfl) ?_
    show XQ _ _ _ _ _ _ _ _
    cases b1 : (decide (x13_3 < ((a.length : Nat) : Int)) : Bool) with
    | true =>
      have h := cT b1 h
      refine XQ.cond (s := (.tmp 67)) (b := true) (by kernel_rfl) (by kernel_rfl) (fun _ => ?_) (fun q => by cases q)
      refine XQ.skip (by kernel_rfl) ?_
      show XQ _ _ _ _ _ _ _ _
      refine XQ.seq E0_ok (by kernel_rfl) ?_
      refine XQ.block (id := 5) (by kernel_rfl) ?_
      refine XQ.seq E0_ok (by kernel_rfl) ?_
      refine XQ.region (by kernel_rfl) ?_
      refine XR.runS E0_ok 1 2 [(0, s0 0 a.length), (2, ii c), (8, ii x8_1), (13, ii x13_3), (70, s0 0 a.length), (71, ii x13_3)] rfl (by kernel_rfl) ?_
      cases b2 : (inRow x13_3 a.length : Bool) with
      | false => cases (cF b2 h)
      | true =>
        have h := cT b2 h
        refine XR.rd E0_ok [0, 2, 8, 13, 72] rfl (v := pp 0 ((Int.toNat x13_3) * 2)) (v_idx (s := 2) (x := (src 77 (.tmp 70))) (y := (src 77 (.tmp 71))) (b := 0) (o := 0) (len := a.length) (cap := a.length) (ik := .i64) (i := x13_3) (off := (Int.toNat x13_3) * 2) (d := (some (path 12 72))) (by kernel_rfl) (by kernel_rfl) (by kernel_rfl) b2 (by omega)) (σ' := [(0, s0 0 a.length), (2, ii c), (8, ii x8_1), (13, ii x13_3), (72, pp 0 ((Int.toNat x13_3) * 2))]) (by kernel_rfl) ?_
        refine XR.runS E0_ok 1 1 [(0, s0 0 a.length), (2, ii c), (8, ii x8_1), (13, ii x13_3), (73, pp 0 ((Int.toNat x13_3) * 2 + 1))] rfl (by kernel_rfl) ?_
        refine XR.rd E0_ok [0, 2, 8, 13, 74] rfl (v := ii ((List.getD a (Int.toNat x13_3) (0, 0)).2)) (v_load1 encP_ok (x := (src 77 (.tmp 73))) (b := 0) (off := (Int.toNat x13_3) * 2 + 1) (xs := a) (fz := z0) (e := y0) (es := 2) (d := (some (path 12 74))) (by kernel_rfl) (by kernel_rfl) (by kernel_rfl) (Int.toNat x13_3) 1 (0, 0) (by first | rfl | omega) (row_len (inRow_toNat b2) (by simp)) rfl rfl) (σ' := [(0, s0 0 a.length), (2, ii c), (8, ii x8_1), (13, ii x13_3), (74, ii ((List.getD a (Int.toNat x13_3) (0, 0)).2))]) (by kernel_rfl) ?_
        refine XR.runS E0_ok 1 2 [(0, s0 0 a.length), (2, ii c), (8, ii x8_1), (13, ii x13_3), (76, .bool (decide (((List.getD a (Int.toNat x13_3) (0, 0)).2) ≤ x8_1)))] rfl (by kernel_rfl) ?_
        refine XR.done (by kernel_rfl) ?_
        show XQ _ _ _ _ _ _ _ _
        cases b3 : (decide (((List.getD a (Int.toNat x13_3) (0, 0)).2) ≤ x8_1) : Bool) with
        | true =>
          have h := cT b3 h
          refine XQ.cond (s := (.tmp 76)) (b := true) (by kernel_rfl) (by kernel_rfl) (fun _ => ?_) (fun q => by cases q)
          refine XQ.seq E0_ok (by kernel_rfl) ?_
          refine XQ.region (by kernel_rfl) ?_
          refine XR.runS E0_ok 1 2 [(6, .slice none 0 0), (7, .bool false)] rfl (by kernel_rfl) ?_
          refine XR.done (by kernel_rfl) ?_
          show XQ _ _ _ _ _ _ _ _
          refine XQ.ghost 3 1 rfl (σ' := [(6, s0 1 0), (7, .bool false)]) (h' := [(0, rc encP a z0 y0 2)]) ⟨by kernel_rfl, by kernel_rfl, trivial⟩ ⟨⟨_, rfl, .inl rfl⟩, trivial⟩ ?_
          refine XQ.conv (σ' := [(6, s0 1 0), (7, .bool false)]) (h' := [(1, rc (encI .i64) [] 0 3 1), (0, rc encP a z0 y0 2)]) (c' := 2) ?_ (by kernel_rfl)
          refine XQ.ren (σ' := [(6, s0 1 0), (7, .bool false)]) (h' := [(1, rc (encI .i64) [] 0 3 1), (0, rc encP a z0 y0 2)]) (c' := 2) [0, 1] (by decide) rfl ⟨by kernel_rfl, by kernel_rfl, trivial⟩ ⟨⟨_, _, rfl, rfl, .inl ⟨rfl, rowC_scal (encI_ok .i64) _⟩⟩, ⟨_, _, rfl, rfl, .inl ⟨rfl, rowC_scal encP_ok _⟩⟩, trivial⟩ rfl ?_
          refine XQ.ret (by kernel_rfl) ?_
          cases h
          exact hQ
        | false =>
          have h := cF b3 h
          refine XQ.cond (s := (.tmp 76)) (b := false) (by kernel_rfl) (by kernel_rfl) (fun q => by cases q) (fun _ => ?_)
          refine XQ.skip (by kernel_rfl) ?_
          show XQ _ _ _ _ _ _ _ _
          refine XQ.region (by kernel_rfl) ?_
          refine XR.runS E0_ok 1 3 [(0, s0 0 a.length), (2, ii c), (8, ii x8_1), (13, ii (w64 (x13_3 + 1)))] rfl (by kernel_rfl) ?_
          refine XR.done (by kernel_rfl) ?_
          show XL _ _ _ _ _ _ _ _ _
          refine XL.ren (σ' := [(0, s0 0 a.length), (2, ii c), (8, ii x8_1), (13, ii (w64 (x13_3 + 1)))]) (h' := [(0, rc encP a z0 y0 2)]) (c' := 1) [0] (by decide) rfl ⟨by kernel_rfl, by kernel_rfl, by kernel_rfl, by kernel_rfl, trivial⟩ ⟨⟨_, _, rfl, rfl, .inl ⟨rfl, rowC_scal encP_ok _⟩⟩, trivial⟩ rfl ?_
          refine XL.conv (f78_3_ok m fuel z0 y0 a c x8_1 (w64 (x13_3 + 1)) o h Q hQ) (by first | rfl | simp)
    | false =>
      have h := cF b1 h
      refine XQ.cond (s := (.tmp 67)) (b := false) (by kernel_rfl) (by kernel_rfl) (fun q => by cases q) (fun _ => ?_)
      refine XQ.ren (σ' := [(0, s0 0 a.length), (2, ii c), (8, ii x8_1)]) (h' := [(0, rc encP a z0 y0 2)]) (c' := 1) [0] (by decide) rfl ⟨by kernel_rfl, by kernel_rfl, by kernel_rfl, trivial⟩ ⟨⟨_, _, rfl, rfl, .inl ⟨rfl, rowC_scal encP_ok _⟩⟩, trivial⟩ rfl ?_
      refine XQ.exit (i := 4) (by kernel_rfl) ?_
      cases h
      exact hQ

inductive Of78_1 where
  | r (b7_r1 : Bool) (lh1_r1 : List Int)
  | x0

def f78_1 (m : Nat) (F : (List (Int × Int)) → Int → Int → Option ((List Int) × Bool)) : Nat → List (Int × Int) → Int → Int → Option Of78_1
  | 0, _, _, _ => none
  | fuel + 1, a, c, x8_1 =>
    cond (decide (x8_1 ≤ 23)) (
      (f78_2 m m a c x8_1 0 []).bind fun o2 =>
        (F o2 (w64 (x8_1 + 1)) (w64 (c - 1))).bind fun r12 =>
          cond (r12.2) (
            cond (fitsB (1 + r12.1.length) 8) (
              some (.r true ([x8_1] ++ r12.1))
            ) none
          ) (
            (f78_3 m m a c x8_1 0).bind fun o3 =>
              match o3 with
              | .r =>
                some (.r false [])
              | .x4 =>
                f78_1 m F fuel a c (w64 (x8_1 + 1))
          )
    ) (
      some (.x0)
    )

theorem f78_1_ok (m : Nat) (F : (List (Int × Int)) → Int → Int → Option ((List Int) × Bool)) (hF : ∀ (z0 : Nat) (y0 : Nat) (a : List (Int × Int)) (b : Int) (c : Int) (o : (List Int) × Bool), F a b c = some o → KC E0 78 [s0 0 a.length, ii b, ii c] [(0, rc encP a z0 y0 2)] 1 (fun v h' c' => v = .tuple #[s0 1 o.1.length, .bool o.2] ∧ h' = [(1, rc (encI .i64) o.1 0 3 1)] ++ [(0, rc encP a z0 y0 2)] ∧ c' = 2)) : ∀ (fuel : Nat) (z0 : Nat) (y0 : Nat) (a : List (Int × Int)) (c : Int) (x8_1 : Int) (o : Of78_1), f78_1 m F fuel a c x8_1 = some o → ∀ Q : QP, (match o with | .r b7_r1 lh1_r1 => Q .ret [(6, s0 1 lh1_r1.length), (7, .bool b7_r1)] [(1, rc (encI .i64) lh1_r1 0 3 1), (0, rc encP a z0 y0 2)] 2 | .x0 => Q (.exit 0) [] [(0, rc encP a z0 y0 2)] 1) → XL E0 77 1 fuel f78_L1 [(0, s0 0 a.length), (2, ii c), (8, ii x8_1)] [(0, rc encP a z0 y0 2)] 1 Q
  | 0, z0, y0, a, c, x8_1, o, h, Q, hQ => by cases h
  | fuel + 1, z0, y0, a, c, x8_1, o, h, Q, hQ => by
    unfold f78_1 at h
    refine XL.succ E0_ok ?_
    refine XQ.seq E0_ok (by kernel_rfl) ?_
    refine XQ.seq E0_ok (by kernel_rfl) ?_
    refine XQ.region (by kernel_rfl) ?_
    refine XR.runS E0_ok 1 2 [(0, s0 0 a.length), (2, ii c), (8, ii x8_1), (21, .bool (decide (x8_1 ≤ 23)))] rfl (by kernel_rfl) ?_
    refine XR.done (by kernel_rfl) ?_
    show XQ _ _ _ _ _ _ _ _
    cases b1 : (decide (x8_1 ≤ 23) : Bool) with
    | true =>
      have h := cT b1 h
      refine XQ.cond (s := (.tmp 21)) (b := true) (by kernel_rfl) (by kernel_rfl) (fun _ => ?_) (fun q => by cases q)
      refine XQ.skip (by kernel_rfl) ?_
      show XQ _ _ _ _ _ _ _ _
      refine XQ.seq E0_ok (by kernel_rfl) ?_
      refine XQ.block (id := 1) (by kernel_rfl) ?_
      refine XQ.seq E0_ok (by kernel_rfl) ?_
      refine XQ.region (by kernel_rfl) ?_
      refine XR.runS E0_ok 1 1 [(0, s0 0 a.length), (2, ii c), (8, ii x8_1), (9, .slice none 0 0)] rfl (by kernel_rfl) ?_
      refine XR.done (by kernel_rfl) ?_
      show XQ _ _ _ _ _ _ _ _
      refine XQ.ghost 83 2 rfl (σ' := [(0, s0 0 a.length), (2, ii c), (8, ii x8_1), (9, s0 1 0)]) (h' := [(0, rc encP a z0 y0 2)]) ⟨by kernel_rfl, by kernel_rfl, by kernel_rfl, by kernel_rfl, trivial⟩ ⟨⟨_, rfl, .inl rfl⟩, trivial⟩ ?_
      refine XQ.conv (σ' := [(0, s0 0 a.length), (2, ii c), (8, ii x8_1), (9, s0 1 0)]) (h' := [(1, rc encP [] 0 83 2), (0, rc encP a z0 y0 2)]) (c' := 2) ?_ (by kernel_rfl)
      refine XQ.seq E0_ok (by kernel_rfl) ?_
      refine XQ.seq E0_ok (by kernel_rfl) ?_
      refine XQ.region (by kernel_rfl) ?_
      refine XR.runS E0_ok 1 1 [(0, s0 0 a.length), (2, ii c), (8, ii x8_1), (9, s0 1 0), (10, ii 0)] rfl (by kernel_rfl) ?_
      refine XR.done (by kernel_rfl) ?_
      show XQ _ _ _ _ _ _ _ _
      refine XQ.block (id := 2) (by kernel_rfl) ?_
      refine XQ.loop m (by kernel_rfl) ?_
      obtain ⟨o2, o2_h, h⟩ := bS h
      refine XL.ren (σ' := [(0, s0 0 a.length), (2, ii c), (8, ii x8_1), (9, s0 1 0), (10, ii 0)]) (h' := [(1, rc encP [] 0 83 2), (0, rc encP a z0 y0 2)]) (c' := 2) [0, 1] (by decide) rfl ⟨by kernel_rfl, by kernel_rfl, by kernel_rfl, by kernel_rfl, by kernel_rfl, trivial⟩ ⟨⟨_, _, rfl, rfl, .inl ⟨rfl, rowC_scal encP_ok _⟩⟩, ⟨_, _, rfl, rfl, .inl ⟨rfl, rowC_scal encP_ok _⟩⟩, trivial⟩ rfl ?_
      refine XL.conv (f78_2_ok m m z0 y0 a c x8_1 0 [] o2 o2_h _ ?_) (by first | rfl | simp)
      show XQ _ _ _ _ _ _ _ _
      refine XQ.seq E0_ok (by kernel_rfl) ?_
      refine XQ.region (by kernel_rfl) ?_
      refine XR.runS E0_ok 1 5 [(0, s0 0 a.length), (2, ii c), (8, ii x8_1), (51, s0 1 o2.length), (53, ii (w64 (x8_1 + 1))), (55, ii (w64 (c - 1)))] rfl (by kernel_rfl) ?_
      obtain ⟨r12, r12_h, h⟩ := bS h
      refine XR.call E0_ok [0, 2, 8, 56] rfl (K := 78) (args := [s0 1 o2.length, ii (w64 (x8_1 + 1)), ii (w64 (c - 1))]) (d := (some (path 12 56))) (by kernel_rfl) (KC.liftH (n0 := 1) (m := 1) (args0 := [s0 0 o2.length, ii (w64 (x8_1 + 1)), ii (w64 (c - 1))]) (h0 := [(0, rc encP o2 (0 + ((rowC encP o2).length + 1)) 83 2)]) (V := .tuple #[s0 1 r12.1.length, .bool r12.2]) (V2 := .tuple #[s0 2 r12.1.length, .bool r12.2]) (H := [(1, rc (encI .i64) r12.1 0 3 1)]) (H2 := [(2, rc (encI .i64) r12.1 0 3 1)]) [1] [2, 3, 1] (hF (0 + ((rowC encP o2).length + 1)) 83 o2 (w64 (x8_1 + 1)) (w64 (c - 1)) r12 r12_h) (by rfl) (by decide) rfl (by kernel_rfl) ⟨⟨_, _, rfl, rfl, .inl ⟨rfl, rowC_scal encP_ok _⟩⟩, trivial⟩ (by decide) (by decide) (by kernel_rfl) ⟨⟨_, _, rfl, rfl, .inl ⟨rfl, rowC_scal (encI_ok .i64) _⟩⟩, trivial⟩ (by rfl)) ?_
      rintro _ _ _ ⟨rfl, rfl, rfl⟩
      refine XR.conv (σ' := [(0, s0 0 a.length), (2, ii c), (8, ii x8_1), (56, .tuple #[s0 2 r12.1.length, .bool r12.2])]) (h' := [(2, rc (encI .i64) r12.1 0 3 1), (1, rc encP o2 0 83 2), (0, rc encP a z0 y0 2)]) (c' := 3) ?_ (by kernel_rfl)
      refine XR.runS E0_ok 1 5 [(0, s0 0 a.length), (2, ii c), (8, ii x8_1), (11, s0 2 r12.1.length), (12, .bool r12.2)] rfl (by kernel_rfl) ?_
      refine XR.done (by kernel_rfl) ?_
      show XQ _ _ _ _ _ _ _ _
      refine XQ.seq E0_ok (by kernel_rfl) ?_
      refine XQ.seq E0_ok (by kernel_rfl) ?_
      refine XQ.region (by kernel_rfl) ?_
      refine XR.runS E0_ok 1 1 [(0, s0 0 a.length), (2, ii c), (8, ii x8_1), (11, s0 2 r12.1.length), (59, .bool r12.2)] rfl (by kernel_rfl) ?_
      refine XR.done (by kernel_rfl) ?_
      show XQ _ _ _ _ _ _ _ _
      cases b3 : (r12.2 : Bool) with
      | true =>
        have h := cT b3 h
        refine XQ.cond (s := (.tmp 59)) (b := true) (by kernel_rfl) (by kernel_rfl) (fun _ => ?_) (fun q => by cases q)
        refine XQ.seq E0_ok (by kernel_rfl) ?_
        refine XQ.region (by kernel_rfl) ?_
        refine XR.runT E0_ok 1 3 [(61, s0 3 1), (62, s0 2 r12.1.length)] [(3, rc (encI .i64) [x8_1] 0 3 1), (2, rc (encI .i64) r12.1 0 3 1), (1, rc encP o2 0 83 2), (0, rc encP a z0 y0 2)] 4 rfl (by kernel_rfl) ?_
        cases b4 : (fitsB (1 + r12.1.length) 8 : Bool) with
        | false => cases (cF b4 h)
        | true =>
          have h := cT b4 h
          refine XR.efX E0_ok [63] rfl (d := (some (path 12 63))) (f := eAppend false 1 8 3 (src 77 (.tmp 61)) (src 77 (.tmp 62))) (by kernel_rfl) (fun _ => eAppendA_ok) (e_appendA (encI_ok .i64) (bytes := 8) (e := 3) (x := (src 77 (.tmp 61))) (y := (src 77 (.tmp 62))) (b := 3) (len := 1) (cap := 1) (xs := [x8_1]) (n := r12.1.length) (ys := r12.1) (n' := ([x8_1] ++ r12.1).length) (h' := [(4, rc (encI .i64) ([x8_1] ++ r12.1) 0 3 1), (2, rc (encI .i64) r12.1 0 3 1), (1, rc encP o2 0 83 2), (0, rc encP a z0 y0 2)]) (Y := s0 2 r12.1.length) (by kernel_rfl) (by kernel_rfl) (by kernel_rfl) (fetch_all (encI_ok .i64) (ys := r12.1) (fz := 0) (e := 3) (es := 1) (by kernel_rfl) (by simp) (Nat.le_refl _)) (by simp) rfl (by simp) (by simp) b4 (by first | (simp; done) | (simp; omega)) (by kernel_rfl)) (σ' := [(63, s0 4 (([x8_1] ++ r12.1).length))]) (by kernel_rfl) ?_
          refine XR.runS E0_ok 1 2 [(6, s0 4 (([x8_1] ++ r12.1).length)), (7, .bool true)] rfl (by kernel_rfl) ?_
          refine XR.done (by kernel_rfl) ?_
          show XQ _ _ _ _ _ _ _ _
          refine XQ.ren (σ' := [(6, s0 1 (([x8_1] ++ r12.1).length)), (7, .bool true)]) (h' := [(1, rc (encI .i64) ([x8_1] ++ r12.1) 0 3 1), (0, rc encP a z0 y0 2)]) (c' := 2) [0, 4] (by decide) rfl ⟨by kernel_rfl, by kernel_rfl, trivial⟩ ⟨⟨_, _, rfl, rfl, .inl ⟨rfl, rowC_scal (encI_ok .i64) _⟩⟩, ⟨_, _, rfl, rfl, .inl ⟨rfl, rowC_scal encP_ok _⟩⟩, trivial⟩ rfl ?_
          refine XQ.ret (by kernel_rfl) ?_
          cases h
          exact hQ
      | false =>
        have h := cF b3 h
        refine XQ.cond (s := (.tmp 59)) (b := false) (by kernel_rfl) (by kernel_rfl) (fun q => by cases q) (fun _ => ?_)
        refine XQ.skip (by kernel_rfl) ?_
        show XQ _ _ _ _ _ _ _ _
        refine XQ.seq E0_ok (by kernel_rfl) ?_
        refine XQ.region (by kernel_rfl) ?_
        refine XR.runS E0_ok 1 1 [(0, s0 0 a.length), (2, ii c), (8, ii x8_1), (13, ii 0)] rfl (by kernel_rfl) ?_
        refine XR.done (by kernel_rfl) ?_
        show XQ _ _ _ _ _ _ _ _
        refine XQ.block (id := 4) (by kernel_rfl) ?_
        refine XQ.loop m (by kernel_rfl) ?_
        obtain ⟨o3, o3_h, h⟩ := bS h
        refine XL.ren (σ' := [(0, s0 0 a.length), (2, ii c), (8, ii x8_1), (13, ii 0)]) (h' := [(0, rc encP a z0 y0 2)]) (c' := 1) [0] (by decide) rfl ⟨by kernel_rfl, by kernel_rfl, by kernel_rfl, by kernel_rfl, trivial⟩ ⟨⟨_, _, rfl, rfl, .inl ⟨rfl, rowC_scal encP_ok _⟩⟩, trivial⟩ rfl ?_
        cases o3 with
        | r =>
          dsimp only at h
          refine XL.conv (f78_3_ok m m z0 y0 a c x8_1 0 (.r) o3_h _ ?_) (by first | rfl | simp)
          cases h
          exact hQ
        | x4 =>
          dsimp only at h
          refine XL.conv (f78_3_ok m m z0 y0 a c x8_1 0 (.x4) o3_h _ ?_) (by first | rfl | simp)
          show XQ _ _ _ _ _ _ _ _
          refine XQ.region (by kernel_rfl) ?_
          refine XR.runS E0_ok 1 3 [(0, s0 0 a.length), (2, ii c), (8, ii (w64 (x8_1 + 1)))] rfl (by kernel_rfl) ?_
          refine XR.done (by kernel_rfl) ?_
          show XL _ _ _ _ _ _ _ _ _
          refine XL.ren (σ' := [(0, s0 0 a.length), (2, ii c), (8, ii (w64 (x8_1 + 1)))]) (h' := [(0, rc encP a z0 y0 2)]) (c' := 1) [0] (by decide) rfl ⟨by kernel_rfl, by kernel_rfl, by kernel_rfl, trivial⟩ ⟨⟨_, _, rfl, rfl, .inl ⟨rfl, rowC_scal encP_ok _⟩⟩, trivial⟩ rfl ?_
          refine XL.conv (f78_1_ok m F hF fuel z0 y0 a c (w64 (x8_1 + 1)) o h Q hQ) (by first | rfl | simp)
    | false =>
      have h := cF b1 h
      refine XQ.cond (s := (.tmp 21)) (b := false) (by kernel_rfl) (by kernel_rfl) (fun q => by cases q) (fun _ => ?_)
      refine XQ.ren (σ' := []) (h' := [(0, rc encP a z0 y0 2)]) (c' := 1) [0] (by decide) rfl trivial ⟨⟨_, _, rfl, rfl, .inl ⟨rfl, rowC_scal encP_ok _⟩⟩, trivial⟩ rfl ?_
      refine XQ.exit (i := 0) (by kernel_rfl) ?_
      cases h
      exact hQ

def f78 (m : Nat) : Nat → (List (Int × Int)) → Int → Int → Option ((List Int) × Bool)
  | 0, _, _, _ => none
  | fuel + 1, a, b, c =>
    cond (c == 0) (
      some ([], ((a.length : Nat) : Int) == 0)
    ) (
      (f78_1 m (f78 m fuel) m a c b).bind fun o1 =>
        match o1 with
        | .r b7_r1 lh1_r1 =>
          some (lh1_r1, b7_r1)
        | .x0 =>
          some ([], false)
    )

theorem f78_ok (m : Nat) : ∀ (fuel : Nat) (z0 : Nat) (y0 : Nat) (a : List (Int × Int)) (b : Int) (c : Int) (o : (List Int) × Bool), f78 m fuel a b c = some o → KC E0 78 [s0 0 a.length, ii b, ii c] [(0, rc encP a z0 y0 2)] 1 (fun v h' c' => v = .tuple #[s0 1 o.1.length, .bool o.2] ∧ h' = [(1, rc (encI .i64) o.1 0 3 1)] ++ [(0, rc encP a z0 y0 2)] ∧ c' = 2)
  | 0, z0, y0, a, b, c, o, h => by cases h
  | fuel + 1, z0, y0, a, b, c, o, h => by
    refine KC.bodyN E0_ok (F := Proofs.Try.f78) (by kernel_rfl) (code := f78_C78) (by kernel_rfl) (nt := 77) (by kernel_rfl) (rs := [.tmp 6, .tmp 7]) (by kernel_rfl) (by kernel_rfl) (σ := [(0, s0 0 a.length), (1, ii b), (2, ii c)]) (by kernel_rfl) ?_
    unfold f78 at h
    refine XQ.seq E0_ok (by kernel_rfl) ?_
    refine XQ.region (by kernel_rfl) ?_
    refine XR.runS E0_ok 1 2 [(0, s0 0 a.length), (1, ii b), (2, ii c)] rfl (by kernel_rfl) ?_
    refine XR.done (by kernel_rfl) ?_
    show XQ _ _ _ _ _ _ _ _
    refine XQ.seq E0_ok (by kernel_rfl) ?_
    refine XQ.seq E0_ok (by kernel_rfl) ?_
    refine XQ.region (by kernel_rfl) ?_
    refine XR.runS E0_ok 1 2 [(0, s0 0 a.length), (1, ii b), (2, ii c), (15, .bool (c == 0))] rfl (by kernel_rfl) ?_
    refine XR.done (by kernel_rfl) ?_
    show XQ _ _ _ _ _ _ _ _
    cases b1 : (c == 0 : Bool) with
    | true =>
      have h := cT b1 h
      refine XQ.cond (s := (.tmp 15)) (b := true) (by kernel_rfl) (by kernel_rfl) (fun _ => ?_) (fun q => by cases q)
      refine XQ.seq E0_ok (by kernel_rfl) ?_
      refine XQ.region (by kernel_rfl) ?_
      refine XR.runS E0_ok 1 5 [(6, .slice none 0 0), (7, .bool (((a.length : Nat) : Int) == 0))] rfl (by kernel_rfl) ?_
      refine XR.done (by kernel_rfl) ?_
      show XQ _ _ _ _ _ _ _ _
      refine XQ.ghost 3 1 rfl (σ' := [(6, s0 1 0), (7, .bool (((a.length : Nat) : Int) == 0))]) (h' := [(0, rc encP a z0 y0 2)]) ⟨by kernel_rfl, by kernel_rfl, trivial⟩ ⟨⟨_, rfl, .inl rfl⟩, trivial⟩ ?_
      refine XQ.conv (σ' := [(6, s0 1 0), (7, .bool (((a.length : Nat) : Int) == 0))]) (h' := [(1, rc (encI .i64) [] 0 3 1), (0, rc encP a z0 y0 2)]) (c' := 2) ?_ (by kernel_rfl)
      refine XQ.ren (σ' := [(6, s0 1 0), (7, .bool (((a.length : Nat) : Int) == 0))]) (h' := [(1, rc (encI .i64) [] 0 3 1), (0, rc encP a z0 y0 2)]) (c' := 2) [0, 1] (by decide) rfl ⟨by kernel_rfl, by kernel_rfl, trivial⟩ ⟨⟨_, _, rfl, rfl, .inl ⟨rfl, rowC_scal (encI_ok .i64) _⟩⟩, ⟨_, _, rfl, rfl, .inl ⟨rfl, rowC_scal encP_ok _⟩⟩, trivial⟩ rfl ?_
      refine XQ.ret (by kernel_rfl) ?_
      have h := Option.some.inj h
      subst h
      exact ⟨fun i q => (by cases q), .tuple #[s0 1 0, .bool (((a.length : Nat) : Int) == 0)], (by kernel_rfl), (by kernel_rfl), (by kernel_rfl), rfl⟩
    | false =>
      have h := cF b1 h
      refine XQ.cond (s := (.tmp 15)) (b := false) (by kernel_rfl) (by kernel_rfl) (fun q => by cases q) (fun _ => ?_)
      refine XQ.skip (by kernel_rfl) ?_
      show XQ _ _ _ _ _ _ _ _
      refine XQ.seq E0_ok (by kernel_rfl) ?_
      refine XQ.seq E0_ok (by kernel_rfl) ?_
      refine XQ.region (by kernel_rfl) ?_
      refine XR.runS E0_ok 1 2 [(0, s0 0 a.length), (2, ii c), (8, ii b)] rfl (by kernel_rfl) ?_
      refine XR.done (by kernel_rfl) ?_
      show XQ _ _ _ _ _ _ _ _
      refine XQ.block (id := 0) (by kernel_rfl) ?_
      refine XQ.loop m (by kernel_rfl) ?_
      obtain ⟨o1, o1_h, h⟩ := bS h
      refine XL.ren (σ' := [(0, s0 0 a.length), (2, ii c), (8, ii b)]) (h' := [(0, rc encP a z0 y0 2)]) (c' := 1) [0] (by decide) rfl ⟨by kernel_rfl, by kernel_rfl, by kernel_rfl, trivial⟩ ⟨⟨_, _, rfl, rfl, .inl ⟨rfl, rowC_scal encP_ok _⟩⟩, trivial⟩ rfl ?_
      cases o1 with
      | r b7_r1 lh1_r1 =>
        dsimp only at h
        refine XL.conv (f78_1_ok m (f78 m fuel) (f78_ok m fuel) m z0 y0 a c b (.r b7_r1 lh1_r1) o1_h _ ?_) (by first | rfl | simp)
        have h := Option.some.inj h
        subst h
        exact ⟨fun i q => (by cases q), .tuple #[s0 1 lh1_r1.length, .bool b7_r1], (by kernel_rfl), (by kernel_rfl), (by kernel_rfl), rfl⟩
      | x0 =>
        dsimp only at h
        refine XL.conv (f78_1_ok m (f78 m fuel) (f78_ok m fuel) m z0 y0 a c b (.x0) o1_h _ ?_) (by first | rfl | simp)
        show XQ _ _ _ _ _ _ _ _
        refine XQ.seq E0_ok (by kernel_rfl) ?_
        refine XQ.region (by kernel_rfl) ?_
        refine XR.runS E0_ok 1 2 [(6, .slice none 0 0), (7, .bool false)] rfl (by kernel_rfl) ?_
        refine XR.done (by kernel_rfl) ?_
        show XQ _ _ _ _ _ _ _ _
        refine XQ.ghost 3 1 rfl (σ' := [(6, s0 1 0), (7, .bool false)]) (h' := [(0, rc encP a z0 y0 2)]) ⟨by kernel_rfl, by kernel_rfl, trivial⟩ ⟨⟨_, rfl, .inl rfl⟩, trivial⟩ ?_
        refine XQ.conv (σ' := [(6, s0 1 0), (7, .bool false)]) (h' := [(1, rc (encI .i64) [] 0 3 1), (0, rc encP a z0 y0 2)]) (c' := 2) ?_ (by kernel_rfl)
        refine XQ.ren (σ' := [(6, s0 1 0), (7, .bool false)]) (h' := [(1, rc (encI .i64) [] 0 3 1), (0, rc encP a z0 y0 2)]) (c' := 2) [0, 1] (by decide) rfl ⟨by kernel_rfl, by kernel_rfl, trivial⟩ ⟨⟨_, _, rfl, rfl, .inl ⟨rfl, rowC_scal (encI_ok .i64) _⟩⟩, ⟨_, _, rfl, rfl, .inl ⟨rfl, rowC_scal encP_ok _⟩⟩, trivial⟩ rfl ?_
        refine XQ.ret (by kernel_rfl) ?_
        have h := Option.some.inj h
        subst h
        exact ⟨fun i q => (by cases q), .tuple #[s0 1 0, .bool false], (by kernel_rfl), (by kernel_rfl), (by kernel_rfl), rfl⟩

end Go.Xm
