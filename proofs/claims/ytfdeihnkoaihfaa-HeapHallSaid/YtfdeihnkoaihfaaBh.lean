/- What these functions of the program compute, as functions in Lean, and the proofs that they do: heap.Heap).in, heap.crowd, heap.Crowd, cmp.isNaN[int], cmp.Less[int], heap.none, heap.Fewest. Conditions: none. -/
import Derived.Test.YtfdeihnkoaihfaaBd
namespace Go.Xm
open Go.RowKit
set_option linter.unusedVariables false
set_option linter.unusedSimpArgs false
set_option maxRecDepth 20000

/-! (vitola/heap.Heap).in -/
noncomputable def f91_C91 : Code := Proofs.Try.f91.body.getD .skip

def f91 (m : Nat) (a_From : Int) (a_To : Int) (b_From : Int) (b_To : Int) : Option (Bool) :=
  cond (decide (b_From ≤ a_From)) (
    some (decide (a_To ≤ b_To))
  ) (
    some (false)
  )

theorem f91_ok (m : Nat) (a_From : Int) (a_To : Int) (b_From : Int) (b_To : Int) (o : Bool) (h : f91 m a_From a_To b_From b_To = some o) (w : World) (hI : anyInv w) : Calls Proofs.Try.prog 91 #[.agg #[ii a_From, ii a_To], .agg #[ii b_From, ii b_To]] w fun e w' => e = .returned (.bool o) ∧ Below w.heap.size w w' := by
  refine KC.calls (E := E0) (args := [.agg #[ii a_From, ii a_To], .agg #[ii b_From, ii b_To]]) (v := .bool o) rfl rfl (KC.bodyN E0_ok (F := Proofs.Try.f91) (by kernel_rfl) (code := f91_C91) (by kernel_rfl) (nt := 17) (by kernel_rfl) (rs := [.tmp 4]) (by kernel_rfl) (by kernel_rfl) (σ := [(0, .agg #[ii a_From, ii a_To]), (1, .agg #[ii b_From, ii b_To])]) (by kernel_rfl) ?_) w (anyInv_size hI) hI
  unfold f91 at h
  refine XQ.seq E0_ok (by kernel_rfl) ?_
  refine XQ.region (by kernel_rfl) ?_
  refine XR.runT E0_ok 1 3 [(2, pp 0 0), (3, pp 1 0)] [(1, .cells [ii b_From, ii b_To] 0 61 0), (0, .cells [ii a_From, ii a_To] 0 61 0)] 2 rfl (by kernel_rfl) ?_
  refine XR.done (by kernel_rfl) ?_
  show XQ _ _ _ _ _ _ _ _
  refine XQ.seq E0_ok (by kernel_rfl) ?_
  refine XQ.region (by kernel_rfl) ?_
  refine XR.runS E0_ok 1 6 [(2, pp 0 0), (3, pp 1 0), (10, .bool (decide (b_From ≤ a_From)))] rfl (by kernel_rfl) ?_
  cases b1 : (decide (b_From ≤ a_From) : Bool) with
  | true =>
    have h := cT b1 h
    refine XR.runS E0_ok 1 7 [(4, .bool (decide (a_To ≤ b_To)))] rfl (by kernel_rfl) ?_
    refine XR.done (by kernel_rfl) ?_
    show XQ _ _ _ _ _ _ _ _
    refine XQ.ret (by kernel_rfl) ?_
    have h := Option.some.inj h
    subst h
    exact ⟨fun i q => (by cases q), .bool (decide (a_To ≤ b_To)), (by kernel_rfl), rfl⟩
  | false =>
    have h := cF b1 h
    refine XR.runS E0_ok 1 7 [(4, .bool false)] rfl (by kernel_rfl) ?_
    refine XR.done (by kernel_rfl) ?_
    show XQ _ _ _ _ _ _ _ _
    refine XQ.ret (by kernel_rfl) ?_
    have h := Option.some.inj h
    subst h
    exact ⟨fun i q => (by cases q), .bool false, (by kernel_rfl), rfl⟩

/-! vitola/heap.crowd -/
noncomputable def f65_C65 : Code := Proofs.Try.f65.body.getD .skip
noncomputable def f65_L1 : Code := lft (lft (rgt (lft (rgt (rgt f65_C65)))))

def f65_1 (m : Nat) : Nat → List (Int × Int) → Int → Int → Int → Int → Int → Option Int
  | 0, _, _, _, _, _, _ => none
  | fuel + 1, a, b_From, b_To, x5_1, x9_1, x10_1 =>
    cond (decide (x10_1 < x9_1)) (
      cond (inRow x10_1 a.length) (
        (f91 m ((List.getD a (Int.toNat x10_1) (0, 0)).1) ((List.getD a (Int.toNat x10_1) (0, 0)).2) b_From b_To).bind fun r3 =>
          f65_1 m fuel a b_From b_To (cond (r3) (w64 (x5_1 + 1)) x5_1) x9_1 (w64 (x10_1 + 1))
      ) none
    ) (
      some (x5_1)
    )

theorem f65_1_ok (m : Nat) : ∀ (fuel : Nat) (z0 : Nat) (y0 : Nat) (a : List (Int × Int)) (b_From : Int) (b_To : Int) (x5_1 : Int) (x9_1 : Int) (x10_1 : Int) (o : Int), f65_1 m fuel a b_From b_To x5_1 x9_1 x10_1 = some o → ∀ Q : QP, Q (.exit 0) [(5, ii o)] [(0, rc encP a z0 y0 2)] 1 → XL E0 21 1 fuel f65_L1 [(3, pp 1 0), (5, ii x5_1), (8, s0 0 a.length), (9, ii x9_1), (10, ii x10_1)] [(1, .cells [ii b_From, ii b_To] 0 61 0), (0, rc encP a z0 y0 2)] 2 Q
  | 0, z0, y0, a, b_From, b_To, x5_1, x9_1, x10_1, o, h, Q, hQ => by cases h
  | fuel + 1, z0, y0, a, b_From, b_To, x5_1, x9_1, x10_1, o, h, Q, hQ => by
    unfold f65_1 at h
    refine XL.succ E0_ok ?_
    refine XQ.seq E0_ok (by kernel_rfl) ?_
    refine XQ.region (by kernel_rfl) ?_
    refine XR.runS E0_ok 1 1 [(3, pp 1 0), (5, ii x5_1), (8, s0 0 a.length), (9, ii x9_1), (10, ii x10_1), (11, .bool (decide (x10_1 < x9_1)))] rfl (by kernel_rfl) ?_
    refine XR.done (by kernel_rfl) ?_
    show XQ _ _ _ _ _ _ _ _
    refine XQ.seq E0_ok (by kernel_rfl) ?_
    cases b1 : (decide (x10_1 < x9_1) : Bool) with
    | true =>
      have h := cT b1 h
      refine XQ.cond (s := (.tmp 11)) (b := true) (by kernel_rfl) (by kernel_rfl) (fun _ => ?_) (fun q => by cases q)
      refine XQ.skip (by kernel_rfl) ?_
      show XQ _ _ _ _ _ _ _ _
      refine XQ.seq E0_ok (by kernel_rfl) ?_
      refine XQ.block (id := 1) (by kernel_rfl) ?_
      refine XQ.seq E0_ok (by kernel_rfl) ?_
      refine XQ.region (by kernel_rfl) ?_
      cases b2 : (inRow x10_1 a.length : Bool) with
      | false => cases (cF b2 h)
      | true =>
        have h := cT b2 h
        refine XR.rd E0_ok [3, 5, 8, 9, 10, 12] rfl (v := pp 0 ((Int.toNat x10_1) * 2)) (v_idx (s := 2) (x := (src 21 (.tmp 8))) (y := (src 21 (.tmp 10))) (b := 0) (o := 0) (len := a.length) (cap := a.length) (ik := .i64) (i := x10_1) (off := (Int.toNat x10_1) * 2) (d := (some (path 12 12))) (by kernel_rfl) (by kernel_rfl) (by kernel_rfl) b2 (by omega)) (σ' := [(3, pp 1 0), (5, ii x5_1), (8, s0 0 a.length), (9, ii x9_1), (10, ii x10_1), (12, pp 0 ((Int.toNat x10_1) * 2))]) (by kernel_rfl) ?_
        refine XR.rd E0_ok [3, 5, 8, 9, 10, 13] rfl (v := .agg #[ii ((List.getD a (Int.toNat x10_1) (0, 0)).1), ii ((List.getD a (Int.toNat x10_1) (0, 0)).2)]) (v_loadN encP_ok (x := (src 21 (.tmp 12))) (b := 0) (off := (Int.toNat x10_1) * 2) (xs := a) (fz := z0) (e := y0) (es := 2) (d := (some (path 12 13))) (by kernel_rfl) (by kernel_rfl) (by kernel_rfl) (Int.toNat x10_1) (0, 0) (by first | rfl | omega) (row_len (inRow_toNat b2) (by simp)) rfl) (σ' := [(3, pp 1 0), (5, ii x5_1), (8, s0 0 a.length), (9, ii x9_1), (10, ii x10_1), (13, .agg #[ii ((List.getD a (Int.toNat x10_1) (0, 0)).1), ii ((List.getD a (Int.toNat x10_1) (0, 0)).2)])]) (by kernel_rfl) ?_
        refine XR.runT E0_ok 1 2 [(3, pp 1 0), (5, ii x5_1), (7, pp 2 0), (8, s0 0 a.length), (9, ii x9_1), (10, ii x10_1)] [(2, .cells [ii ((List.getD a (Int.toNat x10_1) (0, 0)).1), ii ((List.getD a (Int.toNat x10_1) (0, 0)).2)] 0 61 0), (1, .cells [ii b_From, ii b_To] 0 61 0), (0, rc encP a z0 y0 2)] 3 rfl (by kernel_rfl) ?_
        refine XR.done (by kernel_rfl) ?_
        show XQ _ _ _ _ _ _ _ _
        refine XQ.seq E0_ok (by kernel_rfl) ?_
        refine XQ.region (by kernel_rfl) ?_
        refine XR.runS E0_ok 1 2 [(3, pp 1 0), (5, ii x5_1), (8, s0 0 a.length), (9, ii x9_1), (10, ii x10_1), (14, .agg #[ii ((List.getD a (Int.toNat x10_1) (0, 0)).1), ii ((List.getD a (Int.toNat x10_1) (0, 0)).2)]), (15, .agg #[ii b_From, ii b_To])] rfl (by kernel_rfl) ?_
        obtain ⟨r3, r3_h, h⟩ := bS h
        refine XR.call E0_ok [3, 5, 8, 9, 10, 16] rfl (K := 91) (args := [.agg #[ii ((List.getD a (Int.toNat x10_1) (0, 0)).1), ii ((List.getD a (Int.toNat x10_1) (0, 0)).2)], .agg #[ii b_From, ii b_To]]) (d := (some (path 12 16))) (by kernel_rfl) (KC.of_calls E0_ok (F := Proofs.Try.f91) (v := .bool r3) (by kernel_rfl) rfl rfl (fun w hI => f91_ok m ((List.getD a (Int.toNat x10_1) (0, 0)).1) ((List.getD a (Int.toNat x10_1) (0, 0)).2) b_From b_To r3 r3_h w hI)) ?_
        rintro _ _ _ ⟨rfl, rfl, rfl⟩
        refine XR.conv (σ' := [(3, pp 1 0), (5, ii x5_1), (8, s0 0 a.length), (9, ii x9_1), (10, ii x10_1), (16, .bool r3)]) (h' := [(2, .cells [ii ((List.getD a (Int.toNat x10_1) (0, 0)).1), ii ((List.getD a (Int.toNat x10_1) (0, 0)).2)] 0 61 0), (1, .cells [ii b_From, ii b_To] 0 61 0), (0, rc encP a z0 y0 2)]) (c' := 3) ?_ (by kernel_rfl)
        refine XR.done (by kernel_rfl) ?_
        show XQ _ _ _ _ _ _ _ _
        refine XQ.meetC (σ' := [(3, pp 1 0), (5, ii (cond (r3) (w64 (x5_1 + 1)) x5_1)), (8, s0 0 a.length), (9, ii x9_1), (10, ii x10_1)]) (h' := [(2, .cells [ii ((List.getD a (Int.toNat x10_1) (0, 0)).1), ii ((List.getD a (Int.toNat x10_1) (0, 0)).2)] 0 61 0), (1, .cells [ii b_From, ii b_To] 0 61 0), (0, rc encP a z0 y0 2)]) (c' := 3) ?_ ?_
        rotate_left
        · refine XQ.cond (s := (.tmp 16)) (b := r3) (by kernel_rfl) (by kernel_rfl) (fun b3 => ?_) (fun b3 => ?_)
          · refine XQ.region (by kernel_rfl) ?_
            refine XR.runS E0_ok 1 3 [(3, pp 1 0), (5, ii (w64 (x5_1 + 1))), (8, s0 0 a.length), (9, ii x9_1), (10, ii x10_1)] rfl (by kernel_rfl) ?_
            refine XR.done (by kernel_rfl) ?_
            refine ⟨rfl, ?_, ?_⟩
            · try rw [b3]
              exact ⟨by kernel_rfl, by kernel_rfl, by kernel_rfl, by kernel_rfl, by kernel_rfl, trivial⟩
            · try rw [b3]
              kernel_rfl
          · refine XQ.skip (by kernel_rfl) ?_
            refine ⟨rfl, ?_, ?_⟩
            · try rw [b3]
              exact ⟨by kernel_rfl, by kernel_rfl, by kernel_rfl, by kernel_rfl, by kernel_rfl, trivial⟩
            · try rw [b3]
              kernel_rfl
        show XQ _ _ _ _ _ _ _ _
        refine XQ.region (by kernel_rfl) ?_
        refine XR.runS E0_ok 1 2 [(3, pp 1 0), (5, ii (cond (r3) (w64 (x5_1 + 1)) x5_1)), (8, s0 0 a.length), (9, ii x9_1), (10, ii (w64 (x10_1 + 1)))] rfl (by kernel_rfl) ?_
        refine XR.done (by kernel_rfl) ?_
        show XL _ _ _ _ _ _ _ _ _
        refine XL.ren (σ' := [(3, pp 1 0), (5, ii (cond (r3) (w64 (x5_1 + 1)) x5_1)), (8, s0 0 a.length), (9, ii x9_1), (10, ii (w64 (x10_1 + 1)))]) (h' := [(1, .cells [ii b_From, ii b_To] 0 61 0), (0, rc encP a z0 y0 2)]) (c' := 2) [0, 1] (by decide) rfl ⟨by kernel_rfl, by kernel_rfl, by kernel_rfl, by kernel_rfl, by kernel_rfl, trivial⟩ ⟨⟨_, _, rfl, rfl, .inr ⟨_, _, _, _, rfl, rfl⟩⟩, ⟨_, _, rfl, rfl, .inl ⟨rfl, rowC_scal encP_ok _⟩⟩, trivial⟩ rfl ?_
        refine XL.conv (f65_1_ok m fuel z0 y0 a b_From b_To (cond (r3) (w64 (x5_1 + 1)) x5_1) x9_1 (w64 (x10_1 + 1)) o h Q hQ) (by first | rfl | simp)
    | false =>
      have h := cF b1 h
      refine XQ.cond (s := (.tmp 11)) (b := false) (by kernel_rfl) (by kernel_rfl) (fun q => by cases q) (fun _ => ?_)
      refine XQ.ren (σ' := [(5, ii x5_1)]) (h' := [(0, rc encP a z0 y0 2)]) (c' := 1) [0] (by decide) rfl ⟨by kernel_rfl, trivial⟩ ⟨⟨_, _, rfl, rfl, .inl ⟨rfl, rowC_scal encP_ok _⟩⟩, trivial⟩ rfl ?_
      refine XQ.exit (i := 0) (by kernel_rfl) ?_
      cases h
      exact hQ

def f65 (m : Nat) (a : List (Int × Int)) (b_From : Int) (b_To : Int) : Option (Int) :=
  (f65_1 m m a b_From b_To 0 ((a.length : Nat) : Int) 0).bind fun o1 =>
    some (o1)

theorem f65_ok (m : Nat) (z0 : Nat) (y0 : Nat) (a : List (Int × Int)) (b_From : Int) (b_To : Int) (o : Int) (h : f65 m a b_From b_To = some o) : KC E0 65 [s0 0 a.length, .agg #[ii b_From, ii b_To]] [(0, rc encP a z0 y0 2)] 1 (fun v _ _ => v = ii o) := by
  refine KC.bodyN E0_ok (F := Proofs.Try.f65) (by kernel_rfl) (code := f65_C65) (by kernel_rfl) (nt := 21) (by kernel_rfl) (rs := [.tmp 4]) (by kernel_rfl) (by kernel_rfl) (σ := [(0, s0 0 a.length), (1, .agg #[ii b_From, ii b_To])]) (by kernel_rfl) ?_
  unfold f65 at h
  refine XQ.seq E0_ok (by kernel_rfl) ?_
  refine XQ.region (by kernel_rfl) ?_
  refine XR.runT E0_ok 1 2 [(0, s0 0 a.length), (3, pp 1 0)] [(1, .cells [ii b_From, ii b_To] 0 61 0), (0, rc encP a z0 y0 2)] 2 rfl (by kernel_rfl) ?_
  refine XR.done (by kernel_rfl) ?_
  show XQ _ _ _ _ _ _ _ _
  refine XQ.seq E0_ok (by kernel_rfl) ?_
  refine XQ.region (by kernel_rfl) ?_
  refine XR.runS E0_ok 1 1 [(0, s0 0 a.length), (3, pp 1 0), (5, ii 0)] rfl (by kernel_rfl) ?_
  refine XR.done (by kernel_rfl) ?_
  show XQ _ _ _ _ _ _ _ _
  refine XQ.seq E0_ok (by kernel_rfl) ?_
  refine XQ.seq E0_ok (by kernel_rfl) ?_
  refine XQ.region (by kernel_rfl) ?_
  refine XR.runS E0_ok 1 3 [(3, pp 1 0), (5, ii 0), (8, s0 0 a.length), (9, ii ((a.length : Nat) : Int)), (10, ii 0)] rfl (by kernel_rfl) ?_
  refine XR.done (by kernel_rfl) ?_
  show XQ _ _ _ _ _ _ _ _
  refine XQ.block (id := 0) (by kernel_rfl) ?_
  refine XQ.loop m (by kernel_rfl) ?_
  obtain ⟨o1, o1_h, h⟩ := bS h
  refine XL.ren (σ' := [(3, pp 1 0), (5, ii 0), (8, s0 0 a.length), (9, ii ((a.length : Nat) : Int)), (10, ii 0)]) (h' := [(1, .cells [ii b_From, ii b_To] 0 61 0), (0, rc encP a z0 y0 2)]) (c' := 2) [0, 1] (by decide) rfl ⟨by kernel_rfl, by kernel_rfl, by kernel_rfl, by kernel_rfl, by kernel_rfl, trivial⟩ ⟨⟨_, _, rfl, rfl, .inr ⟨_, _, _, _, rfl, rfl⟩⟩, ⟨_, _, rfl, rfl, .inl ⟨rfl, rowC_scal encP_ok _⟩⟩, trivial⟩ rfl ?_
  refine XL.conv (f65_1_ok m m z0 y0 a b_From b_To 0 ((a.length : Nat) : Int) 0 o1 o1_h _ ?_) (by first | rfl | simp)
  show XQ _ _ _ _ _ _ _ _
  refine XQ.seq E0_ok (by kernel_rfl) ?_
  refine XQ.region (by kernel_rfl) ?_
  refine XR.runS E0_ok 1 2 [(4, ii o1)] rfl (by kernel_rfl) ?_
  refine XR.done (by kernel_rfl) ?_
  show XQ _ _ _ _ _ _ _ _
  refine XQ.ret (by kernel_rfl) ?_
  have h := Option.some.inj h
  subst h
  exact ⟨fun i q => (by cases q), ii o1, (by kernel_rfl), rfl⟩

/-! vitola/heap.Crowd -/
noncomputable def f25_C25 : Code := Proofs.Try.f25.body.getD .skip

def f25 (m : Nat) (a : List (Int × Int)) (b : Int) (c : Int) : Option (Int × Int) :=
  (f23 m a).bind fun r1 =>
    cond (r1 != 0) (
      some (0, r1)
    ) (
      (f64 m 0 b 23).bind fun r2 =>
        cond (!r2) (
          some (0, 1)
        ) (
          (f64 m 0 c 23).bind fun r3 =>
            cond (!r3) (
              some (0, 1)
            ) (
              cond (decide (b > c)) (
                some (0, 7)
              ) (
                (f65 m a b c).bind fun r4 =>
                  some (r4, 0)
              )
            )
        )
    )

theorem f25_ok (m : Nat) (z0 : Nat) (y0 : Nat) (a : List (Int × Int)) (b : Int) (c : Int) (o : Int × Int) (h : f25 m a b c = some o) : KC E0 25 [s0 0 a.length, ii b, ii c] [(0, rc encP a z0 y0 2)] 1 (fun v _ _ => v = .tuple #[ii o.1, ii o.2]) := by
  refine KC.bodyN E0_ok (F := Proofs.Try.f25) (by kernel_rfl) (code := f25_C25) (by kernel_rfl) (nt := 33) (by kernel_rfl) (rs := [.tmp 6, .tmp 7]) (by kernel_rfl) (by kernel_rfl) (σ := [(0, s0 0 a.length), (1, ii b), (2, ii c)]) (by kernel_rfl) ?_
  unfold f25 at h
  refine XQ.seq E0_ok (by kernel_rfl) ?_
  refine XQ.region (by kernel_rfl) ?_
  refine XR.runS E0_ok 1 2 [(0, s0 0 a.length), (1, ii b), (2, ii c)] rfl (by kernel_rfl) ?_
  refine XR.done (by kernel_rfl) ?_
  show XQ _ _ _ _ _ _ _ _
  refine XQ.seq E0_ok (by kernel_rfl) ?_
  refine XQ.region (by kernel_rfl) ?_
  refine XR.runS E0_ok 1 1 [(0, s0 0 a.length), (1, ii b), (2, ii c), (9, s0 0 a.length)] rfl (by kernel_rfl) ?_
  obtain ⟨r1, r1_h, h⟩ := bS h
  refine XR.call E0_ok [0, 1, 2, 10] rfl (K := 23) (args := [s0 0 a.length]) (d := (some (path 12 10))) (by kernel_rfl) (KQ.call (KC.quiet E0_ok (args0 := [s0 0 a.length]) (h0 := [(0, rc encP a (z0 + ((rowC encP a).length + 1)) y0 2)]) (n := 1) (V := ii r1) [0] (f23_ok m (z0 + ((rowC encP a).length + 1)) y0 a r1 r1_h) rfl (by rfl) (by decide) rfl (by kernel_rfl) ⟨⟨_, _, rfl, rfl, .inl ⟨rfl, rowC_scal encP_ok _⟩⟩, trivial⟩) rfl) ?_
  rintro _ _ _ ⟨rfl, rfl, rfl⟩
  refine XR.conv (σ' := [(0, s0 0 a.length), (1, ii b), (2, ii c), (10, ii r1)]) (h' := [(0, rc encP a z0 y0 2)]) (c' := 1) ?_ (by kernel_rfl)
  refine XR.runS E0_ok 1 1 [(0, s0 0 a.length), (1, ii b), (2, ii c), (8, ii r1)] rfl (by kernel_rfl) ?_
  refine XR.done (by kernel_rfl) ?_
  show XQ _ _ _ _ _ _ _ _
  refine XQ.seq E0_ok (by kernel_rfl) ?_
  refine XQ.block (id := 0) (by kernel_rfl) ?_
  refine XQ.seq E0_ok (by kernel_rfl) ?_
  refine XQ.region (by kernel_rfl) ?_
  refine XR.runS E0_ok 1 3 [(0, s0 0 a.length), (1, ii b), (2, ii c), (8, ii r1), (11, .bool (r1 != 0))] rfl (by kernel_rfl) ?_
  refine XR.done (by kernel_rfl) ?_
  show XQ _ _ _ _ _ _ _ _
  cases b1 : (r1 != 0 : Bool) with
  | true =>
    have h := cT b1 h
    refine XQ.cond (s := (.tmp 11)) (b := true) (by kernel_rfl) (by kernel_rfl) (fun _ => ?_) (fun q => by cases q)
    refine XQ.seq E0_ok (by kernel_rfl) ?_
    refine XQ.region (by kernel_rfl) ?_
    refine XR.runS E0_ok 1 3 [(6, ii 0), (7, ii r1)] rfl (by kernel_rfl) ?_
    refine XR.done (by kernel_rfl) ?_
    show XQ _ _ _ _ _ _ _ _
    refine XQ.ret (by kernel_rfl) ?_
    have h := Option.some.inj h
    subst h
    exact ⟨fun i q => (by cases q), .tuple #[ii 0, ii r1], (by kernel_rfl), rfl⟩
  | false =>
    have h := cF b1 h
    refine XQ.cond (s := (.tmp 11)) (b := false) (by kernel_rfl) (by kernel_rfl) (fun q => by cases q) (fun _ => ?_)
    refine XQ.seq E0_ok (by kernel_rfl) ?_
    refine XQ.region (by kernel_rfl) ?_
    refine XR.runS E0_ok 1 1 [(0, s0 0 a.length), (1, ii b), (2, ii c), (16, ii b)] rfl (by kernel_rfl) ?_
    obtain ⟨r2, r2_h, h⟩ := bS h
    refine XR.call E0_ok [0, 1, 2, 17] rfl (K := 64) (args := [ii 0, ii b, ii 23]) (d := (some (path 12 17))) (by kernel_rfl) (KC.of_calls E0_ok (F := Proofs.Try.f64) (v := .bool r2) (by kernel_rfl) rfl rfl (fun w hI => f64_ok m 0 b 23 r2 r2_h w hI)) ?_
    rintro _ _ _ ⟨rfl, rfl, rfl⟩
    refine XR.conv (σ' := [(0, s0 0 a.length), (1, ii b), (2, ii c), (17, .bool r2)]) (h' := [(0, rc encP a z0 y0 2)]) (c' := 1) ?_ (by kernel_rfl)
    refine XR.runS E0_ok 1 2 [(0, s0 0 a.length), (1, ii b), (2, ii c), (19, .bool (!r2))] rfl (by kernel_rfl) ?_
    cases b2 : (!r2 : Bool) with
    | true =>
      have h := cT b2 h
      refine XR.runS E0_ok 1 5 [(0, s0 0 a.length), (1, ii b), (2, ii c), (15, .bool true)] rfl (by kernel_rfl) ?_
      refine XR.done (by kernel_rfl) ?_
      show XQ _ _ _ _ _ _ _ _
      refine XQ.cond (s := (.tmp 15)) (b := true) (by kernel_rfl) (by kernel_rfl) (fun _ => ?_) (fun q => by cases q)
      refine XQ.seq E0_ok (by kernel_rfl) ?_
      refine XQ.region (by kernel_rfl) ?_
      refine XR.runS E0_ok 1 2 [(6, ii 0), (7, ii 1)] rfl (by kernel_rfl) ?_
      refine XR.done (by kernel_rfl) ?_
      show XQ _ _ _ _ _ _ _ _
      refine XQ.ret (by kernel_rfl) ?_
      have h := Option.some.inj h
      subst h
      exact ⟨fun i q => (by cases q), .tuple #[ii 0, ii 1], (by kernel_rfl), rfl⟩
    | false =>
      have h := cF b2 h
      refine XR.runS E0_ok 1 1 [(0, s0 0 a.length), (1, ii b), (2, ii c), (19, .bool false), (20, ii c)] rfl (by kernel_rfl) ?_
      obtain ⟨r3, r3_h, h⟩ := bS h
      refine XR.call E0_ok [0, 1, 2, 19, 21] rfl (K := 64) (args := [ii 0, ii c, ii 23]) (d := (some (path 12 21))) (by kernel_rfl) (KC.of_calls E0_ok (F := Proofs.Try.f64) (v := .bool r3) (by kernel_rfl) rfl rfl (fun w hI => f64_ok m 0 c 23 r3 r3_h w hI)) ?_
      rintro _ _ _ ⟨rfl, rfl, rfl⟩
      refine XR.conv (σ' := [(0, s0 0 a.length), (1, ii b), (2, ii c), (19, .bool false), (21, .bool r3)]) (h' := [(0, rc encP a z0 y0 2)]) (c' := 1) ?_ (by kernel_rfl)
      refine XR.runS E0_ok 1 3 [(0, s0 0 a.length), (1, ii b), (2, ii c), (15, .bool (!r3))] rfl (by kernel_rfl) ?_
      refine XR.done (by kernel_rfl) ?_
      show XQ _ _ _ _ _ _ _ _
      cases b3 : (!r3 : Bool) with
      | true =>
        have h := cT b3 h
        refine XQ.cond (s := (.tmp 15)) (b := true) (by kernel_rfl) (by kernel_rfl) (fun _ => ?_) (fun q => by cases q)
        refine XQ.seq E0_ok (by kernel_rfl) ?_
        refine XQ.region (by kernel_rfl) ?_
        refine XR.runS E0_ok 1 2 [(6, ii 0), (7, ii 1)] rfl (by kernel_rfl) ?_
        refine XR.done (by kernel_rfl) ?_
        show XQ _ _ _ _ _ _ _ _
        refine XQ.ret (by kernel_rfl) ?_
        have h := Option.some.inj h
        subst h
        exact ⟨fun i q => (by cases q), .tuple #[ii 0, ii 1], (by kernel_rfl), rfl⟩
      | false =>
        have h := cF b3 h
        refine XQ.cond (s := (.tmp 15)) (b := false) (by kernel_rfl) (by kernel_rfl) (fun q => by cases q) (fun _ => ?_)
        refine XQ.seq E0_ok (by kernel_rfl) ?_
        refine XQ.region (by kernel_rfl) ?_
        refine XR.runS E0_ok 1 4 [(0, s0 0 a.length), (1, ii b), (2, ii c), (24, .bool (decide (b > c)))] rfl (by kernel_rfl) ?_
        refine XR.done (by kernel_rfl) ?_
        show XQ _ _ _ _ _ _ _ _
        cases b4 : (decide (b > c) : Bool) with
        | true =>
          have h := cT b4 h
          refine XQ.cond (s := (.tmp 24)) (b := true) (by kernel_rfl) (by kernel_rfl) (fun _ => ?_) (fun q => by cases q)
          refine XQ.seq E0_ok (by kernel_rfl) ?_
          refine XQ.region (by kernel_rfl) ?_
          refine XR.runS E0_ok 1 2 [(6, ii 0), (7, ii 7)] rfl (by kernel_rfl) ?_
          refine XR.done (by kernel_rfl) ?_
          show XQ _ _ _ _ _ _ _ _
          refine XQ.ret (by kernel_rfl) ?_
          have h := Option.some.inj h
          subst h
          exact ⟨fun i q => (by cases q), .tuple #[ii 0, ii 7], (by kernel_rfl), rfl⟩
        | false =>
          have h := cF b4 h
          refine XQ.cond (s := (.tmp 24)) (b := false) (by kernel_rfl) (by kernel_rfl) (fun q => by cases q) (fun _ => ?_)
          refine XQ.skip (by kernel_rfl) ?_
          show XQ _ _ _ _ _ _ _ _
          refine XQ.seq E0_ok (by kernel_rfl) ?_
          refine XQ.region (by kernel_rfl) ?_
          refine XR.runS E0_ok 1 4 [(28, s0 0 a.length), (31, .agg #[ii b, ii c])] rfl (by kernel_rfl) ?_
          obtain ⟨r4, r4_h, h⟩ := bS h
          refine XR.call E0_ok [32] rfl (K := 65) (args := [s0 0 a.length, .agg #[ii b, ii c]]) (d := (some (path 12 32))) (by kernel_rfl) (KQ.call (KC.quiet E0_ok (args0 := [s0 0 a.length, .agg #[ii b, ii c]]) (h0 := [(0, rc encP a (z0 + ((rowC encP a).length + 1)) y0 2)]) (n := 1) (V := ii r4) [0] (f65_ok m (z0 + ((rowC encP a).length + 1)) y0 a b c r4 r4_h) rfl (by rfl) (by decide) rfl (by kernel_rfl) ⟨⟨_, _, rfl, rfl, .inl ⟨rfl, rowC_scal encP_ok _⟩⟩, trivial⟩) rfl) ?_
          rintro _ _ _ ⟨rfl, rfl, rfl⟩
          refine XR.conv (σ' := [(32, ii r4)]) (h' := [(0, rc encP a z0 y0 2)]) (c' := 1) ?_ (by kernel_rfl)
          refine XR.runS E0_ok 1 2 [(6, ii r4), (7, ii 0)] rfl (by kernel_rfl) ?_
          refine XR.done (by kernel_rfl) ?_
          show XQ _ _ _ _ _ _ _ _
          refine XQ.ret (by kernel_rfl) ?_
          have h := Option.some.inj h
          subst h
          exact ⟨fun i q => (by cases q), .tuple #[ii r4, ii 0], (by kernel_rfl), rfl⟩

/-! cmp.isNaN[int] -/
noncomputable def f96_C96 : Code := Proofs.Try.f96.body.getD .skip

def f96 (m : Nat) (a : Int) : Option (Bool) :=
  some (a != a)

theorem f96_ok (m : Nat) (a : Int) (o : Bool) (h : f96 m a = some o) (w : World) (hI : anyInv w) : Calls Proofs.Try.prog 96 #[ii a] w fun e w' => e = .returned (.bool o) ∧ Below w.heap.size w w' := by
  refine KC.calls (E := E0) (args := [ii a]) (v := .bool o) rfl rfl (KC.bodyN E0_ok (F := Proofs.Try.f96) (by kernel_rfl) (code := f96_C96) (by kernel_rfl) (nt := 6) (by kernel_rfl) (rs := [.tmp 2]) (by kernel_rfl) (by kernel_rfl) (σ := [(0, ii a)]) (by kernel_rfl) ?_) w (anyInv_size hI) hI
  unfold f96 at h
  refine XQ.seq E0_ok (by kernel_rfl) ?_
  refine XQ.region (by kernel_rfl) ?_
  refine XR.runS E0_ok 1 1 [(0, ii a)] rfl (by kernel_rfl) ?_
  refine XR.done (by kernel_rfl) ?_
  show XQ _ _ _ _ _ _ _ _
  refine XQ.seq E0_ok (by kernel_rfl) ?_
  refine XQ.region (by kernel_rfl) ?_
  refine XR.runS E0_ok 1 4 [(2, .bool (a != a))] rfl (by kernel_rfl) ?_
  refine XR.done (by kernel_rfl) ?_
  show XQ _ _ _ _ _ _ _ _
  refine XQ.ret (by kernel_rfl) ?_
  have h := Option.some.inj h
  subst h
  exact ⟨fun i q => (by cases q), .bool (a != a), (by kernel_rfl), rfl⟩

/-! cmp.Less[int] -/
noncomputable def f116_C116 : Code := Proofs.Try.f116.body.getD .skip

def f116 (m : Nat) (a : Int) (b : Int) : Option (Bool) :=
  (f96 m a).bind fun r1 =>
    cond (r1) (
      (f96 m b).bind fun r2 =>
        cond (!r2) (
          some (true)
        ) (
          some (decide (a < b))
        )
    ) (
      some (decide (a < b))
    )

theorem f116_ok (m : Nat) (a : Int) (b : Int) (o : Bool) (h : f116 m a b = some o) (w : World) (hI : anyInv w) : Calls Proofs.Try.prog 116 #[ii a, ii b] w fun e w' => e = .returned (.bool o) ∧ Below w.heap.size w w' := by
  refine KC.calls (E := E0) (args := [ii a, ii b]) (v := .bool o) rfl rfl (KC.bodyN E0_ok (F := Proofs.Try.f116) (by kernel_rfl) (code := f116_C116) (by kernel_rfl) (nt := 17) (by kernel_rfl) (rs := [.tmp 4]) (by kernel_rfl) (by kernel_rfl) (σ := [(0, ii a), (1, ii b)]) (by kernel_rfl) ?_) w (anyInv_size hI) hI
  unfold f116 at h
  refine XQ.seq E0_ok (by kernel_rfl) ?_
  refine XQ.region (by kernel_rfl) ?_
  refine XR.runS E0_ok 1 1 [(0, ii a), (1, ii b)] rfl (by kernel_rfl) ?_
  refine XR.done (by kernel_rfl) ?_
  show XQ _ _ _ _ _ _ _ _
  refine XQ.seq E0_ok (by kernel_rfl) ?_
  refine XQ.region (by kernel_rfl) ?_
  refine XR.runS E0_ok 1 1 [(0, ii a), (1, ii b), (5, ii a)] rfl (by kernel_rfl) ?_
  obtain ⟨r1, r1_h, h⟩ := bS h
  refine XR.call E0_ok [0, 1, 6] rfl (K := 96) (args := [ii a]) (d := (some (path 12 6))) (by kernel_rfl) (KC.of_calls E0_ok (F := Proofs.Try.f96) (v := .bool r1) (by kernel_rfl) rfl rfl (fun w hI => f96_ok m a r1 r1_h w hI)) ?_
  rintro _ _ _ ⟨rfl, rfl, rfl⟩
  refine XR.conv (σ' := [(0, ii a), (1, ii b), (6, .bool r1)]) (h' := []) (c' := 0) ?_ (by kernel_rfl)
  refine XR.runS E0_ok 1 1 [(0, ii a), (1, ii b), (7, .bool r1)] rfl (by kernel_rfl) ?_
  cases b1 : (r1 : Bool) with
  | true =>
    have h := cT b1 h
    refine XR.runS E0_ok 1 1 [(0, ii a), (1, ii b), (7, .bool true), (8, ii b)] rfl (by kernel_rfl) ?_
    obtain ⟨r2, r2_h, h⟩ := bS h
    refine XR.call E0_ok [0, 1, 7, 9] rfl (K := 96) (args := [ii b]) (d := (some (path 12 9))) (by kernel_rfl) (KC.of_calls E0_ok (F := Proofs.Try.f96) (v := .bool r2) (by kernel_rfl) rfl rfl (fun w hI => f96_ok m b r2 r2_h w hI)) ?_
    rintro _ _ _ ⟨rfl, rfl, rfl⟩
    refine XR.conv (σ' := [(0, ii a), (1, ii b), (7, .bool true), (9, .bool r2)]) (h' := []) (c' := 0) ?_ (by kernel_rfl)
    refine XR.runS E0_ok 1 3 [(0, ii a), (1, ii b), (12, .bool (!r2))] rfl (by kernel_rfl) ?_
    cases b2 : (!r2 : Bool) with
    | true =>
      have h := cT b2 h
      refine XR.runS E0_ok 1 5 [(4, .bool true)] rfl (by kernel_rfl) ?_
      refine XR.done (by kernel_rfl) ?_
      show XQ _ _ _ _ _ _ _ _
      refine XQ.ret (by kernel_rfl) ?_
      have h := Option.some.inj h
      subst h
      exact ⟨fun i q => (by cases q), .bool true, (by kernel_rfl), rfl⟩
    | false =>
      have h := cF b2 h
      refine XR.runS E0_ok 1 5 [(4, .bool (decide (a < b)))] rfl (by kernel_rfl) ?_
      refine XR.done (by kernel_rfl) ?_
      show XQ _ _ _ _ _ _ _ _
      refine XQ.ret (by kernel_rfl) ?_
      have h := Option.some.inj h
      subst h
      exact ⟨fun i q => (by cases q), .bool (decide (a < b)), (by kernel_rfl), rfl⟩
  | false =>
    have h := cF b1 h
    refine XR.runS E0_ok 1 10 [(4, .bool (decide (a < b)))] rfl (by kernel_rfl) ?_
    refine XR.done (by kernel_rfl) ?_
    show XQ _ _ _ _ _ _ _ _
    refine XQ.ret (by kernel_rfl) ?_
    have h := Option.some.inj h
    subst h
    exact ⟨fun i q => (by cases q), .bool (decide (a < b)), (by kernel_rfl), rfl⟩

/-! vitola/heap.none -/
noncomputable def f68_C68 : Code := Proofs.Try.f68.body.getD .skip

def f68 (m : Nat) : Option (Int × Int) :=
  some ((-1), (-1))

theorem f68_ok (m : Nat) (o : Int × Int) (h : f68 m = some o) (w : World) (hI : anyInv w) : Calls Proofs.Try.prog 68 #[] w fun e w' => e = .returned (.agg #[ii o.1, ii o.2]) ∧ Below w.heap.size w w' := by
  refine KC.calls (E := E0) (args := []) (v := .agg #[ii o.1, ii o.2]) rfl rfl (KC.bodyN E0_ok (F := Proofs.Try.f68) (by kernel_rfl) (code := f68_C68) (by kernel_rfl) (nt := 2) (by kernel_rfl) (rs := [.cell 0 61]) (by kernel_rfl) (by kernel_rfl) (σ := []) (by kernel_rfl) ?_) w (anyInv_size hI) hI
  unfold f68 at h
  refine XQ.seq E0_ok (by kernel_rfl) ?_
  refine XQ.region (by kernel_rfl) ?_
  refine XR.runT E0_ok 1 1 [(0, pp 0 0)] [(0, .cells [ii 0, ii 0] 0 61 0)] 1 rfl (by kernel_rfl) ?_
  refine XR.done (by kernel_rfl) ?_
  show XQ _ _ _ _ _ _ _ _
  refine XQ.seq E0_ok (by kernel_rfl) ?_
  refine XQ.region (by kernel_rfl) ?_
  refine XR.runT E0_ok 1 2 [(0, pp 0 0)] [(0, .cells [ii (-1), ii (-1)] 0 61 0)] 1 rfl (by kernel_rfl) ?_
  refine XR.done (by kernel_rfl) ?_
  show XQ _ _ _ _ _ _ _ _
  refine XQ.ret (by kernel_rfl) ?_
  have h := Option.some.inj h
  subst h
  exact ⟨fun i q => (by cases q), .agg #[ii (-1), ii (-1)], (by kernel_rfl), rfl⟩

/-! vitola/heap.Fewest -/
noncomputable def f29_C29 : Code := Proofs.Try.f29.body.getD .skip
noncomputable def f29_L1 : Code := lft (lft (lft (rgt (rgt (rgt f29_C29)))))

def f29_1 (m : Nat) : Nat → List (Int × Int) → Int → Option Int
  | 0, _, _ => none
  | fuel + 1, a, x5_1 =>
    (f58 m a x5_1).bind fun r3 =>
      cond (!r3) (
        f29_1 m fuel a (w64 (x5_1 + 1))
      ) (
        some (x5_1)
      )

theorem f29_1_ok (m : Nat) : ∀ (fuel : Nat) (z0 : Nat) (y0 : Nat) (a : List (Int × Int)) (x5_1 : Int) (o : Int), f29_1 m fuel a x5_1 = some o → ∀ Q : QP, Q (.exit 0) [(5, ii o)] [(0, rc encP a z0 y0 2)] 1 → XL E0 21 1 fuel f29_L1 [(0, s0 0 a.length), (5, ii x5_1)] [(0, rc encP a z0 y0 2)] 1 Q
  | 0, z0, y0, a, x5_1, o, h, Q, hQ => by cases h
  | fuel + 1, z0, y0, a, x5_1, o, h, Q, hQ => by
    unfold f29_1 at h
    refine XL.succ E0_ok ?_
    refine XQ.seq E0_ok (by kernel_rfl) ?_
    refine XQ.seq E0_ok (by kernel_rfl) ?_
    refine XQ.region (by kernel_rfl) ?_
    refine XR.runS E0_ok 1 2 [(0, s0 0 a.length), (5, ii x5_1), (14, s0 0 a.length), (15, ii x5_1)] rfl (by kernel_rfl) ?_
    obtain ⟨r3, r3_h, h⟩ := bS h
    refine XR.call E0_ok [0, 5, 16] rfl (K := 58) (args := [s0 0 a.length, ii x5_1]) (d := (some (path 12 16))) (by kernel_rfl) (KQ.call (KC.quiet E0_ok (args0 := [s0 0 a.length, ii x5_1]) (h0 := [(0, rc encP a (z0 + ((rowC encP a).length + 1)) y0 2)]) (n := 1) (V := .bool r3) [0] (f58_ok m (z0 + ((rowC encP a).length + 1)) y0 a x5_1 r3 r3_h) rfl (by rfl) (by decide) rfl (by kernel_rfl) ⟨⟨_, _, rfl, rfl, .inl ⟨rfl, rowC_scal encP_ok _⟩⟩, trivial⟩) rfl) ?_
    rintro _ _ _ ⟨rfl, rfl, rfl⟩
    refine XR.conv (σ' := [(0, s0 0 a.length), (5, ii x5_1), (16, .bool r3)]) (h' := [(0, rc encP a z0 y0 2)]) (c' := 1) ?_ (by kernel_rfl)
    refine XR.runS E0_ok 1 1 [(0, s0 0 a.length), (5, ii x5_1), (17, .bool (!r3))] rfl (by kernel_rfl) ?_
    refine XR.done (by kernel_rfl) ?_
    show XQ _ _ _ _ _ _ _ _
    cases b1 : (!r3 : Bool) with
    | true =>
      have h := cT b1 h
      refine XQ.cond (s := (.tmp 17)) (b := true) (by kernel_rfl) (by kernel_rfl) (fun _ => ?_) (fun q => by cases q)
      refine XQ.skip (by kernel_rfl) ?_
      show XQ _ _ _ _ _ _ _ _
      refine XQ.block (id := 1) (by kernel_rfl) ?_
      refine XQ.region (by kernel_rfl) ?_
      refine XR.runS E0_ok 1 3 [(0, s0 0 a.length), (5, ii (w64 (x5_1 + 1)))] rfl (by kernel_rfl) ?_
      refine XR.done (by kernel_rfl) ?_
      show XL _ _ _ _ _ _ _ _ _
      refine XL.ren (σ' := [(0, s0 0 a.length), (5, ii (w64 (x5_1 + 1)))]) (h' := [(0, rc encP a z0 y0 2)]) (c' := 1) [0] (by decide) rfl ⟨by kernel_rfl, by kernel_rfl, trivial⟩ ⟨⟨_, _, rfl, rfl, .inl ⟨rfl, rowC_scal encP_ok _⟩⟩, trivial⟩ rfl ?_
      refine XL.conv (f29_1_ok m fuel z0 y0 a (w64 (x5_1 + 1)) o h Q hQ) (by first | rfl | simp)
    | false =>
      have h := cF b1 h
      refine XQ.cond (s := (.tmp 17)) (b := false) (by kernel_rfl) (by kernel_rfl) (fun q => by cases q) (fun _ => ?_)
      refine XQ.ren (σ' := [(5, ii x5_1)]) (h' := [(0, rc encP a z0 y0 2)]) (c' := 1) [0] (by decide) rfl ⟨by kernel_rfl, trivial⟩ ⟨⟨_, _, rfl, rfl, .inl ⟨rfl, rowC_scal encP_ok _⟩⟩, trivial⟩ rfl ?_
      refine XQ.exit (i := 0) (by kernel_rfl) ?_
      cases h
      exact hQ

def f29 (m : Nat) (a : List (Int × Int)) : Option (Int × Int) :=
  (f23 m a).bind fun r1 =>
    cond (r1 != 0) (
      some (0, r1)
    ) (
      (f29_1 m m a (iMin 1 ((a.length : Nat) : Int))).bind fun o1 =>
        some (o1, 0)
    )

theorem f29_ok (m : Nat) (z0 : Nat) (y0 : Nat) (a : List (Int × Int)) (o : Int × Int) (h : f29 m a = some o) : KC E0 29 [s0 0 a.length] [(0, rc encP a z0 y0 2)] 1 (fun v _ _ => v = .tuple #[ii o.1, ii o.2]) := by
  refine KC.bodyN E0_ok (F := Proofs.Try.f29) (by kernel_rfl) (code := f29_C29) (by kernel_rfl) (nt := 21) (by kernel_rfl) (rs := [.tmp 2, .tmp 3]) (by kernel_rfl) (by kernel_rfl) (σ := [(0, s0 0 a.length)]) (by kernel_rfl) ?_
  unfold f29 at h
  refine XQ.seq E0_ok (by kernel_rfl) ?_
  refine XQ.region (by kernel_rfl) ?_
  refine XR.runS E0_ok 1 2 [(0, s0 0 a.length)] rfl (by kernel_rfl) ?_
  refine XR.done (by kernel_rfl) ?_
  show XQ _ _ _ _ _ _ _ _
  refine XQ.seq E0_ok (by kernel_rfl) ?_
  refine XQ.seq E0_ok (by kernel_rfl) ?_
  refine XQ.region (by kernel_rfl) ?_
  refine XR.runS E0_ok 1 1 [(0, s0 0 a.length), (6, s0 0 a.length)] rfl (by kernel_rfl) ?_
  obtain ⟨r1, r1_h, h⟩ := bS h
  refine XR.call E0_ok [0, 7] rfl (K := 23) (args := [s0 0 a.length]) (d := (some (path 12 7))) (by kernel_rfl) (KQ.call (KC.quiet E0_ok (args0 := [s0 0 a.length]) (h0 := [(0, rc encP a (z0 + ((rowC encP a).length + 1)) y0 2)]) (n := 1) (V := ii r1) [0] (f23_ok m (z0 + ((rowC encP a).length + 1)) y0 a r1 r1_h) rfl (by rfl) (by decide) rfl (by kernel_rfl) ⟨⟨_, _, rfl, rfl, .inl ⟨rfl, rowC_scal encP_ok _⟩⟩, trivial⟩) rfl) ?_
  rintro _ _ _ ⟨rfl, rfl, rfl⟩
  refine XR.conv (σ' := [(0, s0 0 a.length), (7, ii r1)]) (h' := [(0, rc encP a z0 y0 2)]) (c' := 1) ?_ (by kernel_rfl)
  refine XR.runS E0_ok 1 1 [(0, s0 0 a.length), (4, ii r1)] rfl (by kernel_rfl) ?_
  refine XR.done (by kernel_rfl) ?_
  show XQ _ _ _ _ _ _ _ _
  refine XQ.seq E0_ok (by kernel_rfl) ?_
  refine XQ.region (by kernel_rfl) ?_
  refine XR.runS E0_ok 1 2 [(0, s0 0 a.length), (4, ii r1), (9, .bool (r1 != 0))] rfl (by kernel_rfl) ?_
  refine XR.done (by kernel_rfl) ?_
  show XQ _ _ _ _ _ _ _ _
  cases b1 : (r1 != 0 : Bool) with
  | true =>
    have h := cT b1 h
    refine XQ.cond (s := (.tmp 9)) (b := true) (by kernel_rfl) (by kernel_rfl) (fun _ => ?_) (fun q => by cases q)
    refine XQ.seq E0_ok (by kernel_rfl) ?_
    refine XQ.region (by kernel_rfl) ?_
    refine XR.runS E0_ok 1 3 [(2, ii 0), (3, ii r1)] rfl (by kernel_rfl) ?_
    refine XR.done (by kernel_rfl) ?_
    show XQ _ _ _ _ _ _ _ _
    refine XQ.ret (by kernel_rfl) ?_
    have h := Option.some.inj h
    subst h
    exact ⟨fun i q => (by cases q), .tuple #[ii 0, ii r1], (by kernel_rfl), rfl⟩
  | false =>
    have h := cF b1 h
    refine XQ.cond (s := (.tmp 9)) (b := false) (by kernel_rfl) (by kernel_rfl) (fun q => by cases q) (fun _ => ?_)
    refine XQ.skip (by kernel_rfl) ?_
    show XQ _ _ _ _ _ _ _ _
    refine XQ.seq E0_ok (by kernel_rfl) ?_
    refine XQ.region (by kernel_rfl) ?_
    refine XR.runS E0_ok 1 4 [(0, s0 0 a.length), (5, ii (iMin 1 ((a.length : Nat) : Int)))] rfl (by kernel_rfl) ?_
    refine XR.done (by kernel_rfl) ?_
    show XQ _ _ _ _ _ _ _ _
    refine XQ.seq E0_ok (by kernel_rfl) ?_
    refine XQ.block (id := 0) (by kernel_rfl) ?_
    refine XQ.loop m (by kernel_rfl) ?_
    obtain ⟨o1, o1_h, h⟩ := bS h
    refine XL.ren (σ' := [(0, s0 0 a.length), (5, ii (iMin 1 ((a.length : Nat) : Int)))]) (h' := [(0, rc encP a z0 y0 2)]) (c' := 1) [0] (by decide) rfl ⟨by kernel_rfl, by kernel_rfl, trivial⟩ ⟨⟨_, _, rfl, rfl, .inl ⟨rfl, rowC_scal encP_ok _⟩⟩, trivial⟩ rfl ?_
    refine XL.conv (f29_1_ok m m z0 y0 a (iMin 1 ((a.length : Nat) : Int)) o1 o1_h _ ?_) (by first | rfl | simp)
    show XQ _ _ _ _ _ _ _ _
    refine XQ.seq E0_ok (by kernel_rfl) ?_
    refine XQ.region (by kernel_rfl) ?_
    refine XR.runS E0_ok 1 3 [(2, ii o1), (3, ii 0)] rfl (by kernel_rfl) ?_
    refine XR.done (by kernel_rfl) ?_
    show XQ _ _ _ _ _ _ _ _
    refine XQ.ret (by kernel_rfl) ?_
    have h := Option.some.inj h
    subst h
    exact ⟨fun i q => (by cases q), .tuple #[ii o1, ii 0], (by kernel_rfl), rfl⟩

end Go.Xm
