/- What these functions of the program compute, as functions in Lean, and the proofs that they do: heap.between, heap.Check, heap.handed, heap.Verify, vitolalaw02.same, vitolalaw02.large, vitolalaw02.given. Conditions: none. -/
import Derived.Test.YtfdeihnkoaihfaaVk
import Derived.Test.YtfdeihnkoaihfaaMs
namespace Go.Xm
open Go.RowKit
set_option linter.unusedVariables false
set_option linter.unusedSimpArgs false
set_option maxRecDepth 20000

/-! vitola/heap.between -/
noncomputable def f64_C64 : Code := Proofs.Try.f64.body.getD .skip

def f64 (m : Nat) (a : Int) (b : Int) (c : Int) : Option (Bool) :=
  cond (decide (a ≤ b)) (
    some (decide (b ≤ c))
  ) (
    some (false)
  )

theorem f64_ok (m : Nat) (a : Int) (b : Int) (c : Int) (o : Bool) (h : f64 m a b c = some o) (w : World) (hI : anyInv w) : Calls Proofs.Try.prog 64 #[ii a, ii b, ii c] w fun e w' => e = .returned (.bool o) ∧ Below w.heap.size w w' := by
  refine KC.calls (E := E0) (args := [ii a, ii b, ii c]) (v := .bool o) rfl rfl (KC.bodyN E0_ok (F := Proofs.Try.f64) (by kernel_rfl) (code := f64_C64) (by kernel_rfl) (nt := 15) (by kernel_rfl) (rs := [.tmp 6]) (by kernel_rfl) (by kernel_rfl) (σ := [(0, ii a), (1, ii b), (2, ii c)]) (by kernel_rfl) ?_) w (anyInv_size hI) hI
  unfold f64 at h
  refine XQ.seq E0_ok (by kernel_rfl) ?_
  refine XQ.region (by kernel_rfl) ?_
  refine XR.runS E0_ok 1 1 [(0, ii a), (1, ii b), (2, ii c)] rfl (by kernel_rfl) ?_
  refine XR.done (by kernel_rfl) ?_
  show XQ _ _ _ _ _ _ _ _
  refine XQ.seq E0_ok (by kernel_rfl) ?_
  refine XQ.region (by kernel_rfl) ?_
  refine XR.runS E0_ok 1 4 [(1, ii b), (2, ii c), (10, .bool (decide (a ≤ b)))] rfl (by kernel_rfl) ?_
  cases b1 : (decide (a ≤ b) : Bool) with
  | true =>
    have h := cT b1 h
    refine XR.runS E0_ok 1 5 [(6, .bool (decide (b ≤ c)))] rfl (by kernel_rfl) ?_
    refine XR.done (by kernel_rfl) ?_
    show XQ _ _ _ _ _ _ _ _
    refine XQ.ret (by kernel_rfl) ?_
    have h := Option.some.inj h
    subst h
    exact ⟨fun i q => (by cases q), .bool (decide (b ≤ c)), (by kernel_rfl), rfl⟩
  | false =>
    have h := cF b1 h
    refine XR.runS E0_ok 1 5 [(6, .bool false)] rfl (by kernel_rfl) ?_
    refine XR.done (by kernel_rfl) ?_
    show XQ _ _ _ _ _ _ _ _
    refine XQ.ret (by kernel_rfl) ?_
    have h := Option.some.inj h
    subst h
    exact ⟨fun i q => (by cases q), .bool false, (by kernel_rfl), rfl⟩

/-! vitola/heap.Check -/
noncomputable def f23_C23 : Code := Proofs.Try.f23.body.getD .skip
noncomputable def f23_L1 : Code := lft (lft (rgt (lft (rgt (rgt f23_C23)))))

inductive Of23_1 where
  | r (x2_r1 : Int)
  | x0

def f23_1 (m : Nat) : Nat → List (Int × Int) → Int → Int → Option Of23_1
  | 0, _, _, _ => none
  | fuel + 1, a, x9_1, x10_1 =>
    cond (decide (x10_1 < x9_1)) (
      cond (inRow x10_1 a.length) (
        (f64 m 0 ((List.getD a (Int.toNat x10_1) (0, 0)).1) 23).bind fun r5 =>
          cond (!r5) (
            some (.r 1)
          ) (
            (f64 m 0 ((List.getD a (Int.toNat x10_1) (0, 0)).2) 23).bind fun r6 =>
              cond (!r6) (
                some (.r 1)
              ) (
                cond (decide (((List.getD a (Int.toNat x10_1) (0, 0)).1) > ((List.getD a (Int.toNat x10_1) (0, 0)).2))) (
                  some (.r 7)
                ) (
                  f23_1 m fuel a x9_1 (w64 (x10_1 + 1))
                )
              )
          )
      ) none
    ) (
      some (.x0)
    )

theorem f23_1_ok (m : Nat) : ∀ (fuel : Nat) (z0 : Nat) (y0 : Nat) (a : List (Int × Int)) (x9_1 : Int) (x10_1 : Int) (o : Of23_1), f23_1 m fuel a x9_1 x10_1 = some o → ∀ Q : QP, (match o with | .r x2_r1 => Q .ret [(2, ii x2_r1)] [(0, rc encP a z0 y0 2)] 1 | .x0 => Q (.exit 0) [] [(0, rc encP a z0 y0 2)] 1) → XL E0 32 1 fuel f23_L1 [(8, s0 0 a.length), (9, ii x9_1), (10, ii x10_1)] [(0, rc encP a z0 y0 2)] 1 Q
  | 0, z0, y0, a, x9_1, x10_1, o, h, Q, hQ => by cases h
  | fuel + 1, z0, y0, a, x9_1, x10_1, o, h, Q, hQ => by
    unfold f23_1 at h
    refine XL.succ E0_ok ?_
    refine XQ.seq E0_ok (by kernel_rfl) ?_
    refine XQ.region (by kernel_rfl) ?_
    refine XR.runS E0_ok 1 1 [(8, s0 0 a.length), (9, ii x9_1), (10, ii x10_1), (11, .bool (decide (x10_1 < x9_1)))] rfl (by kernel_rfl) ?_
    refine XR.done (by kernel_rfl) ?_
    show XQ _ _ _ _ _ _ _ _
    refine XQ.seq E0_ok (by kernel_rfl) ?_
    cases b1 : (decide (x10_1 < x9_1) : Bool) with
    | true =>
      have h := cT b1 h
      refine XQ.cond (s := (.tmp 11)) (b := true) (by kernel_rfl) (by kernel_rfl) (fun _ => ?_) (fun q => by cases q)
      refine XQ.skip (by kernel_rfl) ?_
      show XQ _ _ _ _ _ _ _ _
      refine XQ.seq E0_ok (by kernel_rfl) ?_
      refine XQ.block (id := 1) (by kernel_rfl) ?_
      refine XQ.seq E0_ok (by kernel_rfl) ?_
      refine XQ.region (by kernel_rfl) ?_
      cases b2 : (inRow x10_1 a.length : Bool) with
      | false => cases (cF b2 h)
      | true =>
        have h := cT b2 h
        refine XR.rd E0_ok [8, 9, 10, 12] rfl (v := pp 0 ((Int.toNat x10_1) * 2)) (v_idx (s := 2) (x := (src 32 (.tmp 8))) (y := (src 32 (.tmp 10))) (b := 0) (o := 0) (len := a.length) (cap := a.length) (ik := .i64) (i := x10_1) (off := (Int.toNat x10_1) * 2) (d := (some (path 12 12))) (by kernel_rfl) (by kernel_rfl) (by kernel_rfl) b2 (by omega)) (σ' := [(8, s0 0 a.length), (9, ii x9_1), (10, ii x10_1), (12, pp 0 ((Int.toNat x10_1) * 2))]) (by kernel_rfl) ?_
        refine XR.rd E0_ok [8, 9, 10, 13] rfl (v := .agg #[ii ((List.getD a (Int.toNat x10_1) (0, 0)).1), ii ((List.getD a (Int.toNat x10_1) (0, 0)).2)]) (v_loadN encP_ok (x := (src 32 (.tmp 12))) (b := 0) (off := (Int.toNat x10_1) * 2) (xs := a) (fz := z0) (e := y0) (es := 2) (d := (some (path 12 13))) (by kernel_rfl) (by kernel_rfl) (by kernel_rfl) (Int.toNat x10_1) (0, 0) (by first | rfl | omega) (row_len (inRow_toNat b2) (by simp)) rfl) (σ' := [(8, s0 0 a.length), (9, ii x9_1), (10, ii x10_1), (13, .agg #[ii ((List.getD a (Int.toNat x10_1) (0, 0)).1), ii ((List.getD a (Int.toNat x10_1) (0, 0)).2)])]) (by kernel_rfl) ?_
        refine XR.runT E0_ok 1 2 [(4, pp 1 0), (8, s0 0 a.length), (9, ii x9_1), (10, ii x10_1)] [(1, .cells [ii ((List.getD a (Int.toNat x10_1) (0, 0)).1), ii ((List.getD a (Int.toNat x10_1) (0, 0)).2)] 0 61 0), (0, rc encP a z0 y0 2)] 2 rfl (by kernel_rfl) ?_
        refine XR.done (by kernel_rfl) ?_
        show XQ _ _ _ _ _ _ _ _
        refine XQ.block (id := 2) (by kernel_rfl) ?_
        refine XQ.seq E0_ok (by kernel_rfl) ?_
        refine XQ.region (by kernel_rfl) ?_
        refine XR.runS E0_ok 1 2 [(4, pp 1 0), (8, s0 0 a.length), (9, ii x9_1), (10, ii x10_1), (16, ii ((List.getD a (Int.toNat x10_1) (0, 0)).1))] rfl (by kernel_rfl) ?_
        obtain ⟨r5, r5_h, h⟩ := bS h
        refine XR.call E0_ok [4, 8, 9, 10, 17] rfl (K := 64) (args := [ii 0, ii ((List.getD a (Int.toNat x10_1) (0, 0)).1), ii 23]) (d := (some (path 12 17))) (by kernel_rfl) (KC.of_calls E0_ok (F := Proofs.Try.f64) (v := .bool r5) (by kernel_rfl) rfl rfl (fun w hI => f64_ok m 0 ((List.getD a (Int.toNat x10_1) (0, 0)).1) 23 r5 r5_h w hI)) ?_
        rintro _ _ _ ⟨rfl, rfl, rfl⟩
        refine XR.conv (σ' := [(4, pp 1 0), (8, s0 0 a.length), (9, ii x9_1), (10, ii x10_1), (17, .bool r5)]) (h' := [(1, .cells [ii ((List.getD a (Int.toNat x10_1) (0, 0)).1), ii ((List.getD a (Int.toNat x10_1) (0, 0)).2)] 0 61 0), (0, rc encP a z0 y0 2)]) (c' := 2) ?_ (by kernel_rfl)
        refine XR.runS E0_ok 1 2 [(4, pp 1 0), (8, s0 0 a.length), (9, ii x9_1), (10, ii x10_1), (19, .bool (!r5))] rfl (by kernel_rfl) ?_
        cases b3 : (!r5 : Bool) with
        | true =>
          have h := cT b3 h
          refine XR.runS E0_ok 1 6 [(4, pp 1 0), (8, s0 0 a.length), (9, ii x9_1), (10, ii x10_1), (14, .bool true)] rfl (by kernel_rfl) ?_
          refine XR.done (by kernel_rfl) ?_
          show XQ _ _ _ _ _ _ _ _
          refine XQ.cond (s := (.tmp 14)) (b := true) (by kernel_rfl) (by kernel_rfl) (fun _ => ?_) (fun q => by cases q)
          refine XQ.seq E0_ok (by kernel_rfl) ?_
          refine XQ.region (by kernel_rfl) ?_
          refine XR.runS E0_ok 1 1 [(2, ii 1)] rfl (by kernel_rfl) ?_
          refine XR.done (by kernel_rfl) ?_
          show XQ _ _ _ _ _ _ _ _
          refine XQ.ren (σ' := [(2, ii 1)]) (h' := [(0, rc encP a z0 y0 2)]) (c' := 1) [0] (by decide) rfl ⟨by kernel_rfl, trivial⟩ ⟨⟨_, _, rfl, rfl, .inl ⟨rfl, rowC_scal encP_ok _⟩⟩, trivial⟩ rfl ?_
          refine XQ.ret (by kernel_rfl) ?_
          cases h
          exact hQ
        | false =>
          have h := cF b3 h
          refine XR.runS E0_ok 1 2 [(4, pp 1 0), (8, s0 0 a.length), (9, ii x9_1), (10, ii x10_1), (19, .bool false), (21, ii ((List.getD a (Int.toNat x10_1) (0, 0)).2))] rfl (by kernel_rfl) ?_
          obtain ⟨r6, r6_h, h⟩ := bS h
          refine XR.call E0_ok [4, 8, 9, 10, 19, 22] rfl (K := 64) (args := [ii 0, ii ((List.getD a (Int.toNat x10_1) (0, 0)).2), ii 23]) (d := (some (path 12 22))) (by kernel_rfl) (KC.of_calls E0_ok (F := Proofs.Try.f64) (v := .bool r6) (by kernel_rfl) rfl rfl (fun w hI => f64_ok m 0 ((List.getD a (Int.toNat x10_1) (0, 0)).2) 23 r6 r6_h w hI)) ?_
          rintro _ _ _ ⟨rfl, rfl, rfl⟩
          refine XR.conv (σ' := [(4, pp 1 0), (8, s0 0 a.length), (9, ii x9_1), (10, ii x10_1), (19, .bool false), (22, .bool r6)]) (h' := [(1, .cells [ii ((List.getD a (Int.toNat x10_1) (0, 0)).1), ii ((List.getD a (Int.toNat x10_1) (0, 0)).2)] 0 61 0), (0, rc encP a z0 y0 2)]) (c' := 2) ?_ (by kernel_rfl)
          refine XR.runS E0_ok 1 3 [(4, pp 1 0), (8, s0 0 a.length), (9, ii x9_1), (10, ii x10_1), (14, .bool (!r6))] rfl (by kernel_rfl) ?_
          refine XR.done (by kernel_rfl) ?_
          show XQ _ _ _ _ _ _ _ _
          cases b4 : (!r6 : Bool) with
          | true =>
            have h := cT b4 h
            refine XQ.cond (s := (.tmp 14)) (b := true) (by kernel_rfl) (by kernel_rfl) (fun _ => ?_) (fun q => by cases q)
            refine XQ.seq E0_ok (by kernel_rfl) ?_
            refine XQ.region (by kernel_rfl) ?_
            refine XR.runS E0_ok 1 1 [(2, ii 1)] rfl (by kernel_rfl) ?_
            refine XR.done (by kernel_rfl) ?_
            show XQ _ _ _ _ _ _ _ _
            refine XQ.ren (σ' := [(2, ii 1)]) (h' := [(0, rc encP a z0 y0 2)]) (c' := 1) [0] (by decide) rfl ⟨by kernel_rfl, trivial⟩ ⟨⟨_, _, rfl, rfl, .inl ⟨rfl, rowC_scal encP_ok _⟩⟩, trivial⟩ rfl ?_
            refine XQ.ret (by kernel_rfl) ?_
            cases h
            exact hQ
          | false =>
            have h := cF b4 h
            refine XQ.cond (s := (.tmp 14)) (b := false) (by kernel_rfl) (by kernel_rfl) (fun q => by cases q) (fun _ => ?_)
            refine XQ.seq E0_ok (by kernel_rfl) ?_
            refine XQ.region (by kernel_rfl) ?_
            refine XR.runS E0_ok 1 6 [(8, s0 0 a.length), (9, ii x9_1), (10, ii x10_1), (25, .bool (decide (((List.getD a (Int.toNat x10_1) (0, 0)).1) > ((List.getD a (Int.toNat x10_1) (0, 0)).2))))] rfl (by kernel_rfl) ?_
            refine XR.done (by kernel_rfl) ?_
            show XQ _ _ _ _ _ _ _ _
            cases b5 : (decide (((List.getD a (Int.toNat x10_1) (0, 0)).1) > ((List.getD a (Int.toNat x10_1) (0, 0)).2)) : Bool) with
            | true =>
              have h := cT b5 h
              refine XQ.cond (s := (.tmp 25)) (b := true) (by kernel_rfl) (by kernel_rfl) (fun _ => ?_) (fun q => by cases q)
              refine XQ.seq E0_ok (by kernel_rfl) ?_
              refine XQ.region (by kernel_rfl) ?_
              refine XR.runS E0_ok 1 1 [(2, ii 7)] rfl (by kernel_rfl) ?_
              refine XR.done (by kernel_rfl) ?_
              show XQ _ _ _ _ _ _ _ _
              refine XQ.ren (σ' := [(2, ii 7)]) (h' := [(0, rc encP a z0 y0 2)]) (c' := 1) [0] (by decide) rfl ⟨by kernel_rfl, trivial⟩ ⟨⟨_, _, rfl, rfl, .inl ⟨rfl, rowC_scal encP_ok _⟩⟩, trivial⟩ rfl ?_
              refine XQ.ret (by kernel_rfl) ?_
              cases h
              exact hQ
            | false =>
              have h := cF b5 h
              refine XQ.cond (s := (.tmp 25)) (b := false) (by kernel_rfl) (by kernel_rfl) (fun q => by cases q) (fun _ => ?_)
              refine XQ.skip (by kernel_rfl) ?_
              show XQ _ _ _ _ _ _ _ _
              refine XQ.region (by kernel_rfl) ?_
              refine XR.runS E0_ok 1 2 [(8, s0 0 a.length), (9, ii x9_1), (10, ii (w64 (x10_1 + 1)))] rfl (by kernel_rfl) ?_
              refine XR.done (by kernel_rfl) ?_
              show XL _ _ _ _ _ _ _ _ _
              refine XL.ren (σ' := [(8, s0 0 a.length), (9, ii x9_1), (10, ii (w64 (x10_1 + 1)))]) (h' := [(0, rc encP a z0 y0 2)]) (c' := 1) [0] (by decide) rfl ⟨by kernel_rfl, by kernel_rfl, by kernel_rfl, trivial⟩ ⟨⟨_, _, rfl, rfl, .inl ⟨rfl, rowC_scal encP_ok _⟩⟩, trivial⟩ rfl ?_
              refine XL.conv (f23_1_ok m fuel z0 y0 a x9_1 (w64 (x10_1 + 1)) o h Q hQ) (by first | rfl | simp)
    | false =>
      have h := cF b1 h
      refine XQ.cond (s := (.tmp 11)) (b := false) (by kernel_rfl) (by kernel_rfl) (fun q => by cases q) (fun _ => ?_)
      refine XQ.ren (σ' := []) (h' := [(0, rc encP a z0 y0 2)]) (c' := 1) [0] (by decide) rfl trivial ⟨⟨_, _, rfl, rfl, .inl ⟨rfl, rowC_scal encP_ok _⟩⟩, trivial⟩ rfl ?_
      refine XQ.exit (i := 0) (by kernel_rfl) ?_
      cases h
      exact hQ

def f23 (m : Nat) (a : List (Int × Int)) : Option (Int) :=
  cond (decide (((a.length : Nat) : Int) > 10)) (
    some (3)
  ) (
    (f23_1 m m a ((a.length : Nat) : Int) 0).bind fun o1 =>
      match o1 with
      | .r x2_r1 =>
        some (x2_r1)
      | .x0 =>
        some (0)
  )

theorem f23_ok (m : Nat) (z0 : Nat) (y0 : Nat) (a : List (Int × Int)) (o : Int) (h : f23 m a = some o) : KC E0 23 [s0 0 a.length] [(0, rc encP a z0 y0 2)] 1 (fun v _ _ => v = ii o) := by
  refine KC.bodyN E0_ok (F := Proofs.Try.f23) (by kernel_rfl) (code := f23_C23) (by kernel_rfl) (nt := 32) (by kernel_rfl) (rs := [.tmp 2]) (by kernel_rfl) (by kernel_rfl) (σ := [(0, s0 0 a.length)]) (by kernel_rfl) ?_
  unfold f23 at h
  refine XQ.seq E0_ok (by kernel_rfl) ?_
  refine XQ.region (by kernel_rfl) ?_
  refine XR.runS E0_ok 1 1 [(0, s0 0 a.length)] rfl (by kernel_rfl) ?_
  refine XR.done (by kernel_rfl) ?_
  show XQ _ _ _ _ _ _ _ _
  refine XQ.seq E0_ok (by kernel_rfl) ?_
  refine XQ.seq E0_ok (by kernel_rfl) ?_
  refine XQ.region (by kernel_rfl) ?_
  refine XR.runS E0_ok 1 3 [(0, s0 0 a.length), (7, .bool (decide (((a.length : Nat) : Int) > 10)))] rfl (by kernel_rfl) ?_
  refine XR.done (by kernel_rfl) ?_
  show XQ _ _ _ _ _ _ _ _
  cases b1 : (decide (((a.length : Nat) : Int) > 10) : Bool) with
  | true =>
    have h := cT b1 h
    refine XQ.cond (s := (.tmp 7)) (b := true) (by kernel_rfl) (by kernel_rfl) (fun _ => ?_) (fun q => by cases q)
    refine XQ.seq E0_ok (by kernel_rfl) ?_
    refine XQ.region (by kernel_rfl) ?_
    refine XR.runS E0_ok 1 1 [(2, ii 3)] rfl (by kernel_rfl) ?_
    refine XR.done (by kernel_rfl) ?_
    show XQ _ _ _ _ _ _ _ _
    refine XQ.ret (by kernel_rfl) ?_
    have h := Option.some.inj h
    subst h
    exact ⟨fun i q => (by cases q), ii 3, (by kernel_rfl), rfl⟩
  | false =>
    have h := cF b1 h
    refine XQ.cond (s := (.tmp 7)) (b := false) (by kernel_rfl) (by kernel_rfl) (fun q => by cases q) (fun _ => ?_)
    refine XQ.skip (by kernel_rfl) ?_
    show XQ _ _ _ _ _ _ _ _
    refine XQ.seq E0_ok (by kernel_rfl) ?_
    refine XQ.seq E0_ok (by kernel_rfl) ?_
    refine XQ.region (by kernel_rfl) ?_
    refine XR.runS E0_ok 1 3 [(8, s0 0 a.length), (9, ii ((a.length : Nat) : Int)), (10, ii 0)] rfl (by kernel_rfl) ?_
    refine XR.done (by kernel_rfl) ?_
    show XQ _ _ _ _ _ _ _ _
    refine XQ.block (id := 0) (by kernel_rfl) ?_
    refine XQ.loop m (by kernel_rfl) ?_
    obtain ⟨o1, o1_h, h⟩ := bS h
    refine XL.ren (σ' := [(8, s0 0 a.length), (9, ii ((a.length : Nat) : Int)), (10, ii 0)]) (h' := [(0, rc encP a z0 y0 2)]) (c' := 1) [0] (by decide) rfl ⟨by kernel_rfl, by kernel_rfl, by kernel_rfl, trivial⟩ ⟨⟨_, _, rfl, rfl, .inl ⟨rfl, rowC_scal encP_ok _⟩⟩, trivial⟩ rfl ?_
    cases o1 with
    | r x2_r1 =>
      dsimp only at h
      refine XL.conv (f23_1_ok m m z0 y0 a ((a.length : Nat) : Int) 0 (.r x2_r1) o1_h _ ?_) (by first | rfl | simp)
      have h := Option.some.inj h
      subst h
      exact ⟨fun i q => (by cases q), ii x2_r1, (by kernel_rfl), rfl⟩
    | x0 =>
      dsimp only at h
      refine XL.conv (f23_1_ok m m z0 y0 a ((a.length : Nat) : Int) 0 (.x0) o1_h _ ?_) (by first | rfl | simp)
      show XQ _ _ _ _ _ _ _ _
      refine XQ.seq E0_ok (by kernel_rfl) ?_
      refine XQ.region (by kernel_rfl) ?_
      refine XR.runS E0_ok 1 1 [(2, ii 0)] rfl (by kernel_rfl) ?_
      refine XR.done (by kernel_rfl) ?_
      show XQ _ _ _ _ _ _ _ _
      refine XQ.ret (by kernel_rfl) ?_
      have h := Option.some.inj h
      subst h
      exact ⟨fun i q => (by cases q), ii 0, (by kernel_rfl), rfl⟩

/-! vitola/heap.handed -/
noncomputable def f57_C57 : Code := Proofs.Try.f57.body.getD .skip

def f57 (m : Nat) (a : List (Int × Int)) (b : Int) : Option (Int) :=
  (f23 m a).bind fun r1 =>
    cond (r1 == 0) (
      (f64 m 1 b 10).bind fun r2 =>
        some (cond (!r2) 1 r1)
    ) (
      some (r1)
    )

theorem f57_ok (m : Nat) (z0 : Nat) (y0 : Nat) (a : List (Int × Int)) (b : Int) (o : Int) (h : f57 m a b = some o) : KC E0 57 [s0 0 a.length, ii b] [(0, rc encP a z0 y0 2)] 1 (fun v _ _ => v = ii o) := by
  refine KC.bodyN E0_ok (F := Proofs.Try.f57) (by kernel_rfl) (code := f57_C57) (by kernel_rfl) (nt := 16) (by kernel_rfl) (rs := [.tmp 4]) (by kernel_rfl) (by kernel_rfl) (σ := [(0, s0 0 a.length), (1, ii b)]) (by kernel_rfl) ?_
  unfold f57 at h
  refine XQ.seq E0_ok (by kernel_rfl) ?_
  refine XQ.region (by kernel_rfl) ?_
  refine XR.runS E0_ok 1 1 [(0, s0 0 a.length), (1, ii b)] rfl (by kernel_rfl) ?_
  refine XR.done (by kernel_rfl) ?_
  show XQ _ _ _ _ _ _ _ _
  refine XQ.seq E0_ok (by kernel_rfl) ?_
  refine XQ.region (by kernel_rfl) ?_
  refine XR.runS E0_ok 1 1 [(1, ii b), (6, s0 0 a.length)] rfl (by kernel_rfl) ?_
  obtain ⟨r1, r1_h, h⟩ := bS h
  refine XR.call E0_ok [1, 7] rfl (K := 23) (args := [s0 0 a.length]) (d := (some (path 12 7))) (by kernel_rfl) (KQ.call (KC.quiet E0_ok (args0 := [s0 0 a.length]) (h0 := [(0, rc encP a (z0 + ((rowC encP a).length + 1)) y0 2)]) (n := 1) (V := ii r1) [0] (f23_ok m (z0 + ((rowC encP a).length + 1)) y0 a r1 r1_h) rfl (by rfl) (by decide) rfl (by kernel_rfl) ⟨⟨_, _, rfl, rfl, .inl ⟨rfl, rowC_scal encP_ok _⟩⟩, trivial⟩) rfl) ?_
  rintro _ _ _ ⟨rfl, rfl, rfl⟩
  refine XR.conv (σ' := [(1, ii b), (7, ii r1)]) (h' := [(0, rc encP a z0 y0 2)]) (c' := 1) ?_ (by kernel_rfl)
  refine XR.runS E0_ok 1 1 [(1, ii b), (5, ii r1)] rfl (by kernel_rfl) ?_
  refine XR.done (by kernel_rfl) ?_
  show XQ _ _ _ _ _ _ _ _
  refine XQ.seq E0_ok (by kernel_rfl) ?_
  refine XQ.seq E0_ok (by kernel_rfl) ?_
  refine XQ.region (by kernel_rfl) ?_
  refine XR.runS E0_ok 1 3 [(1, ii b), (5, ii r1), (10, .bool (r1 == 0))] rfl (by kernel_rfl) ?_
  cases b1 : (r1 == 0 : Bool) with
  | true =>
    have h := cT b1 h
    refine XR.runS E0_ok 1 1 [(5, ii r1), (10, .bool true), (11, ii b)] rfl (by kernel_rfl) ?_
    obtain ⟨r2, r2_h, h⟩ := bS h
    refine XR.call E0_ok [5, 10, 12] rfl (K := 64) (args := [ii 1, ii b, ii 10]) (d := (some (path 12 12))) (by kernel_rfl) (KC.of_calls E0_ok (F := Proofs.Try.f64) (v := .bool r2) (by kernel_rfl) rfl rfl (fun w hI => f64_ok m 1 b 10 r2 r2_h w hI)) ?_
    rintro _ _ _ ⟨rfl, rfl, rfl⟩
    refine XR.conv (σ' := [(5, ii r1), (10, .bool true), (12, .bool r2)]) (h' := [(0, rc encP a z0 y0 2)]) (c' := 1) ?_ (by kernel_rfl)
    refine XR.runS E0_ok 1 2 [(5, ii r1), (14, .bool (!r2))] rfl (by kernel_rfl) ?_
    refine XR.done (by kernel_rfl) ?_
    show XQ _ _ _ _ _ _ _ _
    refine XQ.meetC (σ' := [(5, ii (cond (!r2) 1 r1))]) (h' := [(0, rc encP a z0 y0 2)]) (c' := 1) ?_ ?_
    rotate_left
    · refine XQ.cond (s := (.tmp 14)) (b := !r2) (by kernel_rfl) (by kernel_rfl) (fun b2 => ?_) (fun b2 => ?_)
      · refine XQ.region (by kernel_rfl) ?_
        refine XR.runS E0_ok 1 1 [(5, ii 1)] rfl (by kernel_rfl) ?_
        refine XR.done (by kernel_rfl) ?_
        refine ⟨rfl, ?_, ?_⟩
        · try rw [b2]
          exact ⟨by kernel_rfl, trivial⟩
        · try rw [b2]
          kernel_rfl
      · refine XQ.skip (by kernel_rfl) ?_
        refine ⟨rfl, ?_, ?_⟩
        · try rw [b2]
          exact ⟨by kernel_rfl, trivial⟩
        · try rw [b2]
          kernel_rfl
    show XQ _ _ _ _ _ _ _ _
    refine XQ.seq E0_ok (by kernel_rfl) ?_
    refine XQ.region (by kernel_rfl) ?_
    refine XR.runS E0_ok 1 2 [(4, ii (cond (!r2) 1 r1))] rfl (by kernel_rfl) ?_
    refine XR.done (by kernel_rfl) ?_
    show XQ _ _ _ _ _ _ _ _
    refine XQ.ret (by kernel_rfl) ?_
    have h := Option.some.inj h
    subst h
    exact ⟨fun i q => (by cases q), ii (cond (!r2) 1 r1), (by kernel_rfl), rfl⟩
  | false =>
    have h := cF b1 h
    refine XR.runS E0_ok 1 4 [(5, ii r1), (14, .bool false)] rfl (by kernel_rfl) ?_
    refine XR.done (by kernel_rfl) ?_
    show XQ _ _ _ _ _ _ _ _
    refine XQ.cond (s := (.tmp 14)) (b := false) (by kernel_rfl) (by kernel_rfl) (fun q => by cases q) (fun _ => ?_)
    refine XQ.skip (by kernel_rfl) ?_
    show XQ _ _ _ _ _ _ _ _
    refine XQ.seq E0_ok (by kernel_rfl) ?_
    refine XQ.region (by kernel_rfl) ?_
    refine XR.runS E0_ok 1 2 [(4, ii r1)] rfl (by kernel_rfl) ?_
    refine XR.done (by kernel_rfl) ?_
    show XQ _ _ _ _ _ _ _ _
    refine XQ.ret (by kernel_rfl) ?_
    have h := Option.some.inj h
    subst h
    exact ⟨fun i q => (by cases q), ii r1, (by kernel_rfl), rfl⟩

/-! vitola/heap.Verify -/
noncomputable def f21_C21 : Code := Proofs.Try.f21.body.getD .skip
noncomputable def f21_C62 : Code := Proofs.Try.f62.body.getD .skip
noncomputable def f21_L1 : Code := lft (lft (rgt (lft (rgt (rgt (rgt (rgt f21_C21)))))))

inductive Of21_1 where
  | r (x6_r1 : Int)
  | x1

def f21_1 (m : Nat) : Nat → List (Int × Int) → Int → List Int → Int → Int → List Int → Option Of21_1
  | 0, _, _, _, _, _, _ => none
  | fuel + 1, a, b, c, x25_1, x26_1, lh2_1 =>
    cond (decide (x26_1 < x25_1)) (
      cond (inRow x26_1 c.length) (
        cond (inRow x26_1 a.length) (
          (f64 m ((List.getD a (Int.toNat x26_1) (0, 0)).1) (List.getD c (Int.toNat x26_1) 0) ((List.getD a (Int.toNat x26_1) (0, 0)).2)).bind fun r4 =>
            cond (!r4) (
              some (.r 1)
            ) (
              cond (inRow (List.getD c (Int.toNat x26_1) 0) 24) (
                cond (decide (Int.toNat (List.getD c (Int.toNat x26_1) 0) < lh2_1.length)) (
                  cond (decide ((List.getD (List.set lh2_1 (Int.toNat (List.getD c (Int.toNat x26_1) 0)) (w64 ((List.getD lh2_1 (Int.toNat (List.getD c (Int.toNat x26_1) 0)) 0) + 1))) (Int.toNat (List.getD c (Int.toNat x26_1) 0)) 0) > b)) (
                    some (.r 15)
                  ) (
                    f21_1 m fuel a b c x25_1 (w64 (x26_1 + 1)) (List.set lh2_1 (Int.toNat (List.getD c (Int.toNat x26_1) 0)) (w64 ((List.getD lh2_1 (Int.toNat (List.getD c (Int.toNat x26_1) 0)) 0) + 1)))
                  )
                ) none
              ) none
            )
        ) none
      ) none
    ) (
      some (.x1)
    )

theorem f21_1_ok (m : Nat) : ∀ (fuel : Nat) (z0 : Nat) (y0 : Nat) (a : List (Int × Int)) (b : Int) (z1 : Nat) (y1 : Nat) (c : List Int) (x25_1 : Int) (x26_1 : Int) (lh2_1 : List Int) (o : Of21_1), f21_1 m fuel a b c x25_1 x26_1 lh2_1 = some o → ∀ Q : QP, (match o with | .r x6_r1 => Q .ret [(6, ii x6_r1)] [(1, rc (encI .i64) c z1 y1 1), (0, rc encP a z0 y0 2)] 2 | .x1 => Q (.exit 1) [] [(1, rc (encI .i64) c z1 y1 1), (0, rc encP a z0 y0 2)] 2) → XL E0 49 2 fuel f21_L1 [(0, s0 0 a.length), (1, ii b), (8, pp 2 0), (24, s0 1 c.length), (25, ii x25_1), (26, ii x26_1)] [(2, rc (encI .i64) lh2_1 0 88 0), (1, rc (encI .i64) c z1 y1 1), (0, rc encP a z0 y0 2)] 3 Q
  | 0, z0, y0, a, b, z1, y1, c, x25_1, x26_1, lh2_1, o, h, Q, hQ => by cases h
  | fuel + 1, z0, y0, a, b, z1, y1, c, x25_1, x26_1, lh2_1, o, h, Q, hQ => by
    unfold f21_1 at h
    refine XL.succ E0_ok ?_
    refine XQ.seq E0_ok (by kernel_rfl) ?_
    refine XQ.region (by kernel_rfl) ?_
    refine XR.runS E0_ok 1 1 [(0, s0 0 a.length), (1, ii b), (8, pp 2 0), (24, s0 1 c.length), (25, ii x25_1), (26, ii x26_1), (27, .bool (decide (x26_1 < x25_1)))] rfl (by kernel_rfl) ?_
    refine XR.done (by kernel_rfl) ?_
    show XQ _ _ _ _ _ _ _ _
    refine XQ.seq E0_ok (by kernel_rfl) ?_
    cases b1 : (decide (x26_1 < x25_1) : Bool) with
    | true =>
      have h := cT b1 h
      refine XQ.cond (s := (.tmp 27)) (b := true) (by kernel_rfl) (by kernel_rfl) (fun _ => ?_) (fun q => by cases q)
      refine XQ.skip (by kernel_rfl) ?_
      show XQ _ _ _ _ _ _ _ _
      refine XQ.seq E0_ok (by kernel_rfl) ?_
      refine XQ.block (id := 2) (by kernel_rfl) ?_
      refine XQ.seq E0_ok (by kernel_rfl) ?_
      refine XQ.region (by kernel_rfl) ?_
      refine XR.runS E0_ok 1 1 [(0, s0 0 a.length), (1, ii b), (8, pp 2 0), (24, s0 1 c.length), (25, ii x25_1), (26, ii x26_1), (28, ii x26_1)] rfl (by kernel_rfl) ?_
      cases b2 : (inRow x26_1 c.length : Bool) with
      | false => cases (cF b2 h)
      | true =>
        have h := cT b2 h
        refine XR.rd E0_ok [0, 1, 8, 24, 25, 26, 28, 29] rfl (v := pp 1 ((Int.toNat x26_1) * 1)) (v_idx (s := 1) (x := (src 49 (.tmp 24))) (y := (src 49 (.tmp 26))) (b := 1) (o := 0) (len := c.length) (cap := c.length) (ik := .i64) (i := x26_1) (off := (Int.toNat x26_1) * 1) (d := (some (path 12 29))) (by kernel_rfl) (by kernel_rfl) (by kernel_rfl) b2 (by omega)) (σ' := [(0, s0 0 a.length), (1, ii b), (8, pp 2 0), (24, s0 1 c.length), (25, ii x25_1), (26, ii x26_1), (28, ii x26_1), (29, pp 1 ((Int.toNat x26_1) * 1))]) (by kernel_rfl) ?_
        refine XR.rd E0_ok [0, 1, 8, 24, 25, 26, 28, 30] rfl (v := ii (List.getD c (Int.toNat x26_1) 0)) (v_load1 (encI_ok .i64) (x := (src 49 (.tmp 29))) (b := 1) (off := (Int.toNat x26_1) * 1) (xs := c) (fz := z1) (e := y1) (es := 1) (d := (some (path 12 30))) (by kernel_rfl) (by kernel_rfl) (by kernel_rfl) (Int.toNat x26_1) 0 0 (by first | rfl | omega) (row_len (inRow_toNat b2) (by simp)) rfl rfl) (σ' := [(0, s0 0 a.length), (1, ii b), (8, pp 2 0), (24, s0 1 c.length), (25, ii x25_1), (26, ii x26_1), (28, ii x26_1), (30, ii (List.getD c (Int.toNat x26_1) 0))]) (by kernel_rfl) ?_
        refine XR.runS E0_ok 1 2 [(0, s0 0 a.length), (1, ii b), (8, pp 2 0), (9, ii x26_1), (10, ii (List.getD c (Int.toNat x26_1) 0)), (24, s0 1 c.length), (25, ii x25_1), (26, ii x26_1)] rfl (by kernel_rfl) ?_
        refine XR.done (by kernel_rfl) ?_
        show XQ _ _ _ _ _ _ _ _
        refine XQ.seq E0_ok (by kernel_rfl) ?_
        refine XQ.seq E0_ok (by kernel_rfl) ?_
        refine XQ.region (by kernel_rfl) ?_
        refine XR.runS E0_ok 1 2 [(0, s0 0 a.length), (1, ii b), (8, pp 2 0), (10, ii (List.getD c (Int.toNat x26_1) 0)), (24, s0 1 c.length), (25, ii x25_1), (26, ii x26_1), (31, s0 0 a.length), (32, ii x26_1)] rfl (by kernel_rfl) ?_
        cases b3 : (inRow x26_1 a.length : Bool) with
        | false => cases (cF b3 h)
        | true =>
          have h := cT b3 h
          refine XR.rd E0_ok [0, 1, 8, 10, 24, 25, 26, 33] rfl (v := pp 0 ((Int.toNat x26_1) * 2)) (v_idx (s := 2) (x := (src 49 (.tmp 31))) (y := (src 49 (.tmp 32))) (b := 0) (o := 0) (len := a.length) (cap := a.length) (ik := .i64) (i := x26_1) (off := (Int.toNat x26_1) * 2) (d := (some (path 12 33))) (by kernel_rfl) (by kernel_rfl) (by kernel_rfl) b3 (by omega)) (σ' := [(0, s0 0 a.length), (1, ii b), (8, pp 2 0), (10, ii (List.getD c (Int.toNat x26_1) 0)), (24, s0 1 c.length), (25, ii x25_1), (26, ii x26_1), (33, pp 0 ((Int.toNat x26_1) * 2))]) (by kernel_rfl) ?_
          refine XR.rd E0_ok [0, 1, 8, 10, 24, 25, 26, 34] rfl (v := .agg #[ii ((List.getD a (Int.toNat x26_1) (0, 0)).1), ii ((List.getD a (Int.toNat x26_1) (0, 0)).2)]) (v_loadN encP_ok (x := (src 49 (.tmp 33))) (b := 0) (off := (Int.toNat x26_1) * 2) (xs := a) (fz := z0) (e := y0) (es := 2) (d := (some (path 12 34))) (by kernel_rfl) (by kernel_rfl) (by kernel_rfl) (Int.toNat x26_1) (0, 0) (by first | rfl | omega) (row_len (inRow_toNat b3) (by simp)) rfl) (σ' := [(0, s0 0 a.length), (1, ii b), (8, pp 2 0), (10, ii (List.getD c (Int.toNat x26_1) 0)), (24, s0 1 c.length), (25, ii x25_1), (26, ii x26_1), (34, .agg #[ii ((List.getD a (Int.toNat x26_1) (0, 0)).1), ii ((List.getD a (Int.toNat x26_1) (0, 0)).2)])]) (by kernel_rfl) ?_
          refine XR.runS E0_ok 1 1 [(0, s0 0 a.length), (1, ii b), (8, pp 2 0), (10, ii (List.getD c (Int.toNat x26_1) 0)), (24, s0 1 c.length), (25, ii x25_1), (26, ii x26_1), (34, .agg #[ii ((List.getD a (Int.toNat x26_1) (0, 0)).1), ii ((List.getD a (Int.toNat x26_1) (0, 0)).2)]), (35, ii (List.getD c (Int.toNat x26_1) 0))] rfl (by kernel_rfl) ?_
          refine XR.callK E0_ok [0, 1, 8, 10, 24, 25, 26, 36] rfl (K := 62) (args := [.agg #[ii ((List.getD a (Int.toNat x26_1) (0, 0)).1), ii ((List.getD a (Int.toNat x26_1) (0, 0)).2)], ii (List.getD c (Int.toNat x26_1) 0)]) (d := (some (path 12 36))) (by kernel_rfl) ?_
          refine KC.bodyN E0_ok (F := Proofs.Try.f62) (by kernel_rfl) (code := f21_C62) (by kernel_rfl) (nt := 11) (by kernel_rfl) (rs := [.tmp 4]) (by kernel_rfl) (by kernel_rfl) (σ := [(0, .agg #[ii ((List.getD a (Int.toNat x26_1) (0, 0)).1), ii ((List.getD a (Int.toNat x26_1) (0, 0)).2)]), (1, ii (List.getD c (Int.toNat x26_1) 0))]) (by kernel_rfl) ?_
          refine XQ.seq E0_ok (by kernel_rfl) ?_
          refine XQ.region (by kernel_rfl) ?_
          refine XR.runT E0_ok 1 2 [(1, ii (List.getD c (Int.toNat x26_1) 0)), (2, pp 3 0)] [(3, .cells [ii ((List.getD a (Int.toNat x26_1) (0, 0)).1), ii ((List.getD a (Int.toNat x26_1) (0, 0)).2)] 0 61 0), (2, rc (encI .i64) lh2_1 0 88 0), (1, rc (encI .i64) c z1 y1 1), (0, rc encP a z0 y0 2)] 4 rfl (by kernel_rfl) ?_
          refine XR.done (by kernel_rfl) ?_
          show XQ _ _ _ _ _ _ _ _
          refine XQ.seq E0_ok (by kernel_rfl) ?_
          refine XQ.region (by kernel_rfl) ?_
          refine XR.runS E0_ok 1 5 [(6, ii ((List.getD a (Int.toNat x26_1) (0, 0)).1)), (7, ii (List.getD c (Int.toNat x26_1) 0)), (9, ii ((List.getD a (Int.toNat x26_1) (0, 0)).2))] rfl (by kernel_rfl) ?_
          obtain ⟨r4, r4_h, h⟩ := bS h
          refine XR.call E0_ok [10] rfl (K := 64) (args := [ii ((List.getD a (Int.toNat x26_1) (0, 0)).1), ii (List.getD c (Int.toNat x26_1) 0), ii ((List.getD a (Int.toNat x26_1) (0, 0)).2)]) (d := (some (path 12 10))) (by kernel_rfl) (KC.of_calls E0_ok (F := Proofs.Try.f64) (v := .bool r4) (by kernel_rfl) rfl rfl (fun w hI => f64_ok m ((List.getD a (Int.toNat x26_1) (0, 0)).1) (List.getD c (Int.toNat x26_1) 0) ((List.getD a (Int.toNat x26_1) (0, 0)).2) r4 r4_h w hI)) ?_
          rintro _ _ _ ⟨rfl, rfl, rfl⟩
          refine XR.conv (σ' := [(10, .bool r4)]) (h' := [(3, .cells [ii ((List.getD a (Int.toNat x26_1) (0, 0)).1), ii ((List.getD a (Int.toNat x26_1) (0, 0)).2)] 0 61 0), (2, rc (encI .i64) lh2_1 0 88 0), (1, rc (encI .i64) c z1 y1 1), (0, rc encP a z0 y0 2)]) (c' := 4) ?_ (by kernel_rfl)
          refine XR.runS E0_ok 1 1 [(4, .bool r4)] rfl (by kernel_rfl) ?_
          refine XR.done (by kernel_rfl) ?_
          show XQ _ _ _ _ _ _ _ _
          refine XQ.ret (by kernel_rfl) ?_
          refine ⟨fun i q => (by cases q), .bool r4, (by kernel_rfl), ?_⟩
          refine XR.conv (σ' := [(0, s0 0 a.length), (1, ii b), (8, pp 2 0), (10, ii (List.getD c (Int.toNat x26_1) 0)), (24, s0 1 c.length), (25, ii x25_1), (26, ii x26_1), (36, .bool r4)]) (h' := [(3, .cells [ii ((List.getD a (Int.toNat x26_1) (0, 0)).1), ii ((List.getD a (Int.toNat x26_1) (0, 0)).2)] 0 61 0), (2, rc (encI .i64) lh2_1 0 88 0), (1, rc (encI .i64) c z1 y1 1), (0, rc encP a z0 y0 2)]) (c' := 4) ?_ (by kernel_rfl)
          refine XR.runS E0_ok 1 1 [(0, s0 0 a.length), (1, ii b), (8, pp 2 0), (10, ii (List.getD c (Int.toNat x26_1) 0)), (24, s0 1 c.length), (25, ii x25_1), (26, ii x26_1), (37, .bool (!r4))] rfl (by kernel_rfl) ?_
          refine XR.done (by kernel_rfl) ?_
          show XQ _ _ _ _ _ _ _ _
          cases b4 : (!r4 : Bool) with
          | true =>
            have h := cT b4 h
            refine XQ.cond (s := (.tmp 37)) (b := true) (by kernel_rfl) (by kernel_rfl) (fun _ => ?_) (fun q => by cases q)
            refine XQ.seq E0_ok (by kernel_rfl) ?_
            refine XQ.region (by kernel_rfl) ?_
            refine XR.runS E0_ok 1 1 [(6, ii 1)] rfl (by kernel_rfl) ?_
            refine XR.done (by kernel_rfl) ?_
            show XQ _ _ _ _ _ _ _ _
            refine XQ.ren (σ' := [(6, ii 1)]) (h' := [(1, rc (encI .i64) c z1 y1 1), (0, rc encP a z0 y0 2)]) (c' := 2) [0, 1] (by decide) rfl ⟨by kernel_rfl, trivial⟩ ⟨⟨_, _, rfl, rfl, .inl ⟨rfl, rowC_scal (encI_ok .i64) _⟩⟩, ⟨_, _, rfl, rfl, .inl ⟨rfl, rowC_scal encP_ok _⟩⟩, trivial⟩ rfl ?_
            refine XQ.ret (by kernel_rfl) ?_
            cases h
            exact hQ
          | false =>
            have h := cF b4 h
            refine XQ.cond (s := (.tmp 37)) (b := false) (by kernel_rfl) (by kernel_rfl) (fun q => by cases q) (fun _ => ?_)
            refine XQ.skip (by kernel_rfl) ?_
            show XQ _ _ _ _ _ _ _ _
            refine XQ.seq E0_ok (by kernel_rfl) ?_
            refine XQ.region (by kernel_rfl) ?_
            refine XR.runS E0_ok 1 1 [(0, s0 0 a.length), (1, ii b), (8, pp 2 0), (10, ii (List.getD c (Int.toNat x26_1) 0)), (24, s0 1 c.length), (25, ii x25_1), (26, ii x26_1), (38, ii (List.getD c (Int.toNat x26_1) 0))] rfl (by kernel_rfl) ?_
            cases b5 : (inRow (List.getD c (Int.toNat x26_1) 0) 24 : Bool) with
            | false => cases (cF b5 h)
            | true =>
              have h := cT b5 h
              refine XR.rd E0_ok [0, 1, 8, 10, 24, 25, 26, 38, 39] rfl (v := pp 2 ((Int.toNat (List.getD c (Int.toNat x26_1) 0)) * 1)) (v_idxA (s := 1) (len := 24) (x := (src 49 (.tmp 8))) (y := (src 49 (.tmp 38))) (b := 2) (o := 0) (ik := .i64) (i := List.getD c (Int.toNat x26_1) 0) (off := (Int.toNat (List.getD c (Int.toNat x26_1) 0)) * 1) (d := (some (path 12 39))) (by kernel_rfl) (by kernel_rfl) (by kernel_rfl) b5 (by omega)) (σ' := [(0, s0 0 a.length), (1, ii b), (8, pp 2 0), (10, ii (List.getD c (Int.toNat x26_1) 0)), (24, s0 1 c.length), (25, ii x25_1), (26, ii x26_1), (38, ii (List.getD c (Int.toNat x26_1) 0)), (39, pp 2 ((Int.toNat (List.getD c (Int.toNat x26_1) 0)) * 1))]) (by kernel_rfl) ?_
              cases b6 : (decide (Int.toNat (List.getD c (Int.toNat x26_1) 0) < lh2_1.length) : Bool) with
              | false => cases (cF b6 h)
              | true =>
                have h := cT b6 h
                refine XR.rd E0_ok [0, 1, 8, 10, 24, 25, 26, 38, 40] rfl (v := ii (List.getD lh2_1 (Int.toNat (List.getD c (Int.toNat x26_1) 0)) 0)) (v_load1 (encI_ok .i64) (x := (src 49 (.tmp 39))) (b := 2) (off := (Int.toNat (List.getD c (Int.toNat x26_1) 0)) * 1) (xs := lh2_1) (fz := 0) (e := 88) (es := 0) (d := (some (path 12 40))) (by kernel_rfl) (by kernel_rfl) (by kernel_rfl) (Int.toNat (List.getD c (Int.toNat x26_1) 0)) 0 0 (by first | rfl | omega) (row_len b6 (by simp)) rfl rfl) (σ' := [(0, s0 0 a.length), (1, ii b), (8, pp 2 0), (10, ii (List.getD c (Int.toNat x26_1) 0)), (24, s0 1 c.length), (25, ii x25_1), (26, ii x26_1), (38, ii (List.getD c (Int.toNat x26_1) 0)), (40, ii (List.getD lh2_1 (Int.toNat (List.getD c (Int.toNat x26_1) 0)) 0))]) (by kernel_rfl) ?_
                refine XR.runS E0_ok 1 1 [(0, s0 0 a.length), (1, ii b), (8, pp 2 0), (10, ii (List.getD c (Int.toNat x26_1) 0)), (24, s0 1 c.length), (25, ii x25_1), (26, ii x26_1), (38, ii (List.getD c (Int.toNat x26_1) 0)), (41, ii (w64 ((List.getD lh2_1 (Int.toNat (List.getD c (Int.toNat x26_1) 0)) 0) + 1)))] rfl (by kernel_rfl) ?_
                refine XR.rd E0_ok [0, 1, 8, 10, 24, 25, 26, 41, 42] rfl (v := pp 2 ((Int.toNat (List.getD c (Int.toNat x26_1) 0)) * 1)) (v_idxA (s := 1) (len := 24) (x := (src 49 (.tmp 8))) (y := (src 49 (.tmp 38))) (b := 2) (o := 0) (ik := .i64) (i := List.getD c (Int.toNat x26_1) 0) (off := (Int.toNat (List.getD c (Int.toNat x26_1) 0)) * 1) (d := (some (path 12 42))) (by kernel_rfl) (by kernel_rfl) (by kernel_rfl) b5 (by omega)) (σ' := [(0, s0 0 a.length), (1, ii b), (8, pp 2 0), (10, ii (List.getD c (Int.toNat x26_1) 0)), (24, s0 1 c.length), (25, ii x25_1), (26, ii x26_1), (41, ii (w64 ((List.getD lh2_1 (Int.toNat (List.getD c (Int.toNat x26_1) 0)) 0) + 1))), (42, pp 2 ((Int.toNat (List.getD c (Int.toNat x26_1) 0)) * 1))]) (by kernel_rfl) ?_
                refine XR.ef E0_ok [0, 1, 8, 10, 24, 25, 26] rfl (e_store (encI_ok .i64) (size := 1) (x := (src 49 (.tmp 42))) (y := (src 49 (.tmp 41))) (b := 2) (off := (Int.toNat (List.getD c (Int.toNat x26_1) 0)) * 1) (xs := lh2_1) (e := 88) (es := 0) (d := none) (h' := [(3, .cells [ii ((List.getD a (Int.toNat x26_1) (0, 0)).1), ii ((List.getD a (Int.toNat x26_1) (0, 0)).2)] 0 61 0), (2, rc (encI .i64) (List.set lh2_1 (Int.toNat (List.getD c (Int.toNat x26_1) 0)) (w64 ((List.getD lh2_1 (Int.toNat (List.getD c (Int.toNat x26_1) 0)) 0) + 1))) 0 88 0), (1, rc (encI .i64) c z1 y1 1), (0, rc encP a z0 y0 2)]) (w := ii (w64 ((List.getD lh2_1 (Int.toNat (List.getD c (Int.toNat x26_1) 0)) 0) + 1))) (ws := [ii (w64 ((List.getD lh2_1 (Int.toNat (List.getD c (Int.toNat x26_1) 0)) 0) + 1))]) (a := w64 ((List.getD lh2_1 (Int.toNat (List.getD c (Int.toNat x26_1) 0)) 0) + 1)) (by kernel_rfl) (by kernel_rfl) (by kernel_rfl) (Int.toNat (List.getD c (Int.toNat x26_1) 0)) 0 0 (by first | rfl | omega) (row_len b6 (by simp)) (by kernel_rfl) rfl rfl rfl rfl rfl (by kernel_rfl)) (σ' := [(0, s0 0 a.length), (1, ii b), (8, pp 2 0), (10, ii (List.getD c (Int.toNat x26_1) 0)), (24, s0 1 c.length), (25, ii x25_1), (26, ii x26_1)]) (by kernel_rfl) ?_
                refine XR.done (by kernel_rfl) ?_
                show XQ _ _ _ _ _ _ _ _
                refine XQ.seq E0_ok (by kernel_rfl) ?_
                refine XQ.region (by kernel_rfl) ?_
                refine XR.runS E0_ok 1 1 [(0, s0 0 a.length), (1, ii b), (8, pp 2 0), (24, s0 1 c.length), (25, ii x25_1), (26, ii x26_1), (43, ii (List.getD c (Int.toNat x26_1) 0))] rfl (by kernel_rfl) ?_
                refine XR.rd E0_ok [0, 1, 8, 24, 25, 26, 44] rfl (v := pp 2 ((Int.toNat (List.getD c (Int.toNat x26_1) 0)) * 1)) (v_idxA (s := 1) (len := 24) (x := (src 49 (.tmp 8))) (y := (src 49 (.tmp 43))) (b := 2) (o := 0) (ik := .i64) (i := List.getD c (Int.toNat x26_1) 0) (off := (Int.toNat (List.getD c (Int.toNat x26_1) 0)) * 1) (d := (some (path 12 44))) (by kernel_rfl) (by kernel_rfl) (by kernel_rfl) b5 (by omega)) (σ' := [(0, s0 0 a.length), (1, ii b), (8, pp 2 0), (24, s0 1 c.length), (25, ii x25_1), (26, ii x26_1), (44, pp 2 ((Int.toNat (List.getD c (Int.toNat x26_1) 0)) * 1))]) (by kernel_rfl) ?_
                refine XR.rd E0_ok [0, 1, 8, 24, 25, 26, 45] rfl (v := ii (List.getD (List.set lh2_1 (Int.toNat (List.getD c (Int.toNat x26_1) 0)) (w64 ((List.getD lh2_1 (Int.toNat (List.getD c (Int.toNat x26_1) 0)) 0) + 1))) (Int.toNat (List.getD c (Int.toNat x26_1) 0)) 0)) (v_load1 (encI_ok .i64) (x := (src 49 (.tmp 44))) (b := 2) (off := (Int.toNat (List.getD c (Int.toNat x26_1) 0)) * 1) (xs := List.set lh2_1 (Int.toNat (List.getD c (Int.toNat x26_1) 0)) (w64 ((List.getD lh2_1 (Int.toNat (List.getD c (Int.toNat x26_1) 0)) 0) + 1))) (fz := 0) (e := 88) (es := 0) (d := (some (path 12 45))) (by kernel_rfl) (by kernel_rfl) (by kernel_rfl) (Int.toNat (List.getD c (Int.toNat x26_1) 0)) 0 0 (by first | rfl | omega) (row_len b6 (by simp)) rfl rfl) (σ' := [(0, s0 0 a.length), (1, ii b), (8, pp 2 0), (24, s0 1 c.length), (25, ii x25_1), (26, ii x26_1), (45, ii (List.getD (List.set lh2_1 (Int.toNat (List.getD c (Int.toNat x26_1) 0)) (w64 ((List.getD lh2_1 (Int.toNat (List.getD c (Int.toNat x26_1) 0)) 0) + 1))) (Int.toNat (List.getD c (Int.toNat x26_1) 0)) 0))]) (by kernel_rfl) ?_
                refine XR.runS E0_ok 1 2 [(0, s0 0 a.length), (1, ii b), (8, pp 2 0), (24, s0 1 c.length), (25, ii x25_1), (26, ii x26_1), (47, .bool (decide ((List.getD (List.set lh2_1 (Int.toNat (List.getD c (Int.toNat x26_1) 0)) (w64 ((List.getD lh2_1 (Int.toNat (List.getD c (Int.toNat x26_1) 0)) 0) + 1))) (Int.toNat (List.getD c (Int.toNat x26_1) 0)) 0) > b)))] rfl (by kernel_rfl) ?_
                refine XR.done (by kernel_rfl) ?_
                show XQ _ _ _ _ _ _ _ _
                cases b7 : (decide ((List.getD (List.set lh2_1 (Int.toNat (List.getD c (Int.toNat x26_1) 0)) (w64 ((List.getD lh2_1 (Int.toNat (List.getD c (Int.toNat x26_1) 0)) 0) + 1))) (Int.toNat (List.getD c (Int.toNat x26_1) 0)) 0) > b) : Bool) with
                | true =>
                  have h := cT b7 h
                  refine XQ.cond (s := (.tmp 47)) (b := true) (by kernel_rfl) (by kernel_rfl) (fun _ => ?_) (fun q => by cases q)
                  refine XQ.seq E0_ok (by kernel_rfl) ?_
                  refine XQ.region (by kernel_rfl) ?_
                  refine XR.runS E0_ok 1 1 [(6, ii 15)] rfl (by kernel_rfl) ?_
                  refine XR.done (by kernel_rfl) ?_
                  show XQ _ _ _ _ _ _ _ _
                  refine XQ.ren (σ' := [(6, ii 15)]) (h' := [(1, rc (encI .i64) c z1 y1 1), (0, rc encP a z0 y0 2)]) (c' := 2) [0, 1] (by decide) rfl ⟨by kernel_rfl, trivial⟩ ⟨⟨_, _, rfl, rfl, .inl ⟨rfl, rowC_scal (encI_ok .i64) _⟩⟩, ⟨_, _, rfl, rfl, .inl ⟨rfl, rowC_scal encP_ok _⟩⟩, trivial⟩ rfl ?_
                  refine XQ.ret (by kernel_rfl) ?_
                  cases h
                  exact hQ
                | false =>
                  have h := cF b7 h
                  refine XQ.cond (s := (.tmp 47)) (b := false) (by kernel_rfl) (by kernel_rfl) (fun q => by cases q) (fun _ => ?_)
                  refine XQ.skip (by kernel_rfl) ?_
                  show XQ _ _ _ _ _ _ _ _
                  refine XQ.region (by kernel_rfl) ?_
                  refine XR.runS E0_ok 1 2 [(0, s0 0 a.length), (1, ii b), (8, pp 2 0), (24, s0 1 c.length), (25, ii x25_1), (26, ii (w64 (x26_1 + 1)))] rfl (by kernel_rfl) ?_
                  refine XR.done (by kernel_rfl) ?_
                  show XL _ _ _ _ _ _ _ _ _
                  refine XL.ren (σ' := [(0, s0 0 a.length), (1, ii b), (8, pp 2 0), (24, s0 1 c.length), (25, ii x25_1), (26, ii (w64 (x26_1 + 1)))]) (h' := [(2, rc (encI .i64) (List.set lh2_1 (Int.toNat (List.getD c (Int.toNat x26_1) 0)) (w64 ((List.getD lh2_1 (Int.toNat (List.getD c (Int.toNat x26_1) 0)) 0) + 1))) 0 88 0), (1, rc (encI .i64) c z1 y1 1), (0, rc encP a z0 y0 2)]) (c' := 3) [0, 1, 2] (by decide) rfl ⟨by kernel_rfl, by kernel_rfl, by kernel_rfl, by kernel_rfl, by kernel_rfl, by kernel_rfl, trivial⟩ ⟨⟨_, _, rfl, rfl, .inl ⟨rfl, rowC_scal (encI_ok .i64) _⟩⟩, ⟨_, _, rfl, rfl, .inl ⟨rfl, rowC_scal (encI_ok .i64) _⟩⟩, ⟨_, _, rfl, rfl, .inl ⟨rfl, rowC_scal encP_ok _⟩⟩, trivial⟩ rfl ?_
                  refine XL.conv (f21_1_ok m fuel z0 y0 a b z1 y1 c x25_1 (w64 (x26_1 + 1)) (List.set lh2_1 (Int.toNat (List.getD c (Int.toNat x26_1) 0)) (w64 ((List.getD lh2_1 (Int.toNat (List.getD c (Int.toNat x26_1) 0)) 0) + 1))) o h Q hQ) (by first | rfl | simp)
    | false =>
      have h := cF b1 h
      refine XQ.cond (s := (.tmp 27)) (b := false) (by kernel_rfl) (by kernel_rfl) (fun q => by cases q) (fun _ => ?_)
      refine XQ.ren (σ' := []) (h' := [(1, rc (encI .i64) c z1 y1 1), (0, rc encP a z0 y0 2)]) (c' := 2) [0, 1] (by decide) rfl trivial ⟨⟨_, _, rfl, rfl, .inl ⟨rfl, rowC_scal (encI_ok .i64) _⟩⟩, ⟨_, _, rfl, rfl, .inl ⟨rfl, rowC_scal encP_ok _⟩⟩, trivial⟩ rfl ?_
      refine XQ.exit (i := 1) (by kernel_rfl) ?_
      cases h
      exact hQ

def f21 (m : Nat) (a : List (Int × Int)) (b : Int) (c : List Int) : Option (Int) :=
  (f57 m a b).bind fun r1 =>
    cond (r1 != 0) (
      some (r1)
    ) (
      cond (((c.length : Nat) : Int) != ((a.length : Nat) : Int)) (
        some (5)
      ) (
        (f21_1 m m a b c ((c.length : Nat) : Int) 0 [0, 0, 0, 0, 0, 0, 0, 0, 0, 0, 0, 0, 0, 0, 0, 0, 0, 0, 0, 0, 0, 0, 0, 0]).bind fun o1 =>
          match o1 with
          | .r x6_r1 =>
            some (x6_r1)
          | .x1 =>
            some (0)
      )
    )

theorem f21_ok (m : Nat) (z0 : Nat) (y0 : Nat) (z1 : Nat) (y1 : Nat) (a : List (Int × Int)) (b : Int) (c : List Int) (o : Int) (h : f21 m a b c = some o) : KC E0 21 [s0 0 a.length, ii b, s0 1 c.length] [(1, rc (encI .i64) c z1 y1 1), (0, rc encP a z0 y0 2)] 2 (fun v _ _ => v = ii o) := by
  refine KC.bodyN E0_ok (F := Proofs.Try.f21) (by kernel_rfl) (code := f21_C21) (by kernel_rfl) (nt := 49) (by kernel_rfl) (rs := [.tmp 6]) (by kernel_rfl) (by kernel_rfl) (σ := [(0, s0 0 a.length), (1, ii b), (2, s0 1 c.length)]) (by kernel_rfl) ?_
  unfold f21 at h
  refine XQ.seq E0_ok (by kernel_rfl) ?_
  refine XQ.region (by kernel_rfl) ?_
  refine XR.runS E0_ok 1 1 [(0, s0 0 a.length), (1, ii b), (2, s0 1 c.length)] rfl (by kernel_rfl) ?_
  refine XR.done (by kernel_rfl) ?_
  show XQ _ _ _ _ _ _ _ _
  refine XQ.seq E0_ok (by kernel_rfl) ?_
  refine XQ.region (by kernel_rfl) ?_
  refine XR.runS E0_ok 1 2 [(0, s0 0 a.length), (1, ii b), (2, s0 1 c.length), (11, s0 0 a.length), (12, ii b)] rfl (by kernel_rfl) ?_
  obtain ⟨r1, r1_h, h⟩ := bS h
  refine XR.call E0_ok [0, 1, 2, 13] rfl (K := 57) (args := [s0 0 a.length, ii b]) (d := (some (path 12 13))) (by kernel_rfl) (KQ.call (KC.quiet E0_ok (args0 := [s0 0 a.length, ii b]) (h0 := [(0, rc encP a (z0 + ((rowC encP a).length + 1)) y0 2)]) (n := 1) (V := ii r1) [0] (f57_ok m (z0 + ((rowC encP a).length + 1)) y0 a b r1 r1_h) rfl (by rfl) (by decide) rfl (by kernel_rfl) ⟨⟨_, _, rfl, rfl, .inl ⟨rfl, rowC_scal encP_ok _⟩⟩, trivial⟩) rfl) ?_
  rintro _ _ _ ⟨rfl, rfl, rfl⟩
  refine XR.conv (σ' := [(0, s0 0 a.length), (1, ii b), (2, s0 1 c.length), (13, ii r1)]) (h' := [(1, rc (encI .i64) c z1 y1 1), (0, rc encP a z0 y0 2)]) (c' := 2) ?_ (by kernel_rfl)
  refine XR.runS E0_ok 1 1 [(0, s0 0 a.length), (1, ii b), (2, s0 1 c.length), (7, ii r1)] rfl (by kernel_rfl) ?_
  refine XR.done (by kernel_rfl) ?_
  show XQ _ _ _ _ _ _ _ _
  refine XQ.seq E0_ok (by kernel_rfl) ?_
  refine XQ.block (id := 0) (by kernel_rfl) ?_
  refine XQ.seq E0_ok (by kernel_rfl) ?_
  refine XQ.region (by kernel_rfl) ?_
  refine XR.runS E0_ok 1 3 [(0, s0 0 a.length), (1, ii b), (2, s0 1 c.length), (7, ii r1), (14, .bool (r1 != 0))] rfl (by kernel_rfl) ?_
  refine XR.done (by kernel_rfl) ?_
  show XQ _ _ _ _ _ _ _ _
  cases b1 : (r1 != 0 : Bool) with
  | true =>
    have h := cT b1 h
    refine XQ.cond (s := (.tmp 14)) (b := true) (by kernel_rfl) (by kernel_rfl) (fun _ => ?_) (fun q => by cases q)
    refine XQ.seq E0_ok (by kernel_rfl) ?_
    refine XQ.region (by kernel_rfl) ?_
    refine XR.runS E0_ok 1 2 [(6, ii r1)] rfl (by kernel_rfl) ?_
    refine XR.done (by kernel_rfl) ?_
    show XQ _ _ _ _ _ _ _ _
    refine XQ.ret (by kernel_rfl) ?_
    have h := Option.some.inj h
    subst h
    exact ⟨fun i q => (by cases q), ii r1, (by kernel_rfl), rfl⟩
  | false =>
    have h := cF b1 h
    refine XQ.cond (s := (.tmp 14)) (b := false) (by kernel_rfl) (by kernel_rfl) (fun q => by cases q) (fun _ => ?_)
    refine XQ.seq E0_ok (by kernel_rfl) ?_
    refine XQ.region (by kernel_rfl) ?_
    refine XR.runS E0_ok 1 6 [(0, s0 0 a.length), (1, ii b), (2, s0 1 c.length), (18, .bool (((c.length : Nat) : Int) != ((a.length : Nat) : Int)))] rfl (by kernel_rfl) ?_
    refine XR.done (by kernel_rfl) ?_
    show XQ _ _ _ _ _ _ _ _
    cases b2 : (((c.length : Nat) : Int) != ((a.length : Nat) : Int) : Bool) with
    | true =>
      have h := cT b2 h
      refine XQ.cond (s := (.tmp 18)) (b := true) (by kernel_rfl) (by kernel_rfl) (fun _ => ?_) (fun q => by cases q)
      refine XQ.seq E0_ok (by kernel_rfl) ?_
      refine XQ.region (by kernel_rfl) ?_
      refine XR.runS E0_ok 1 1 [(6, ii 5)] rfl (by kernel_rfl) ?_
      refine XR.done (by kernel_rfl) ?_
      show XQ _ _ _ _ _ _ _ _
      refine XQ.ret (by kernel_rfl) ?_
      have h := Option.some.inj h
      subst h
      exact ⟨fun i q => (by cases q), ii 5, (by kernel_rfl), rfl⟩
    | false =>
      have h := cF b2 h
      refine XQ.cond (s := (.tmp 18)) (b := false) (by kernel_rfl) (by kernel_rfl) (fun q => by cases q) (fun _ => ?_)
      refine XQ.skip (by kernel_rfl) ?_
      show XQ _ _ _ _ _ _ _ _
      refine XQ.seq E0_ok (by kernel_rfl) ?_
      refine XQ.region (by kernel_rfl) ?_
      refine XR.runT E0_ok 1 1 [(0, s0 0 a.length), (1, ii b), (2, s0 1 c.length), (8, pp 2 0)] [(2, .cells [ii 0, ii 0, ii 0, ii 0, ii 0, ii 0, ii 0, ii 0, ii 0, ii 0, ii 0, ii 0, ii 0, ii 0, ii 0, ii 0, ii 0, ii 0, ii 0, ii 0, ii 0, ii 0, ii 0, ii 0] 0 88 0), (1, rc (encI .i64) c z1 y1 1), (0, rc encP a z0 y0 2)] 3 rfl (by kernel_rfl) ?_
      refine XR.done (by kernel_rfl) ?_
      show XQ _ _ _ _ _ _ _ _
      refine XQ.seq E0_ok (by kernel_rfl) ?_
      refine XQ.seq E0_ok (by kernel_rfl) ?_
      refine XQ.region (by kernel_rfl) ?_
      refine XR.runS E0_ok 1 3 [(0, s0 0 a.length), (1, ii b), (8, pp 2 0), (24, s0 1 c.length), (25, ii ((c.length : Nat) : Int)), (26, ii 0)] rfl (by kernel_rfl) ?_
      refine XR.done (by kernel_rfl) ?_
      show XQ _ _ _ _ _ _ _ _
      refine XQ.block (id := 1) (by kernel_rfl) ?_
      refine XQ.loop m (by kernel_rfl) ?_
      obtain ⟨o1, o1_h, h⟩ := bS h
      refine XL.ren (σ' := [(0, s0 0 a.length), (1, ii b), (8, pp 2 0), (24, s0 1 c.length), (25, ii ((c.length : Nat) : Int)), (26, ii 0)]) (h' := [(2, .cells [ii 0, ii 0, ii 0, ii 0, ii 0, ii 0, ii 0, ii 0, ii 0, ii 0, ii 0, ii 0, ii 0, ii 0, ii 0, ii 0, ii 0, ii 0, ii 0, ii 0, ii 0, ii 0, ii 0, ii 0] 0 88 0), (1, rc (encI .i64) c z1 y1 1), (0, rc encP a z0 y0 2)]) (c' := 3) [0, 1, 2] (by decide) rfl ⟨by kernel_rfl, by kernel_rfl, by kernel_rfl, by kernel_rfl, by kernel_rfl, by kernel_rfl, trivial⟩ ⟨⟨_, _, rfl, rfl, .inr ⟨_, _, _, _, rfl, rfl⟩⟩, ⟨_, _, rfl, rfl, .inl ⟨rfl, rowC_scal (encI_ok .i64) _⟩⟩, ⟨_, _, rfl, rfl, .inl ⟨rfl, rowC_scal encP_ok _⟩⟩, trivial⟩ rfl ?_
      refine XL.conv (σ' := [(0, s0 0 a.length), (1, ii b), (8, pp 2 0), (24, s0 1 c.length), (25, ii ((c.length : Nat) : Int)), (26, ii 0)]) (h' := [(2, rc (encI .i64) [0, 0, 0, 0, 0, 0, 0, 0, 0, 0, 0, 0, 0, 0, 0, 0, 0, 0, 0, 0, 0, 0, 0, 0] 0 88 0), (1, rc (encI .i64) c z1 y1 1), (0, rc encP a z0 y0 2)]) (c' := 3) ?_ (by kernel_rfl)
      cases o1 with
      | r x6_r1 =>
        dsimp only at h
        refine XL.conv (f21_1_ok m m z0 y0 a b z1 y1 c ((c.length : Nat) : Int) 0 [0, 0, 0, 0, 0, 0, 0, 0, 0, 0, 0, 0, 0, 0, 0, 0, 0, 0, 0, 0, 0, 0, 0, 0] (.r x6_r1) o1_h _ ?_) (by first | rfl | simp)
        have h := Option.some.inj h
        subst h
        exact ⟨fun i q => (by cases q), ii x6_r1, (by kernel_rfl), rfl⟩
      | x1 =>
        dsimp only at h
        refine XL.conv (f21_1_ok m m z0 y0 a b z1 y1 c ((c.length : Nat) : Int) 0 [0, 0, 0, 0, 0, 0, 0, 0, 0, 0, 0, 0, 0, 0, 0, 0, 0, 0, 0, 0, 0, 0, 0, 0] (.x1) o1_h _ ?_) (by first | rfl | simp)
        show XQ _ _ _ _ _ _ _ _
        refine XQ.seq E0_ok (by kernel_rfl) ?_
        refine XQ.region (by kernel_rfl) ?_
        refine XR.runS E0_ok 1 1 [(6, ii 0)] rfl (by kernel_rfl) ?_
        refine XR.done (by kernel_rfl) ?_
        show XQ _ _ _ _ _ _ _ _
        refine XQ.ret (by kernel_rfl) ?_
        have h := Option.some.inj h
        subst h
        exact ⟨fun i q => (by cases q), ii 0, (by kernel_rfl), rfl⟩

/-! vitola/vitolalaw02.same -/
noncomputable def f20_C20 : Code := Proofs.Try.f20.body.getD .skip
noncomputable def f20_L1 : Code := lft (lft (rgt (lft (rgt (rgt f20_C20)))))

inductive Of20_1 where
  | r
  | x0

def f20_1 (m : Nat) : Nat → List Int → List Int → Int → Option Of20_1
  | 0, _, _, _ => none
  | fuel + 1, a, b, x5_1 =>
    cond (decide (x5_1 < ((a.length : Nat) : Int))) (
      cond (inRow x5_1 a.length) (
        cond (inRow x5_1 b.length) (
          cond ((List.getD a (Int.toNat x5_1) 0) != (List.getD b (Int.toNat x5_1) 0)) (
            some (.r)
          ) (
            f20_1 m fuel a b (w64 (x5_1 + 1))
          )
        ) none
      ) none
    ) (
      some (.x0)
    )

theorem f20_1_ok (m : Nat) : ∀ (fuel : Nat) (z0 : Nat) (y0 : Nat) (a : List Int) (z1 : Nat) (y1 : Nat) (b : List Int) (x5_1 : Int) (o : Of20_1), f20_1 m fuel a b x5_1 = some o → ∀ Q : QP, (match o with | .r => Q .ret [(4, .bool false)] [(1, rc (encI .i64) b z1 y1 1), (0, rc (encI .i64) a z0 y0 1)] 2 | .x0 => Q (.exit 0) [] [(1, rc (encI .i64) b z1 y1 1), (0, rc (encI .i64) a z0 y0 1)] 2) → XL E0 26 2 fuel f20_L1 [(0, s0 0 a.length), (1, s0 1 b.length), (5, ii x5_1)] [(1, rc (encI .i64) b z1 y1 1), (0, rc (encI .i64) a z0 y0 1)] 2 Q
  | 0, z0, y0, a, z1, y1, b, x5_1, o, h, Q, hQ => by cases h
  | fuel + 1, z0, y0, a, z1, y1, b, x5_1, o, h, Q, hQ => by
    unfold f20_1 at h
    refine XL.succ E0_ok ?_
    refine XQ.seq E0_ok (by kernel_rfl) ?_
    refine XQ.seq E0_ok (by kernel_rfl) ?_
    refine XQ.region (by kernel_rfl) ?_
    refine XR.runS E0_ok 1 4 [(0, s0 0 a.length), (1, s0 1 b.length), (5, ii x5_1), (14, .bool (decide (x5_1 < ((a.length : Nat) : Int))))] rfl (by kernel_rfl) ?_
    refine XR.done (by kernel_rfl) ?_
    show XQ _ _ _ _ _ _ _ _
    cases b1 : (decide (x5_1 < ((a.length : Nat) : Int)) : Bool) with
    | true =>
      have h := cT b1 h
      refine XQ.cond (s := (.tmp 14)) (b := true) (by kernel_rfl) (by kernel_rfl) (fun _ => ?_) (fun q => by cases q)
      refine XQ.skip (by kernel_rfl) ?_
      show XQ _ _ _ _ _ _ _ _
      refine XQ.seq E0_ok (by kernel_rfl) ?_
      refine XQ.block (id := 1) (by kernel_rfl) ?_
      refine XQ.seq E0_ok (by kernel_rfl) ?_
      refine XQ.quiet E0_ok (by kernel_rfl) (by kernel_rfl) ?_
      refine XU.run E0_ok 1 2 [0, 1, 5, 17, 18] rfl (σ' := [(0, s0 0 a.length), (1, s0 1 b.length), (5, ii x5_1), (17, s0 0 a.length), (18, ii x5_1)]) (by kernel_rfl) ?_
      cases b2 : (inRow x5_1 a.length : Bool) with
      | false => cases (cF b2 h)
      | true =>
        have h := cT b2 h
        refine XU.rd E0_ok [0, 1, 5, 19] rfl (v := pp 0 ((Int.toNat x5_1) * 1)) (v_idx (s := 1) (x := (src 26 (.tmp 17))) (y := (src 26 (.tmp 18))) (b := 0) (o := 0) (len := a.length) (cap := a.length) (ik := .i64) (i := x5_1) (off := (Int.toNat x5_1) * 1) (d := (some (path 12 19))) (by kernel_rfl) (by kernel_rfl) (by kernel_rfl) b2 (by omega)) (σ' := [(0, s0 0 a.length), (1, s0 1 b.length), (5, ii x5_1), (19, pp 0 ((Int.toNat x5_1) * 1))]) (by kernel_rfl) ?_
        refine XU.rd E0_ok [0, 1, 5, 20] rfl (v := ii (List.getD a (Int.toNat x5_1) 0)) (v_load1 (encI_ok .i64) (x := (src 26 (.tmp 19))) (b := 0) (off := (Int.toNat x5_1) * 1) (xs := a) (fz := z0) (e := y0) (es := 1) (d := (some (path 12 20))) (by kernel_rfl) (by kernel_rfl) (by kernel_rfl) (Int.toNat x5_1) 0 0 (by first | rfl | omega) (row_len (inRow_toNat b2) (by simp)) rfl rfl) (σ' := [(0, s0 0 a.length), (1, s0 1 b.length), (5, ii x5_1), (20, ii (List.getD a (Int.toNat x5_1) 0))]) (by kernel_rfl) ?_
        refine XU.run E0_ok 1 2 [0, 1, 5, 20, 21, 22] rfl (σ' := [(0, s0 0 a.length), (1, s0 1 b.length), (5, ii x5_1), (20, ii (List.getD a (Int.toNat x5_1) 0)), (21, s0 1 b.length), (22, ii x5_1)]) (by kernel_rfl) ?_
        cases b3 : (inRow x5_1 b.length : Bool) with
        | false => cases (cF b3 h)
        | true =>
          have h := cT b3 h
          refine XU.rd E0_ok [0, 1, 5, 20, 23] rfl (v := pp 1 ((Int.toNat x5_1) * 1)) (v_idx (s := 1) (x := (src 26 (.tmp 21))) (y := (src 26 (.tmp 22))) (b := 1) (o := 0) (len := b.length) (cap := b.length) (ik := .i64) (i := x5_1) (off := (Int.toNat x5_1) * 1) (d := (some (path 12 23))) (by kernel_rfl) (by kernel_rfl) (by kernel_rfl) b3 (by omega)) (σ' := [(0, s0 0 a.length), (1, s0 1 b.length), (5, ii x5_1), (20, ii (List.getD a (Int.toNat x5_1) 0)), (23, pp 1 ((Int.toNat x5_1) * 1))]) (by kernel_rfl) ?_
          refine XU.rd E0_ok [0, 1, 5, 20, 24] rfl (v := ii (List.getD b (Int.toNat x5_1) 0)) (v_load1 (encI_ok .i64) (x := (src 26 (.tmp 23))) (b := 1) (off := (Int.toNat x5_1) * 1) (xs := b) (fz := z1) (e := y1) (es := 1) (d := (some (path 12 24))) (by kernel_rfl) (by kernel_rfl) (by kernel_rfl) (Int.toNat x5_1) 0 0 (by first | rfl | omega) (row_len (inRow_toNat b3) (by simp)) rfl rfl) (σ' := [(0, s0 0 a.length), (1, s0 1 b.length), (5, ii x5_1), (20, ii (List.getD a (Int.toNat x5_1) 0)), (24, ii (List.getD b (Int.toNat x5_1) 0))]) (by kernel_rfl) ?_
          refine XU.run E0_ok 1 1 [0, 1, 5, 25] rfl (σ' := [(0, s0 0 a.length), (1, s0 1 b.length), (5, ii x5_1), (25, .bool ((List.getD a (Int.toNat x5_1) 0) != (List.getD b (Int.toNat x5_1) 0)))]) (by kernel_rfl) ?_
          refine XU.done (by kernel_rfl) ?_
          show XQ _ _ _ _ _ _ _ _
          cases b4 : ((List.getD a (Int.toNat x5_1) 0) != (List.getD b (Int.toNat x5_1) 0) : Bool) with
          | true =>
            have h := cT b4 h
            refine XQ.cond (s := (.tmp 25)) (b := true) (by kernel_rfl) (by kernel_rfl) (fun _ => ?_) (fun q => by cases q)
            refine XQ.seq E0_ok (by kernel_rfl) ?_
            refine XQ.region (by kernel_rfl) ?_
            refine XR.runS E0_ok 1 1 [(4, .bool false)] rfl (by kernel_rfl) ?_
            refine XR.done (by kernel_rfl) ?_
            show XQ _ _ _ _ _ _ _ _
            refine XQ.ren (σ' := [(4, .bool false)]) (h' := [(1, rc (encI .i64) b z1 y1 1), (0, rc (encI .i64) a z0 y0 1)]) (c' := 2) [0, 1] (by decide) rfl ⟨by kernel_rfl, trivial⟩ ⟨⟨_, _, rfl, rfl, .inl ⟨rfl, rowC_scal (encI_ok .i64) _⟩⟩, ⟨_, _, rfl, rfl, .inl ⟨rfl, rowC_scal (encI_ok .i64) _⟩⟩, trivial⟩ rfl ?_
            refine XQ.ret (by kernel_rfl) ?_
            cases h
            exact hQ
          | false =>
            have h := cF b4 h
            refine XQ.cond (s := (.tmp 25)) (b := false) (by kernel_rfl) (by kernel_rfl) (fun q => by cases q) (fun _ => ?_)
            refine XQ.skip (by kernel_rfl) ?_
            show XQ _ _ _ _ _ _ _ _
            refine XQ.region (by kernel_rfl) ?_
            refine XR.runS E0_ok 1 3 [(0, s0 0 a.length), (1, s0 1 b.length), (5, ii (w64 (x5_1 + 1)))] rfl (by kernel_rfl) ?_
            refine XR.done (by kernel_rfl) ?_
            show XL _ _ _ _ _ _ _ _ _
            refine XL.ren (σ' := [(0, s0 0 a.length), (1, s0 1 b.length), (5, ii (w64 (x5_1 + 1)))]) (h' := [(1, rc (encI .i64) b z1 y1 1), (0, rc (encI .i64) a z0 y0 1)]) (c' := 2) [0, 1] (by decide) rfl ⟨by kernel_rfl, by kernel_rfl, by kernel_rfl, trivial⟩ ⟨⟨_, _, rfl, rfl, .inl ⟨rfl, rowC_scal (encI_ok .i64) _⟩⟩, ⟨_, _, rfl, rfl, .inl ⟨rfl, rowC_scal (encI_ok .i64) _⟩⟩, trivial⟩ rfl ?_
            refine XL.conv (f20_1_ok m fuel z0 y0 a z1 y1 b (w64 (x5_1 + 1)) o h Q hQ) (by first | rfl | simp)
    | false =>
      have h := cF b1 h
      refine XQ.cond (s := (.tmp 14)) (b := false) (by kernel_rfl) (by kernel_rfl) (fun q => by cases q) (fun _ => ?_)
      refine XQ.ren (σ' := []) (h' := [(1, rc (encI .i64) b z1 y1 1), (0, rc (encI .i64) a z0 y0 1)]) (c' := 2) [0, 1] (by decide) rfl trivial ⟨⟨_, _, rfl, rfl, .inl ⟨rfl, rowC_scal (encI_ok .i64) _⟩⟩, ⟨_, _, rfl, rfl, .inl ⟨rfl, rowC_scal (encI_ok .i64) _⟩⟩, trivial⟩ rfl ?_
      refine XQ.exit (i := 0) (by kernel_rfl) ?_
      cases h
      exact hQ

def f20 (m : Nat) (a : List Int) (b : List Int) : Option (Bool) :=
  cond (((a.length : Nat) : Int) != ((b.length : Nat) : Int)) (
    some (false)
  ) (
    (f20_1 m m a b 0).bind fun o1 =>
      match o1 with
      | .r =>
        some (false)
      | .x0 =>
        some (true)
  )

theorem f20_ok (m : Nat) (z0 : Nat) (y0 : Nat) (z1 : Nat) (y1 : Nat) (a : List Int) (b : List Int) (o : Bool) (h : f20 m a b = some o) : KC E0 20 [s0 0 a.length, s0 1 b.length] [(1, rc (encI .i64) b z1 y1 1), (0, rc (encI .i64) a z0 y0 1)] 2 (fun v _ _ => v = .bool o) := by
  refine KC.bodyN E0_ok (F := Proofs.Try.f20) (by kernel_rfl) (code := f20_C20) (by kernel_rfl) (nt := 26) (by kernel_rfl) (rs := [.tmp 4]) (by kernel_rfl) (by kernel_rfl) (σ := [(0, s0 0 a.length), (1, s0 1 b.length)]) (by kernel_rfl) ?_
  unfold f20 at h
  refine XQ.seq E0_ok (by kernel_rfl) ?_
  refine XQ.region (by kernel_rfl) ?_
  refine XR.runS E0_ok 1 1 [(0, s0 0 a.length), (1, s0 1 b.length)] rfl (by kernel_rfl) ?_
  refine XR.done (by kernel_rfl) ?_
  show XQ _ _ _ _ _ _ _ _
  refine XQ.seq E0_ok (by kernel_rfl) ?_
  refine XQ.seq E0_ok (by kernel_rfl) ?_
  refine XQ.region (by kernel_rfl) ?_
  refine XR.runS E0_ok 1 5 [(0, s0 0 a.length), (1, s0 1 b.length), (10, .bool (((a.length : Nat) : Int) != ((b.length : Nat) : Int)))] rfl (by kernel_rfl) ?_
  refine XR.done (by kernel_rfl) ?_
  show XQ _ _ _ _ _ _ _ _
  cases b1 : (((a.length : Nat) : Int) != ((b.length : Nat) : Int) : Bool) with
  | true =>
    have h := cT b1 h
    refine XQ.cond (s := (.tmp 10)) (b := true) (by kernel_rfl) (by kernel_rfl) (fun _ => ?_) (fun q => by cases q)
    refine XQ.seq E0_ok (by kernel_rfl) ?_
    refine XQ.region (by kernel_rfl) ?_
    refine XR.runS E0_ok 1 1 [(4, .bool false)] rfl (by kernel_rfl) ?_
    refine XR.done (by kernel_rfl) ?_
    show XQ _ _ _ _ _ _ _ _
    refine XQ.ret (by kernel_rfl) ?_
    have h := Option.some.inj h
    subst h
    exact ⟨fun i q => (by cases q), .bool false, (by kernel_rfl), rfl⟩
  | false =>
    have h := cF b1 h
    refine XQ.cond (s := (.tmp 10)) (b := false) (by kernel_rfl) (by kernel_rfl) (fun q => by cases q) (fun _ => ?_)
    refine XQ.skip (by kernel_rfl) ?_
    show XQ _ _ _ _ _ _ _ _
    refine XQ.seq E0_ok (by kernel_rfl) ?_
    refine XQ.seq E0_ok (by kernel_rfl) ?_
    refine XQ.region (by kernel_rfl) ?_
    refine XR.runS E0_ok 1 1 [(0, s0 0 a.length), (1, s0 1 b.length), (5, ii 0)] rfl (by kernel_rfl) ?_
    refine XR.done (by kernel_rfl) ?_
    show XQ _ _ _ _ _ _ _ _
    refine XQ.block (id := 0) (by kernel_rfl) ?_
    refine XQ.loop m (by kernel_rfl) ?_
    obtain ⟨o1, o1_h, h⟩ := bS h
    refine XL.ren (σ' := [(0, s0 0 a.length), (1, s0 1 b.length), (5, ii 0)]) (h' := [(1, rc (encI .i64) b z1 y1 1), (0, rc (encI .i64) a z0 y0 1)]) (c' := 2) [0, 1] (by decide) rfl ⟨by kernel_rfl, by kernel_rfl, by kernel_rfl, trivial⟩ ⟨⟨_, _, rfl, rfl, .inl ⟨rfl, rowC_scal (encI_ok .i64) _⟩⟩, ⟨_, _, rfl, rfl, .inl ⟨rfl, rowC_scal (encI_ok .i64) _⟩⟩, trivial⟩ rfl ?_
    cases o1 with
    | r =>
      dsimp only at h
      refine XL.conv (f20_1_ok m m z0 y0 a z1 y1 b 0 (.r) o1_h _ ?_) (by first | rfl | simp)
      have h := Option.some.inj h
      subst h
      exact ⟨fun i q => (by cases q), .bool false, (by kernel_rfl), rfl⟩
    | x0 =>
      dsimp only at h
      refine XL.conv (f20_1_ok m m z0 y0 a z1 y1 b 0 (.x0) o1_h _ ?_) (by first | rfl | simp)
      show XQ _ _ _ _ _ _ _ _
      refine XQ.seq E0_ok (by kernel_rfl) ?_
      refine XQ.region (by kernel_rfl) ?_
      refine XR.runS E0_ok 1 1 [(4, .bool true)] rfl (by kernel_rfl) ?_
      refine XR.done (by kernel_rfl) ?_
      show XQ _ _ _ _ _ _ _ _
      refine XQ.ret (by kernel_rfl) ?_
      have h := Option.some.inj h
      subst h
      exact ⟨fun i q => (by cases q), .bool true, (by kernel_rfl), rfl⟩

/-! vitola/vitolalaw02.large -/
noncomputable def f15_C15 : Code := Proofs.Try.f15.body.getD .skip

def f15 (m : Nat) (a : List (Int × Int)) (b : List Int) : Option (Bool) :=
  cond (decide (((a.length : Nat) : Int) > 60)) (
    some (true)
  ) (
    some (decide (((b.length : Nat) : Int) > 60))
  )

theorem f15_ok (m : Nat) (z0 : Nat) (y0 : Nat) (z1 : Nat) (y1 : Nat) (a : List (Int × Int)) (b : List Int) (o : Bool) (h : f15 m a b = some o) : KC E0 15 [s0 0 a.length, s0 1 b.length] [(1, rc (encI .i64) b z1 y1 1), (0, rc encP a z0 y0 2)] 2 (fun v _ _ => v = .bool o) := by
  refine KC.bodyN E0_ok (F := Proofs.Try.f15) (by kernel_rfl) (code := f15_C15) (by kernel_rfl) (nt := 13) (by kernel_rfl) (rs := [.tmp 4]) (by kernel_rfl) (by kernel_rfl) (σ := [(0, s0 0 a.length), (1, s0 1 b.length)]) (by kernel_rfl) ?_
  unfold f15 at h
  refine XQ.seq E0_ok (by kernel_rfl) ?_
  refine XQ.region (by kernel_rfl) ?_
  refine XR.runS E0_ok 1 1 [(0, s0 0 a.length), (1, s0 1 b.length)] rfl (by kernel_rfl) ?_
  refine XR.done (by kernel_rfl) ?_
  show XQ _ _ _ _ _ _ _ _
  refine XQ.seq E0_ok (by kernel_rfl) ?_
  refine XQ.region (by kernel_rfl) ?_
  refine XR.runS E0_ok 1 4 [(1, s0 1 b.length), (8, .bool (decide (((a.length : Nat) : Int) > 60)))] rfl (by kernel_rfl) ?_
  cases b1 : (decide (((a.length : Nat) : Int) > 60) : Bool) with
  | true =>
    have h := cT b1 h
    refine XR.runS E0_ok 1 5 [(4, .bool true)] rfl (by kernel_rfl) ?_
    refine XR.done (by kernel_rfl) ?_
    show XQ _ _ _ _ _ _ _ _
    refine XQ.ret (by kernel_rfl) ?_
    have h := Option.some.inj h
    subst h
    exact ⟨fun i q => (by cases q), .bool true, (by kernel_rfl), rfl⟩
  | false =>
    have h := cF b1 h
    refine XR.runS E0_ok 1 5 [(4, .bool (decide (((b.length : Nat) : Int) > 60)))] rfl (by kernel_rfl) ?_
    refine XR.done (by kernel_rfl) ?_
    show XQ _ _ _ _ _ _ _ _
    refine XQ.ret (by kernel_rfl) ?_
    have h := Option.some.inj h
    subst h
    exact ⟨fun i q => (by cases q), .bool (decide (((b.length : Nat) : Int) > 60)), (by kernel_rfl), rfl⟩

/-! vitola/vitolalaw02.given -/
noncomputable def f17_C17 : Code := Proofs.Try.f17.body.getD .skip
noncomputable def f17_L1 : Code := lft (lft (rgt (lft (rgt (rgt f17_C17)))))

def f17_1 (m : Nat) : Nat → List (Int × Int) → Int → List (Int × Int) → Option (List (Int × Int))
  | 0, _, _, _ => none
  | fuel + 1, a, x4_1, lh1_1 =>
    cond (decide (x4_1 < ((a.length : Nat) : Int))) (
      cond (inRow x4_1 a.length) (
        cond (fitsB (lh1_1.length + 1) 16) (
          f17_1 m fuel a (w64 (x4_1 + 1)) (lh1_1 ++ [((List.getD a (Int.toNat x4_1) (0, 0)).1, (List.getD a (Int.toNat x4_1) (0, 0)).2)])
        ) none
      ) none
    ) (
      some (lh1_1)
    )

theorem f17_1_ok (m : Nat) : ∀ (fuel : Nat) (z0 : Nat) (y0 : Nat) (a : List (Int × Int)) (x4_1 : Int) (lh1_1 : List (Int × Int)) (o : (List (Int × Int))), f17_1 m fuel a x4_1 lh1_1 = some o → ∀ Q : QP, Q (.exit 0) [(3, s0 1 o.length)] [(1, rc encP o 0 83 2), (0, rc encP a z0 y0 2)] 2 → XL E0 19 1 fuel f17_L1 [(0, s0 0 a.length), (3, s0 1 lh1_1.length), (4, ii x4_1)] [(1, rc encP lh1_1 0 83 2), (0, rc encP a z0 y0 2)] 2 Q
  | 0, z0, y0, a, x4_1, lh1_1, o, h, Q, hQ => by cases h
  | fuel + 1, z0, y0, a, x4_1, lh1_1, o, h, Q, hQ => by
    unfold f17_1 at h
    refine XL.succ E0_ok ?_
    refine XQ.seq E0_ok (by kernel_rfl) ?_
    refine XQ.seq E0_ok (by kernel_rfl) ?_
    refine XQ.region (by kernel_rfl) ?_
    refine XR.runS E0_ok 1 4 [(0, s0 0 a.length), (3, s0 1 lh1_1.length), (4, ii x4_1), (8, .bool (decide (x4_1 < ((a.length : Nat) : Int))))] rfl (by kernel_rfl) ?_
    refine XR.done (by kernel_rfl) ?_
    show XQ _ _ _ _ _ _ _ _
    cases b1 : (decide (x4_1 < ((a.length : Nat) : Int)) : Bool) with
    | true =>
      have h := cT b1 h
      refine XQ.cond (s := (.tmp 8)) (b := true) (by kernel_rfl) (by kernel_rfl) (fun _ => ?_) (fun q => by cases q)
      refine XQ.skip (by kernel_rfl) ?_
      show XQ _ _ _ _ _ _ _ _
      refine XQ.seq E0_ok (by kernel_rfl) ?_
      refine XQ.block (id := 1) (by kernel_rfl) ?_
      refine XQ.region (by kernel_rfl) ?_
      refine XR.runS E0_ok 1 3 [(0, s0 0 a.length), (4, ii x4_1), (11, s0 1 lh1_1.length), (12, s0 0 a.length), (13, ii x4_1)] rfl (by kernel_rfl) ?_
      cases b2 : (inRow x4_1 a.length : Bool) with
      | false => cases (cF b2 h)
      | true =>
        have h := cT b2 h
        refine XR.rd E0_ok [0, 4, 11, 14] rfl (v := pp 0 ((Int.toNat x4_1) * 2)) (v_idx (s := 2) (x := (src 19 (.tmp 12))) (y := (src 19 (.tmp 13))) (b := 0) (o := 0) (len := a.length) (cap := a.length) (ik := .i64) (i := x4_1) (off := (Int.toNat x4_1) * 2) (d := (some (path 12 14))) (by kernel_rfl) (by kernel_rfl) (by kernel_rfl) b2 (by omega)) (σ' := [(0, s0 0 a.length), (4, ii x4_1), (11, s0 1 lh1_1.length), (14, pp 0 ((Int.toNat x4_1) * 2))]) (by kernel_rfl) ?_
        refine XR.rd E0_ok [0, 4, 11, 15] rfl (v := .agg #[ii ((List.getD a (Int.toNat x4_1) (0, 0)).1), ii ((List.getD a (Int.toNat x4_1) (0, 0)).2)]) (v_loadN encP_ok (x := (src 19 (.tmp 14))) (b := 0) (off := (Int.toNat x4_1) * 2) (xs := a) (fz := z0) (e := y0) (es := 2) (d := (some (path 12 15))) (by kernel_rfl) (by kernel_rfl) (by kernel_rfl) (Int.toNat x4_1) (0, 0) (by first | rfl | omega) (row_len (inRow_toNat b2) (by simp)) rfl) (σ' := [(0, s0 0 a.length), (4, ii x4_1), (11, s0 1 lh1_1.length), (15, .agg #[ii ((List.getD a (Int.toNat x4_1) (0, 0)).1), ii ((List.getD a (Int.toNat x4_1) (0, 0)).2)])]) (by kernel_rfl) ?_
        refine XR.runT E0_ok 1 1 [(0, s0 0 a.length), (4, ii x4_1), (11, s0 1 lh1_1.length), (16, s0 2 1)] [(2, .cells [ii ((List.getD a (Int.toNat x4_1) (0, 0)).1), ii ((List.getD a (Int.toNat x4_1) (0, 0)).2)] 0 83 2), (1, rc encP lh1_1 0 83 2), (0, rc encP a z0 y0 2)] 3 rfl (by kernel_rfl) ?_
        cases b3 : (fitsB (lh1_1.length + 1) 16 : Bool) with
        | false => cases (cF b3 h)
        | true =>
          have h := cT b3 h
          refine XR.ef E0_ok [0, 4, 17] rfl (e_append encP_ok (bytes := 16) (e := 83) (x := (src 19 (.tmp 11))) (y := (src 19 (.tmp 16))) (b := 1) (len := lh1_1.length) (cap := lh1_1.length) (xs := lh1_1) (m := 0) (ys := [((List.getD a (Int.toNat x4_1) (0, 0)).1, (List.getD a (Int.toNat x4_1) (0, 0)).2)]) (d := (some (path 12 17))) (n' := (lh1_1 ++ [((List.getD a (Int.toNat x4_1) (0, 0)).1, (List.getD a (Int.toNat x4_1) (0, 0)).2)]).length) (h' := [(3, rc encP (lh1_1 ++ [((List.getD a (Int.toNat x4_1) (0, 0)).1, (List.getD a (Int.toNat x4_1) (0, 0)).2)]) 0 83 2), (2, .cells [ii ((List.getD a (Int.toNat x4_1) (0, 0)).1), ii ((List.getD a (Int.toNat x4_1) (0, 0)).2)] 0 83 2), (0, rc encP a z0 y0 2)]) (by kernel_rfl) (by kernel_rfl) (by kernel_rfl) (by kernel_rfl) rfl (by simp) (by simp) b3 (by simp) (by kernel_rfl)) (σ' := [(0, s0 0 a.length), (4, ii x4_1), (17, s0 3 ((lh1_1 ++ [((List.getD a (Int.toNat x4_1) (0, 0)).1, (List.getD a (Int.toNat x4_1) (0, 0)).2)]).length))]) (by kernel_rfl) ?_
          refine XR.runS E0_ok 1 1 [(0, s0 0 a.length), (3, s0 3 ((lh1_1 ++ [((List.getD a (Int.toNat x4_1) (0, 0)).1, (List.getD a (Int.toNat x4_1) (0, 0)).2)]).length)), (4, ii x4_1)] rfl (by kernel_rfl) ?_
          refine XR.done (by kernel_rfl) ?_
          show XQ _ _ _ _ _ _ _ _
          refine XQ.region (by kernel_rfl) ?_
          refine XR.runS E0_ok 1 3 [(0, s0 0 a.length), (3, s0 3 ((lh1_1 ++ [((List.getD a (Int.toNat x4_1) (0, 0)).1, (List.getD a (Int.toNat x4_1) (0, 0)).2)]).length)), (4, ii (w64 (x4_1 + 1)))] rfl (by kernel_rfl) ?_
          refine XR.done (by kernel_rfl) ?_
          show XL _ _ _ _ _ _ _ _ _
          refine XL.ren (σ' := [(0, s0 0 a.length), (3, s0 1 ((lh1_1 ++ [((List.getD a (Int.toNat x4_1) (0, 0)).1, (List.getD a (Int.toNat x4_1) (0, 0)).2)]).length)), (4, ii (w64 (x4_1 + 1)))]) (h' := [(1, rc encP (lh1_1 ++ [((List.getD a (Int.toNat x4_1) (0, 0)).1, (List.getD a (Int.toNat x4_1) (0, 0)).2)]) 0 83 2), (0, rc encP a z0 y0 2)]) (c' := 2) [0, 3] (by decide) rfl ⟨by kernel_rfl, by kernel_rfl, by kernel_rfl, trivial⟩ ⟨⟨_, _, rfl, rfl, .inl ⟨rfl, rowC_scal encP_ok _⟩⟩, ⟨_, _, rfl, rfl, .inl ⟨rfl, rowC_scal encP_ok _⟩⟩, trivial⟩ rfl ?_
          refine XL.conv (f17_1_ok m fuel z0 y0 a (w64 (x4_1 + 1)) (lh1_1 ++ [((List.getD a (Int.toNat x4_1) (0, 0)).1, (List.getD a (Int.toNat x4_1) (0, 0)).2)]) o h Q hQ) (by first | rfl | simp)
    | false =>
      have h := cF b1 h
      refine XQ.cond (s := (.tmp 8)) (b := false) (by kernel_rfl) (by kernel_rfl) (fun q => by cases q) (fun _ => ?_)
      refine XQ.ren (σ' := [(3, s0 1 lh1_1.length)]) (h' := [(1, rc encP lh1_1 0 83 2), (0, rc encP a z0 y0 2)]) (c' := 2) [0, 1] (by decide) rfl ⟨by kernel_rfl, trivial⟩ ⟨⟨_, _, rfl, rfl, .inl ⟨rfl, rowC_scal encP_ok _⟩⟩, ⟨_, _, rfl, rfl, .inl ⟨rfl, rowC_scal encP_ok _⟩⟩, trivial⟩ rfl ?_
      refine XQ.exit (i := 0) (by kernel_rfl) ?_
      cases h
      exact hQ

def f17 (m : Nat) (a : List (Int × Int)) : Option (List (Int × Int)) :=
  (f17_1 m m a 0 []).bind fun o1 =>
    some (o1)

theorem f17_ok (m : Nat) (z0 : Nat) (y0 : Nat) (a : List (Int × Int)) (o : List (Int × Int)) (h : f17 m a = some o) : KC E0 17 [s0 0 a.length] [(0, rc encP a z0 y0 2)] 1 (fun v h' c' => v = s0 1 o.length ∧ h' = [(1, rc encP o 0 83 2)] ++ [(0, rc encP a z0 y0 2)] ∧ c' = 2) := by
  refine KC.bodyN E0_ok (F := Proofs.Try.f17) (by kernel_rfl) (code := f17_C17) (by kernel_rfl) (nt := 19) (by kernel_rfl) (rs := [.tmp 2]) (by kernel_rfl) (by kernel_rfl) (σ := [(0, s0 0 a.length)]) (by kernel_rfl) ?_
  unfold f17 at h
  refine XQ.seq E0_ok (by kernel_rfl) ?_
  refine XQ.region (by kernel_rfl) ?_
  refine XR.runS E0_ok 1 1 [(0, s0 0 a.length)] rfl (by kernel_rfl) ?_
  refine XR.done (by kernel_rfl) ?_
  show XQ _ _ _ _ _ _ _ _
  refine XQ.seq E0_ok (by kernel_rfl) ?_
  refine XQ.region (by kernel_rfl) ?_
  refine XR.runS E0_ok 1 1 [(0, s0 0 a.length), (3, .slice none 0 0)] rfl (by kernel_rfl) ?_
  refine XR.done (by kernel_rfl) ?_
  show XQ _ _ _ _ _ _ _ _
  refine XQ.ghost 83 2 rfl (σ' := [(0, s0 0 a.length), (3, s0 1 0)]) (h' := [(0, rc encP a z0 y0 2)]) ⟨by kernel_rfl, by kernel_rfl, trivial⟩ ⟨⟨_, rfl, .inl rfl⟩, trivial⟩ ?_
  refine XQ.conv (σ' := [(0, s0 0 a.length), (3, s0 1 0)]) (h' := [(1, rc encP [] 0 83 2), (0, rc encP a z0 y0 2)]) (c' := 2) ?_ (by kernel_rfl)
  refine XQ.seq E0_ok (by kernel_rfl) ?_
  refine XQ.seq E0_ok (by kernel_rfl) ?_
  refine XQ.region (by kernel_rfl) ?_
  refine XR.runS E0_ok 1 1 [(0, s0 0 a.length), (3, s0 1 0), (4, ii 0)] rfl (by kernel_rfl) ?_
  refine XR.done (by kernel_rfl) ?_
  show XQ _ _ _ _ _ _ _ _
  refine XQ.block (id := 0) (by kernel_rfl) ?_
  refine XQ.loop m (by kernel_rfl) ?_
  obtain ⟨o1, o1_h, h⟩ := bS h
  refine XL.ren (σ' := [(0, s0 0 a.length), (3, s0 1 0), (4, ii 0)]) (h' := [(1, rc encP [] 0 83 2), (0, rc encP a z0 y0 2)]) (c' := 2) [0, 1] (by decide) rfl ⟨by kernel_rfl, by kernel_rfl, by kernel_rfl, trivial⟩ ⟨⟨_, _, rfl, rfl, .inl ⟨rfl, rowC_scal encP_ok _⟩⟩, ⟨_, _, rfl, rfl, .inl ⟨rfl, rowC_scal encP_ok _⟩⟩, trivial⟩ rfl ?_
  refine XL.conv (f17_1_ok m m z0 y0 a 0 [] o1 o1_h _ ?_) (by first | rfl | simp)
  show XQ _ _ _ _ _ _ _ _
  refine XQ.seq E0_ok (by kernel_rfl) ?_
  refine XQ.region (by kernel_rfl) ?_
  refine XR.runS E0_ok 1 2 [(2, s0 1 o1.length)] rfl (by kernel_rfl) ?_
  refine XR.done (by kernel_rfl) ?_
  show XQ _ _ _ _ _ _ _ _
  refine XQ.ren (σ' := [(2, s0 1 o1.length)]) (h' := [(1, rc encP o1 0 83 2), (0, rc encP a z0 y0 2)]) (c' := 2) [0, 1] (by decide) rfl ⟨by kernel_rfl, trivial⟩ ⟨⟨_, _, rfl, rfl, .inl ⟨rfl, rowC_scal encP_ok _⟩⟩, ⟨_, _, rfl, rfl, .inl ⟨rfl, rowC_scal encP_ok _⟩⟩, trivial⟩ rfl ?_
  refine XQ.ret (by kernel_rfl) ?_
  have h := Option.some.inj h
  subst h
  exact ⟨fun i q => (by cases q), s0 1 o1.length, (by kernel_rfl), (by kernel_rfl), (by kernel_rfl), rfl⟩

end Go.Xm
