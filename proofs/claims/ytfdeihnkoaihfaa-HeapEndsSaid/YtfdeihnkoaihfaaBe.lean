/- What these functions of the program compute, as functions in Lean, and the proofs that they do: vitolaref02.in, vitolaref02.Check, vitolaref02.handed, vitolaref02.crowd, vitolaref02.why, vitolaref02.planned, vitolaref02.with. Conditions: none. -/
import Derived.Test.YtfdeihnkoaihfaaBa
import Derived.Test.YtfdeihnkoaihfaaMs
namespace Go.Xm
open Go.RowKit
set_option linter.unusedVariables false
set_option linter.unusedSimpArgs false
set_option maxRecDepth 20000

/-! vitola/vitolaref02.in -/
noncomputable def f63_C63 : Code := Proofs.Try.f63.body.getD .skip

def f63 (m : Nat) (a : Int) (b : Int) (c : Int) : Option (Bool) :=
  cond (decide (a ≥ b)) (
    some (decide (a ≤ c))
  ) (
    some (false)
  )

theorem f63_ok (m : Nat) (a : Int) (b : Int) (c : Int) (o : Bool) (h : f63 m a b c = some o) (w : World) (hI : anyInv w) : Calls Proofs.Try.prog 63 #[ii a, ii b, ii c] w fun e w' => e = .returned (.bool o) ∧ Below w.heap.size w w' := by
  refine KC.calls (E := E0) (args := [ii a, ii b, ii c]) (v := .bool o) rfl rfl (KC.bodyN E0_ok (F := Proofs.Try.f63) (by kernel_rfl) (code := f63_C63) (by kernel_rfl) (nt := 15) (by kernel_rfl) (rs := [.tmp 6]) (by kernel_rfl) (by kernel_rfl) (σ := [(0, ii a), (1, ii b), (2, ii c)]) (by kernel_rfl) ?_) w (anyInv_size hI) hI
  unfold f63 at h
  refine XQ.seq E0_ok (by kernel_rfl) ?_
  refine XQ.region (by kernel_rfl) ?_
  refine XR.runS E0_ok 1 1 [(0, ii a), (1, ii b), (2, ii c)] rfl (by kernel_rfl) ?_
  refine XR.done (by kernel_rfl) ?_
  show XQ _ _ _ _ _ _ _ _
  refine XQ.seq E0_ok (by kernel_rfl) ?_
  refine XQ.region (by kernel_rfl) ?_
  refine XR.runS E0_ok 1 4 [(0, ii a), (2, ii c), (10, .bool (decide (a ≥ b)))] rfl (by kernel_rfl) ?_
  cases b1 : (decide (a ≥ b) : Bool) with
  | true =>
    have h := cT b1 h
    refine XR.runS E0_ok 1 5 [(6, .bool (decide (a ≤ c)))] rfl (by kernel_rfl) ?_
    refine XR.done (by kernel_rfl) ?_
    show XQ _ _ _ _ _ _ _ _
    refine XQ.ret (by kernel_rfl) ?_
    have h := Option.some.inj h
    subst h
    exact ⟨fun i q => (by cases q), .bool (decide (a ≤ c)), (by kernel_rfl), rfl⟩
  | false =>
    have h := cF b1 h
    refine XR.runS E0_ok 1 5 [(6, .bool false)] rfl (by kernel_rfl) ?_
    refine XR.done (by kernel_rfl) ?_
    show XQ _ _ _ _ _ _ _ _
    refine XQ.ret (by kernel_rfl) ?_
    have h := Option.some.inj h
    subst h
    exact ⟨fun i q => (by cases q), .bool false, (by kernel_rfl), rfl⟩

/-! vitola/vitolaref02.Check -/
noncomputable def f24_C24 : Code := Proofs.Try.f24.body.getD .skip
noncomputable def f24_L1 : Code := lft (lft (rgt (lft (rgt (rgt f24_C24)))))

inductive Of24_1 where
  | r (x2_r1 : Int)
  | x0

def f24_1 (m : Nat) : Nat → List (Int × Int) → Int → Option Of24_1
  | 0, _, _ => none
  | fuel + 1, a, x3_1 =>
    cond (decide (x3_1 < ((a.length : Nat) : Int))) (
      cond (inRow x3_1 a.length) (
        (f63 m ((List.getD a (Int.toNat x3_1) (0, 0)).1) 0 23).bind fun r5 =>
          cond (!r5) (
            some (.r 1)
          ) (
            (f63 m ((List.getD a (Int.toNat x3_1) (0, 0)).2) 0 23).bind fun r6 =>
              cond (!r6) (
                some (.r 1)
              ) (
                cond (decide (((List.getD a (Int.toNat x3_1) (0, 0)).1) > ((List.getD a (Int.toNat x3_1) (0, 0)).2))) (
                  some (.r 7)
                ) (
                  f24_1 m fuel a (w64 (x3_1 + 1))
                )
              )
          )
      ) none
    ) (
      some (.x0)
    )

theorem f24_1_ok (m : Nat) : ∀ (fuel : Nat) (z0 : Nat) (y0 : Nat) (a : List (Int × Int)) (x3_1 : Int) (o : Of24_1), f24_1 m fuel a x3_1 = some o → ∀ Q : QP, (match o with | .r x2_r1 => Q .ret [(2, ii x2_r1)] [(0, rc encP a z0 y0 2)] 1 | .x0 => Q (.exit 0) [] [(0, rc encP a z0 y0 2)] 1) → XL E0 33 1 fuel f24_L1 [(0, s0 0 a.length), (3, ii x3_1)] [(0, rc encP a z0 y0 2)] 1 Q
  | 0, z0, y0, a, x3_1, o, h, Q, hQ => by cases h
  | fuel + 1, z0, y0, a, x3_1, o, h, Q, hQ => by
    unfold f24_1 at h
    refine XL.succ E0_ok ?_
    refine XQ.seq E0_ok (by kernel_rfl) ?_
    refine XQ.seq E0_ok (by kernel_rfl) ?_
    refine XQ.region (by kernel_rfl) ?_
    refine XR.runS E0_ok 1 4 [(0, s0 0 a.length), (3, ii x3_1), (11, .bool (decide (x3_1 < ((a.length : Nat) : Int))))] rfl (by kernel_rfl) ?_
    refine XR.done (by kernel_rfl) ?_
    show XQ _ _ _ _ _ _ _ _
    cases b1 : (decide (x3_1 < ((a.length : Nat) : Int)) : Bool) with
    | true =>
      have h := cT b1 h
      refine XQ.cond (s := (.tmp 11)) (b := true) (by kernel_rfl) (by kernel_rfl) (fun _ => ?_) (fun q => by cases q)
      refine XQ.skip (by kernel_rfl) ?_
      show XQ _ _ _ _ _ _ _ _
      refine XQ.seq E0_ok (by kernel_rfl) ?_
      refine XQ.block (id := 1) (by kernel_rfl) ?_
      refine XQ.seq E0_ok (by kernel_rfl) ?_
      refine XQ.region (by kernel_rfl) ?_
      refine XR.runS E0_ok 1 2 [(0, s0 0 a.length), (3, ii x3_1), (14, s0 0 a.length), (15, ii x3_1)] rfl (by kernel_rfl) ?_
      cases b2 : (inRow x3_1 a.length : Bool) with
      | false => cases (cF b2 h)
      | true =>
        have h := cT b2 h
        refine XR.rd E0_ok [0, 3, 16] rfl (v := pp 0 ((Int.toNat x3_1) * 2)) (v_idx (s := 2) (x := (src 33 (.tmp 14))) (y := (src 33 (.tmp 15))) (b := 0) (o := 0) (len := a.length) (cap := a.length) (ik := .i64) (i := x3_1) (off := (Int.toNat x3_1) * 2) (d := (some (path 12 16))) (by kernel_rfl) (by kernel_rfl) (by kernel_rfl) b2 (by omega)) (σ' := [(0, s0 0 a.length), (3, ii x3_1), (16, pp 0 ((Int.toNat x3_1) * 2))]) (by kernel_rfl) ?_
        refine XR.rd E0_ok [0, 3, 17] rfl (v := .agg #[ii ((List.getD a (Int.toNat x3_1) (0, 0)).1), ii ((List.getD a (Int.toNat x3_1) (0, 0)).2)]) (v_loadN encP_ok (x := (src 33 (.tmp 16))) (b := 0) (off := (Int.toNat x3_1) * 2) (xs := a) (fz := z0) (e := y0) (es := 2) (d := (some (path 12 17))) (by kernel_rfl) (by kernel_rfl) (by kernel_rfl) (Int.toNat x3_1) (0, 0) (by first | rfl | omega) (row_len (inRow_toNat b2) (by simp)) rfl) (σ' := [(0, s0 0 a.length), (3, ii x3_1), (17, .agg #[ii ((List.getD a (Int.toNat x3_1) (0, 0)).1), ii ((List.getD a (Int.toNat x3_1) (0, 0)).2)])]) (by kernel_rfl) ?_
        refine XR.runT E0_ok 1 2 [(0, s0 0 a.length), (3, ii x3_1), (4, pp 1 0)] [(1, .cells [ii ((List.getD a (Int.toNat x3_1) (0, 0)).1), ii ((List.getD a (Int.toNat x3_1) (0, 0)).2)] 0 83 0), (0, rc encP a z0 y0 2)] 2 rfl (by kernel_rfl) ?_
        refine XR.done (by kernel_rfl) ?_
        show XQ _ _ _ _ _ _ _ _
        refine XQ.seq E0_ok (by kernel_rfl) ?_
        refine XQ.seq E0_ok (by kernel_rfl) ?_
        refine XQ.region (by kernel_rfl) ?_
        refine XR.runS E0_ok 1 2 [(0, s0 0 a.length), (3, ii x3_1), (4, pp 1 0), (19, ii ((List.getD a (Int.toNat x3_1) (0, 0)).1))] rfl (by kernel_rfl) ?_
        obtain ⟨r5, r5_h, h⟩ := bS h
        refine XR.call E0_ok [0, 3, 4, 20] rfl (K := 63) (args := [ii ((List.getD a (Int.toNat x3_1) (0, 0)).1), ii 0, ii 23]) (d := (some (path 12 20))) (by kernel_rfl) (KC.of_calls E0_ok (F := Proofs.Try.f63) (v := .bool r5) (by kernel_rfl) rfl rfl (fun w hI => f63_ok m ((List.getD a (Int.toNat x3_1) (0, 0)).1) 0 23 r5 r5_h w hI)) ?_
        rintro _ _ _ ⟨rfl, rfl, rfl⟩
        refine XR.conv (σ' := [(0, s0 0 a.length), (3, ii x3_1), (4, pp 1 0), (20, .bool r5)]) (h' := [(1, .cells [ii ((List.getD a (Int.toNat x3_1) (0, 0)).1), ii ((List.getD a (Int.toNat x3_1) (0, 0)).2)] 0 83 0), (0, rc encP a z0 y0 2)]) (c' := 2) ?_ (by kernel_rfl)
        refine XR.runS E0_ok 1 2 [(0, s0 0 a.length), (3, ii x3_1), (4, pp 1 0), (22, .bool (!r5))] rfl (by kernel_rfl) ?_
        cases b3 : (!r5 : Bool) with
        | true =>
          have h := cT b3 h
          refine XR.runS E0_ok 1 5 [(0, s0 0 a.length), (3, ii x3_1), (4, pp 1 0), (27, .bool true)] rfl (by kernel_rfl) ?_
          refine XR.done (by kernel_rfl) ?_
          show XQ _ _ _ _ _ _ _ _
          refine XQ.cond (s := (.tmp 27)) (b := true) (by kernel_rfl) (by kernel_rfl) (fun _ => ?_) (fun q => by cases q)
          refine XQ.seq E0_ok (by kernel_rfl) ?_
          refine XQ.region (by kernel_rfl) ?_
          refine XR.runS E0_ok 1 1 [(2, ii 1)] rfl (by kernel_rfl) ?_
          refine XR.done (by kernel_rfl) ?_
          show XQ _ _ _ _ _ _ _ _
          refine XQ.ren (σ' := [(2, ii 1)]) (h' := [(0, rc encP a z0 y0 2)]) (c' := 1) [0] (by decide) rfl ⟨by kernel_rfl, trivial⟩ ⟨⟨_, _, rfl, rfl, .inl ⟨rfl, rowC_scal encP_ok _⟩⟩, trivial⟩ rfl ?_
          refine XQ.ret (by kernel_rfl) ?_
          cases h
          exact hQ
        | false =>
          have h := cF b3 h
          refine XR.runS E0_ok 1 2 [(0, s0 0 a.length), (3, ii x3_1), (4, pp 1 0), (22, .bool false), (24, ii ((List.getD a (Int.toNat x3_1) (0, 0)).2))] rfl (by kernel_rfl) ?_
          obtain ⟨r6, r6_h, h⟩ := bS h
          refine XR.call E0_ok [0, 3, 4, 22, 25] rfl (K := 63) (args := [ii ((List.getD a (Int.toNat x3_1) (0, 0)).2), ii 0, ii 23]) (d := (some (path 12 25))) (by kernel_rfl) (KC.of_calls E0_ok (F := Proofs.Try.f63) (v := .bool r6) (by kernel_rfl) rfl rfl (fun w hI => f63_ok m ((List.getD a (Int.toNat x3_1) (0, 0)).2) 0 23 r6 r6_h w hI)) ?_
          rintro _ _ _ ⟨rfl, rfl, rfl⟩
          refine XR.conv (σ' := [(0, s0 0 a.length), (3, ii x3_1), (4, pp 1 0), (22, .bool false), (25, .bool r6)]) (h' := [(1, .cells [ii ((List.getD a (Int.toNat x3_1) (0, 0)).1), ii ((List.getD a (Int.toNat x3_1) (0, 0)).2)] 0 83 0), (0, rc encP a z0 y0 2)]) (c' := 2) ?_ (by kernel_rfl)
          refine XR.runS E0_ok 1 2 [(0, s0 0 a.length), (3, ii x3_1), (4, pp 1 0), (27, .bool (!r6))] rfl (by kernel_rfl) ?_
          refine XR.done (by kernel_rfl) ?_
          show XQ _ _ _ _ _ _ _ _
          cases b4 : (!r6 : Bool) with
          | true =>
            have h := cT b4 h
            refine XQ.cond (s := (.tmp 27)) (b := true) (by kernel_rfl) (by kernel_rfl) (fun _ => ?_) (fun q => by cases q)
            refine XQ.seq E0_ok (by kernel_rfl) ?_
            refine XQ.region (by kernel_rfl) ?_
            refine XR.runS E0_ok 1 1 [(2, ii 1)] rfl (by kernel_rfl) ?_
            refine XR.done (by kernel_rfl) ?_
            show XQ _ _ _ _ _ _ _ _
            refine XQ.ren (σ' := [(2, ii 1)]) (h' := [(0, rc encP a z0 y0 2)]) (c' := 1) [0] (by decide) rfl ⟨by kernel_rfl, trivial⟩ ⟨⟨_, _, rfl, rfl, .inl ⟨rfl, rowC_scal encP_ok _⟩⟩, trivial⟩ rfl ?_
            refine XQ.ret (by kernel_rfl) ?_
            cases h
            exact hQ
          | false =>
            have h := cF b4 h
            refine XQ.cond (s := (.tmp 27)) (b := false) (by kernel_rfl) (by kernel_rfl) (fun q => by cases q) (fun _ => ?_)
            refine XQ.skip (by kernel_rfl) ?_
            show XQ _ _ _ _ _ _ _ _
            refine XQ.seq E0_ok (by kernel_rfl) ?_
            refine XQ.region (by kernel_rfl) ?_
            refine XR.runS E0_ok 1 5 [(0, s0 0 a.length), (3, ii x3_1), (32, .bool (decide (((List.getD a (Int.toNat x3_1) (0, 0)).1) > ((List.getD a (Int.toNat x3_1) (0, 0)).2))))] rfl (by kernel_rfl) ?_
            refine XR.done (by kernel_rfl) ?_
            show XQ _ _ _ _ _ _ _ _
            cases b5 : (decide (((List.getD a (Int.toNat x3_1) (0, 0)).1) > ((List.getD a (Int.toNat x3_1) (0, 0)).2)) : Bool) with
            | true =>
              have h := cT b5 h
              refine XQ.cond (s := (.tmp 32)) (b := true) (by kernel_rfl) (by kernel_rfl) (fun _ => ?_) (fun q => by cases q)
              refine XQ.seq E0_ok (by kernel_rfl) ?_
              refine XQ.region (by kernel_rfl) ?_
              refine XR.runS E0_ok 1 1 [(2, ii 7)] rfl (by kernel_rfl) ?_
              refine XR.done (by kernel_rfl) ?_
              show XQ _ _ _ _ _ _ _ _
              refine XQ.ren (σ' := [(2, ii 7)]) (h' := [(0, rc encP a z0 y0 2)]) (c' := 1) [0] (by decide) rfl ⟨by kernel_rfl, trivial⟩ ⟨⟨_, _, rfl, rfl, .inl ⟨rfl, rowC_scal encP_ok _⟩⟩, trivial⟩ rfl ?_
              refine XQ.ret (by kernel_rfl) ?_
              cases h
              exact hQ
            | false =>
              have h := cF b5 h
              refine XQ.cond (s := (.tmp 32)) (b := false) (by kernel_rfl) (by kernel_rfl) (fun q => by cases q) (fun _ => ?_)
              refine XQ.skip (by kernel_rfl) ?_
              show XQ _ _ _ _ _ _ _ _
              refine XQ.region (by kernel_rfl) ?_
              refine XR.runS E0_ok 1 3 [(0, s0 0 a.length), (3, ii (w64 (x3_1 + 1)))] rfl (by kernel_rfl) ?_
              refine XR.done (by kernel_rfl) ?_
              show XL _ _ _ _ _ _ _ _ _
              refine XL.ren (σ' := [(0, s0 0 a.length), (3, ii (w64 (x3_1 + 1)))]) (h' := [(0, rc encP a z0 y0 2)]) (c' := 1) [0] (by decide) rfl ⟨by kernel_rfl, by kernel_rfl, trivial⟩ ⟨⟨_, _, rfl, rfl, .inl ⟨rfl, rowC_scal encP_ok _⟩⟩, trivial⟩ rfl ?_
              refine XL.conv (f24_1_ok m fuel z0 y0 a (w64 (x3_1 + 1)) o h Q hQ) (by first | rfl | simp)
    | false =>
      have h := cF b1 h
      refine XQ.cond (s := (.tmp 11)) (b := false) (by kernel_rfl) (by kernel_rfl) (fun q => by cases q) (fun _ => ?_)
      refine XQ.ren (σ' := []) (h' := [(0, rc encP a z0 y0 2)]) (c' := 1) [0] (by decide) rfl trivial ⟨⟨_, _, rfl, rfl, .inl ⟨rfl, rowC_scal encP_ok _⟩⟩, trivial⟩ rfl ?_
      refine XQ.exit (i := 0) (by kernel_rfl) ?_
      cases h
      exact hQ

def f24 (m : Nat) (a : List (Int × Int)) : Option (Int) :=
  cond (decide (((a.length : Nat) : Int) > 10)) (
    some (3)
  ) (
    (f24_1 m m a 0).bind fun o1 =>
      match o1 with
      | .r x2_r1 =>
        some (x2_r1)
      | .x0 =>
        some (0)
  )

theorem f24_ok (m : Nat) (z0 : Nat) (y0 : Nat) (a : List (Int × Int)) (o : Int) (h : f24 m a = some o) : KC E0 24 [s0 0 a.length] [(0, rc encP a z0 y0 2)] 1 (fun v _ _ => v = ii o) := by
  refine KC.bodyN E0_ok (F := Proofs.Try.f24) (by kernel_rfl) (code := f24_C24) (by kernel_rfl) (nt := 33) (by kernel_rfl) (rs := [.tmp 2]) (by kernel_rfl) (by kernel_rfl) (σ := [(0, s0 0 a.length)]) (by kernel_rfl) ?_
  unfold f24 at h
  refine XQ.seq E0_ok (by kernel_rfl) ?_
  refine XQ.region (by kernel_rfl) ?_
  refine XR.runS E0_ok 1 1 [(0, s0 0 a.length)] rfl (by kernel_rfl) ?_
  refine XR.done (by kernel_rfl) ?_
  show XQ _ _ _ _ _ _ _ _
  refine XQ.seq E0_ok (by kernel_rfl) ?_
  refine XQ.seq E0_ok (by kernel_rfl) ?_
  refine XQ.region (by kernel_rfl) ?_
  refine XR.runS E0_ok 1 3 [(0, s0 0 a.length), (7, .bool (decide (((a.length : Nat) : Int) > 10)))] rfl (by kernel_rfl) ?_
  refine XR.done (by kernel_rfl) ?_
  show XQ _ _ _ _ _ _ _ _
  cases b1 : (decide (((a.length : Nat) : Int) > 10) : Bool) with
  | true =>
    have h := cT b1 h
    refine XQ.cond (s := (.tmp 7)) (b := true) (by kernel_rfl) (by kernel_rfl) (fun _ => ?_) (fun q => by cases q)
    refine XQ.seq E0_ok (by kernel_rfl) ?_
    refine XQ.region (by kernel_rfl) ?_
    refine XR.runS E0_ok 1 1 [(2, ii 3)] rfl (by kernel_rfl) ?_
    refine XR.done (by kernel_rfl) ?_
    show XQ _ _ _ _ _ _ _ _
    refine XQ.ret (by kernel_rfl) ?_
    have h := Option.some.inj h
    subst h
    exact ⟨fun i q => (by cases q), ii 3, (by kernel_rfl), rfl⟩
  | false =>
    have h := cF b1 h
    refine XQ.cond (s := (.tmp 7)) (b := false) (by kernel_rfl) (by kernel_rfl) (fun q => by cases q) (fun _ => ?_)
    refine XQ.skip (by kernel_rfl) ?_
    show XQ _ _ _ _ _ _ _ _
    refine XQ.seq E0_ok (by kernel_rfl) ?_
    refine XQ.seq E0_ok (by kernel_rfl) ?_
    refine XQ.region (by kernel_rfl) ?_
    refine XR.runS E0_ok 1 1 [(0, s0 0 a.length), (3, ii 0)] rfl (by kernel_rfl) ?_
    refine XR.done (by kernel_rfl) ?_
    show XQ _ _ _ _ _ _ _ _
    refine XQ.block (id := 0) (by kernel_rfl) ?_
    refine XQ.loop m (by kernel_rfl) ?_
    obtain ⟨o1, o1_h, h⟩ := bS h
    refine XL.ren (σ' := [(0, s0 0 a.length), (3, ii 0)]) (h' := [(0, rc encP a z0 y0 2)]) (c' := 1) [0] (by decide) rfl ⟨by kernel_rfl, by kernel_rfl, trivial⟩ ⟨⟨_, _, rfl, rfl, .inl ⟨rfl, rowC_scal encP_ok _⟩⟩, trivial⟩ rfl ?_
    cases o1 with
    | r x2_r1 =>
      dsimp only at h
      refine XL.conv (f24_1_ok m m z0 y0 a 0 (.r x2_r1) o1_h _ ?_) (by first | rfl | simp)
      have h := Option.some.inj h
      subst h
      exact ⟨fun i q => (by cases q), ii x2_r1, (by kernel_rfl), rfl⟩
    | x0 =>
      dsimp only at h
      refine XL.conv (f24_1_ok m m z0 y0 a 0 (.x0) o1_h _ ?_) (by first | rfl | simp)
      show XQ _ _ _ _ _ _ _ _
      refine XQ.seq E0_ok (by kernel_rfl) ?_
      refine XQ.region (by kernel_rfl) ?_
      refine XR.runS E0_ok 1 1 [(2, ii 0)] rfl (by kernel_rfl) ?_
      refine XR.done (by kernel_rfl) ?_
      show XQ _ _ _ _ _ _ _ _
      refine XQ.ret (by kernel_rfl) ?_
      have h := Option.some.inj h
      subst h
      exact ⟨fun i q => (by cases q), ii 0, (by kernel_rfl), rfl⟩

/-! vitola/vitolaref02.handed -/
noncomputable def f59_C59 : Code := Proofs.Try.f59.body.getD .skip

def f59 (m : Nat) (a : List (Int × Int)) (b : Int) : Option (Int) :=
  (f24 m a).bind fun r1 =>
    cond (r1 == 0) (
      (f63 m b 1 10).bind fun r2 =>
        some (cond (!r2) 1 r1)
    ) (
      some (r1)
    )

theorem f59_ok (m : Nat) (z0 : Nat) (y0 : Nat) (a : List (Int × Int)) (b : Int) (o : Int) (h : f59 m a b = some o) : KC E0 59 [s0 0 a.length, ii b] [(0, rc encP a z0 y0 2)] 1 (fun v _ _ => v = ii o) := by
  refine KC.bodyN E0_ok (F := Proofs.Try.f59) (by kernel_rfl) (code := f59_C59) (by kernel_rfl) (nt := 16) (by kernel_rfl) (rs := [.tmp 4]) (by kernel_rfl) (by kernel_rfl) (σ := [(0, s0 0 a.length), (1, ii b)]) (by kernel_rfl) ?_
  unfold f59 at h
  refine XQ.seq E0_ok (by kernel_rfl) ?_
  refine XQ.region (by kernel_rfl) ?_
  refine XR.runS E0_ok 1 1 [(0, s0 0 a.length), (1, ii b)] rfl (by kernel_rfl) ?_
  refine XR.done (by kernel_rfl) ?_
  show XQ _ _ _ _ _ _ _ _
  refine XQ.seq E0_ok (by kernel_rfl) ?_
  refine XQ.region (by kernel_rfl) ?_
  refine XR.runS E0_ok 1 1 [(1, ii b), (6, s0 0 a.length)] rfl (by kernel_rfl) ?_
  obtain ⟨r1, r1_h, h⟩ := bS h
  refine XR.call E0_ok [1, 7] rfl (K := 24) (args := [s0 0 a.length]) (d := (some (path 12 7))) (by kernel_rfl) (KQ.call (KC.quiet E0_ok (args0 := [s0 0 a.length]) (h0 := [(0, rc encP a (z0 + ((rowC encP a).length + 1)) y0 2)]) (n := 1) (V := ii r1) [0] (f24_ok m (z0 + ((rowC encP a).length + 1)) y0 a r1 r1_h) rfl (by rfl) (by decide) rfl (by kernel_rfl) ⟨⟨_, _, rfl, rfl, .inl ⟨rfl, rowC_scal encP_ok _⟩⟩, trivial⟩) rfl) ?_
  rintro _ _ _ ⟨rfl, rfl, rfl⟩
  refine XR.conv (σ' := [(1, ii b), (7, ii r1)]) (h' := [(0, rc encP a z0 y0 2)]) (c' := 1) ?_ (by kernel_rfl)
  refine XR.runS E0_ok 1 1 [(1, ii b), (5, ii r1)] rfl (by kernel_rfl) ?_
  refine XR.done (by kernel_rfl) ?_
  show XQ _ _ _ _ _ _ _ _
  refine XQ.seq E0_ok (by kernel_rfl) ?_
  refine XQ.seq E0_ok (by kernel_rfl) ?_
  refine XQ.region (by kernel_rfl) ?_
  refine XR.runS E0_ok 1 3 [(1, ii b), (5, ii r1), (10, .bool (r1 == 0))] rfl (by kernel_rfl) ?_
  cases b1 : (r1 == 0 : Bool) with
  | true =>
    have h := cT b1 h
    refine XR.runS E0_ok 1 1 [(5, ii r1), (10, .bool true), (11, ii b)] rfl (by kernel_rfl) ?_
    obtain ⟨r2, r2_h, h⟩ := bS h
    refine XR.call E0_ok [5, 10, 12] rfl (K := 63) (args := [ii b, ii 1, ii 10]) (d := (some (path 12 12))) (by kernel_rfl) (KC.of_calls E0_ok (F := Proofs.Try.f63) (v := .bool r2) (by kernel_rfl) rfl rfl (fun w hI => f63_ok m b 1 10 r2 r2_h w hI)) ?_
    rintro _ _ _ ⟨rfl, rfl, rfl⟩
    refine XR.conv (σ' := [(5, ii r1), (10, .bool true), (12, .bool r2)]) (h' := [(0, rc encP a z0 y0 2)]) (c' := 1) ?_ (by kernel_rfl)
    refine XR.runS E0_ok 1 2 [(5, ii r1), (14, .bool (!r2))] rfl (by kernel_rfl) ?_
    refine XR.done (by kernel_rfl) ?_
    show XQ _ _ _ _ _ _ _ _
    refine XQ.meetC (σ' := [(5, ii (cond (!r2) 1 r1))]) (h' := [(0, rc encP a z0 y0 2)]) (c' := 1) ?_ ?_
    rotate_left
    · refine XQ.cond (s := (.tmp 14)) (b := !r2) (by kernel_rfl) (by kernel_rfl) (fun b2 => ?_) (fun b2 => ?_)
      · refine XQ.region (by kernel_rfl) ?_
        refine XR.runS E0_ok 1 1 [(5, ii 1)] rfl (by kernel_rfl) ?_
        refine XR.done (by kernel_rfl) ?_
        refine ⟨rfl, ?_, ?_⟩
        · try rw [b2]
          exact ⟨by kernel_rfl, trivial⟩
        · try rw [b2]
          kernel_rfl
      · refine XQ.skip (by kernel_rfl) ?_
        refine ⟨rfl, ?_, ?_⟩
        · try rw [b2]
          exact ⟨by kernel_rfl, trivial⟩
        · try rw [b2]
          kernel_rfl
    show XQ _ _ _ _ _ _ _ _
    refine XQ.seq E0_ok (by kernel_rfl) ?_
    refine XQ.region (by kernel_rfl) ?_
    refine XR.runS E0_ok 1 2 [(4, ii (cond (!r2) 1 r1))] rfl (by kernel_rfl) ?_
    refine XR.done (by kernel_rfl) ?_
    show XQ _ _ _ _ _ _ _ _
    refine XQ.ret (by kernel_rfl) ?_
    have h := Option.some.inj h
    subst h
    exact ⟨fun i q => (by cases q), ii (cond (!r2) 1 r1), (by kernel_rfl), rfl⟩
  | false =>
    have h := cF b1 h
    refine XR.runS E0_ok 1 4 [(5, ii r1), (14, .bool false)] rfl (by kernel_rfl) ?_
    refine XR.done (by kernel_rfl) ?_
    show XQ _ _ _ _ _ _ _ _
    refine XQ.cond (s := (.tmp 14)) (b := false) (by kernel_rfl) (by kernel_rfl) (fun q => by cases q) (fun _ => ?_)
    refine XQ.skip (by kernel_rfl) ?_
    show XQ _ _ _ _ _ _ _ _
    refine XQ.seq E0_ok (by kernel_rfl) ?_
    refine XQ.region (by kernel_rfl) ?_
    refine XR.runS E0_ok 1 2 [(4, ii r1)] rfl (by kernel_rfl) ?_
    refine XR.done (by kernel_rfl) ?_
    show XQ _ _ _ _ _ _ _ _
    refine XQ.ret (by kernel_rfl) ?_
    have h := Option.some.inj h
    subst h
    exact ⟨fun i q => (by cases q), ii r1, (by kernel_rfl), rfl⟩

/-! vitola/vitolaref02.crowd -/
noncomputable def f66_C66 : Code := Proofs.Try.f66.body.getD .skip
noncomputable def f66_L1 : Code := lft (lft (rgt (lft (rgt (rgt f66_C66)))))

def f66_1 (m : Nat) : Nat → List (Int × Int) → Int → Int → Int → Int → Option Int
  | 0, _, _, _, _, _ => none
  | fuel + 1, a, b, c, x7_1, x8_1 =>
    cond (decide (x8_1 < ((a.length : Nat) : Int))) (
      cond (inRow x8_1 a.length) (
        cond (decide (((List.getD a (Int.toNat x8_1) (0, 0)).1) ≥ b)) (
          f66_1 m fuel a b c (cond (decide (((List.getD a (Int.toNat x8_1) (0, 0)).2) ≤ c)) (w64 (x7_1 + 1)) x7_1) (w64 (x8_1 + 1))
        ) (
          f66_1 m fuel a b c x7_1 (w64 (x8_1 + 1))
        )
      ) none
    ) (
      some (x7_1)
    )

theorem f66_1_ok (m : Nat) : ∀ (fuel : Nat) (z0 : Nat) (y0 : Nat) (a : List (Int × Int)) (b : Int) (c : Int) (x7_1 : Int) (x8_1 : Int) (o : Int), f66_1 m fuel a b c x7_1 x8_1 = some o → ∀ Q : QP, Q (.exit 0) [(7, ii o)] [(0, rc encP a z0 y0 2)] 1 → XL E0 34 1 fuel f66_L1 [(0, s0 0 a.length), (1, ii b), (2, ii c), (7, ii x7_1), (8, ii x8_1)] [(0, rc encP a z0 y0 2)] 1 Q
  | 0, z0, y0, a, b, c, x7_1, x8_1, o, h, Q, hQ => by cases h
  | fuel + 1, z0, y0, a, b, c, x7_1, x8_1, o, h, Q, hQ => by
    unfold f66_1 at h
    refine XL.succ E0_ok ?_
    refine XQ.seq E0_ok (by kernel_rfl) ?_
    refine XQ.seq E0_ok (by kernel_rfl) ?_
    refine XQ.region (by kernel_rfl) ?_
    refine XR.runS E0_ok 1 4 [(0, s0 0 a.length), (1, ii b), (2, ii c), (7, ii x7_1), (8, ii x8_1), (12, .bool (decide (x8_1 < ((a.length : Nat) : Int))))] rfl (by kernel_rfl) ?_
    refine XR.done (by kernel_rfl) ?_
    show XQ _ _ _ _ _ _ _ _
    cases b1 : (decide (x8_1 < ((a.length : Nat) : Int)) : Bool) with
    | true =>
      have h := cT b1 h
      refine XQ.cond (s := (.tmp 12)) (b := true) (by kernel_rfl) (by kernel_rfl) (fun _ => ?_) (fun q => by cases q)
      refine XQ.skip (by kernel_rfl) ?_
      show XQ _ _ _ _ _ _ _ _
      refine XQ.seq E0_ok (by kernel_rfl) ?_
      refine XQ.block (id := 1) (by kernel_rfl) ?_
      refine XQ.seq E0_ok (by kernel_rfl) ?_
      refine XQ.region (by kernel_rfl) ?_
      refine XR.runS E0_ok 1 2 [(0, s0 0 a.length), (1, ii b), (2, ii c), (7, ii x7_1), (8, ii x8_1), (15, s0 0 a.length), (16, ii x8_1)] rfl (by kernel_rfl) ?_
      cases b2 : (inRow x8_1 a.length : Bool) with
      | false => cases (cF b2 h)
      | true =>
        have h := cT b2 h
        refine XR.rd E0_ok [0, 1, 2, 7, 8, 17] rfl (v := pp 0 ((Int.toNat x8_1) * 2)) (v_idx (s := 2) (x := (src 34 (.tmp 15))) (y := (src 34 (.tmp 16))) (b := 0) (o := 0) (len := a.length) (cap := a.length) (ik := .i64) (i := x8_1) (off := (Int.toNat x8_1) * 2) (d := (some (path 12 17))) (by kernel_rfl) (by kernel_rfl) (by kernel_rfl) b2 (by omega)) (σ' := [(0, s0 0 a.length), (1, ii b), (2, ii c), (7, ii x7_1), (8, ii x8_1), (17, pp 0 ((Int.toNat x8_1) * 2))]) (by kernel_rfl) ?_
        refine XR.runS E0_ok 1 1 [(0, s0 0 a.length), (1, ii b), (2, ii c), (7, ii x7_1), (8, ii x8_1), (18, pp 0 ((Int.toNat x8_1) * 2))] rfl (by kernel_rfl) ?_
        refine XR.rd E0_ok [0, 1, 2, 7, 8, 19] rfl (v := ii ((List.getD a (Int.toNat x8_1) (0, 0)).1)) (v_load1 encP_ok (x := (src 34 (.tmp 18))) (b := 0) (off := (Int.toNat x8_1) * 2) (xs := a) (fz := z0) (e := y0) (es := 2) (d := (some (path 12 19))) (by kernel_rfl) (by kernel_rfl) (by kernel_rfl) (Int.toNat x8_1) 0 (0, 0) (by first | rfl | omega) (row_len (inRow_toNat b2) (by simp)) rfl rfl) (σ' := [(0, s0 0 a.length), (1, ii b), (2, ii c), (7, ii x7_1), (8, ii x8_1), (19, ii ((List.getD a (Int.toNat x8_1) (0, 0)).1))]) (by kernel_rfl) ?_
        refine XR.runS E0_ok 1 3 [(0, s0 0 a.length), (1, ii b), (2, ii c), (7, ii x7_1), (8, ii x8_1), (22, .bool (decide (((List.getD a (Int.toNat x8_1) (0, 0)).1) ≥ b)))] rfl (by kernel_rfl) ?_
        cases b3 : (decide (((List.getD a (Int.toNat x8_1) (0, 0)).1) ≥ b) : Bool) with
        | true =>
          have h := cT b3 h
          refine XR.runS E0_ok 1 2 [(0, s0 0 a.length), (1, ii b), (2, ii c), (7, ii x7_1), (8, ii x8_1), (22, .bool true), (23, s0 0 a.length), (24, ii x8_1)] rfl (by kernel_rfl) ?_
          refine XR.rd E0_ok [0, 1, 2, 7, 8, 22, 25] rfl (v := pp 0 ((Int.toNat x8_1) * 2)) (v_idx (s := 2) (x := (src 34 (.tmp 23))) (y := (src 34 (.tmp 24))) (b := 0) (o := 0) (len := a.length) (cap := a.length) (ik := .i64) (i := x8_1) (off := (Int.toNat x8_1) * 2) (d := (some (path 12 25))) (by kernel_rfl) (by kernel_rfl) (by kernel_rfl) b2 (by omega)) (σ' := [(0, s0 0 a.length), (1, ii b), (2, ii c), (7, ii x7_1), (8, ii x8_1), (22, .bool true), (25, pp 0 ((Int.toNat x8_1) * 2))]) (by kernel_rfl) ?_
          refine XR.runS E0_ok 1 1 [(0, s0 0 a.length), (1, ii b), (2, ii c), (7, ii x7_1), (8, ii x8_1), (22, .bool true), (26, pp 0 ((Int.toNat x8_1) * 2 + 1))] rfl (by kernel_rfl) ?_
          refine XR.rd E0_ok [0, 1, 2, 7, 8, 22, 27] rfl (v := ii ((List.getD a (Int.toNat x8_1) (0, 0)).2)) (v_load1 encP_ok (x := (src 34 (.tmp 26))) (b := 0) (off := (Int.toNat x8_1) * 2 + 1) (xs := a) (fz := z0) (e := y0) (es := 2) (d := (some (path 12 27))) (by kernel_rfl) (by kernel_rfl) (by kernel_rfl) (Int.toNat x8_1) 1 (0, 0) (by first | rfl | omega) (row_len (inRow_toNat b2) (by simp)) rfl rfl) (σ' := [(0, s0 0 a.length), (1, ii b), (2, ii c), (7, ii x7_1), (8, ii x8_1), (22, .bool true), (27, ii ((List.getD a (Int.toNat x8_1) (0, 0)).2))]) (by kernel_rfl) ?_
          refine XR.runS E0_ok 1 3 [(0, s0 0 a.length), (1, ii b), (2, ii c), (7, ii x7_1), (8, ii x8_1), (30, .bool (decide (((List.getD a (Int.toNat x8_1) (0, 0)).2) ≤ c)))] rfl (by kernel_rfl) ?_
          refine XR.done (by kernel_rfl) ?_
          show XQ _ _ _ _ _ _ _ _
          refine XQ.meetC (σ' := [(0, s0 0 a.length), (1, ii b), (2, ii c), (7, ii (cond (decide (((List.getD a (Int.toNat x8_1) (0, 0)).2) ≤ c)) (w64 (x7_1 + 1)) x7_1)), (8, ii x8_1)]) (h' := [(0, rc encP a z0 y0 2)]) (c' := 1) ?_ ?_
          rotate_left
          · refine XQ.cond (s := (.tmp 30)) (b := decide (((List.getD a (Int.toNat x8_1) (0, 0)).2) ≤ c)) (by kernel_rfl) (by kernel_rfl) (fun b4 => ?_) (fun b4 => ?_)
            · refine XQ.region (by kernel_rfl) ?_
              refine XR.runS E0_ok 1 3 [(0, s0 0 a.length), (1, ii b), (2, ii c), (7, ii (w64 (x7_1 + 1))), (8, ii x8_1)] rfl (by kernel_rfl) ?_
              refine XR.done (by kernel_rfl) ?_
              refine ⟨rfl, ?_, ?_⟩
              · try rw [b4]
                exact ⟨by kernel_rfl, by kernel_rfl, by kernel_rfl, by kernel_rfl, by kernel_rfl, trivial⟩
              · try rw [b4]
                kernel_rfl
            · refine XQ.skip (by kernel_rfl) ?_
              refine ⟨rfl, ?_, ?_⟩
              · try rw [b4]
                exact ⟨by kernel_rfl, by kernel_rfl, by kernel_rfl, by kernel_rfl, by kernel_rfl, trivial⟩
              · try rw [b4]
                kernel_rfl
          show XQ _ _ _ _ _ _ _ _
          refine XQ.region (by kernel_rfl) ?_
          refine XR.runS E0_ok 1 3 [(0, s0 0 a.length), (1, ii b), (2, ii c), (7, ii (cond (decide (((List.getD a (Int.toNat x8_1) (0, 0)).2) ≤ c)) (w64 (x7_1 + 1)) x7_1)), (8, ii (w64 (x8_1 + 1)))] rfl (by kernel_rfl) ?_
          refine XR.done (by kernel_rfl) ?_
          show XL _ _ _ _ _ _ _ _ _
          refine XL.ren (σ' := [(0, s0 0 a.length), (1, ii b), (2, ii c), (7, ii (cond (decide (((List.getD a (Int.toNat x8_1) (0, 0)).2) ≤ c)) (w64 (x7_1 + 1)) x7_1)), (8, ii (w64 (x8_1 + 1)))]) (h' := [(0, rc encP a z0 y0 2)]) (c' := 1) [0] (by decide) rfl ⟨by kernel_rfl, by kernel_rfl, by kernel_rfl, by kernel_rfl, by kernel_rfl, trivial⟩ ⟨⟨_, _, rfl, rfl, .inl ⟨rfl, rowC_scal encP_ok _⟩⟩, trivial⟩ rfl ?_
          refine XL.conv (f66_1_ok m fuel z0 y0 a b c (cond (decide (((List.getD a (Int.toNat x8_1) (0, 0)).2) ≤ c)) (w64 (x7_1 + 1)) x7_1) (w64 (x8_1 + 1)) o h Q hQ) (by first | rfl | simp)
        | false =>
          have h := cF b3 h
          refine XR.runS E0_ok 1 8 [(0, s0 0 a.length), (1, ii b), (2, ii c), (7, ii x7_1), (8, ii x8_1), (30, .bool false)] rfl (by kernel_rfl) ?_
          refine XR.done (by kernel_rfl) ?_
          show XQ _ _ _ _ _ _ _ _
          refine XQ.cond (s := (.tmp 30)) (b := false) (by kernel_rfl) (by kernel_rfl) (fun q => by cases q) (fun _ => ?_)
          refine XQ.skip (by kernel_rfl) ?_
          show XQ _ _ _ _ _ _ _ _
          refine XQ.region (by kernel_rfl) ?_
          refine XR.runS E0_ok 1 3 [(0, s0 0 a.length), (1, ii b), (2, ii c), (7, ii x7_1), (8, ii (w64 (x8_1 + 1)))] rfl (by kernel_rfl) ?_
          refine XR.done (by kernel_rfl) ?_
          show XL _ _ _ _ _ _ _ _ _
          refine XL.ren (σ' := [(0, s0 0 a.length), (1, ii b), (2, ii c), (7, ii x7_1), (8, ii (w64 (x8_1 + 1)))]) (h' := [(0, rc encP a z0 y0 2)]) (c' := 1) [0] (by decide) rfl ⟨by kernel_rfl, by kernel_rfl, by kernel_rfl, by kernel_rfl, by kernel_rfl, trivial⟩ ⟨⟨_, _, rfl, rfl, .inl ⟨rfl, rowC_scal encP_ok _⟩⟩, trivial⟩ rfl ?_
          refine XL.conv (f66_1_ok m fuel z0 y0 a b c x7_1 (w64 (x8_1 + 1)) o h Q hQ) (by first | rfl | simp)
    | false =>
      have h := cF b1 h
      refine XQ.cond (s := (.tmp 12)) (b := false) (by kernel_rfl) (by kernel_rfl) (fun q => by cases q) (fun _ => ?_)
      refine XQ.ren (σ' := [(7, ii x7_1)]) (h' := [(0, rc encP a z0 y0 2)]) (c' := 1) [0] (by decide) rfl ⟨by kernel_rfl, trivial⟩ ⟨⟨_, _, rfl, rfl, .inl ⟨rfl, rowC_scal encP_ok _⟩⟩, trivial⟩ rfl ?_
      refine XQ.exit (i := 0) (by kernel_rfl) ?_
      cases h
      exact hQ

def f66 (m : Nat) (a : List (Int × Int)) (b : Int) (c : Int) : Option (Int) :=
  (f66_1 m m a b c 0 0).bind fun o1 =>
    some (o1)

theorem f66_ok (m : Nat) (z0 : Nat) (y0 : Nat) (a : List (Int × Int)) (b : Int) (c : Int) (o : Int) (h : f66 m a b c = some o) : KC E0 66 [s0 0 a.length, ii b, ii c] [(0, rc encP a z0 y0 2)] 1 (fun v _ _ => v = ii o) := by
  refine KC.bodyN E0_ok (F := Proofs.Try.f66) (by kernel_rfl) (code := f66_C66) (by kernel_rfl) (nt := 34) (by kernel_rfl) (rs := [.tmp 6]) (by kernel_rfl) (by kernel_rfl) (σ := [(0, s0 0 a.length), (1, ii b), (2, ii c)]) (by kernel_rfl) ?_
  unfold f66 at h
  refine XQ.seq E0_ok (by kernel_rfl) ?_
  refine XQ.region (by kernel_rfl) ?_
  refine XR.runS E0_ok 1 1 [(0, s0 0 a.length), (1, ii b), (2, ii c)] rfl (by kernel_rfl) ?_
  refine XR.done (by kernel_rfl) ?_
  show XQ _ _ _ _ _ _ _ _
  refine XQ.seq E0_ok (by kernel_rfl) ?_
  refine XQ.region (by kernel_rfl) ?_
  refine XR.runS E0_ok 1 1 [(0, s0 0 a.length), (1, ii b), (2, ii c), (7, ii 0)] rfl (by kernel_rfl) ?_
  refine XR.done (by kernel_rfl) ?_
  show XQ _ _ _ _ _ _ _ _
  refine XQ.seq E0_ok (by kernel_rfl) ?_
  refine XQ.seq E0_ok (by kernel_rfl) ?_
  refine XQ.region (by kernel_rfl) ?_
  refine XR.runS E0_ok 1 1 [(0, s0 0 a.length), (1, ii b), (2, ii c), (7, ii 0), (8, ii 0)] rfl (by kernel_rfl) ?_
  refine XR.done (by kernel_rfl) ?_
  show XQ _ _ _ _ _ _ _ _
  refine XQ.block (id := 0) (by kernel_rfl) ?_
  refine XQ.loop m (by kernel_rfl) ?_
  obtain ⟨o1, o1_h, h⟩ := bS h
  refine XL.ren (σ' := [(0, s0 0 a.length), (1, ii b), (2, ii c), (7, ii 0), (8, ii 0)]) (h' := [(0, rc encP a z0 y0 2)]) (c' := 1) [0] (by decide) rfl ⟨by kernel_rfl, by kernel_rfl, by kernel_rfl, by kernel_rfl, by kernel_rfl, trivial⟩ ⟨⟨_, _, rfl, rfl, .inl ⟨rfl, rowC_scal encP_ok _⟩⟩, trivial⟩ rfl ?_
  refine XL.conv (f66_1_ok m m z0 y0 a b c 0 0 o1 o1_h _ ?_) (by first | rfl | simp)
  show XQ _ _ _ _ _ _ _ _
  refine XQ.seq E0_ok (by kernel_rfl) ?_
  refine XQ.region (by kernel_rfl) ?_
  refine XR.runS E0_ok 1 2 [(6, ii o1)] rfl (by kernel_rfl) ?_
  refine XR.done (by kernel_rfl) ?_
  show XQ _ _ _ _ _ _ _ _
  refine XQ.ret (by kernel_rfl) ?_
  have h := Option.some.inj h
  subst h
  exact ⟨fun i q => (by cases q), ii o1, (by kernel_rfl), rfl⟩

/-! vitola/vitolaref02.why -/
noncomputable def f69_C69 : Code := Proofs.Try.f69.body.getD .skip
noncomputable def f69_L1 : Code := lft (lft (rgt (lft (rgt f69_C69))))
noncomputable def f69_L2 : Code := lft (lft (rgt (lft (lft (rgt f69_L1)))))

inductive Of69_2 where
  | r (x5_r2 : Int)
  | x2

def f69_2 (m : Nat) : Nat → List (Int × Int) → Int → Int → Int → Option Of69_2
  | 0, _, _, _, _ => none
  | fuel + 1, a, b, x7_1, x8_2 =>
    cond (decide (x8_2 ≤ 23)) (
      (f66 m a x7_1 x8_2).bind fun r9 =>
        cond (decide (r9 > (w64 (b * (w64 ((w64 (x8_2 - x7_1)) + 1)))))) (
          some (.r x8_2)
        ) (
          f69_2 m fuel a b x7_1 (w64 (x8_2 + 1))
        )
    ) (
      some (.x2)
    )

theorem f69_2_ok (m : Nat) : ∀ (fuel : Nat) (z0 : Nat) (y0 : Nat) (a : List (Int × Int)) (b : Int) (x7_1 : Int) (x8_2 : Int) (o : Of69_2), f69_2 m fuel a b x7_1 x8_2 = some o → ∀ Q : QP, (match o with | .r x5_r2 => Q .ret [(4, ii x7_1), (5, ii x5_r2), (6, .bool true)] [(0, rc encP a z0 y0 2)] 1 | .x2 => Q (.exit 2) [(0, s0 0 a.length), (1, ii b), (7, ii x7_1)] [(0, rc encP a z0 y0 2)] 1) → XL E0 31 1 fuel f69_L2 [(0, s0 0 a.length), (1, ii b), (7, ii x7_1), (8, ii x8_2)] [(0, rc encP a z0 y0 2)] 1 Q
  | 0, z0, y0, a, b, x7_1, x8_2, o, h, Q, hQ => by cases h
  | fuel + 1, z0, y0, a, b, x7_1, x8_2, o, h, Q, hQ => by
    unfold f69_2 at h
    refine XL.succ E0_ok ?_
    refine XQ.seq E0_ok (by kernel_rfl) ?_
    refine XQ.seq E0_ok (by kernel_rfl) ?_
    refine XQ.region (by kernel_rfl) ?_
    refine XR.runS E0_ok 1 2 [(0, s0 0 a.length), (1, ii b), (7, ii x7_1), (8, ii x8_2), (15, .bool (decide (x8_2 ≤ 23)))] rfl (by kernel_rfl) ?_
    refine XR.done (by kernel_rfl) ?_
    show XQ _ _ _ _ _ _ _ _
    cases b1 : (decide (x8_2 ≤ 23) : Bool) with
    | true =>
      have h := cT b1 h
      refine XQ.cond (s := (.tmp 15)) (b := true) (by kernel_rfl) (by kernel_rfl) (fun _ => ?_) (fun q => by cases q)
      refine XQ.skip (by kernel_rfl) ?_
      show XQ _ _ _ _ _ _ _ _
      refine XQ.seq E0_ok (by kernel_rfl) ?_
      refine XQ.block (id := 3) (by kernel_rfl) ?_
      refine XQ.seq E0_ok (by kernel_rfl) ?_
      refine XQ.region (by kernel_rfl) ?_
      refine XR.runS E0_ok 1 3 [(0, s0 0 a.length), (1, ii b), (7, ii x7_1), (8, ii x8_2), (18, s0 0 a.length), (19, ii x7_1), (20, ii x8_2)] rfl (by kernel_rfl) ?_
      obtain ⟨r9, r9_h, h⟩ := bS h
      refine XR.call E0_ok [0, 1, 7, 8, 21] rfl (K := 66) (args := [s0 0 a.length, ii x7_1, ii x8_2]) (d := (some (path 12 21))) (by kernel_rfl) (KQ.call (KC.quiet E0_ok (args0 := [s0 0 a.length, ii x7_1, ii x8_2]) (h0 := [(0, rc encP a (z0 + ((rowC encP a).length + 1)) y0 2)]) (n := 1) (V := ii r9) [0] (f66_ok m (z0 + ((rowC encP a).length + 1)) y0 a x7_1 x8_2 r9 r9_h) rfl (by rfl) (by decide) rfl (by kernel_rfl) ⟨⟨_, _, rfl, rfl, .inl ⟨rfl, rowC_scal encP_ok _⟩⟩, trivial⟩) rfl) ?_
      rintro _ _ _ ⟨rfl, rfl, rfl⟩
      refine XR.conv (σ' := [(0, s0 0 a.length), (1, ii b), (7, ii x7_1), (8, ii x8_2), (21, ii r9)]) (h' := [(0, rc encP a z0 y0 2)]) (c' := 1) ?_ (by kernel_rfl)
      refine XR.runS E0_ok 1 7 [(0, s0 0 a.length), (1, ii b), (7, ii x7_1), (8, ii x8_2), (28, .bool (decide (r9 > (w64 (b * (w64 ((w64 (x8_2 - x7_1)) + 1)))))))] rfl (by kernel_rfl) ?_
      refine XR.done (by kernel_rfl) ?_
      show XQ _ _ _ _ _ _ _ _
      cases b2 : (decide (r9 > (w64 (b * (w64 ((w64 (x8_2 - x7_1)) + 1))))) : Bool) with
      | true =>
        have h := cT b2 h
        refine XQ.cond (s := (.tmp 28)) (b := true) (by kernel_rfl) (by kernel_rfl) (fun _ => ?_) (fun q => by cases q)
        refine XQ.seq E0_ok (by kernel_rfl) ?_
        refine XQ.region (by kernel_rfl) ?_
        refine XR.runS E0_ok 1 5 [(4, ii x7_1), (5, ii x8_2), (6, .bool true)] rfl (by kernel_rfl) ?_
        refine XR.done (by kernel_rfl) ?_
        show XQ _ _ _ _ _ _ _ _
        refine XQ.ren (σ' := [(4, ii x7_1), (5, ii x8_2), (6, .bool true)]) (h' := [(0, rc encP a z0 y0 2)]) (c' := 1) [0] (by decide) rfl ⟨by kernel_rfl, by kernel_rfl, by kernel_rfl, trivial⟩ ⟨⟨_, _, rfl, rfl, .inl ⟨rfl, rowC_scal encP_ok _⟩⟩, trivial⟩ rfl ?_
        refine XQ.ret (by kernel_rfl) ?_
        cases h
        exact hQ
      | false =>
        have h := cF b2 h
        refine XQ.cond (s := (.tmp 28)) (b := false) (by kernel_rfl) (by kernel_rfl) (fun q => by cases q) (fun _ => ?_)
        refine XQ.skip (by kernel_rfl) ?_
        show XQ _ _ _ _ _ _ _ _
        refine XQ.region (by kernel_rfl) ?_
        refine XR.runS E0_ok 1 3 [(0, s0 0 a.length), (1, ii b), (7, ii x7_1), (8, ii (w64 (x8_2 + 1)))] rfl (by kernel_rfl) ?_
        refine XR.done (by kernel_rfl) ?_
        show XL _ _ _ _ _ _ _ _ _
        refine XL.ren (σ' := [(0, s0 0 a.length), (1, ii b), (7, ii x7_1), (8, ii (w64 (x8_2 + 1)))]) (h' := [(0, rc encP a z0 y0 2)]) (c' := 1) [0] (by decide) rfl ⟨by kernel_rfl, by kernel_rfl, by kernel_rfl, by kernel_rfl, trivial⟩ ⟨⟨_, _, rfl, rfl, .inl ⟨rfl, rowC_scal encP_ok _⟩⟩, trivial⟩ rfl ?_
        refine XL.conv (f69_2_ok m fuel z0 y0 a b x7_1 (w64 (x8_2 + 1)) o h Q hQ) (by first | rfl | simp)
    | false =>
      have h := cF b1 h
      refine XQ.cond (s := (.tmp 15)) (b := false) (by kernel_rfl) (by kernel_rfl) (fun q => by cases q) (fun _ => ?_)
      refine XQ.ren (σ' := [(0, s0 0 a.length), (1, ii b), (7, ii x7_1)]) (h' := [(0, rc encP a z0 y0 2)]) (c' := 1) [0] (by decide) rfl ⟨by kernel_rfl, by kernel_rfl, by kernel_rfl, trivial⟩ ⟨⟨_, _, rfl, rfl, .inl ⟨rfl, rowC_scal encP_ok _⟩⟩, trivial⟩ rfl ?_
      refine XQ.exit (i := 2) (by kernel_rfl) ?_
      cases h
      exact hQ

inductive Of69_1 where
  | r (x4_r1 : Int) (x5_r1 : Int)
  | x0

def f69_1 (m : Nat) : Nat → List (Int × Int) → Int → Int → Option Of69_1
  | 0, _, _, _ => none
  | fuel + 1, a, b, x7_1 =>
    cond (decide (x7_1 ≤ 23)) (
      (f69_2 m m a b x7_1 x7_1).bind fun o2 =>
        match o2 with
        | .r x5_r2 =>
          some (.r x7_1 x5_r2)
        | .x2 =>
          f69_1 m fuel a b (w64 (x7_1 + 1))
    ) (
      some (.x0)
    )

theorem f69_1_ok (m : Nat) : ∀ (fuel : Nat) (z0 : Nat) (y0 : Nat) (a : List (Int × Int)) (b : Int) (x7_1 : Int) (o : Of69_1), f69_1 m fuel a b x7_1 = some o → ∀ Q : QP, (match o with | .r x4_r1 x5_r1 => Q .ret [(4, ii x4_r1), (5, ii x5_r1), (6, .bool true)] [(0, rc encP a z0 y0 2)] 1 | .x0 => Q (.exit 0) [] [(0, rc encP a z0 y0 2)] 1) → XL E0 31 1 fuel f69_L1 [(0, s0 0 a.length), (1, ii b), (7, ii x7_1)] [(0, rc encP a z0 y0 2)] 1 Q
  | 0, z0, y0, a, b, x7_1, o, h, Q, hQ => by cases h
  | fuel + 1, z0, y0, a, b, x7_1, o, h, Q, hQ => by
    unfold f69_1 at h
    refine XL.succ E0_ok ?_
    refine XQ.seq E0_ok (by kernel_rfl) ?_
    refine XQ.seq E0_ok (by kernel_rfl) ?_
    refine XQ.region (by kernel_rfl) ?_
    refine XR.runS E0_ok 1 2 [(0, s0 0 a.length), (1, ii b), (7, ii x7_1), (10, .bool (decide (x7_1 ≤ 23)))] rfl (by kernel_rfl) ?_
    refine XR.done (by kernel_rfl) ?_
    show XQ _ _ _ _ _ _ _ _
    cases b1 : (decide (x7_1 ≤ 23) : Bool) with
    | true =>
      have h := cT b1 h
      refine XQ.cond (s := (.tmp 10)) (b := true) (by kernel_rfl) (by kernel_rfl) (fun _ => ?_) (fun q => by cases q)
      refine XQ.skip (by kernel_rfl) ?_
      show XQ _ _ _ _ _ _ _ _
      refine XQ.seq E0_ok (by kernel_rfl) ?_
      refine XQ.block (id := 1) (by kernel_rfl) ?_
      refine XQ.seq E0_ok (by kernel_rfl) ?_
      refine XQ.region (by kernel_rfl) ?_
      refine XR.runS E0_ok 1 2 [(0, s0 0 a.length), (1, ii b), (7, ii x7_1), (8, ii x7_1)] rfl (by kernel_rfl) ?_
      refine XR.done (by kernel_rfl) ?_
      show XQ _ _ _ _ _ _ _ _
      refine XQ.block (id := 2) (by kernel_rfl) ?_
      refine XQ.loop m (by kernel_rfl) ?_
      obtain ⟨o2, o2_h, h⟩ := bS h
      refine XL.ren (σ' := [(0, s0 0 a.length), (1, ii b), (7, ii x7_1), (8, ii x7_1)]) (h' := [(0, rc encP a z0 y0 2)]) (c' := 1) [0] (by decide) rfl ⟨by kernel_rfl, by kernel_rfl, by kernel_rfl, by kernel_rfl, trivial⟩ ⟨⟨_, _, rfl, rfl, .inl ⟨rfl, rowC_scal encP_ok _⟩⟩, trivial⟩ rfl ?_
      cases o2 with
      | r x5_r2 =>
        dsimp only at h
        refine XL.conv (f69_2_ok m m z0 y0 a b x7_1 x7_1 (.r x5_r2) o2_h _ ?_) (by first | rfl | simp)
        cases h
        exact hQ
      | x2 =>
        dsimp only at h
        refine XL.conv (f69_2_ok m m z0 y0 a b x7_1 x7_1 (.x2) o2_h _ ?_) (by first | rfl | simp)
        show XQ _ _ _ _ _ _ _ _
        refine XQ.region (by kernel_rfl) ?_
        refine XR.runS E0_ok 1 3 [(0, s0 0 a.length), (1, ii b), (7, ii (w64 (x7_1 + 1)))] rfl (by kernel_rfl) ?_
        refine XR.done (by kernel_rfl) ?_
        show XL _ _ _ _ _ _ _ _ _
        refine XL.ren (σ' := [(0, s0 0 a.length), (1, ii b), (7, ii (w64 (x7_1 + 1)))]) (h' := [(0, rc encP a z0 y0 2)]) (c' := 1) [0] (by decide) rfl ⟨by kernel_rfl, by kernel_rfl, by kernel_rfl, trivial⟩ ⟨⟨_, _, rfl, rfl, .inl ⟨rfl, rowC_scal encP_ok _⟩⟩, trivial⟩ rfl ?_
        refine XL.conv (f69_1_ok m fuel z0 y0 a b (w64 (x7_1 + 1)) o h Q hQ) (by first | rfl | simp)
    | false =>
      have h := cF b1 h
      refine XQ.cond (s := (.tmp 10)) (b := false) (by kernel_rfl) (by kernel_rfl) (fun q => by cases q) (fun _ => ?_)
      refine XQ.ren (σ' := []) (h' := [(0, rc encP a z0 y0 2)]) (c' := 1) [0] (by decide) rfl trivial ⟨⟨_, _, rfl, rfl, .inl ⟨rfl, rowC_scal encP_ok _⟩⟩, trivial⟩ rfl ?_
      refine XQ.exit (i := 0) (by kernel_rfl) ?_
      cases h
      exact hQ

def f69 (m : Nat) (a : List (Int × Int)) (b : Int) : Option (Int × Int × Bool) :=
  (f69_1 m m a b 0).bind fun o1 =>
    match o1 with
    | .r x4_r1 x5_r1 =>
      some (x4_r1, x5_r1, true)
    | .x0 =>
      some (0, 0, false)

theorem f69_ok (m : Nat) (z0 : Nat) (y0 : Nat) (a : List (Int × Int)) (b : Int) (o : Int × Int × Bool) (h : f69 m a b = some o) : KC E0 69 [s0 0 a.length, ii b] [(0, rc encP a z0 y0 2)] 1 (fun v _ _ => v = .tuple #[ii o.1, ii o.2.1, .bool o.2.2]) := by
  refine KC.bodyN E0_ok (F := Proofs.Try.f69) (by kernel_rfl) (code := f69_C69) (by kernel_rfl) (nt := 31) (by kernel_rfl) (rs := [.tmp 4, .tmp 5, .tmp 6]) (by kernel_rfl) (by kernel_rfl) (σ := [(0, s0 0 a.length), (1, ii b)]) (by kernel_rfl) ?_
  unfold f69 at h
  refine XQ.seq E0_ok (by kernel_rfl) ?_
  refine XQ.region (by kernel_rfl) ?_
  refine XR.runS E0_ok 1 3 [(0, s0 0 a.length), (1, ii b)] rfl (by kernel_rfl) ?_
  refine XR.done (by kernel_rfl) ?_
  show XQ _ _ _ _ _ _ _ _
  refine XQ.seq E0_ok (by kernel_rfl) ?_
  refine XQ.seq E0_ok (by kernel_rfl) ?_
  refine XQ.region (by kernel_rfl) ?_
  refine XR.runS E0_ok 1 1 [(0, s0 0 a.length), (1, ii b), (7, ii 0)] rfl (by kernel_rfl) ?_
  refine XR.done (by kernel_rfl) ?_
  show XQ _ _ _ _ _ _ _ _
  refine XQ.block (id := 0) (by kernel_rfl) ?_
  refine XQ.loop m (by kernel_rfl) ?_
  obtain ⟨o1, o1_h, h⟩ := bS h
  refine XL.ren (σ' := [(0, s0 0 a.length), (1, ii b), (7, ii 0)]) (h' := [(0, rc encP a z0 y0 2)]) (c' := 1) [0] (by decide) rfl ⟨by kernel_rfl, by kernel_rfl, by kernel_rfl, trivial⟩ ⟨⟨_, _, rfl, rfl, .inl ⟨rfl, rowC_scal encP_ok _⟩⟩, trivial⟩ rfl ?_
  cases o1 with
  | r x4_r1 x5_r1 =>
    dsimp only at h
    refine XL.conv (f69_1_ok m m z0 y0 a b 0 (.r x4_r1 x5_r1) o1_h _ ?_) (by first | rfl | simp)
    have h := Option.some.inj h
    subst h
    exact ⟨fun i q => (by cases q), .tuple #[ii x4_r1, ii x5_r1, .bool true], (by kernel_rfl), rfl⟩
  | x0 =>
    dsimp only at h
    refine XL.conv (f69_1_ok m m z0 y0 a b 0 (.x0) o1_h _ ?_) (by first | rfl | simp)
    show XQ _ _ _ _ _ _ _ _
    refine XQ.seq E0_ok (by kernel_rfl) ?_
    refine XQ.region (by kernel_rfl) ?_
    refine XR.runS E0_ok 1 3 [(4, ii 0), (5, ii 0), (6, .bool false)] rfl (by kernel_rfl) ?_
    refine XR.done (by kernel_rfl) ?_
    show XQ _ _ _ _ _ _ _ _
    refine XQ.ret (by kernel_rfl) ?_
    have h := Option.some.inj h
    subst h
    exact ⟨fun i q => (by cases q), .tuple #[ii 0, ii 0, .bool false], (by kernel_rfl), rfl⟩

/-! vitola/vitolaref02.planned -/
noncomputable def f60_C60 : Code := Proofs.Try.f60.body.getD .skip

def f60 (m : Nat) (a : List (Int × Int)) (b : Int) : Option (Bool) :=
  (f69 m a b).bind fun r1 =>
    some (!r1.2.2)

theorem f60_ok (m : Nat) (z0 : Nat) (y0 : Nat) (a : List (Int × Int)) (b : Int) (o : Bool) (h : f60 m a b = some o) : KC E0 60 [s0 0 a.length, ii b] [(0, rc encP a z0 y0 2)] 1 (fun v _ _ => v = .bool o) := by
  refine KC.bodyN E0_ok (F := Proofs.Try.f60) (by kernel_rfl) (code := f60_C60) (by kernel_rfl) (nt := 17) (by kernel_rfl) (rs := [.tmp 4]) (by kernel_rfl) (by kernel_rfl) (σ := [(0, s0 0 a.length), (1, ii b)]) (by kernel_rfl) ?_
  unfold f60 at h
  refine XQ.seq E0_ok (by kernel_rfl) ?_
  refine XQ.region (by kernel_rfl) ?_
  refine XR.runS E0_ok 1 1 [(0, s0 0 a.length), (1, ii b)] rfl (by kernel_rfl) ?_
  refine XR.done (by kernel_rfl) ?_
  show XQ _ _ _ _ _ _ _ _
  refine XQ.seq E0_ok (by kernel_rfl) ?_
  refine XQ.region (by kernel_rfl) ?_
  refine XR.runS E0_ok 1 2 [(9, s0 0 a.length), (10, ii b)] rfl (by kernel_rfl) ?_
  obtain ⟨r1, r1_h, h⟩ := bS h
  refine XR.call E0_ok [11] rfl (K := 69) (args := [s0 0 a.length, ii b]) (d := (some (path 12 11))) (by kernel_rfl) (KQ.call (KC.quiet E0_ok (args0 := [s0 0 a.length, ii b]) (h0 := [(0, rc encP a (z0 + ((rowC encP a).length + 1)) y0 2)]) (n := 1) (V := .tuple #[ii r1.1, ii r1.2.1, .bool r1.2.2]) [0] (f69_ok m (z0 + ((rowC encP a).length + 1)) y0 a b r1 r1_h) rfl (by rfl) (by decide) rfl (by kernel_rfl) ⟨⟨_, _, rfl, rfl, .inl ⟨rfl, rowC_scal encP_ok _⟩⟩, trivial⟩) rfl) ?_
  rintro _ _ _ ⟨rfl, rfl, rfl⟩
  refine XR.conv (σ' := [(11, .tuple #[ii r1.1, ii r1.2.1, .bool r1.2.2])]) (h' := [(0, rc encP a z0 y0 2)]) (c' := 1) ?_ (by kernel_rfl)
  refine XR.runS E0_ok 1 7 [(7, .bool r1.2.2)] rfl (by kernel_rfl) ?_
  refine XR.done (by kernel_rfl) ?_
  show XQ _ _ _ _ _ _ _ _
  refine XQ.seq E0_ok (by kernel_rfl) ?_
  refine XQ.region (by kernel_rfl) ?_
  refine XR.runS E0_ok 1 3 [(4, .bool (!r1.2.2))] rfl (by kernel_rfl) ?_
  refine XR.done (by kernel_rfl) ?_
  show XQ _ _ _ _ _ _ _ _
  refine XQ.ret (by kernel_rfl) ?_
  have h := Option.some.inj h
  subst h
  exact ⟨fun i q => (by cases q), .bool (!r1.2.2), (by kernel_rfl), rfl⟩

/-! vitola/vitolaref02.with -/
noncomputable def f61_C61 : Code := Proofs.Try.f61.body.getD .skip

def f61 (m : Nat) (a : List (Int × Int)) (b : Int) (c : Int) : Option (List (Int × Int)) :=
  cond (fitsB (0 + a.length) 16) (
    cond (inRow b a.length) (
      some (List.set a (Int.toNat b) (c, c))
    ) none
  ) none

theorem f61_ok (m : Nat) (z0 : Nat) (y0 : Nat) (a : List (Int × Int)) (b : Int) (c : Int) (o : List (Int × Int)) (h : f61 m a b c = some o) : KC E0 61 [s0 0 a.length, ii b, ii c] [(0, rc encP a z0 y0 2)] 1 (fun v h' c' => v = s0 1 o.length ∧ h' = [(1, rc encP o 0 83 2)] ++ [(0, rc encP a z0 y0 2)] ∧ c' = 2) := by
  refine KC.bodyN E0_ok (F := Proofs.Try.f61) (by kernel_rfl) (code := f61_C61) (by kernel_rfl) (nt := 18) (by kernel_rfl) (rs := [.tmp 6]) (by kernel_rfl) (by kernel_rfl) (σ := [(0, s0 0 a.length), (1, ii b), (2, ii c)]) (by kernel_rfl) ?_
  unfold f61 at h
  refine XQ.seq E0_ok (by kernel_rfl) ?_
  refine XQ.region (by kernel_rfl) ?_
  refine XR.runS E0_ok 1 1 [(0, s0 0 a.length), (1, ii b), (2, ii c)] rfl (by kernel_rfl) ?_
  refine XR.done (by kernel_rfl) ?_
  show XQ _ _ _ _ _ _ _ _
  refine XQ.seq E0_ok (by kernel_rfl) ?_
  refine XQ.region (by kernel_rfl) ?_
  refine XR.runT E0_ok 1 2 [(1, ii b), (2, ii c), (8, s0 1 0), (9, s0 0 a.length)] [(1, rc encP [] 0 83 2), (0, rc encP a z0 y0 2)] 2 rfl (by kernel_rfl) ?_
  cases b1 : (fitsB (0 + a.length) 16 : Bool) with
  | false => cases (cF b1 h)
  | true =>
    have h := cT b1 h
    refine XR.efX E0_ok [1, 2, 10] rfl (d := (some (path 12 10))) (f := eAppend false 2 16 83 (src 18 (.tmp 8)) (src 18 (.tmp 9))) (by kernel_rfl) (fun _ => eAppendA_ok) (e_appendA encP_ok (bytes := 16) (e := 83) (x := (src 18 (.tmp 8))) (y := (src 18 (.tmp 9))) (b := 1) (len := 0) (cap := 0) (xs := []) (n := a.length) (ys := a) (n' := a.length) (h' := [(2, rc encP a 0 83 2), (0, rc encP a z0 y0 2)]) (Y := s0 0 a.length) (by kernel_rfl) (by kernel_rfl) (by kernel_rfl) (fetch_all encP_ok (ys := a) (fz := z0) (e := y0) (es := 2) (by kernel_rfl) (by simp) (Nat.le_refl _)) (by simp) rfl (by simp) (by simp) b1 (by simp) (by kernel_rfl)) (σ' := [(1, ii b), (2, ii c), (10, s0 2 a.length)]) (by kernel_rfl) ?_
    refine XR.runS E0_ok 1 1 [(1, ii b), (2, ii c), (7, s0 2 a.length)] rfl (by kernel_rfl) ?_
    refine XR.done (by kernel_rfl) ?_
    show XQ _ _ _ _ _ _ _ _
    refine XQ.seq E0_ok (by kernel_rfl) ?_
    refine XQ.region (by kernel_rfl) ?_
    refine XR.runS E0_ok 1 5 [(7, s0 2 a.length), (11, s0 2 a.length), (12, ii b), (15, .agg #[ii c, ii c])] rfl (by kernel_rfl) ?_
    cases b2 : (inRow b a.length : Bool) with
    | false => cases (cF b2 h)
    | true =>
      have h := cT b2 h
      refine XR.rd E0_ok [7, 15, 16] rfl (v := pp 2 ((Int.toNat b) * 2)) (v_idx (s := 2) (x := (src 18 (.tmp 11))) (y := (src 18 (.tmp 12))) (b := 2) (o := 0) (len := a.length) (cap := a.length) (ik := .i64) (i := b) (off := (Int.toNat b) * 2) (d := (some (path 12 16))) (by kernel_rfl) (by kernel_rfl) (by kernel_rfl) b2 (by omega)) (σ' := [(7, s0 2 a.length), (15, .agg #[ii c, ii c]), (16, pp 2 ((Int.toNat b) * 2))]) (by kernel_rfl) ?_
      refine XR.ef E0_ok [7] rfl (e_store encP_ok (size := 2) (x := (src 18 (.tmp 16))) (y := (src 18 (.tmp 15))) (b := 2) (off := (Int.toNat b) * 2) (xs := a) (e := 83) (es := 2) (d := none) (h' := [(2, rc encP (List.set a (Int.toNat b) (c, c)) 0 83 2), (0, rc encP a z0 y0 2)]) (w := .agg #[ii c, ii c]) (ws := [ii c, ii c]) (a := (c, c)) (by kernel_rfl) (by kernel_rfl) (by kernel_rfl) (Int.toNat b) 0 (0, 0) (by first | rfl | omega) (row_len (inRow_toNat b2) (by simp)) (by kernel_rfl) rfl rfl rfl rfl rfl (by kernel_rfl)) (σ' := [(7, s0 2 a.length)]) (by kernel_rfl) ?_
      refine XR.done (by kernel_rfl) ?_
      show XQ _ _ _ _ _ _ _ _
      refine XQ.seq E0_ok (by kernel_rfl) ?_
      refine XQ.region (by kernel_rfl) ?_
      refine XR.runS E0_ok 1 2 [(6, s0 2 a.length)] rfl (by kernel_rfl) ?_
      refine XR.done (by kernel_rfl) ?_
      show XQ _ _ _ _ _ _ _ _
      refine XQ.ren (σ' := [(6, s0 1 a.length)]) (h' := [(1, rc encP (List.set a (Int.toNat b) (c, c)) 0 83 2), (0, rc encP a z0 y0 2)]) (c' := 2) [0, 2] (by decide) rfl ⟨by kernel_rfl, trivial⟩ ⟨⟨_, _, rfl, rfl, .inl ⟨rfl, rowC_scal encP_ok _⟩⟩, ⟨_, _, rfl, rfl, .inl ⟨rfl, rowC_scal encP_ok _⟩⟩, trivial⟩ rfl ?_
      refine XQ.ret (by kernel_rfl) ?_
      have h := Option.some.inj h
      subst h
      exact ⟨fun i q => (by cases q), s0 1 a.length, (by kernel_rfl), (by simp), (by kernel_rfl), rfl⟩

end Go.Xm
