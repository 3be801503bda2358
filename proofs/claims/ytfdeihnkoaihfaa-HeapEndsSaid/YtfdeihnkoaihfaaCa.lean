/- What these functions of the program compute, as functions in Lean, and the proofs that they do: heap.Fewest. Conditions: none. -/
import Derived.Test.YtfdeihnkoaihfaaBd
namespace Go.Xm
open Go.RowKit
set_option linter.unusedVariables false
set_option linter.unusedSimpArgs false
set_option maxRecDepth 20000

/-! vitola/heap.Fewest -/
noncomputable def f29_C29 : Code := Proofs.Try.f29.body.getD .skip
noncomputable def f29_L1 : Code := lft (lft (lft (rgt (rgt (rgt f29_C29)))))

def f29_1 (m : Nat) : Nat → List (Int × Int) → Int → Option Int
  | 0, _, _ => none
  | fuel + 1, a, x5_1 =>
    (f58 m a x5_1).bind fun r3 =>
      cond (!r3) (
        f29_1 m fuel a (w64 (x5_1 + 1))
      ) (
        some (x5_1)
      )

theorem f29_1_ok (m : Nat) : ∀ (fuel : Nat) (z0 : Nat) (y0 : Nat) (a : List (Int × Int)) (x5_1 : Int) (o : Int), f29_1 m fuel a x5_1 = some o → ∀ Q : QP, Q (.exit 0) [(5, ii o)] [(0, rc encP a z0 y0 2)] 1 → XL E0 21 1 fuel f29_L1 [(0, s0 0 a.length), (5, ii x5_1)] [(0, rc encP a z0 y0 2)] 1 Q
  | 0, z0, y0, a, x5_1, o, h, Q, hQ => by cases h
  | fuel + 1, z0, y0, a, x5_1, o, h, Q, hQ => by
    unfold f29_1 at h
    refine XL.succ E0_ok ?_
    refine XQ.seq E0_ok (by kernel_rfl) ?_
    refine XQ.seq E0_ok (by kernel_rfl) ?_
    refine XQ.region (by kernel_rfl) ?_
    refine XR.runS E0_ok 1 2 [(0, s0 0 a.length), (5, ii x5_1), (14, s0 0 a.length), (15, ii x5_1)] rfl (by kernel_rfl) ?_
    obtain ⟨r3, r3_h, h⟩ := bS h
    refine XR.call E0_ok [0, 5, 16] rfl (K := 58) (args := [s0 0 a.length, ii x5_1]) (d := (some (path 12 16))) (by kernel_rfl) (KQ.call (KC.quiet E0_ok (args0 := [s0 0 a.length, ii x5_1]) (h0 := [(0, rc encP a (z0 + ((rowC encP a).length + 1)) y0 2)]) (n := 1) (V := .bool r3) [0] (f58_ok m (z0 + ((rowC encP a).length + 1)) y0 a x5_1 r3 r3_h) rfl (by rfl) (by decide) rfl (by kernel_rfl) ⟨⟨_, _, rfl, rfl, .inl ⟨rfl, rowC_scal encP_ok _⟩⟩, trivial⟩) rfl) ?_
    rintro _ _ _ ⟨rfl, rfl, rfl⟩
    refine XR.conv (σ' := [(0, s0 0 a.length), (5, ii x5_1), (16, .bool r3)]) (h' := [(0, rc encP a z0 y0 2)]) (c' := 1) ?_ (by kernel_rfl)
    refine XR.runS E0_ok 1 1 [(0, s0 0 a.length), (5, ii x5_1), (17, .bool (!r3))] rfl (by kernel_rfl) ?_
    refine XR.done (by kernel_rfl) ?_
    show XQ _ _ _ _ _ _ _ _
    cases b1 : (!r3 : Bool) with
    | true =>
      have h := cT b1 h
      refine XQ.cond (s := (.tmp 17)) (b := true) (by kernel_rfl) (by kernel_rfl) (fun _ => ?_) (fun q => by cases q)
      refine XQ.skip (by kernel_rfl) ?_
      show XQ _ _ _ _ _ _ _ _
      refine XQ.block (id := 1) (by kernel_rfl) ?_
      refine XQ.region (by kernel_rfl) ?_
      refine XR.runS E0_ok 1 3 [(0, s0 0 a.length), (5, ii (w64 (x5_1 + 1)))] rfl (by kernel_rfl) ?_
      refine XR.done (by kernel_rfl) ?_
      show XL _ _ _ _ _ _ _ _ _
      refine XL.ren (σ' := [(0, s0 0 a.length), (5, ii (w64 (x5_1 + 1)))]) (h' := [(0, rc encP a z0 y0 2)]) (c' := 1) [0] (by decide) rfl ⟨by kernel_rfl, by kernel_rfl, trivial⟩ ⟨⟨_, _, rfl, rfl, .inl ⟨rfl, rowC_scal encP_ok _⟩⟩, trivial⟩ rfl ?_
      refine XL.conv (f29_1_ok m fuel z0 y0 a (w64 (x5_1 + 1)) o h Q hQ) (by first | rfl | simp)
    | false =>
      have h := cF b1 h
      refine XQ.cond (s := (.tmp 17)) (b := false) (by kernel_rfl) (by kernel_rfl) (fun q => by cases q) (fun _ => ?_)
      refine XQ.ren (σ' := [(5, ii x5_1)]) (h' := [(0, rc encP a z0 y0 2)]) (c' := 1) [0] (by decide) rfl ⟨by kernel_rfl, trivial⟩ ⟨⟨_, _, rfl, rfl, .inl ⟨rfl, rowC_scal encP_ok _⟩⟩, trivial⟩ rfl ?_
      refine XQ.exit (i := 0) (by kernel_rfl) ?_
      cases h
      exact hQ

def f29 (m : Nat) (a : List (Int × Int)) : Option (Int × Int) :=
  (f23 m a).bind fun r1 =>
    cond (r1 != 0) (
      some (0, r1)
    ) (
      (f29_1 m m a (iMin 1 ((a.length : Nat) : Int))).bind fun o1 =>
        some (o1, 0)
    )

theorem f29_ok (m : Nat) (z0 : Nat) (y0 : Nat) (a : List (Int × Int)) (o : Int × Int) (h : f29 m a = some o) : KC E0 29 [s0 0 a.length] [(0, rc encP a z0 y0 2)] 1 (fun v _ _ => v = .tuple #[ii o.1, ii o.2]) := by
  refine KC.bodyN E0_ok (F := Proofs.Try.f29) (by kernel_rfl) (code := f29_C29) (by kernel_rfl) (nt := 21) (by kernel_rfl) (rs := [.tmp 2, .tmp 3]) (by kernel_rfl) (by kernel_rfl) (σ := [(0, s0 0 a.length)]) (by kernel_rfl) ?_
  unfold f29 at h
  refine XQ.seq E0_ok (by kernel_rfl) ?_
  refine XQ.region (by kernel_rfl) ?_
  refine XR.runS E0_ok 1 2 [(0, s0 0 a.length)] rfl (by kernel_rfl) ?_
  refine XR.done (by kernel_rfl) ?_
  show XQ _ _ _ _ _ _ _ _
  refine XQ.seq E0_ok (by kernel_rfl) ?_
  refine XQ.seq E0_ok (by kernel_rfl) ?_
  refine XQ.region (by kernel_rfl) ?_
  refine XR.runS E0_ok 1 1 [(0, s0 0 a.length), (6, s0 0 a.length)] rfl (by kernel_rfl) ?_
  obtain ⟨r1, r1_h, h⟩ := bS h
  refine XR.call E0_ok [0, 7] rfl (K := 23) (args := [s0 0 a.length]) (d := (some (path 12 7))) (by kernel_rfl) (KQ.call (KC.quiet E0_ok (args0 := [s0 0 a.length]) (h0 := [(0, rc encP a (z0 + ((rowC encP a).length + 1)) y0 2)]) (n := 1) (V := ii r1) [0] (f23_ok m (z0 + ((rowC encP a).length + 1)) y0 a r1 r1_h) rfl (by rfl) (by decide) rfl (by kernel_rfl) ⟨⟨_, _, rfl, rfl, .inl ⟨rfl, rowC_scal encP_ok _⟩⟩, trivial⟩) rfl) ?_
  rintro _ _ _ ⟨rfl, rfl, rfl⟩
  refine XR.conv (σ' := [(0, s0 0 a.length), (7, ii r1)]) (h' := [(0, rc encP a z0 y0 2)]) (c' := 1) ?_ (by kernel_rfl)
  refine XR.runS E0_ok 1 1 [(0, s0 0 a.length), (4, ii r1)] rfl (by kernel_rfl) ?_
  refine XR.done (by kernel_rfl) ?_
  show XQ _ _ _ _ _ _ _ _
  refine XQ.seq E0_ok (by kernel_rfl) ?_
  refine XQ.region (by kernel_rfl) ?_
  refine XR.runS E0_ok 1 2 [(0, s0 0 a.length), (4, ii r1), (9, .bool (r1 != 0))] rfl (by kernel_rfl) ?_
  refine XR.done (by kernel_rfl) ?_
  show XQ _ _ _ _ _ _ _ _
  cases b1 : (r1 != 0 : Bool) with
  | true =>
    have h := cT b1 h
    refine XQ.cond (s := (.tmp 9)) (b := true) (by kernel_rfl) (by kernel_rfl) (fun _ => ?_) (fun q => by cases q)
    refine XQ.seq E0_ok (by kernel_rfl) ?_
    refine XQ.region (by kernel_rfl) ?_
    refine XR.runS E0_ok 1 3 [(2, ii 0), (3, ii r1)] rfl (by kernel_rfl) ?_
    refine XR.done (by kernel_rfl) ?_
    show XQ _ _ _ _ _ _ _ _
    refine XQ.ret (by kernel_rfl) ?_
    have h := Option.some.inj h
    subst h
    exact ⟨fun i q => (by cases q), .tuple #[ii 0, ii r1], (by kernel_rfl), rfl⟩
  | false =>
    have h := cF b1 h
    refine XQ.cond (s := (.tmp 9)) (b := false) (by kernel_rfl) (by kernel_rfl) (fun q => by cases q) (fun _ => ?_)
    refine XQ.skip (by kernel_rfl) ?_
    show XQ _ _ _ _ _ _ _ _
    refine XQ.seq E0_ok (by kernel_rfl) ?_
    refine XQ.region (by kernel_rfl) ?_
    refine XR.runS E0_ok 1 4 [(0, s0 0 a.length), (5, ii (iMin 1 ((a.length : Nat) : Int)))] rfl (by kernel_rfl) ?_
    refine XR.done (by kernel_rfl) ?_
    show XQ _ _ _ _ _ _ _ _
    refine XQ.seq E0_ok (by kernel_rfl) ?_
    refine XQ.block (id := 0) (by kernel_rfl) ?_
    refine XQ.loop m (by kernel_rfl) ?_
    obtain ⟨o1, o1_h, h⟩ := bS h
    refine XL.ren (σ' := [(0, s0 0 a.length), (5, ii (iMin 1 ((a.length : Nat) : Int)))]) (h' := [(0, rc encP a z0 y0 2)]) (c' := 1) [0] (by decide) rfl ⟨by kernel_rfl, by kernel_rfl, trivial⟩ ⟨⟨_, _, rfl, rfl, .inl ⟨rfl, rowC_scal encP_ok _⟩⟩, trivial⟩ rfl ?_
    refine XL.conv (f29_1_ok m m z0 y0 a (iMin 1 ((a.length : Nat) : Int)) o1 o1_h _ ?_) (by first | rfl | simp)
    show XQ _ _ _ _ _ _ _ _
    refine XQ.seq E0_ok (by kernel_rfl) ?_
    refine XQ.region (by kernel_rfl) ?_
    refine XR.runS E0_ok 1 3 [(2, ii o1), (3, ii 0)] rfl (by kernel_rfl) ?_
    refine XR.done (by kernel_rfl) ?_
    show XQ _ _ _ _ _ _ _ _
    refine XQ.ret (by kernel_rfl) ?_
    have h := Option.some.inj h
    subst h
    exact ⟨fun i q => (by cases q), .tuple #[ii o1, ii 0], (by kernel_rfl), rfl⟩

end Go.Xm
