/- What these functions of the program compute, as functions in Lean, and the proofs that they do: wrap.First. Conditions: none. -/
import Derived.Test.YtagagpkjlkoieaaPb
namespace Go.Xm
open Go.RowKit
set_option linter.unusedVariables false
set_option linter.unusedSimpArgs false
set_option maxRecDepth 20000

/-! vitola/wrap.First -/
noncomputable def f43_C43 : Code := Proofs.Try.f43.body.getD .skip

def f43 (m : Nat) (a : Int) (b : Int) (c : Int) (d : Int) : Option (Int × Int) :=
  (f64 m a b).bind fun r1 =>
    cond (!r1) (
      some (0, 1)
    ) (
      cond (decide ((iMin c d) < 0)) (
        some (0, 2)
      ) (
        cond (decide ((iMax c d) ≥ a)) (
          some (0, 2)
        ) (
          cond (decide (c > d)) (
            some (0, 7)
          ) (
            (f62 m m a b c d).bind fun r2 =>
              cond (decide (r2 < 0)) (
                some (0, 12)
              ) (
                some (r2, 0)
              )
          )
        )
      )
    )

theorem f43_ok (m : Nat) (a : Int) (b : Int) (c : Int) (d : Int) (o : Int × Int) (h : f43 m a b c d = some o) (w : World) (hI : anyInv w) : Calls Proofs.Try.prog 43 #[ii a, ii b, ii c, ii d] w fun e w' => e = .returned (.tuple #[ii o.1, ii o.2]) ∧ Below w.heap.size w w' := by
  refine KC.calls (E := E0) (args := [ii a, ii b, ii c, ii d]) (v := .tuple #[ii o.1, ii o.2]) rfl rfl (KC.bodyN E0_ok (F := Proofs.Try.f43) (by kernel_rfl) (code := f43_C43) (by kernel_rfl) (nt := 40) (by kernel_rfl) (rs := [.tmp 8, .tmp 9]) (by kernel_rfl) (by kernel_rfl) (σ := [(0, ii a), (1, ii b), (2, ii c), (3, ii d)]) (by kernel_rfl) ?_) w (anyInv_size hI) hI
  unfold f43 at h
  refine XQ.seq E0_ok (by kernel_rfl) ?_
  refine XQ.region (by kernel_rfl) ?_
  refine XR.runS E0_ok 1 2 [(0, ii a), (1, ii b), (2, ii c), (3, ii d)] rfl (by kernel_rfl) ?_
  refine XR.done (by kernel_rfl) ?_
  show XQ _ _ _ _ _ _ _ _
  refine XQ.seq E0_ok (by kernel_rfl) ?_
  refine XQ.block (id := 0) (by kernel_rfl) ?_
  refine XQ.seq E0_ok (by kernel_rfl) ?_
  refine XQ.region (by kernel_rfl) ?_
  refine XR.runS E0_ok 1 2 [(0, ii a), (1, ii b), (2, ii c), (3, ii d), (12, ii a), (13, ii b)] rfl (by kernel_rfl) ?_
  obtain ⟨r1, r1_h, h⟩ := bS h
  refine XR.call E0_ok [0, 1, 2, 3, 14] rfl (K := 64) (args := [ii a, ii b]) (d := (some (path 12 14))) (by kernel_rfl) (KC.of_calls E0_ok (F := Proofs.Try.f64) (v := .bool r1) (by kernel_rfl) rfl rfl (fun w hI => f64_ok m a b r1 r1_h w hI)) ?_
  rintro _ _ _ ⟨rfl, rfl, rfl⟩
  refine XR.conv (σ' := [(0, ii a), (1, ii b), (2, ii c), (3, ii d), (14, .bool r1)]) (h' := []) (c' := 0) ?_ (by kernel_rfl)
  refine XR.runS E0_ok 1 2 [(0, ii a), (1, ii b), (2, ii c), (3, ii d), (11, .bool (!r1))] rfl (by kernel_rfl) ?_
  refine XR.done (by kernel_rfl) ?_
  show XQ _ _ _ _ _ _ _ _
  cases b1 : (!r1 : Bool) with
  | true =>
    have h := cT b1 h
    refine XQ.cond (s := (.tmp 11)) (b := true) (by kernel_rfl) (by kernel_rfl) (fun _ => ?_) (fun q => by cases q)
    refine XQ.seq E0_ok (by kernel_rfl) ?_
    refine XQ.region (by kernel_rfl) ?_
    refine XR.runS E0_ok 1 2 [(8, ii 0), (9, ii 1)] rfl (by kernel_rfl) ?_
    refine XR.done (by kernel_rfl) ?_
    show XQ _ _ _ _ _ _ _ _
    refine XQ.ret (by kernel_rfl) ?_
    have h := Option.some.inj h
    subst h
    exact ⟨fun i q => (by cases q), .tuple #[ii 0, ii 1], (by kernel_rfl), rfl⟩
  | false =>
    have h := cF b1 h
    refine XQ.cond (s := (.tmp 11)) (b := false) (by kernel_rfl) (by kernel_rfl) (fun q => by cases q) (fun _ => ?_)
    refine XQ.seq E0_ok (by kernel_rfl) ?_
    refine XQ.region (by kernel_rfl) ?_
    refine XR.runS E0_ok 1 5 [(0, ii a), (1, ii b), (2, ii c), (3, ii d), (21, .bool (decide ((iMin c d) < 0)))] rfl (by kernel_rfl) ?_
    cases b2 : (decide ((iMin c d) < 0) : Bool) with
    | true =>
      have h := cT b2 h
      refine XR.runS E0_ok 1 7 [(0, ii a), (1, ii b), (2, ii c), (3, ii d), (16, .bool true)] rfl (by kernel_rfl) ?_
      refine XR.done (by kernel_rfl) ?_
      show XQ _ _ _ _ _ _ _ _
      refine XQ.cond (s := (.tmp 16)) (b := true) (by kernel_rfl) (by kernel_rfl) (fun _ => ?_) (fun q => by cases q)
      refine XQ.seq E0_ok (by kernel_rfl) ?_
      refine XQ.region (by kernel_rfl) ?_
      refine XR.runS E0_ok 1 2 [(8, ii 0), (9, ii 2)] rfl (by kernel_rfl) ?_
      refine XR.done (by kernel_rfl) ?_
      show XQ _ _ _ _ _ _ _ _
      refine XQ.ret (by kernel_rfl) ?_
      have h := Option.some.inj h
      subst h
      exact ⟨fun i q => (by cases q), .tuple #[ii 0, ii 2], (by kernel_rfl), rfl⟩
    | false =>
      have h := cF b2 h
      refine XR.runS E0_ok 1 7 [(0, ii a), (1, ii b), (2, ii c), (3, ii d), (16, .bool (decide ((iMax c d) ≥ a)))] rfl (by kernel_rfl) ?_
      refine XR.done (by kernel_rfl) ?_
      show XQ _ _ _ _ _ _ _ _
      cases b3 : (decide ((iMax c d) ≥ a) : Bool) with
      | true =>
        have h := cT b3 h
        refine XQ.cond (s := (.tmp 16)) (b := true) (by kernel_rfl) (by kernel_rfl) (fun _ => ?_) (fun q => by cases q)
        refine XQ.seq E0_ok (by kernel_rfl) ?_
        refine XQ.region (by kernel_rfl) ?_
        refine XR.runS E0_ok 1 2 [(8, ii 0), (9, ii 2)] rfl (by kernel_rfl) ?_
        refine XR.done (by kernel_rfl) ?_
        show XQ _ _ _ _ _ _ _ _
        refine XQ.ret (by kernel_rfl) ?_
        have h := Option.some.inj h
        subst h
        exact ⟨fun i q => (by cases q), .tuple #[ii 0, ii 2], (by kernel_rfl), rfl⟩
      | false =>
        have h := cF b3 h
        refine XQ.cond (s := (.tmp 16)) (b := false) (by kernel_rfl) (by kernel_rfl) (fun q => by cases q) (fun _ => ?_)
        refine XQ.seq E0_ok (by kernel_rfl) ?_
        refine XQ.region (by kernel_rfl) ?_
        refine XR.runS E0_ok 1 4 [(0, ii a), (1, ii b), (2, ii c), (3, ii d), (28, .bool (decide (c > d)))] rfl (by kernel_rfl) ?_
        refine XR.done (by kernel_rfl) ?_
        show XQ _ _ _ _ _ _ _ _
        cases b4 : (decide (c > d) : Bool) with
        | true =>
          have h := cT b4 h
          refine XQ.cond (s := (.tmp 28)) (b := true) (by kernel_rfl) (by kernel_rfl) (fun _ => ?_) (fun q => by cases q)
          refine XQ.seq E0_ok (by kernel_rfl) ?_
          refine XQ.region (by kernel_rfl) ?_
          refine XR.runS E0_ok 1 2 [(8, ii 0), (9, ii 7)] rfl (by kernel_rfl) ?_
          refine XR.done (by kernel_rfl) ?_
          show XQ _ _ _ _ _ _ _ _
          refine XQ.ret (by kernel_rfl) ?_
          have h := Option.some.inj h
          subst h
          exact ⟨fun i q => (by cases q), .tuple #[ii 0, ii 7], (by kernel_rfl), rfl⟩
        | false =>
          have h := cF b4 h
          refine XQ.cond (s := (.tmp 28)) (b := false) (by kernel_rfl) (by kernel_rfl) (fun q => by cases q) (fun _ => ?_)
          refine XQ.skip (by kernel_rfl) ?_
          show XQ _ _ _ _ _ _ _ _
          refine XQ.seq E0_ok (by kernel_rfl) ?_
          refine XQ.region (by kernel_rfl) ?_
          refine XR.runS E0_ok 1 4 [(32, ii a), (33, ii b), (34, ii c), (35, ii d)] rfl (by kernel_rfl) ?_
          obtain ⟨r2, r2_h, h⟩ := bS h
          refine XR.call E0_ok [36] rfl (K := 62) (args := [ii a, ii b, ii c, ii d]) (d := (some (path 12 36))) (by kernel_rfl) (KC.of_calls E0_ok (F := Proofs.Try.f62) (v := ii r2) (by kernel_rfl) rfl rfl (fun w hI => f62_ok m m a b c d r2 r2_h w hI)) ?_
          rintro _ _ _ ⟨rfl, rfl, rfl⟩
          refine XR.conv (σ' := [(36, ii r2)]) (h' := []) (c' := 0) ?_ (by kernel_rfl)
          refine XR.runS E0_ok 1 1 [(10, ii r2)] rfl (by kernel_rfl) ?_
          refine XR.done (by kernel_rfl) ?_
          show XQ _ _ _ _ _ _ _ _
          refine XQ.seq E0_ok (by kernel_rfl) ?_
          refine XQ.seq E0_ok (by kernel_rfl) ?_
          refine XQ.region (by kernel_rfl) ?_
          refine XR.runS E0_ok 1 2 [(10, ii r2), (38, .bool (decide (r2 < 0)))] rfl (by kernel_rfl) ?_
          refine XR.done (by kernel_rfl) ?_
          show XQ _ _ _ _ _ _ _ _
          cases b5 : (decide (r2 < 0) : Bool) with
          | true =>
            have h := cT b5 h
            refine XQ.cond (s := (.tmp 38)) (b := true) (by kernel_rfl) (by kernel_rfl) (fun _ => ?_) (fun q => by cases q)
            refine XQ.seq E0_ok (by kernel_rfl) ?_
            refine XQ.region (by kernel_rfl) ?_
            refine XR.runS E0_ok 1 2 [(8, ii 0), (9, ii 12)] rfl (by kernel_rfl) ?_
            refine XR.done (by kernel_rfl) ?_
            show XQ _ _ _ _ _ _ _ _
            refine XQ.ret (by kernel_rfl) ?_
            have h := Option.some.inj h
            subst h
            exact ⟨fun i q => (by cases q), .tuple #[ii 0, ii 12], (by kernel_rfl), rfl⟩
          | false =>
            have h := cF b5 h
            refine XQ.cond (s := (.tmp 38)) (b := false) (by kernel_rfl) (by kernel_rfl) (fun q => by cases q) (fun _ => ?_)
            refine XQ.skip (by kernel_rfl) ?_
            show XQ _ _ _ _ _ _ _ _
            refine XQ.seq E0_ok (by kernel_rfl) ?_
            refine XQ.region (by kernel_rfl) ?_
            refine XR.runS E0_ok 1 3 [(8, ii r2), (9, ii 0)] rfl (by kernel_rfl) ?_
            refine XR.done (by kernel_rfl) ?_
            show XQ _ _ _ _ _ _ _ _
            refine XQ.ret (by kernel_rfl) ?_
            have h := Option.some.inj h
            subst h
            exact ⟨fun i q => (by cases q), .tuple #[ii r2, ii 0], (by kernel_rfl), rfl⟩

end Go.Xm
