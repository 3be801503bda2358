/- What these functions of the program compute, as functions in Lean, and the proofs that they do: vitolalaw05.WrapFirst. Conditions: none. -/
import Derived.Test.YtagagpkjlkoieaaDc
namespace Go.Xm
open Go.RowKit
set_option linter.unusedVariables false
set_option linter.unusedSimpArgs false

/-! vitola/vitolalaw05.WrapFirst -/
noncomputable def f6_C6 : Code := Proofs.Try.f6.body.getD .skip

def f6 (m : Nat) (a : Int) (b : Int) (c : Int) (d : Int) : Option (Bool) :=
  (f43 m a b c d).bind fun r1 =>
    (f44 m a b c d).bind fun r2 =>
      cond (r1.1 == r2.1) (
        cond (r1.2 == r2.2) (
          some (true)
        ) (
          some (false)
        )
      ) (
        some (false)
      )

theorem f6_ok (m : Nat) (a : Int) (b : Int) (c : Int) (d : Int) (o : Bool) (h : f6 m a b c d = some o) (w : World) (hI : anyInv w) : Calls Proofs.Try.prog 6 #[.int .i64 a, .int .i64 b, .int .i64 c, .int .i64 d] w fun e w' => e = .returned (.bool o) ∧ Below w.heap.size w w' := by
  refine KC.calls (E := E0) (args := [.int .i64 a, .int .i64 b, .int .i64 c, .int .i64 d]) (v := .bool o) rfl rfl (KC.bodyN E0_ok (F := Proofs.Try.f6) (by kernel_rfl) (code := f6_C6) (by kernel_rfl) (nt := 40) (by kernel_rfl) (rs := [.tmp 8]) (by kernel_rfl) (by kernel_rfl) (σ := [(0, .int .i64 a), (1, .int .i64 b), (2, .int .i64 c), (3, .int .i64 d)]) (by kernel_rfl) ?_) w (anyInv_size hI) hI
  unfold f6 at h
  refine XQ.seq E0_ok (by kernel_rfl) ?_
  refine XQ.region (by kernel_rfl) ?_
  refine XR.run E0_ok 1 1 [0, 1, 2, 3] rfl (σ' := [(0, .int .i64 a), (1, .int .i64 b), (2, .int .i64 c), (3, .int .i64 d)]) (h' := []) (c' := 0) (by kernel_rfl) ?_
  refine XR.done (by kernel_rfl) ?_
  show XQ _ _ _ _ _ _ _ _
  refine XQ.seq E0_ok (by kernel_rfl) ?_
  refine XQ.region (by kernel_rfl) ?_
  refine XR.run E0_ok 1 4 [0, 1, 2, 3, 14, 15, 16, 17] rfl (σ' := [(0, .int .i64 a), (1, .int .i64 b), (2, .int .i64 c), (3, .int .i64 d), (14, .int .i64 a), (15, .int .i64 b), (16, .int .i64 c), (17, .int .i64 d)]) (h' := []) (c' := 0) (by kernel_rfl) ?_
  obtain ⟨r1, r1_h, h⟩ := bS h
  refine XR.call E0_ok [0, 1, 2, 3, 18] rfl (K := 43) (args := [.int .i64 a, .int .i64 b, .int .i64 c, .int .i64 d]) (d := (some (path 12 18))) (by kernel_rfl) (KC.of_calls E0_ok (F := Proofs.Try.f43) (v := .tuple #[.int .i64 r1.1, .int .i64 r1.2]) (by kernel_rfl) rfl rfl (fun w hI => f43_ok m a b c d r1 r1_h w hI)) ?_
  rintro _ _ _ ⟨rfl, rfl, rfl⟩
  refine XR.conv (σ' := [(0, .int .i64 a), (1, .int .i64 b), (2, .int .i64 c), (3, .int .i64 d), (18, .tuple #[.int .i64 r1.1, .int .i64 r1.2])]) (h' := []) (c' := 0) ?_ (by kernel_rfl)
  refine XR.run E0_ok 1 5 [0, 1, 2, 3, 9, 10] rfl (σ' := [(0, .int .i64 a), (1, .int .i64 b), (2, .int .i64 c), (3, .int .i64 d), (9, .int .i64 r1.1), (10, .int .i64 r1.2)]) (h' := []) (c' := 0) (by kernel_rfl) ?_
  refine XR.done (by kernel_rfl) ?_
  show XQ _ _ _ _ _ _ _ _
  refine XQ.seq E0_ok (by kernel_rfl) ?_
  refine XQ.region (by kernel_rfl) ?_
  refine XR.run E0_ok 1 4 [9, 10, 22, 23, 24, 25] rfl (σ' := [(9, .int .i64 r1.1), (10, .int .i64 r1.2), (22, .int .i64 a), (23, .int .i64 b), (24, .int .i64 c), (25, .int .i64 d)]) (h' := []) (c' := 0) (by kernel_rfl) ?_
  obtain ⟨r2, r2_h, h⟩ := bS h
  refine XR.call E0_ok [9, 10, 26] rfl (K := 44) (args := [.int .i64 a, .int .i64 b, .int .i64 c, .int .i64 d]) (d := (some (path 12 26))) (by kernel_rfl) (KC.of_calls E0_ok (F := Proofs.Try.f44) (v := .tuple #[.int .i64 r2.1, .int .i64 r2.2]) (by kernel_rfl) rfl rfl (fun w hI => f44_ok m a b c d r2 r2_h w hI)) ?_
  rintro _ _ _ ⟨rfl, rfl, rfl⟩
  refine XR.conv (σ' := [(9, .int .i64 r1.1), (10, .int .i64 r1.2), (26, .tuple #[.int .i64 r2.1, .int .i64 r2.2])]) (h' := []) (c' := 0) ?_ (by kernel_rfl)
  refine XR.run E0_ok 1 5 [9, 10, 11, 12] rfl (σ' := [(9, .int .i64 r1.1), (10, .int .i64 r1.2), (11, .int .i64 r2.1), (12, .int .i64 r2.2)]) (h' := []) (c' := 0) (by kernel_rfl) ?_
  refine XR.done (by kernel_rfl) ?_
  show XQ _ _ _ _ _ _ _ _
  refine XQ.seq E0_ok (by kernel_rfl) ?_
  refine XQ.region (by kernel_rfl) ?_
  refine XR.run E0_ok 1 4 [10, 12, 32] rfl (σ' := [(10, .int .i64 r1.2), (12, .int .i64 r2.2), (32, .bool (r1.1 == r2.1))]) (h' := []) (c' := 0) (by kernel_rfl) ?_
  cases b1 : (r1.1 == r2.1 : Bool) with
  | true =>
    have h := cT b1 h
    refine XR.run E0_ok 1 5 [37] rfl (σ' := [(37, .bool (r1.2 == r2.2))]) (h' := []) (c' := 0) (by kernel_rfl) ?_
    cases b2 : (r1.2 == r2.2 : Bool) with
    | true =>
      have h := cT b2 h
      refine XR.call E0_ok [37, 38] rfl (K := 28) (args := []) (d := (some (path 12 38))) (by kernel_rfl) (KC.of_calls E0_ok (F := Proofs.Try.f28) (v := .bool true) (by kernel_rfl) rfl rfl (works_ok)) ?_
      rintro _ _ _ ⟨rfl, rfl, rfl⟩
      refine XR.conv (σ' := [(37, .bool true), (38, .bool true)]) (h' := []) (c' := 0) ?_ (by kernel_rfl)
      refine XR.run E0_ok 1 2 [8] rfl (σ' := [(8, .bool true)]) (h' := []) (c' := 0) (by kernel_rfl) ?_
      refine XR.done (by kernel_rfl) ?_
      show XQ _ _ _ _ _ _ _ _
      refine XQ.ret (by kernel_rfl) ?_
      have h := Option.some.inj h
      subst h
      exact ⟨fun i q => (by cases q), .bool true, (by kernel_rfl), rfl⟩
    | false =>
      have h := cF b2 h
      refine XR.run E0_ok 1 3 [8] rfl (σ' := [(8, .bool false)]) (h' := []) (c' := 0) (by kernel_rfl) ?_
      refine XR.done (by kernel_rfl) ?_
      show XQ _ _ _ _ _ _ _ _
      refine XQ.ret (by kernel_rfl) ?_
      have h := Option.some.inj h
      subst h
      exact ⟨fun i q => (by cases q), .bool false, (by kernel_rfl), rfl⟩
  | false =>
    have h := cF b1 h
    refine XR.run E0_ok 1 8 [8] rfl (σ' := [(8, .bool false)]) (h' := []) (c' := 0) (by kernel_rfl) ?_
    refine XR.done (by kernel_rfl) ?_
    show XQ _ _ _ _ _ _ _ _
    refine XQ.ret (by kernel_rfl) ?_
    have h := Option.some.inj h
    subst h
    exact ⟨fun i q => (by cases q), .bool false, (by kernel_rfl), rfl⟩

end Go.Xm
