/- What these functions of the program compute, as functions in Lean, and the proofs that they do: vitolalaw08.BandMade. Conditions: the library's variable MaxLen holds some int. -/
import Derived.Test.YtdijjdkaojbolaaDn
namespace Go.Xm
open Go.RowKit
set_option linter.unusedVariables false
set_option linter.unusedSimpArgs false

/-! vitola/vitolalaw08.BandMade -/
noncomputable def f4_C4 : Code := Proofs.Try.f4.body.getD .skip

def f4 (m : Nat) (a : Int) (b : Int) (c : Int) : Option (Bool) :=
  (f21 m a b).bind fun r1 =>
    (f22 m a b).bind fun r2 =>
      (f23 m a b c).bind fun r3 =>
        (f24 m a b c).bind fun r4 =>
          (f25 m a b).bind fun r5 =>
            (f26 m a b).bind fun r6 =>
              cond (r1.1.data.toList == r2.1.data.toList) (
                cond (r1.2 == r2.2) (
                  cond (r3.1 == r4.1) (
                    cond (r3.2 == r4.2) (
                      cond (r5.1 == r6.1) (
                        cond (r5.2 == r6.2) (
                          some (true)
                        ) (
                          some (false)
                        )
                      ) (
                        some (false)
                      )
                    ) (
                      some (false)
                    )
                  ) (
                    some (false)
                  )
                ) (
                  some (false)
                )
              ) (
                some (false)
              )

theorem f4_ok (m : Nat) (a : Int) (b : Int) (c : Int) (o : Bool) (h : f4 m a b c = some o) (w : World) (hI : maxInv w) : Calls Proofs.Try.prog 4 #[.int .i64 a, .int .i64 b, .int .i64 c] w fun e w' => e = .returned (.bool o) ∧ Below w.heap.size w w' := by
  refine KC.calls (E := E0) (args := [.int .i64 a, .int .i64 b, .int .i64 c]) (v := .bool o) rfl rfl (KC.bodyN E0_ok (F := Proofs.Try.f4) (by kernel_rfl) (code := f4_C4) (by kernel_rfl) (nt := 88) (by kernel_rfl) (rs := [.tmp 6]) (by kernel_rfl) (by kernel_rfl) (σ := [(0, .int .i64 a), (1, .int .i64 b), (2, .int .i64 c)]) (by kernel_rfl) ?_) w (maxInv_size hI) hI
  unfold f4 at h
  refine XQ.seq E0_ok (by kernel_rfl) ?_
  refine XQ.region (by kernel_rfl) ?_
  refine XR.run E0_ok 1 1 [0, 1, 2] rfl (σ' := [(0, .int .i64 a), (1, .int .i64 b), (2, .int .i64 c)]) (h' := []) (c' := 0) (by kernel_rfl) ?_
  refine XR.done (by kernel_rfl) ?_
  show XQ _ _ _ _ _ _ _ _
  refine XQ.seq E0_ok (by kernel_rfl) ?_
  refine XQ.region (by kernel_rfl) ?_
  refine XR.run E0_ok 1 2 [0, 1, 2, 20, 21] rfl (σ' := [(0, .int .i64 a), (1, .int .i64 b), (2, .int .i64 c), (20, .int .i64 a), (21, .int .i64 b)]) (h' := []) (c' := 0) (by kernel_rfl) ?_
  obtain ⟨r1, r1_h, h⟩ := bS h
  refine XR.call E0_ok [0, 1, 2, 22] rfl (K := 21) (args := [.int .i64 a, .int .i64 b]) (d := (some (path 12 22))) (by kernel_rfl) (KC.of_calls E0_ok (F := Proofs.Try.f21) (v := .tuple #[.string r1.1, .int .i64 r1.2]) (by kernel_rfl) rfl rfl (fun w hI => f21_ok m a b r1 r1_h w hI)) ?_
  rintro _ _ _ ⟨rfl, rfl, rfl⟩
  refine XR.conv (σ' := [(0, .int .i64 a), (1, .int .i64 b), (2, .int .i64 c), (22, .tuple #[.string r1.1, .int .i64 r1.2])]) (h' := []) (c' := 0) ?_ (by kernel_rfl)
  refine XR.run E0_ok 1 5 [0, 1, 2, 7, 8] rfl (σ' := [(0, .int .i64 a), (1, .int .i64 b), (2, .int .i64 c), (7, .string r1.1), (8, .int .i64 r1.2)]) (h' := []) (c' := 0) (by kernel_rfl) ?_
  refine XR.done (by kernel_rfl) ?_
  show XQ _ _ _ _ _ _ _ _
  refine XQ.seq E0_ok (by kernel_rfl) ?_
  refine XQ.region (by kernel_rfl) ?_
  refine XR.run E0_ok 1 2 [0, 1, 2, 7, 8, 26, 27] rfl (σ' := [(0, .int .i64 a), (1, .int .i64 b), (2, .int .i64 c), (7, .string r1.1), (8, .int .i64 r1.2), (26, .int .i64 a), (27, .int .i64 b)]) (h' := []) (c' := 0) (by kernel_rfl) ?_
  obtain ⟨r2, r2_h, h⟩ := bS h
  refine XR.call E0_ok [0, 1, 2, 7, 8, 28] rfl (K := 22) (args := [.int .i64 a, .int .i64 b]) (d := (some (path 12 28))) (by kernel_rfl) (KC.of_calls E0_ok (F := Proofs.Try.f22) (v := .tuple #[.string r2.1, .int .i64 r2.2]) (by kernel_rfl) rfl rfl (fun w hI => f22_ok m a b r2 r2_h w hI)) ?_
  rintro _ _ _ ⟨rfl, rfl, rfl⟩
  refine XR.conv (σ' := [(0, .int .i64 a), (1, .int .i64 b), (2, .int .i64 c), (7, .string r1.1), (8, .int .i64 r1.2), (28, .tuple #[.string r2.1, .int .i64 r2.2])]) (h' := []) (c' := 0) ?_ (by kernel_rfl)
  refine XR.run E0_ok 1 5 [0, 1, 2, 7, 8, 9, 10] rfl (σ' := [(0, .int .i64 a), (1, .int .i64 b), (2, .int .i64 c), (7, .string r1.1), (8, .int .i64 r1.2), (9, .string r2.1), (10, .int .i64 r2.2)]) (h' := []) (c' := 0) (by kernel_rfl) ?_
  refine XR.done (by kernel_rfl) ?_
  show XQ _ _ _ _ _ _ _ _
  refine XQ.seq E0_ok (by kernel_rfl) ?_
  refine XQ.region (by kernel_rfl) ?_
  refine XR.run E0_ok 1 3 [0, 1, 2, 7, 8, 9, 10, 32, 33, 34] rfl (σ' := [(0, .int .i64 a), (1, .int .i64 b), (2, .int .i64 c), (7, .string r1.1), (8, .int .i64 r1.2), (9, .string r2.1), (10, .int .i64 r2.2), (32, .int .i64 a), (33, .int .i64 b), (34, .int .i64 c)]) (h' := []) (c' := 0) (by kernel_rfl) ?_
  obtain ⟨r3, r3_h, h⟩ := bS h
  refine XR.call E0_ok [0, 1, 2, 7, 8, 9, 10, 35] rfl (K := 23) (args := [.int .i64 a, .int .i64 b, .int .i64 c]) (d := (some (path 12 35))) (by kernel_rfl) (KC.of_calls E0_ok (F := Proofs.Try.f23) (v := .tuple #[.int .i64 r3.1, .int .i64 r3.2]) (by kernel_rfl) rfl rfl (fun w hI => f23_ok m a b c r3 r3_h w hI)) ?_
  rintro _ _ _ ⟨rfl, rfl, rfl⟩
  refine XR.conv (σ' := [(0, .int .i64 a), (1, .int .i64 b), (2, .int .i64 c), (7, .string r1.1), (8, .int .i64 r1.2), (9, .string r2.1), (10, .int .i64 r2.2), (35, .tuple #[.int .i64 r3.1, .int .i64 r3.2])]) (h' := []) (c' := 0) ?_ (by kernel_rfl)
  refine XR.run E0_ok 1 5 [0, 1, 2, 7, 8, 9, 10, 11, 12] rfl (σ' := [(0, .int .i64 a), (1, .int .i64 b), (2, .int .i64 c), (7, .string r1.1), (8, .int .i64 r1.2), (9, .string r2.1), (10, .int .i64 r2.2), (11, .int .i64 r3.1), (12, .int .i64 r3.2)]) (h' := []) (c' := 0) (by kernel_rfl) ?_
  refine XR.done (by kernel_rfl) ?_
  show XQ _ _ _ _ _ _ _ _
  refine XQ.seq E0_ok (by kernel_rfl) ?_
  refine XQ.region (by kernel_rfl) ?_
  refine XR.run E0_ok 1 3 [0, 1, 7, 8, 9, 10, 11, 12, 39, 40, 41] rfl (σ' := [(0, .int .i64 a), (1, .int .i64 b), (7, .string r1.1), (8, .int .i64 r1.2), (9, .string r2.1), (10, .int .i64 r2.2), (11, .int .i64 r3.1), (12, .int .i64 r3.2), (39, .int .i64 a), (40, .int .i64 b), (41, .int .i64 c)]) (h' := []) (c' := 0) (by kernel_rfl) ?_
  obtain ⟨r4, r4_h, h⟩ := bS h
  refine XR.call E0_ok [0, 1, 7, 8, 9, 10, 11, 12, 42] rfl (K := 24) (args := [.int .i64 a, .int .i64 b, .int .i64 c]) (d := (some (path 12 42))) (by kernel_rfl) (KC.of_calls E0_ok (F := Proofs.Try.f24) (v := .tuple #[.int .i64 r4.1, .int .i64 r4.2]) (by kernel_rfl) rfl rfl (fun w hI => f24_ok m a b c r4 r4_h w hI)) ?_
  rintro _ _ _ ⟨rfl, rfl, rfl⟩
  refine XR.conv (σ' := [(0, .int .i64 a), (1, .int .i64 b), (7, .string r1.1), (8, .int .i64 r1.2), (9, .string r2.1), (10, .int .i64 r2.2), (11, .int .i64 r3.1), (12, .int .i64 r3.2), (42, .tuple #[.int .i64 r4.1, .int .i64 r4.2])]) (h' := []) (c' := 0) ?_ (by kernel_rfl)
  refine XR.run E0_ok 1 5 [0, 1, 7, 8, 9, 10, 11, 12, 13, 14] rfl (σ' := [(0, .int .i64 a), (1, .int .i64 b), (7, .string r1.1), (8, .int .i64 r1.2), (9, .string r2.1), (10, .int .i64 r2.2), (11, .int .i64 r3.1), (12, .int .i64 r3.2), (13, .int .i64 r4.1), (14, .int .i64 r4.2)]) (h' := []) (c' := 0) (by kernel_rfl) ?_
  refine XR.done (by kernel_rfl) ?_
  show XQ _ _ _ _ _ _ _ _
  refine XQ.seq E0_ok (by kernel_rfl) ?_
  refine XQ.region (by kernel_rfl) ?_
  refine XR.run E0_ok 1 2 [0, 1, 7, 8, 9, 10, 11, 12, 13, 14, 46, 47] rfl (σ' := [(0, .int .i64 a), (1, .int .i64 b), (7, .string r1.1), (8, .int .i64 r1.2), (9, .string r2.1), (10, .int .i64 r2.2), (11, .int .i64 r3.1), (12, .int .i64 r3.2), (13, .int .i64 r4.1), (14, .int .i64 r4.2), (46, .int .i64 a), (47, .int .i64 b)]) (h' := []) (c' := 0) (by kernel_rfl) ?_
  obtain ⟨r5, r5_h, h⟩ := bS h
  refine XR.call E0_ok [0, 1, 7, 8, 9, 10, 11, 12, 13, 14, 48] rfl (K := 25) (args := [.int .i64 a, .int .i64 b]) (d := (some (path 12 48))) (by kernel_rfl) (KC.of_calls E0_ok (F := Proofs.Try.f25) (v := .tuple #[.int .i64 r5.1, .int .i64 r5.2]) (by kernel_rfl) rfl rfl (fun w hI => f25_ok m a b r5 r5_h w hI)) ?_
  rintro _ _ _ ⟨rfl, rfl, rfl⟩
  refine XR.conv (σ' := [(0, .int .i64 a), (1, .int .i64 b), (7, .string r1.1), (8, .int .i64 r1.2), (9, .string r2.1), (10, .int .i64 r2.2), (11, .int .i64 r3.1), (12, .int .i64 r3.2), (13, .int .i64 r4.1), (14, .int .i64 r4.2), (48, .tuple #[.int .i64 r5.1, .int .i64 r5.2])]) (h' := []) (c' := 0) ?_ (by kernel_rfl)
  refine XR.run E0_ok 1 5 [0, 1, 7, 8, 9, 10, 11, 12, 13, 14, 15, 16] rfl (σ' := [(0, .int .i64 a), (1, .int .i64 b), (7, .string r1.1), (8, .int .i64 r1.2), (9, .string r2.1), (10, .int .i64 r2.2), (11, .int .i64 r3.1), (12, .int .i64 r3.2), (13, .int .i64 r4.1), (14, .int .i64 r4.2), (15, .int .i64 r5.1), (16, .int .i64 r5.2)]) (h' := []) (c' := 0) (by kernel_rfl) ?_
  refine XR.done (by kernel_rfl) ?_
  show XQ _ _ _ _ _ _ _ _
  refine XQ.seq E0_ok (by kernel_rfl) ?_
  refine XQ.region (by kernel_rfl) ?_
  refine XR.run E0_ok 1 2 [7, 8, 9, 10, 11, 12, 13, 14, 15, 16, 52, 53] rfl (σ' := [(7, .string r1.1), (8, .int .i64 r1.2), (9, .string r2.1), (10, .int .i64 r2.2), (11, .int .i64 r3.1), (12, .int .i64 r3.2), (13, .int .i64 r4.1), (14, .int .i64 r4.2), (15, .int .i64 r5.1), (16, .int .i64 r5.2), (52, .int .i64 a), (53, .int .i64 b)]) (h' := []) (c' := 0) (by kernel_rfl) ?_
  obtain ⟨r6, r6_h, h⟩ := bS h
  refine XR.call E0_ok [7, 8, 9, 10, 11, 12, 13, 14, 15, 16, 54] rfl (K := 26) (args := [.int .i64 a, .int .i64 b]) (d := (some (path 12 54))) (by kernel_rfl) (KC.of_calls E0_ok (F := Proofs.Try.f26) (v := .tuple #[.int .i64 r6.1, .int .i64 r6.2]) (by kernel_rfl) rfl rfl (fun w hI => f26_ok m a b r6 r6_h w hI)) ?_
  rintro _ _ _ ⟨rfl, rfl, rfl⟩
  refine XR.conv (σ' := [(7, .string r1.1), (8, .int .i64 r1.2), (9, .string r2.1), (10, .int .i64 r2.2), (11, .int .i64 r3.1), (12, .int .i64 r3.2), (13, .int .i64 r4.1), (14, .int .i64 r4.2), (15, .int .i64 r5.1), (16, .int .i64 r5.2), (54, .tuple #[.int .i64 r6.1, .int .i64 r6.2])]) (h' := []) (c' := 0) ?_ (by kernel_rfl)
  refine XR.run E0_ok 1 5 [7, 8, 9, 10, 11, 12, 13, 14, 15, 16, 17, 18] rfl (σ' := [(7, .string r1.1), (8, .int .i64 r1.2), (9, .string r2.1), (10, .int .i64 r2.2), (11, .int .i64 r3.1), (12, .int .i64 r3.2), (13, .int .i64 r4.1), (14, .int .i64 r4.2), (15, .int .i64 r5.1), (16, .int .i64 r5.2), (17, .int .i64 r6.1), (18, .int .i64 r6.2)]) (h' := []) (c' := 0) (by kernel_rfl) ?_
  refine XR.done (by kernel_rfl) ?_
  show XQ _ _ _ _ _ _ _ _
  refine XQ.seq E0_ok (by kernel_rfl) ?_
  refine XQ.region (by kernel_rfl) ?_
  refine XR.run E0_ok 1 4 [8, 10, 11, 12, 13, 14, 15, 16, 17, 18, 60] rfl (σ' := [(8, .int .i64 r1.2), (10, .int .i64 r2.2), (11, .int .i64 r3.1), (12, .int .i64 r3.2), (13, .int .i64 r4.1), (14, .int .i64 r4.2), (15, .int .i64 r5.1), (16, .int .i64 r5.2), (17, .int .i64 r6.1), (18, .int .i64 r6.2), (60, .bool (r1.1.data.toList == r2.1.data.toList))]) (h' := []) (c' := 0) (by kernel_rfl) ?_
  cases b1 : (r1.1.data.toList == r2.1.data.toList : Bool) with
  | true =>
    have h := cT b1 h
    refine XR.run E0_ok 1 5 [11, 12, 13, 14, 15, 16, 17, 18, 65] rfl (σ' := [(11, .int .i64 r3.1), (12, .int .i64 r3.2), (13, .int .i64 r4.1), (14, .int .i64 r4.2), (15, .int .i64 r5.1), (16, .int .i64 r5.2), (17, .int .i64 r6.1), (18, .int .i64 r6.2), (65, .bool (r1.2 == r2.2))]) (h' := []) (c' := 0) (by kernel_rfl) ?_
    cases b2 : (r1.2 == r2.2 : Bool) with
    | true =>
      have h := cT b2 h
      refine XR.run E0_ok 1 5 [12, 14, 15, 16, 17, 18, 70] rfl (σ' := [(12, .int .i64 r3.2), (14, .int .i64 r4.2), (15, .int .i64 r5.1), (16, .int .i64 r5.2), (17, .int .i64 r6.1), (18, .int .i64 r6.2), (70, .bool (r3.1 == r4.1))]) (h' := []) (c' := 0) (by kernel_rfl) ?_
      cases b3 : (r3.1 == r4.1 : Bool) with
      | true =>
        have h := cT b3 h
        refine XR.run E0_ok 1 5 [15, 16, 17, 18, 75] rfl (σ' := [(15, .int .i64 r5.1), (16, .int .i64 r5.2), (17, .int .i64 r6.1), (18, .int .i64 r6.2), (75, .bool (r3.2 == r4.2))]) (h' := []) (c' := 0) (by kernel_rfl) ?_
        cases b4 : (r3.2 == r4.2 : Bool) with
        | true =>
          have h := cT b4 h
          refine XR.run E0_ok 1 5 [16, 18, 80] rfl (σ' := [(16, .int .i64 r5.2), (18, .int .i64 r6.2), (80, .bool (r5.1 == r6.1))]) (h' := []) (c' := 0) (by kernel_rfl) ?_
          cases b5 : (r5.1 == r6.1 : Bool) with
          | true =>
            have h := cT b5 h
            refine XR.run E0_ok 1 5 [85] rfl (σ' := [(85, .bool (r5.2 == r6.2))]) (h' := []) (c' := 0) (by kernel_rfl) ?_
            cases b6 : (r5.2 == r6.2 : Bool) with
            | true =>
              have h := cT b6 h
              refine XR.call E0_ok [85, 86] rfl (K := 12) (args := []) (d := (some (path 12 86))) (by kernel_rfl) (KC.of_calls E0_ok (F := Proofs.Try.f12) (v := .bool true) (by kernel_rfl) rfl rfl (works_ok)) ?_
              rintro _ _ _ ⟨rfl, rfl, rfl⟩
              refine XR.conv (σ' := [(85, .bool true), (86, .bool true)]) (h' := []) (c' := 0) ?_ (by kernel_rfl)
              refine XR.run E0_ok 1 2 [6] rfl (σ' := [(6, .bool true)]) (h' := []) (c' := 0) (by kernel_rfl) ?_
              refine XR.done (by kernel_rfl) ?_
              show XQ _ _ _ _ _ _ _ _
              refine XQ.ret (by kernel_rfl) ?_
              have h := Option.some.inj h
              subst h
              exact ⟨fun i q => (by cases q), .bool true, (by kernel_rfl), rfl⟩
            | false =>
              have h := cF b6 h
              refine XR.run E0_ok 1 3 [6] rfl (σ' := [(6, .bool false)]) (h' := []) (c' := 0) (by kernel_rfl) ?_
              refine XR.done (by kernel_rfl) ?_
              show XQ _ _ _ _ _ _ _ _
              refine XQ.ret (by kernel_rfl) ?_
              have h := Option.some.inj h
              subst h
              exact ⟨fun i q => (by cases q), .bool false, (by kernel_rfl), rfl⟩
          | false =>
            have h := cF b5 h
            refine XR.run E0_ok 1 8 [6] rfl (σ' := [(6, .bool false)]) (h' := []) (c' := 0) (by kernel_rfl) ?_
            refine XR.done (by kernel_rfl) ?_
            show XQ _ _ _ _ _ _ _ _
            refine XQ.ret (by kernel_rfl) ?_
            have h := Option.some.inj h
            subst h
            exact ⟨fun i q => (by cases q), .bool false, (by kernel_rfl), rfl⟩
        | false =>
          have h := cF b4 h
          refine XR.run E0_ok 1 13 [6] rfl (σ' := [(6, .bool false)]) (h' := []) (c' := 0) (by kernel_rfl) ?_
          refine XR.done (by kernel_rfl) ?_
          show XQ _ _ _ _ _ _ _ _
          refine XQ.ret (by kernel_rfl) ?_
          have h := Option.some.inj h
          subst h
          exact ⟨fun i q => (by cases q), .bool false, (by kernel_rfl), rfl⟩
      | false =>
        have h := cF b3 h
        refine XR.run E0_ok 1 18 [6] rfl (σ' := [(6, .bool false)]) (h' := []) (c' := 0) (by kernel_rfl) ?_
        refine XR.done (by kernel_rfl) ?_
        show XQ _ _ _ _ _ _ _ _
        refine XQ.ret (by kernel_rfl) ?_
        have h := Option.some.inj h
        subst h
        exact ⟨fun i q => (by cases q), .bool false, (by kernel_rfl), rfl⟩
    | false =>
      have h := cF b2 h
      refine XR.run E0_ok 1 23 [6] rfl (σ' := [(6, .bool false)]) (h' := []) (c' := 0) (by kernel_rfl) ?_
      refine XR.done (by kernel_rfl) ?_
      show XQ _ _ _ _ _ _ _ _
      refine XQ.ret (by kernel_rfl) ?_
      have h := Option.some.inj h
      subst h
      exact ⟨fun i q => (by cases q), .bool false, (by kernel_rfl), rfl⟩
  | false =>
    have h := cF b1 h
    refine XR.run E0_ok 1 28 [6] rfl (σ' := [(6, .bool false)]) (h' := []) (c' := 0) (by kernel_rfl) ?_
    refine XR.done (by kernel_rfl) ?_
    show XQ _ _ _ _ _ _ _ _
    refine XQ.ret (by kernel_rfl) ?_
    have h := Option.some.inj h
    subst h
    exact ⟨fun i q => (by cases q), .bool false, (by kernel_rfl), rfl⟩

end Go.Xm
