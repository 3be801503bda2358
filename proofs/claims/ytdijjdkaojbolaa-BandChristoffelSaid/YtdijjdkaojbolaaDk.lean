/- What these functions of the program compute, as functions in Lean, and the proofs that they do: vitolalaw08.BandTurned. Conditions: the library's variable MaxLen holds some int. -/
import Derived.Test.YtdijjdkaojbolaaDj
namespace Go.Xm
open Go.RowKit
set_option linter.unusedVariables false
set_option linter.unusedSimpArgs false

/-! vitola/vitolalaw08.BandTurned -/
noncomputable def f5_C5 : Code := Proofs.Try.f5.body.getD .skip

def f5 (m : Nat) (a : ByteArray) (b : ByteArray) (c : Int) : Option (Bool) :=
  cond (decide (((a.size : Nat) : Int) > 60)) (
    some (true)
  ) (
    cond (decide (((b.size : Nat) : Int) > 60)) (
      some (true)
    ) (
      (f27 m a c).bind fun r1 =>
        (f28 m a c).bind fun r2 =>
          (f29 m a).bind fun r3 =>
            (f30 m a).bind fun r4 =>
              (f31 m a b).bind fun r5 =>
                (f32 m a b).bind fun r6 =>
                  cond (r1.1.data.toList == r2.1.data.toList) (
                    cond (r1.2 == r2.2) (
                      cond (r3.1 == r4.1) (
                        cond (r3.2 == r4.2) (
                          cond (r5.1 == r6.1) (
                            cond (r5.2 == r6.2) (
                              some (true)
                            ) (
                              some (false)
                            )
                          ) (
                            some (false)
                          )
                        ) (
                          some (false)
                        )
                      ) (
                        some (false)
                      )
                    ) (
                      some (false)
                    )
                  ) (
                    some (false)
                  )
    )
  )

theorem f5_ok (m : Nat) (a : ByteArray) (b : ByteArray) (c : Int) (o : Bool) (h : f5 m a b c = some o) (w : World) (hI : maxInv w) : Calls Proofs.Try.prog 5 #[.string a, .string b, .int .i64 c] w fun e w' => e = .returned (.bool o) ∧ Below w.heap.size w w' := by
  refine KC.calls (E := E0) (args := [.string a, .string b, .int .i64 c]) (v := .bool o) rfl rfl (KC.bodyN E0_ok (F := Proofs.Try.f5) (by kernel_rfl) (code := f5_C5) (by kernel_rfl) (nt := 93) (by kernel_rfl) (rs := [.tmp 6]) (by kernel_rfl) (by kernel_rfl) (σ := [(0, .string a), (1, .string b), (2, .int .i64 c)]) (by kernel_rfl) ?_) w (maxInv_size hI) hI
  unfold f5 at h
  refine XQ.seq E0_ok (by kernel_rfl) ?_
  refine XQ.region (by kernel_rfl) ?_
  refine XR.run E0_ok 1 1 [0, 1, 2] rfl (σ' := [(0, .string a), (1, .string b), (2, .int .i64 c)]) (h' := []) (c' := 0) (by kernel_rfl) ?_
  refine XR.done (by kernel_rfl) ?_
  show XQ _ _ _ _ _ _ _ _
  refine XQ.seq E0_ok (by kernel_rfl) ?_
  refine XQ.seq E0_ok (by kernel_rfl) ?_
  refine XQ.region (by kernel_rfl) ?_
  refine XR.run E0_ok 1 4 [0, 1, 2, 22] rfl (σ' := [(0, .string a), (1, .string b), (2, .int .i64 c), (22, .bool (decide (((a.size : Nat) : Int) > 60)))]) (h' := []) (c' := 0) (by kernel_rfl) ?_
  cases b1 : (decide (((a.size : Nat) : Int) > 60) : Bool) with
  | true =>
    have h := cT b1 h
    refine XR.run E0_ok 1 4 [0, 1, 2, 26] rfl (σ' := [(0, .string a), (1, .string b), (2, .int .i64 c), (26, .bool true)]) (h' := []) (c' := 0) (by kernel_rfl) ?_
    refine XR.done (by kernel_rfl) ?_
    show XQ _ _ _ _ _ _ _ _
    refine XQ.cond (s := (.tmp 26)) (b := true) (by kernel_rfl) (by kernel_rfl) (fun _ => ?_) (fun q => by cases q)
    refine XQ.seq E0_ok (by kernel_rfl) ?_
    refine XQ.region (by kernel_rfl) ?_
    refine XR.call E0_ok [27] rfl (K := 12) (args := []) (d := (some (path 12 27))) (by kernel_rfl) (KC.of_calls E0_ok (F := Proofs.Try.f12) (v := .bool true) (by kernel_rfl) rfl rfl (works_ok)) ?_
    rintro _ _ _ ⟨rfl, rfl, rfl⟩
    refine XR.conv (σ' := [(27, .bool true)]) (h' := []) (c' := 0) ?_ (by kernel_rfl)
    refine XR.run E0_ok 1 1 [6] rfl (σ' := [(6, .bool true)]) (h' := []) (c' := 0) (by kernel_rfl) ?_
    refine XR.done (by kernel_rfl) ?_
    show XQ _ _ _ _ _ _ _ _
    refine XQ.ret (by kernel_rfl) ?_
    have h := Option.some.inj h
    subst h
    exact ⟨fun i q => (by cases q), .bool true, (by kernel_rfl), rfl⟩
  | false =>
    have h := cF b1 h
    refine XR.run E0_ok 1 4 [0, 1, 2, 26] rfl (σ' := [(0, .string a), (1, .string b), (2, .int .i64 c), (26, .bool (decide (((b.size : Nat) : Int) > 60)))]) (h' := []) (c' := 0) (by kernel_rfl) ?_
    refine XR.done (by kernel_rfl) ?_
    show XQ _ _ _ _ _ _ _ _
    cases b2 : (decide (((b.size : Nat) : Int) > 60) : Bool) with
    | true =>
      have h := cT b2 h
      refine XQ.cond (s := (.tmp 26)) (b := true) (by kernel_rfl) (by kernel_rfl) (fun _ => ?_) (fun q => by cases q)
      refine XQ.seq E0_ok (by kernel_rfl) ?_
      refine XQ.region (by kernel_rfl) ?_
      refine XR.call E0_ok [27] rfl (K := 12) (args := []) (d := (some (path 12 27))) (by kernel_rfl) (KC.of_calls E0_ok (F := Proofs.Try.f12) (v := .bool true) (by kernel_rfl) rfl rfl (works_ok)) ?_
      rintro _ _ _ ⟨rfl, rfl, rfl⟩
      refine XR.conv (σ' := [(27, .bool true)]) (h' := []) (c' := 0) ?_ (by kernel_rfl)
      refine XR.run E0_ok 1 1 [6] rfl (σ' := [(6, .bool true)]) (h' := []) (c' := 0) (by kernel_rfl) ?_
      refine XR.done (by kernel_rfl) ?_
      show XQ _ _ _ _ _ _ _ _
      refine XQ.ret (by kernel_rfl) ?_
      have h := Option.some.inj h
      subst h
      exact ⟨fun i q => (by cases q), .bool true, (by kernel_rfl), rfl⟩
    | false =>
      have h := cF b2 h
      refine XQ.cond (s := (.tmp 26)) (b := false) (by kernel_rfl) (by kernel_rfl) (fun q => by cases q) (fun _ => ?_)
      refine XQ.skip (by kernel_rfl) ?_
      show XQ _ _ _ _ _ _ _ _
      refine XQ.seq E0_ok (by kernel_rfl) ?_
      refine XQ.region (by kernel_rfl) ?_
      refine XR.run E0_ok 1 2 [0, 1, 2, 29, 30] rfl (σ' := [(0, .string a), (1, .string b), (2, .int .i64 c), (29, .string a), (30, .int .i64 c)]) (h' := []) (c' := 0) (by kernel_rfl) ?_
      obtain ⟨r1, r1_h, h⟩ := bS h
      refine XR.call E0_ok [0, 1, 2, 31] rfl (K := 27) (args := [.string a, .int .i64 c]) (d := (some (path 12 31))) (by kernel_rfl) (KC.of_calls E0_ok (F := Proofs.Try.f27) (v := .tuple #[.string r1.1, .int .i64 r1.2]) (by kernel_rfl) rfl rfl (fun w hI => f27_ok m a c r1 r1_h w hI)) ?_
      rintro _ _ _ ⟨rfl, rfl, rfl⟩
      refine XR.conv (σ' := [(0, .string a), (1, .string b), (2, .int .i64 c), (31, .tuple #[.string r1.1, .int .i64 r1.2])]) (h' := []) (c' := 0) ?_ (by kernel_rfl)
      refine XR.run E0_ok 1 5 [0, 1, 2, 7, 8] rfl (σ' := [(0, .string a), (1, .string b), (2, .int .i64 c), (7, .string r1.1), (8, .int .i64 r1.2)]) (h' := []) (c' := 0) (by kernel_rfl) ?_
      refine XR.done (by kernel_rfl) ?_
      show XQ _ _ _ _ _ _ _ _
      refine XQ.seq E0_ok (by kernel_rfl) ?_
      refine XQ.region (by kernel_rfl) ?_
      refine XR.run E0_ok 1 2 [0, 1, 7, 8, 35, 36] rfl (σ' := [(0, .string a), (1, .string b), (7, .string r1.1), (8, .int .i64 r1.2), (35, .string a), (36, .int .i64 c)]) (h' := []) (c' := 0) (by kernel_rfl) ?_
      obtain ⟨r2, r2_h, h⟩ := bS h
      refine XR.call E0_ok [0, 1, 7, 8, 37] rfl (K := 28) (args := [.string a, .int .i64 c]) (d := (some (path 12 37))) (by kernel_rfl) (KC.of_calls E0_ok (F := Proofs.Try.f28) (v := .tuple #[.string r2.1, .int .i64 r2.2]) (by kernel_rfl) rfl rfl (fun w hI => f28_ok m a c r2 r2_h w hI)) ?_
      rintro _ _ _ ⟨rfl, rfl, rfl⟩
      refine XR.conv (σ' := [(0, .string a), (1, .string b), (7, .string r1.1), (8, .int .i64 r1.2), (37, .tuple #[.string r2.1, .int .i64 r2.2])]) (h' := []) (c' := 0) ?_ (by kernel_rfl)
      refine XR.run E0_ok 1 5 [0, 1, 7, 8, 9, 10] rfl (σ' := [(0, .string a), (1, .string b), (7, .string r1.1), (8, .int .i64 r1.2), (9, .string r2.1), (10, .int .i64 r2.2)]) (h' := []) (c' := 0) (by kernel_rfl) ?_
      refine XR.done (by kernel_rfl) ?_
      show XQ _ _ _ _ _ _ _ _
      refine XQ.seq E0_ok (by kernel_rfl) ?_
      refine XQ.region (by kernel_rfl) ?_
      refine XR.run E0_ok 1 1 [0, 1, 7, 8, 9, 10, 41] rfl (σ' := [(0, .string a), (1, .string b), (7, .string r1.1), (8, .int .i64 r1.2), (9, .string r2.1), (10, .int .i64 r2.2), (41, .string a)]) (h' := []) (c' := 0) (by kernel_rfl) ?_
      obtain ⟨r3, r3_h, h⟩ := bS h
      refine XR.call E0_ok [0, 1, 7, 8, 9, 10, 42] rfl (K := 29) (args := [.string a]) (d := (some (path 12 42))) (by kernel_rfl) (KC.of_calls E0_ok (F := Proofs.Try.f29) (v := .tuple #[.int .i64 r3.1, .int .i64 r3.2]) (by kernel_rfl) rfl rfl (fun w hI => f29_ok m a r3 r3_h w hI)) ?_
      rintro _ _ _ ⟨rfl, rfl, rfl⟩
      refine XR.conv (σ' := [(0, .string a), (1, .string b), (7, .string r1.1), (8, .int .i64 r1.2), (9, .string r2.1), (10, .int .i64 r2.2), (42, .tuple #[.int .i64 r3.1, .int .i64 r3.2])]) (h' := []) (c' := 0) ?_ (by kernel_rfl)
      refine XR.run E0_ok 1 5 [0, 1, 7, 8, 9, 10, 11, 12] rfl (σ' := [(0, .string a), (1, .string b), (7, .string r1.1), (8, .int .i64 r1.2), (9, .string r2.1), (10, .int .i64 r2.2), (11, .int .i64 r3.1), (12, .int .i64 r3.2)]) (h' := []) (c' := 0) (by kernel_rfl) ?_
      refine XR.done (by kernel_rfl) ?_
      show XQ _ _ _ _ _ _ _ _
      refine XQ.seq E0_ok (by kernel_rfl) ?_
      refine XQ.region (by kernel_rfl) ?_
      refine XR.run E0_ok 1 1 [0, 1, 7, 8, 9, 10, 11, 12, 46] rfl (σ' := [(0, .string a), (1, .string b), (7, .string r1.1), (8, .int .i64 r1.2), (9, .string r2.1), (10, .int .i64 r2.2), (11, .int .i64 r3.1), (12, .int .i64 r3.2), (46, .string a)]) (h' := []) (c' := 0) (by kernel_rfl) ?_
      obtain ⟨r4, r4_h, h⟩ := bS h
      refine XR.call E0_ok [0, 1, 7, 8, 9, 10, 11, 12, 47] rfl (K := 30) (args := [.string a]) (d := (some (path 12 47))) (by kernel_rfl) (KC.of_calls E0_ok (F := Proofs.Try.f30) (v := .tuple #[.int .i64 r4.1, .int .i64 r4.2]) (by kernel_rfl) rfl rfl (fun w hI => f30_ok m a r4 r4_h w hI)) ?_
      rintro _ _ _ ⟨rfl, rfl, rfl⟩
      refine XR.conv (σ' := [(0, .string a), (1, .string b), (7, .string r1.1), (8, .int .i64 r1.2), (9, .string r2.1), (10, .int .i64 r2.2), (11, .int .i64 r3.1), (12, .int .i64 r3.2), (47, .tuple #[.int .i64 r4.1, .int .i64 r4.2])]) (h' := []) (c' := 0) ?_ (by kernel_rfl)
      refine XR.run E0_ok 1 5 [0, 1, 7, 8, 9, 10, 11, 12, 13, 14] rfl (σ' := [(0, .string a), (1, .string b), (7, .string r1.1), (8, .int .i64 r1.2), (9, .string r2.1), (10, .int .i64 r2.2), (11, .int .i64 r3.1), (12, .int .i64 r3.2), (13, .int .i64 r4.1), (14, .int .i64 r4.2)]) (h' := []) (c' := 0) (by kernel_rfl) ?_
      refine XR.done (by kernel_rfl) ?_
      show XQ _ _ _ _ _ _ _ _
      refine XQ.seq E0_ok (by kernel_rfl) ?_
      refine XQ.region (by kernel_rfl) ?_
      refine XR.run E0_ok 1 2 [0, 1, 7, 8, 9, 10, 11, 12, 13, 14, 51, 52] rfl (σ' := [(0, .string a), (1, .string b), (7, .string r1.1), (8, .int .i64 r1.2), (9, .string r2.1), (10, .int .i64 r2.2), (11, .int .i64 r3.1), (12, .int .i64 r3.2), (13, .int .i64 r4.1), (14, .int .i64 r4.2), (51, .string a), (52, .string b)]) (h' := []) (c' := 0) (by kernel_rfl) ?_
      obtain ⟨r5, r5_h, h⟩ := bS h
      refine XR.call E0_ok [0, 1, 7, 8, 9, 10, 11, 12, 13, 14, 53] rfl (K := 31) (args := [.string a, .string b]) (d := (some (path 12 53))) (by kernel_rfl) (KC.of_calls E0_ok (F := Proofs.Try.f31) (v := .tuple #[.int .i64 r5.1, .int .i64 r5.2]) (by kernel_rfl) rfl rfl (fun w hI => f31_ok m a b r5 r5_h w hI)) ?_
      rintro _ _ _ ⟨rfl, rfl, rfl⟩
      refine XR.conv (σ' := [(0, .string a), (1, .string b), (7, .string r1.1), (8, .int .i64 r1.2), (9, .string r2.1), (10, .int .i64 r2.2), (11, .int .i64 r3.1), (12, .int .i64 r3.2), (13, .int .i64 r4.1), (14, .int .i64 r4.2), (53, .tuple #[.int .i64 r5.1, .int .i64 r5.2])]) (h' := []) (c' := 0) ?_ (by kernel_rfl)
      refine XR.run E0_ok 1 5 [0, 1, 7, 8, 9, 10, 11, 12, 13, 14, 15, 16] rfl (σ' := [(0, .string a), (1, .string b), (7, .string r1.1), (8, .int .i64 r1.2), (9, .string r2.1), (10, .int .i64 r2.2), (11, .int .i64 r3.1), (12, .int .i64 r3.2), (13, .int .i64 r4.1), (14, .int .i64 r4.2), (15, .int .i64 r5.1), (16, .int .i64 r5.2)]) (h' := []) (c' := 0) (by kernel_rfl) ?_
      refine XR.done (by kernel_rfl) ?_
      show XQ _ _ _ _ _ _ _ _
      refine XQ.seq E0_ok (by kernel_rfl) ?_
      refine XQ.region (by kernel_rfl) ?_
      refine XR.run E0_ok 1 2 [7, 8, 9, 10, 11, 12, 13, 14, 15, 16, 57, 58] rfl (σ' := [(7, .string r1.1), (8, .int .i64 r1.2), (9, .string r2.1), (10, .int .i64 r2.2), (11, .int .i64 r3.1), (12, .int .i64 r3.2), (13, .int .i64 r4.1), (14, .int .i64 r4.2), (15, .int .i64 r5.1), (16, .int .i64 r5.2), (57, .string a), (58, .string b)]) (h' := []) (c' := 0) (by kernel_rfl) ?_
      obtain ⟨r6, r6_h, h⟩ := bS h
      refine XR.call E0_ok [7, 8, 9, 10, 11, 12, 13, 14, 15, 16, 59] rfl (K := 32) (args := [.string a, .string b]) (d := (some (path 12 59))) (by kernel_rfl) (KC.of_calls E0_ok (F := Proofs.Try.f32) (v := .tuple #[.int .i64 r6.1, .int .i64 r6.2]) (by kernel_rfl) rfl rfl (fun w hI => f32_ok m a b r6 r6_h w hI)) ?_
      rintro _ _ _ ⟨rfl, rfl, rfl⟩
      refine XR.conv (σ' := [(7, .string r1.1), (8, .int .i64 r1.2), (9, .string r2.1), (10, .int .i64 r2.2), (11, .int .i64 r3.1), (12, .int .i64 r3.2), (13, .int .i64 r4.1), (14, .int .i64 r4.2), (15, .int .i64 r5.1), (16, .int .i64 r5.2), (59, .tuple #[.int .i64 r6.1, .int .i64 r6.2])]) (h' := []) (c' := 0) ?_ (by kernel_rfl)
      refine XR.run E0_ok 1 5 [7, 8, 9, 10, 11, 12, 13, 14, 15, 16, 17, 18] rfl (σ' := [(7, .string r1.1), (8, .int .i64 r1.2), (9, .string r2.1), (10, .int .i64 r2.2), (11, .int .i64 r3.1), (12, .int .i64 r3.2), (13, .int .i64 r4.1), (14, .int .i64 r4.2), (15, .int .i64 r5.1), (16, .int .i64 r5.2), (17, .int .i64 r6.1), (18, .int .i64 r6.2)]) (h' := []) (c' := 0) (by kernel_rfl) ?_
      refine XR.done (by kernel_rfl) ?_
      show XQ _ _ _ _ _ _ _ _
      refine XQ.seq E0_ok (by kernel_rfl) ?_
      refine XQ.region (by kernel_rfl) ?_
      refine XR.run E0_ok 1 4 [8, 10, 11, 12, 13, 14, 15, 16, 17, 18, 65] rfl (σ' := [(8, .int .i64 r1.2), (10, .int .i64 r2.2), (11, .int .i64 r3.1), (12, .int .i64 r3.2), (13, .int .i64 r4.1), (14, .int .i64 r4.2), (15, .int .i64 r5.1), (16, .int .i64 r5.2), (17, .int .i64 r6.1), (18, .int .i64 r6.2), (65, .bool (r1.1.data.toList == r2.1.data.toList))]) (h' := []) (c' := 0) (by kernel_rfl) ?_
      cases b3 : (r1.1.data.toList == r2.1.data.toList : Bool) with
      | true =>
        have h := cT b3 h
        refine XR.run E0_ok 1 5 [11, 12, 13, 14, 15, 16, 17, 18, 70] rfl (σ' := [(11, .int .i64 r3.1), (12, .int .i64 r3.2), (13, .int .i64 r4.1), (14, .int .i64 r4.2), (15, .int .i64 r5.1), (16, .int .i64 r5.2), (17, .int .i64 r6.1), (18, .int .i64 r6.2), (70, .bool (r1.2 == r2.2))]) (h' := []) (c' := 0) (by kernel_rfl) ?_
        cases b4 : (r1.2 == r2.2 : Bool) with
        | true =>
          have h := cT b4 h
          refine XR.run E0_ok 1 5 [12, 14, 15, 16, 17, 18, 75] rfl (σ' := [(12, .int .i64 r3.2), (14, .int .i64 r4.2), (15, .int .i64 r5.1), (16, .int .i64 r5.2), (17, .int .i64 r6.1), (18, .int .i64 r6.2), (75, .bool (r3.1 == r4.1))]) (h' := []) (c' := 0) (by kernel_rfl) ?_
          cases b5 : (r3.1 == r4.1 : Bool) with
          | true =>
            have h := cT b5 h
            refine XR.run E0_ok 1 5 [15, 16, 17, 18, 80] rfl (σ' := [(15, .int .i64 r5.1), (16, .int .i64 r5.2), (17, .int .i64 r6.1), (18, .int .i64 r6.2), (80, .bool (r3.2 == r4.2))]) (h' := []) (c' := 0) (by kernel_rfl) ?_
            cases b6 : (r3.2 == r4.2 : Bool) with
            | true =>
              have h := cT b6 h
              refine XR.run E0_ok 1 5 [16, 18, 85] rfl (σ' := [(16, .int .i64 r5.2), (18, .int .i64 r6.2), (85, .bool (r5.1 == r6.1))]) (h' := []) (c' := 0) (by kernel_rfl) ?_
              cases b7 : (r5.1 == r6.1 : Bool) with
              | true =>
                have h := cT b7 h
                refine XR.run E0_ok 1 5 [90] rfl (σ' := [(90, .bool (r5.2 == r6.2))]) (h' := []) (c' := 0) (by kernel_rfl) ?_
                cases b8 : (r5.2 == r6.2 : Bool) with
                | true =>
                  have h := cT b8 h
                  refine XR.call E0_ok [90, 91] rfl (K := 12) (args := []) (d := (some (path 12 91))) (by kernel_rfl) (KC.of_calls E0_ok (F := Proofs.Try.f12) (v := .bool true) (by kernel_rfl) rfl rfl (works_ok)) ?_
                  rintro _ _ _ ⟨rfl, rfl, rfl⟩
                  refine XR.conv (σ' := [(90, .bool true), (91, .bool true)]) (h' := []) (c' := 0) ?_ (by kernel_rfl)
                  refine XR.run E0_ok 1 2 [6] rfl (σ' := [(6, .bool true)]) (h' := []) (c' := 0) (by kernel_rfl) ?_
                  refine XR.done (by kernel_rfl) ?_
                  show XQ _ _ _ _ _ _ _ _
                  refine XQ.ret (by kernel_rfl) ?_
                  have h := Option.some.inj h
                  subst h
                  exact ⟨fun i q => (by cases q), .bool true, (by kernel_rfl), rfl⟩
                | false =>
                  have h := cF b8 h
                  refine XR.run E0_ok 1 3 [6] rfl (σ' := [(6, .bool false)]) (h' := []) (c' := 0) (by kernel_rfl) ?_
                  refine XR.done (by kernel_rfl) ?_
                  show XQ _ _ _ _ _ _ _ _
                  refine XQ.ret (by kernel_rfl) ?_
                  have h := Option.some.inj h
                  subst h
                  exact ⟨fun i q => (by cases q), .bool false, (by kernel_rfl), rfl⟩
              | false =>
                have h := cF b7 h
                refine XR.run E0_ok 1 8 [6] rfl (σ' := [(6, .bool false)]) (h' := []) (c' := 0) (by kernel_rfl) ?_
                refine XR.done (by kernel_rfl) ?_
                show XQ _ _ _ _ _ _ _ _
                refine XQ.ret (by kernel_rfl) ?_
                have h := Option.some.inj h
                subst h
                exact ⟨fun i q => (by cases q), .bool false, (by kernel_rfl), rfl⟩
            | false =>
              have h := cF b6 h
              refine XR.run E0_ok 1 13 [6] rfl (σ' := [(6, .bool false)]) (h' := []) (c' := 0) (by kernel_rfl) ?_
              refine XR.done (by kernel_rfl) ?_
              show XQ _ _ _ _ _ _ _ _
              refine XQ.ret (by kernel_rfl) ?_
              have h := Option.some.inj h
              subst h
              exact ⟨fun i q => (by cases q), .bool false, (by kernel_rfl), rfl⟩
          | false =>
            have h := cF b5 h
            refine XR.run E0_ok 1 18 [6] rfl (σ' := [(6, .bool false)]) (h' := []) (c' := 0) (by kernel_rfl) ?_
            refine XR.done (by kernel_rfl) ?_
            show XQ _ _ _ _ _ _ _ _
            refine XQ.ret (by kernel_rfl) ?_
            have h := Option.some.inj h
            subst h
            exact ⟨fun i q => (by cases q), .bool false, (by kernel_rfl), rfl⟩
        | false =>
          have h := cF b4 h
          refine XR.run E0_ok 1 23 [6] rfl (σ' := [(6, .bool false)]) (h' := []) (c' := 0) (by kernel_rfl) ?_
          refine XR.done (by kernel_rfl) ?_
          show XQ _ _ _ _ _ _ _ _
          refine XQ.ret (by kernel_rfl) ?_
          have h := Option.some.inj h
          subst h
          exact ⟨fun i q => (by cases q), .bool false, (by kernel_rfl), rfl⟩
      | false =>
        have h := cF b3 h
        refine XR.run E0_ok 1 28 [6] rfl (σ' := [(6, .bool false)]) (h' := []) (c' := 0) (by kernel_rfl) ?_
        refine XR.done (by kernel_rfl) ?_
        show XQ _ _ _ _ _ _ _ _
        refine XQ.ret (by kernel_rfl) ?_
        have h := Option.some.inj h
        subst h
        exact ⟨fun i q => (by cases q), .bool false, (by kernel_rfl), rfl⟩

end Go.Xm
