/- What these functions of the program compute, as functions in Lean, and the proofs that they do: vitolalaw08.BandEven. Conditions: the library's variable MaxLen holds some int. -/
import Derived.Test.YtdijjdkaojbolaaDd
namespace Go.Xm
open Go.RowKit
set_option linter.unusedVariables false
set_option linter.unusedSimpArgs false

/-! vitola/vitolalaw08.BandEven -/
noncomputable def f3_C3 : Code := Proofs.Try.f3.body.getD .skip

def f3 (m : Nat) (a : ByteArray) (b : Int) (c : Int) (d : Int) : Option (Bool) :=
  cond (decide (((a.size : Nat) : Int) > 60)) (
    some (true)
  ) (
    (f13 m a).bind fun r1 =>
      (f14 m a).bind fun r2 =>
        (f15 m a).bind fun r3 =>
          (f16 m a).bind fun r4 =>
            cond (r1.1 == r2.1) (
              cond (r1.2 == r2.2) (
                cond (r3.1 == r4.1) (
                  cond (r3.2.1 == r4.2.1) (
                    cond (r3.2.2.1 == r4.2.2.1) (
                      cond (r3.2.2.2 == r4.2.2.2) (
                        (f17 m a b c d).bind fun r5 =>
                          (f18 m a b c d).bind fun r6 =>
                            cond (r5 == r6) (
                              (f19 m a).bind fun r7 =>
                                (f20 m a).bind fun r8 =>
                                  cond (r7 == r8) (
                                    some (true)
                                  ) (
                                    some (false)
                                  )
                            ) (
                              some (false)
                            )
                      ) (
                        some (false)
                      )
                    ) (
                      some (false)
                    )
                  ) (
                    some (false)
                  )
                ) (
                  some (false)
                )
              ) (
                some (false)
              )
            ) (
              some (false)
            )
  )

theorem f3_ok (m : Nat) (a : ByteArray) (b : Int) (c : Int) (d : Int) (o : Bool) (h : f3 m a b c d = some o) (w : World) (hI : maxInv w) : Calls Proofs.Try.prog 3 #[.string a, .int .i64 b, .int .i64 c, .int .i64 d] w fun e w' => e = .returned (.bool o) ∧ Below w.heap.size w w' := by
  refine KC.calls (E := E0) (args := [.string a, .int .i64 b, .int .i64 c, .int .i64 d]) (v := .bool o) rfl rfl (KC.bodyN E0_ok (F := Proofs.Try.f3) (by kernel_rfl) (code := f3_C3) (by kernel_rfl) (nt := 100) (by kernel_rfl) (rs := [.tmp 8]) (by kernel_rfl) (by kernel_rfl) (σ := [(0, .string a), (1, .int .i64 b), (2, .int .i64 c), (3, .int .i64 d)]) (by kernel_rfl) ?_) w (maxInv_size hI) hI
  unfold f3 at h
  refine XQ.seq E0_ok (by kernel_rfl) ?_
  refine XQ.region (by kernel_rfl) ?_
  refine XR.run E0_ok 1 1 [0, 1, 2, 3] rfl (σ' := [(0, .string a), (1, .int .i64 b), (2, .int .i64 c), (3, .int .i64 d)]) (h' := []) (c' := 0) (by kernel_rfl) ?_
  refine XR.done (by kernel_rfl) ?_
  show XQ _ _ _ _ _ _ _ _
  refine XQ.seq E0_ok (by kernel_rfl) ?_
  refine XQ.seq E0_ok (by kernel_rfl) ?_
  refine XQ.region (by kernel_rfl) ?_
  refine XR.run E0_ok 1 3 [0, 1, 2, 3, 23] rfl (σ' := [(0, .string a), (1, .int .i64 b), (2, .int .i64 c), (3, .int .i64 d), (23, .bool (decide (((a.size : Nat) : Int) > 60)))]) (h' := []) (c' := 0) (by kernel_rfl) ?_
  refine XR.done (by kernel_rfl) ?_
  show XQ _ _ _ _ _ _ _ _
  cases b1 : (decide (((a.size : Nat) : Int) > 60) : Bool) with
  | true =>
    have h := cT b1 h
    refine XQ.cond (s := (.tmp 23)) (b := true) (by kernel_rfl) (by kernel_rfl) (fun _ => ?_) (fun q => by cases q)
    refine XQ.seq E0_ok (by kernel_rfl) ?_
    refine XQ.region (by kernel_rfl) ?_
    refine XR.call E0_ok [24] rfl (K := 12) (args := []) (d := (some (path 12 24))) (by kernel_rfl) (KC.of_calls E0_ok (F := Proofs.Try.f12) (v := .bool true) (by kernel_rfl) rfl rfl (works_ok)) ?_
    rintro _ _ _ ⟨rfl, rfl, rfl⟩
    refine XR.conv (σ' := [(24, .bool true)]) (h' := []) (c' := 0) ?_ (by kernel_rfl)
    refine XR.run E0_ok 1 1 [8] rfl (σ' := [(8, .bool true)]) (h' := []) (c' := 0) (by kernel_rfl) ?_
    refine XR.done (by kernel_rfl) ?_
    show XQ _ _ _ _ _ _ _ _
    refine XQ.ret (by kernel_rfl) ?_
    have h := Option.some.inj h
    subst h
    exact ⟨fun i q => (by cases q), .bool true, (by kernel_rfl), rfl⟩
  | false =>
    have h := cF b1 h
    refine XQ.cond (s := (.tmp 23)) (b := false) (by kernel_rfl) (by kernel_rfl) (fun q => by cases q) (fun _ => ?_)
    refine XQ.skip (by kernel_rfl) ?_
    show XQ _ _ _ _ _ _ _ _
    refine XQ.seq E0_ok (by kernel_rfl) ?_
    refine XQ.region (by kernel_rfl) ?_
    refine XR.run E0_ok 1 1 [0, 1, 2, 3, 26] rfl (σ' := [(0, .string a), (1, .int .i64 b), (2, .int .i64 c), (3, .int .i64 d), (26, .string a)]) (h' := []) (c' := 0) (by kernel_rfl) ?_
    obtain ⟨r1, r1_h, h⟩ := bS h
    refine XR.call E0_ok [0, 1, 2, 3, 27] rfl (K := 13) (args := [.string a]) (d := (some (path 12 27))) (by kernel_rfl) (KC.of_calls E0_ok (F := Proofs.Try.f13) (v := .tuple #[.bool r1.1, .int .i64 r1.2]) (by kernel_rfl) rfl rfl (fun w hI => f13_ok m a r1 r1_h w hI)) ?_
    rintro _ _ _ ⟨rfl, rfl, rfl⟩
    refine XR.conv (σ' := [(0, .string a), (1, .int .i64 b), (2, .int .i64 c), (3, .int .i64 d), (27, .tuple #[.bool r1.1, .int .i64 r1.2])]) (h' := []) (c' := 0) ?_ (by kernel_rfl)
    refine XR.run E0_ok 1 5 [0, 1, 2, 3, 9, 10] rfl (σ' := [(0, .string a), (1, .int .i64 b), (2, .int .i64 c), (3, .int .i64 d), (9, .bool r1.1), (10, .int .i64 r1.2)]) (h' := []) (c' := 0) (by kernel_rfl) ?_
    refine XR.done (by kernel_rfl) ?_
    show XQ _ _ _ _ _ _ _ _
    refine XQ.seq E0_ok (by kernel_rfl) ?_
    refine XQ.region (by kernel_rfl) ?_
    refine XR.run E0_ok 1 1 [0, 1, 2, 3, 9, 10, 31] rfl (σ' := [(0, .string a), (1, .int .i64 b), (2, .int .i64 c), (3, .int .i64 d), (9, .bool r1.1), (10, .int .i64 r1.2), (31, .string a)]) (h' := []) (c' := 0) (by kernel_rfl) ?_
    obtain ⟨r2, r2_h, h⟩ := bS h
    refine XR.call E0_ok [0, 1, 2, 3, 9, 10, 32] rfl (K := 14) (args := [.string a]) (d := (some (path 12 32))) (by kernel_rfl) (KC.of_calls E0_ok (F := Proofs.Try.f14) (v := .tuple #[.bool r2.1, .int .i64 r2.2]) (by kernel_rfl) rfl rfl (fun w hI => f14_ok m a r2 r2_h w hI)) ?_
    rintro _ _ _ ⟨rfl, rfl, rfl⟩
    refine XR.conv (σ' := [(0, .string a), (1, .int .i64 b), (2, .int .i64 c), (3, .int .i64 d), (9, .bool r1.1), (10, .int .i64 r1.2), (32, .tuple #[.bool r2.1, .int .i64 r2.2])]) (h' := []) (c' := 0) ?_ (by kernel_rfl)
    refine XR.run E0_ok 1 5 [0, 1, 2, 3, 9, 10, 11, 12] rfl (σ' := [(0, .string a), (1, .int .i64 b), (2, .int .i64 c), (3, .int .i64 d), (9, .bool r1.1), (10, .int .i64 r1.2), (11, .bool r2.1), (12, .int .i64 r2.2)]) (h' := []) (c' := 0) (by kernel_rfl) ?_
    refine XR.done (by kernel_rfl) ?_
    show XQ _ _ _ _ _ _ _ _
    refine XQ.seq E0_ok (by kernel_rfl) ?_
    refine XQ.region (by kernel_rfl) ?_
    refine XR.run E0_ok 1 1 [0, 1, 2, 3, 9, 10, 11, 12, 36] rfl (σ' := [(0, .string a), (1, .int .i64 b), (2, .int .i64 c), (3, .int .i64 d), (9, .bool r1.1), (10, .int .i64 r1.2), (11, .bool r2.1), (12, .int .i64 r2.2), (36, .string a)]) (h' := []) (c' := 0) (by kernel_rfl) ?_
    obtain ⟨r3, r3_h, h⟩ := bS h
    refine XR.call E0_ok [0, 1, 2, 3, 9, 10, 11, 12, 37] rfl (K := 15) (args := [.string a]) (d := (some (path 12 37))) (by kernel_rfl) (KC.of_calls E0_ok (F := Proofs.Try.f15) (v := .tuple #[.int .i64 r3.1, .int .i64 r3.2.1, .int .i64 r3.2.2.1, .int .i64 r3.2.2.2]) (by kernel_rfl) rfl rfl (fun w hI => f15_ok m a r3 r3_h w hI)) ?_
    rintro _ _ _ ⟨rfl, rfl, rfl⟩
    refine XR.conv (σ' := [(0, .string a), (1, .int .i64 b), (2, .int .i64 c), (3, .int .i64 d), (9, .bool r1.1), (10, .int .i64 r1.2), (11, .bool r2.1), (12, .int .i64 r2.2), (37, .tuple #[.int .i64 r3.1, .int .i64 r3.2.1, .int .i64 r3.2.2.1, .int .i64 r3.2.2.2])]) (h' := []) (c' := 0) ?_ (by kernel_rfl)
    refine XR.run E0_ok 1 9 [0, 1, 2, 3, 9, 10, 11, 12, 13, 14, 15, 16] rfl (σ' := [(0, .string a), (1, .int .i64 b), (2, .int .i64 c), (3, .int .i64 d), (9, .bool r1.1), (10, .int .i64 r1.2), (11, .bool r2.1), (12, .int .i64 r2.2), (13, .int .i64 r3.1), (14, .int .i64 r3.2.1), (15, .int .i64 r3.2.2.1), (16, .int .i64 r3.2.2.2)]) (h' := []) (c' := 0) (by kernel_rfl) ?_
    refine XR.done (by kernel_rfl) ?_
    show XQ _ _ _ _ _ _ _ _
    refine XQ.seq E0_ok (by kernel_rfl) ?_
    refine XQ.region (by kernel_rfl) ?_
    refine XR.run E0_ok 1 1 [0, 1, 2, 3, 9, 10, 11, 12, 13, 14, 15, 16, 43] rfl (σ' := [(0, .string a), (1, .int .i64 b), (2, .int .i64 c), (3, .int .i64 d), (9, .bool r1.1), (10, .int .i64 r1.2), (11, .bool r2.1), (12, .int .i64 r2.2), (13, .int .i64 r3.1), (14, .int .i64 r3.2.1), (15, .int .i64 r3.2.2.1), (16, .int .i64 r3.2.2.2), (43, .string a)]) (h' := []) (c' := 0) (by kernel_rfl) ?_
    obtain ⟨r4, r4_h, h⟩ := bS h
    refine XR.call E0_ok [0, 1, 2, 3, 9, 10, 11, 12, 13, 14, 15, 16, 44] rfl (K := 16) (args := [.string a]) (d := (some (path 12 44))) (by kernel_rfl) (KC.of_calls E0_ok (F := Proofs.Try.f16) (v := .tuple #[.int .i64 r4.1, .int .i64 r4.2.1, .int .i64 r4.2.2.1, .int .i64 r4.2.2.2]) (by kernel_rfl) rfl rfl (fun w hI => f16_ok m a r4 r4_h w hI)) ?_
    rintro _ _ _ ⟨rfl, rfl, rfl⟩
    refine XR.conv (σ' := [(0, .string a), (1, .int .i64 b), (2, .int .i64 c), (3, .int .i64 d), (9, .bool r1.1), (10, .int .i64 r1.2), (11, .bool r2.1), (12, .int .i64 r2.2), (13, .int .i64 r3.1), (14, .int .i64 r3.2.1), (15, .int .i64 r3.2.2.1), (16, .int .i64 r3.2.2.2), (44, .tuple #[.int .i64 r4.1, .int .i64 r4.2.1, .int .i64 r4.2.2.1, .int .i64 r4.2.2.2])]) (h' := []) (c' := 0) ?_ (by kernel_rfl)
    refine XR.run E0_ok 1 9 [0, 1, 2, 3, 9, 10, 11, 12, 13, 14, 15, 16, 17, 18, 19, 20] rfl (σ' := [(0, .string a), (1, .int .i64 b), (2, .int .i64 c), (3, .int .i64 d), (9, .bool r1.1), (10, .int .i64 r1.2), (11, .bool r2.1), (12, .int .i64 r2.2), (13, .int .i64 r3.1), (14, .int .i64 r3.2.1), (15, .int .i64 r3.2.2.1), (16, .int .i64 r3.2.2.2), (17, .int .i64 r4.1), (18, .int .i64 r4.2.1), (19, .int .i64 r4.2.2.1), (20, .int .i64 r4.2.2.2)]) (h' := []) (c' := 0) (by kernel_rfl) ?_
    refine XR.done (by kernel_rfl) ?_
    show XQ _ _ _ _ _ _ _ _
    refine XQ.seq E0_ok (by kernel_rfl) ?_
    refine XQ.region (by kernel_rfl) ?_
    refine XR.run E0_ok 1 4 [0, 1, 2, 3, 10, 12, 13, 14, 15, 16, 17, 18, 19, 20, 52] rfl (σ' := [(0, .string a), (1, .int .i64 b), (2, .int .i64 c), (3, .int .i64 d), (10, .int .i64 r1.2), (12, .int .i64 r2.2), (13, .int .i64 r3.1), (14, .int .i64 r3.2.1), (15, .int .i64 r3.2.2.1), (16, .int .i64 r3.2.2.2), (17, .int .i64 r4.1), (18, .int .i64 r4.2.1), (19, .int .i64 r4.2.2.1), (20, .int .i64 r4.2.2.2), (52, .bool (r1.1 == r2.1))]) (h' := []) (c' := 0) (by kernel_rfl) ?_
    cases b2 : (r1.1 == r2.1 : Bool) with
    | true =>
      have h := cT b2 h
      refine XR.run E0_ok 1 5 [0, 1, 2, 3, 13, 14, 15, 16, 17, 18, 19, 20, 57] rfl (σ' := [(0, .string a), (1, .int .i64 b), (2, .int .i64 c), (3, .int .i64 d), (13, .int .i64 r3.1), (14, .int .i64 r3.2.1), (15, .int .i64 r3.2.2.1), (16, .int .i64 r3.2.2.2), (17, .int .i64 r4.1), (18, .int .i64 r4.2.1), (19, .int .i64 r4.2.2.1), (20, .int .i64 r4.2.2.2), (57, .bool (r1.2 == r2.2))]) (h' := []) (c' := 0) (by kernel_rfl) ?_
      cases b3 : (r1.2 == r2.2 : Bool) with
      | true =>
        have h := cT b3 h
        refine XR.run E0_ok 1 5 [0, 1, 2, 3, 14, 15, 16, 18, 19, 20, 62] rfl (σ' := [(0, .string a), (1, .int .i64 b), (2, .int .i64 c), (3, .int .i64 d), (14, .int .i64 r3.2.1), (15, .int .i64 r3.2.2.1), (16, .int .i64 r3.2.2.2), (18, .int .i64 r4.2.1), (19, .int .i64 r4.2.2.1), (20, .int .i64 r4.2.2.2), (62, .bool (r3.1 == r4.1))]) (h' := []) (c' := 0) (by kernel_rfl) ?_
        cases b4 : (r3.1 == r4.1 : Bool) with
        | true =>
          have h := cT b4 h
          refine XR.run E0_ok 1 5 [0, 1, 2, 3, 15, 16, 19, 20, 67] rfl (σ' := [(0, .string a), (1, .int .i64 b), (2, .int .i64 c), (3, .int .i64 d), (15, .int .i64 r3.2.2.1), (16, .int .i64 r3.2.2.2), (19, .int .i64 r4.2.2.1), (20, .int .i64 r4.2.2.2), (67, .bool (r3.2.1 == r4.2.1))]) (h' := []) (c' := 0) (by kernel_rfl) ?_
          cases b5 : (r3.2.1 == r4.2.1 : Bool) with
          | true =>
            have h := cT b5 h
            refine XR.run E0_ok 1 5 [0, 1, 2, 3, 16, 20, 72] rfl (σ' := [(0, .string a), (1, .int .i64 b), (2, .int .i64 c), (3, .int .i64 d), (16, .int .i64 r3.2.2.2), (20, .int .i64 r4.2.2.2), (72, .bool (r3.2.2.1 == r4.2.2.1))]) (h' := []) (c' := 0) (by kernel_rfl) ?_
            cases b6 : (r3.2.2.1 == r4.2.2.1 : Bool) with
            | true =>
              have h := cT b6 h
              refine XR.run E0_ok 1 5 [0, 1, 2, 3, 77] rfl (σ' := [(0, .string a), (1, .int .i64 b), (2, .int .i64 c), (3, .int .i64 d), (77, .bool (r3.2.2.2 == r4.2.2.2))]) (h' := []) (c' := 0) (by kernel_rfl) ?_
              cases b7 : (r3.2.2.2 == r4.2.2.2 : Bool) with
              | true =>
                have h := cT b7 h
                refine XR.run E0_ok 1 4 [0, 1, 2, 3, 77, 78, 79, 80, 81] rfl (σ' := [(0, .string a), (1, .int .i64 b), (2, .int .i64 c), (3, .int .i64 d), (77, .bool true), (78, .string a), (79, .int .i64 b), (80, .int .i64 c), (81, .int .i64 d)]) (h' := []) (c' := 0) (by kernel_rfl) ?_
                obtain ⟨r5, r5_h, h⟩ := bS h
                refine XR.call E0_ok [0, 1, 2, 3, 77, 82] rfl (K := 17) (args := [.string a, .int .i64 b, .int .i64 c, .int .i64 d]) (d := (some (path 12 82))) (by kernel_rfl) (KC.of_calls E0_ok (F := Proofs.Try.f17) (v := .int .i64 r5) (by kernel_rfl) rfl rfl (fun w hI => f17_ok m a b c d r5 r5_h w hI)) ?_
                rintro _ _ _ ⟨rfl, rfl, rfl⟩
                refine XR.conv (σ' := [(0, .string a), (1, .int .i64 b), (2, .int .i64 c), (3, .int .i64 d), (77, .bool true), (82, .int .i64 r5)]) (h' := []) (c' := 0) ?_ (by kernel_rfl)
                refine XR.run E0_ok 1 4 [0, 77, 82, 83, 84, 85, 86] rfl (σ' := [(0, .string a), (77, .bool true), (82, .int .i64 r5), (83, .string a), (84, .int .i64 b), (85, .int .i64 c), (86, .int .i64 d)]) (h' := []) (c' := 0) (by kernel_rfl) ?_
                obtain ⟨r6, r6_h, h⟩ := bS h
                refine XR.call E0_ok [0, 77, 82, 87] rfl (K := 18) (args := [.string a, .int .i64 b, .int .i64 c, .int .i64 d]) (d := (some (path 12 87))) (by kernel_rfl) (KC.of_calls E0_ok (F := Proofs.Try.f18) (v := .int .i64 r6) (by kernel_rfl) rfl rfl (fun w hI => f18_ok m a b c d r6 r6_h w hI)) ?_
                rintro _ _ _ ⟨rfl, rfl, rfl⟩
                refine XR.conv (σ' := [(0, .string a), (77, .bool true), (82, .int .i64 r5), (87, .int .i64 r6)]) (h' := []) (c' := 0) ?_ (by kernel_rfl)
                refine XR.run E0_ok 1 3 [0, 90] rfl (σ' := [(0, .string a), (90, .bool (r5 == r6))]) (h' := []) (c' := 0) (by kernel_rfl) ?_
                cases b8 : (r5 == r6 : Bool) with
                | true =>
                  have h := cT b8 h
                  refine XR.run E0_ok 1 1 [0, 90, 91] rfl (σ' := [(0, .string a), (90, .bool true), (91, .string a)]) (h' := []) (c' := 0) (by kernel_rfl) ?_
                  obtain ⟨r7, r7_h, h⟩ := bS h
                  refine XR.call E0_ok [0, 90, 92] rfl (K := 19) (args := [.string a]) (d := (some (path 12 92))) (by kernel_rfl) (KC.of_calls E0_ok (F := Proofs.Try.f19) (v := .int .i64 r7) (by kernel_rfl) rfl rfl (fun w hI => f19_ok m a r7 r7_h w hI)) ?_
                  rintro _ _ _ ⟨rfl, rfl, rfl⟩
                  refine XR.conv (σ' := [(0, .string a), (90, .bool true), (92, .int .i64 r7)]) (h' := []) (c' := 0) ?_ (by kernel_rfl)
                  refine XR.run E0_ok 1 1 [90, 92, 93] rfl (σ' := [(90, .bool true), (92, .int .i64 r7), (93, .string a)]) (h' := []) (c' := 0) (by kernel_rfl) ?_
                  obtain ⟨r8, r8_h, h⟩ := bS h
                  refine XR.call E0_ok [90, 92, 94] rfl (K := 20) (args := [.string a]) (d := (some (path 12 94))) (by kernel_rfl) (KC.of_calls E0_ok (F := Proofs.Try.f20) (v := .int .i64 r8) (by kernel_rfl) rfl rfl (fun w hI => f20_ok m a r8 r8_h w hI)) ?_
                  rintro _ _ _ ⟨rfl, rfl, rfl⟩
                  refine XR.conv (σ' := [(90, .bool true), (92, .int .i64 r7), (94, .int .i64 r8)]) (h' := []) (c' := 0) ?_ (by kernel_rfl)
                  refine XR.run E0_ok 1 3 [97] rfl (σ' := [(97, .bool (r7 == r8))]) (h' := []) (c' := 0) (by kernel_rfl) ?_
                  cases b9 : (r7 == r8 : Bool) with
                  | true =>
                    have h := cT b9 h
                    refine XR.call E0_ok [97, 98] rfl (K := 12) (args := []) (d := (some (path 12 98))) (by kernel_rfl) (KC.of_calls E0_ok (F := Proofs.Try.f12) (v := .bool true) (by kernel_rfl) rfl rfl (works_ok)) ?_
                    rintro _ _ _ ⟨rfl, rfl, rfl⟩
                    refine XR.conv (σ' := [(97, .bool true), (98, .bool true)]) (h' := []) (c' := 0) ?_ (by kernel_rfl)
                    refine XR.run E0_ok 1 2 [8] rfl (σ' := [(8, .bool true)]) (h' := []) (c' := 0) (by kernel_rfl) ?_
                    refine XR.done (by kernel_rfl) ?_
                    show XQ _ _ _ _ _ _ _ _
                    refine XQ.ret (by kernel_rfl) ?_
                    have h := Option.some.inj h
                    subst h
                    exact ⟨fun i q => (by cases q), .bool true, (by kernel_rfl), rfl⟩
                  | false =>
                    have h := cF b9 h
                    refine XR.run E0_ok 1 3 [8] rfl (σ' := [(8, .bool false)]) (h' := []) (c' := 0) (by kernel_rfl) ?_
                    refine XR.done (by kernel_rfl) ?_
                    show XQ _ _ _ _ _ _ _ _
                    refine XQ.ret (by kernel_rfl) ?_
                    have h := Option.some.inj h
                    subst h
                    exact ⟨fun i q => (by cases q), .bool false, (by kernel_rfl), rfl⟩
                | false =>
                  have h := cF b8 h
                  refine XR.run E0_ok 1 10 [8] rfl (σ' := [(8, .bool false)]) (h' := []) (c' := 0) (by kernel_rfl) ?_
                  refine XR.done (by kernel_rfl) ?_
                  show XQ _ _ _ _ _ _ _ _
                  refine XQ.ret (by kernel_rfl) ?_
                  have h := Option.some.inj h
                  subst h
                  exact ⟨fun i q => (by cases q), .bool false, (by kernel_rfl), rfl⟩
              | false =>
                have h := cF b7 h
                refine XR.run E0_ok 1 23 [8] rfl (σ' := [(8, .bool false)]) (h' := []) (c' := 0) (by kernel_rfl) ?_
                refine XR.done (by kernel_rfl) ?_
                show XQ _ _ _ _ _ _ _ _
                refine XQ.ret (by kernel_rfl) ?_
                have h := Option.some.inj h
                subst h
                exact ⟨fun i q => (by cases q), .bool false, (by kernel_rfl), rfl⟩
            | false =>
              have h := cF b6 h
              refine XR.run E0_ok 1 28 [8] rfl (σ' := [(8, .bool false)]) (h' := []) (c' := 0) (by kernel_rfl) ?_
              refine XR.done (by kernel_rfl) ?_
              show XQ _ _ _ _ _ _ _ _
              refine XQ.ret (by kernel_rfl) ?_
              have h := Option.some.inj h
              subst h
              exact ⟨fun i q => (by cases q), .bool false, (by kernel_rfl), rfl⟩
          | false =>
            have h := cF b5 h
            refine XR.run E0_ok 1 33 [8] rfl (σ' := [(8, .bool false)]) (h' := []) (c' := 0) (by kernel_rfl) ?_
            refine XR.done (by kernel_rfl) ?_
            show XQ _ _ _ _ _ _ _ _
            refine XQ.ret (by kernel_rfl) ?_
            have h := Option.some.inj h
            subst h
            exact ⟨fun i q => (by cases q), .bool false, (by kernel_rfl), rfl⟩
        | false =>
          have h := cF b4 h
          refine XR.run E0_ok 1 38 [8] rfl (σ' := [(8, .bool false)]) (h' := []) (c' := 0) (by kernel_rfl) ?_
          refine XR.done (by kernel_rfl) ?_
          show XQ _ _ _ _ _ _ _ _
          refine XQ.ret (by kernel_rfl) ?_
          have h := Option.some.inj h
          subst h
          exact ⟨fun i q => (by cases q), .bool false, (by kernel_rfl), rfl⟩
      | false =>
        have h := cF b3 h
        refine XR.run E0_ok 1 43 [8] rfl (σ' := [(8, .bool false)]) (h' := []) (c' := 0) (by kernel_rfl) ?_
        refine XR.done (by kernel_rfl) ?_
        show XQ _ _ _ _ _ _ _ _
        refine XQ.ret (by kernel_rfl) ?_
        have h := Option.some.inj h
        subst h
        exact ⟨fun i q => (by cases q), .bool false, (by kernel_rfl), rfl⟩
    | false =>
      have h := cF b2 h
      refine XR.run E0_ok 1 48 [8] rfl (σ' := [(8, .bool false)]) (h' := []) (c' := 0) (by kernel_rfl) ?_
      refine XR.done (by kernel_rfl) ?_
      show XQ _ _ _ _ _ _ _ _
      refine XQ.ret (by kernel_rfl) ?_
      have h := Option.some.inj h
      subst h
      exact ⟨fun i q => (by cases q), .bool false, (by kernel_rfl), rfl⟩

end Go.Xm
