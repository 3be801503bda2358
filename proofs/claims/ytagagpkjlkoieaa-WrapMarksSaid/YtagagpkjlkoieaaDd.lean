/- What these functions of the program compute, as functions in Lean, and the proofs that they do: vitolalaw05.WrapTurns. Conditions: none. -/
import Derived.Test.YtagagpkjlkoieaaDf
namespace Go.Xm
open Go.RowKit
set_option linter.unusedVariables false
set_option linter.unusedSimpArgs false

/-! vitola/vitolalaw05.WrapTurns -/
noncomputable def f3_C3 : Code := Proofs.Try.f3.body.getD .skip

def f3 (m : Nat) (a_Marks : Int) (a_Step : Int) (a_Turns : Int) (b : Int) (c : Int) : Option (Bool) :=
  (f16 m a_Marks a_Step a_Turns b).bind fun r1 =>
    (f17 m a_Marks a_Step a_Turns b).bind fun r2 =>
      (f18 m a_Marks a_Step a_Turns c).bind fun r3 =>
        (f19 m a_Marks a_Step a_Turns c).bind fun r4 =>
          cond (r1.1 != r2.1) (
            some (false)
          ) (
            cond (r1.2 != r2.2) (
              some (false)
            ) (
              cond (r3.1 != r4.1) (
                some (false)
              ) (
                cond (r3.2 != r4.2) (
                  some (false)
                ) (
                  (f20 m a_Marks a_Step a_Turns).bind fun r5 =>
                    (f21 m a_Marks a_Step a_Turns).bind fun r6 =>
                      cond (r5 != r6) (
                        some (false)
                      ) (
                        (f22 m a_Marks a_Step a_Turns b).bind fun r7 =>
                          (f23 m a_Marks a_Step a_Turns b).bind fun r8 =>
                            (f24 m a_Marks a_Step a_Turns b).bind fun r9 =>
                              (f25 m a_Marks a_Step a_Turns b).bind fun r10 =>
                                (f26 m a_Marks a_Step a_Turns).bind fun r11 =>
                                  (f27 m a_Marks a_Step a_Turns).bind fun r12 =>
                                    cond (r7.1 == r8.1) (
                                      cond (r7.2 == r8.2) (
                                        cond (r9.1 == r10.1) (
                                          cond (r9.2 == r10.2) (
                                            cond (r11.1 == r12.1) (
                                              cond (r11.2.1 == r12.2.1) (
                                                cond (r11.2.2 == r12.2.2) (
                                                  some (true)
                                                ) (
                                                  some (false)
                                                )
                                              ) (
                                                some (false)
                                              )
                                            ) (
                                              some (false)
                                            )
                                          ) (
                                            some (false)
                                          )
                                        ) (
                                          some (false)
                                        )
                                      ) (
                                        some (false)
                                      )
                                    ) (
                                      some (false)
                                    )
                      )
                )
              )
            )
          )

theorem f3_ok (m : Nat) (a_Marks : Int) (a_Step : Int) (a_Turns : Int) (b : Int) (c : Int) (o : Bool) (h : f3 m a_Marks a_Step a_Turns b c = some o) (w : World) (hI : anyInv w) : Calls Proofs.Try.prog 3 #[.agg #[.int .i64 a_Marks, .int .i64 a_Step, .int .i64 a_Turns], .int .i64 b, .int .i64 c] w fun e w' => e = .returned (.bool o) ∧ Below w.heap.size w w' := by
  refine KC.calls (E := E0) (args := [.agg #[.int .i64 a_Marks, .int .i64 a_Step, .int .i64 a_Turns], .int .i64 b, .int .i64 c]) (v := .bool o) rfl rfl (KC.bodyN E0_ok (F := Proofs.Try.f3) (by kernel_rfl) (code := f3_C3) (by kernel_rfl) (nt := 144) (by kernel_rfl) (rs := [.tmp 6]) (by kernel_rfl) (by kernel_rfl) (σ := [(0, .agg #[.int .i64 a_Marks, .int .i64 a_Step, .int .i64 a_Turns]), (1, .int .i64 b), (2, .int .i64 c)]) (by kernel_rfl) ?_) w (anyInv_size hI) hI
  unfold f3 at h
  refine XQ.seq E0_ok (by kernel_rfl) ?_
  refine XQ.region (by kernel_rfl) ?_
  refine XR.run E0_ok 1 2 [1, 2, 3] rfl (σ' := [(1, .int .i64 b), (2, .int .i64 c), (3, .pointer (some ⟨0, 0, none⟩))]) (h' := [(0, .cells [.int .i64 a_Marks, .int .i64 a_Step, .int .i64 a_Turns] 0 23 0)]) (c' := 1) (by kernel_rfl) ?_
  refine XR.done (by kernel_rfl) ?_
  show XQ _ _ _ _ _ _ _ _
  refine XQ.seq E0_ok (by kernel_rfl) ?_
  refine XQ.region (by kernel_rfl) ?_
  refine XR.run E0_ok 1 3 [1, 2, 3, 7] rfl (σ' := [(1, .int .i64 b), (2, .int .i64 c), (3, .pointer (some ⟨0, 0, none⟩)), (7, .pointer (some ⟨1, 0, none⟩))]) (h' := [(1, .cells [.int .i64 a_Marks, .int .i64 a_Step, .int .i64 a_Turns] 0 24 0), (0, .cells [.int .i64 a_Marks, .int .i64 a_Step, .int .i64 a_Turns] 0 23 0)]) (c' := 2) (by kernel_rfl) ?_
  refine XR.done (by kernel_rfl) ?_
  show XQ _ _ _ _ _ _ _ _
  refine XQ.seq E0_ok (by kernel_rfl) ?_
  refine XQ.region (by kernel_rfl) ?_
  refine XR.run E0_ok 1 2 [1, 2, 3, 7, 24, 25] rfl (σ' := [(1, .int .i64 b), (2, .int .i64 c), (3, .pointer (some ⟨0, 0, none⟩)), (7, .pointer (some ⟨1, 0, none⟩)), (24, .agg #[.int .i64 a_Marks, .int .i64 a_Step, .int .i64 a_Turns]), (25, .int .i64 b)]) (h' := [(1, .cells [.int .i64 a_Marks, .int .i64 a_Step, .int .i64 a_Turns] 0 24 0), (0, .cells [.int .i64 a_Marks, .int .i64 a_Step, .int .i64 a_Turns] 0 23 0)]) (c' := 2) (by kernel_rfl) ?_
  obtain ⟨r1, r1_h, h⟩ := bS h
  refine XR.call E0_ok [1, 2, 3, 7, 26] rfl (K := 16) (args := [.agg #[.int .i64 a_Marks, .int .i64 a_Step, .int .i64 a_Turns], .int .i64 b]) (d := (some (path 12 26))) (by kernel_rfl) (KC.of_calls E0_ok (F := Proofs.Try.f16) (v := .tuple #[.int .i64 r1.1, .int .i64 r1.2]) (by kernel_rfl) rfl rfl (fun w hI => f16_ok m a_Marks a_Step a_Turns b r1 r1_h w hI)) ?_
  rintro _ _ _ ⟨rfl, rfl, rfl⟩
  refine XR.conv (σ' := [(1, .int .i64 b), (2, .int .i64 c), (3, .pointer (some ⟨0, 0, none⟩)), (7, .pointer (some ⟨1, 0, none⟩)), (26, .tuple #[.int .i64 r1.1, .int .i64 r1.2])]) (h' := [(1, .cells [.int .i64 a_Marks, .int .i64 a_Step, .int .i64 a_Turns] 0 24 0), (0, .cells [.int .i64 a_Marks, .int .i64 a_Step, .int .i64 a_Turns] 0 23 0)]) (c' := 2) ?_ (by kernel_rfl)
  refine XR.run E0_ok 1 5 [1, 2, 3, 7, 8, 9] rfl (σ' := [(1, .int .i64 b), (2, .int .i64 c), (3, .pointer (some ⟨0, 0, none⟩)), (7, .pointer (some ⟨1, 0, none⟩)), (8, .int .i64 r1.1), (9, .int .i64 r1.2)]) (h' := [(1, .cells [.int .i64 a_Marks, .int .i64 a_Step, .int .i64 a_Turns] 0 24 0), (0, .cells [.int .i64 a_Marks, .int .i64 a_Step, .int .i64 a_Turns] 0 23 0)]) (c' := 2) (by kernel_rfl) ?_
  refine XR.done (by kernel_rfl) ?_
  show XQ _ _ _ _ _ _ _ _
  refine XQ.seq E0_ok (by kernel_rfl) ?_
  refine XQ.region (by kernel_rfl) ?_
  refine XR.run E0_ok 1 2 [1, 2, 3, 7, 8, 9, 30, 31] rfl (σ' := [(1, .int .i64 b), (2, .int .i64 c), (3, .pointer (some ⟨0, 0, none⟩)), (7, .pointer (some ⟨1, 0, none⟩)), (8, .int .i64 r1.1), (9, .int .i64 r1.2), (30, .agg #[.int .i64 a_Marks, .int .i64 a_Step, .int .i64 a_Turns]), (31, .int .i64 b)]) (h' := [(1, .cells [.int .i64 a_Marks, .int .i64 a_Step, .int .i64 a_Turns] 0 24 0), (0, .cells [.int .i64 a_Marks, .int .i64 a_Step, .int .i64 a_Turns] 0 23 0)]) (c' := 2) (by kernel_rfl) ?_
  obtain ⟨r2, r2_h, h⟩ := bS h
  refine XR.call E0_ok [1, 2, 3, 7, 8, 9, 32] rfl (K := 17) (args := [.agg #[.int .i64 a_Marks, .int .i64 a_Step, .int .i64 a_Turns], .int .i64 b]) (d := (some (path 12 32))) (by kernel_rfl) (KC.of_calls E0_ok (F := Proofs.Try.f17) (v := .tuple #[.int .i64 r2.1, .int .i64 r2.2]) (by kernel_rfl) rfl rfl (fun w hI => f17_ok m a_Marks a_Step a_Turns b r2 r2_h w hI)) ?_
  rintro _ _ _ ⟨rfl, rfl, rfl⟩
  refine XR.conv (σ' := [(1, .int .i64 b), (2, .int .i64 c), (3, .pointer (some ⟨0, 0, none⟩)), (7, .pointer (some ⟨1, 0, none⟩)), (8, .int .i64 r1.1), (9, .int .i64 r1.2), (32, .tuple #[.int .i64 r2.1, .int .i64 r2.2])]) (h' := [(1, .cells [.int .i64 a_Marks, .int .i64 a_Step, .int .i64 a_Turns] 0 24 0), (0, .cells [.int .i64 a_Marks, .int .i64 a_Step, .int .i64 a_Turns] 0 23 0)]) (c' := 2) ?_ (by kernel_rfl)
  refine XR.run E0_ok 1 5 [1, 2, 3, 7, 8, 9, 10, 11] rfl (σ' := [(1, .int .i64 b), (2, .int .i64 c), (3, .pointer (some ⟨0, 0, none⟩)), (7, .pointer (some ⟨1, 0, none⟩)), (8, .int .i64 r1.1), (9, .int .i64 r1.2), (10, .int .i64 r2.1), (11, .int .i64 r2.2)]) (h' := [(1, .cells [.int .i64 a_Marks, .int .i64 a_Step, .int .i64 a_Turns] 0 24 0), (0, .cells [.int .i64 a_Marks, .int .i64 a_Step, .int .i64 a_Turns] 0 23 0)]) (c' := 2) (by kernel_rfl) ?_
  refine XR.done (by kernel_rfl) ?_
  show XQ _ _ _ _ _ _ _ _
  refine XQ.seq E0_ok (by kernel_rfl) ?_
  refine XQ.region (by kernel_rfl) ?_
  refine XR.run E0_ok 1 2 [1, 2, 3, 7, 8, 9, 10, 11, 36, 37] rfl (σ' := [(1, .int .i64 b), (2, .int .i64 c), (3, .pointer (some ⟨0, 0, none⟩)), (7, .pointer (some ⟨1, 0, none⟩)), (8, .int .i64 r1.1), (9, .int .i64 r1.2), (10, .int .i64 r2.1), (11, .int .i64 r2.2), (36, .agg #[.int .i64 a_Marks, .int .i64 a_Step, .int .i64 a_Turns]), (37, .int .i64 c)]) (h' := [(1, .cells [.int .i64 a_Marks, .int .i64 a_Step, .int .i64 a_Turns] 0 24 0), (0, .cells [.int .i64 a_Marks, .int .i64 a_Step, .int .i64 a_Turns] 0 23 0)]) (c' := 2) (by kernel_rfl) ?_
  obtain ⟨r3, r3_h, h⟩ := bS h
  refine XR.call E0_ok [1, 2, 3, 7, 8, 9, 10, 11, 38] rfl (K := 18) (args := [.agg #[.int .i64 a_Marks, .int .i64 a_Step, .int .i64 a_Turns], .int .i64 c]) (d := (some (path 12 38))) (by kernel_rfl) (KC.of_calls E0_ok (F := Proofs.Try.f18) (v := .tuple #[.int .i64 r3.1, .int .i64 r3.2]) (by kernel_rfl) rfl rfl (fun w hI => f18_ok m a_Marks a_Step a_Turns c r3 r3_h w hI)) ?_
  rintro _ _ _ ⟨rfl, rfl, rfl⟩
  refine XR.conv (σ' := [(1, .int .i64 b), (2, .int .i64 c), (3, .pointer (some ⟨0, 0, none⟩)), (7, .pointer (some ⟨1, 0, none⟩)), (8, .int .i64 r1.1), (9, .int .i64 r1.2), (10, .int .i64 r2.1), (11, .int .i64 r2.2), (38, .tuple #[.int .i64 r3.1, .int .i64 r3.2])]) (h' := [(1, .cells [.int .i64 a_Marks, .int .i64 a_Step, .int .i64 a_Turns] 0 24 0), (0, .cells [.int .i64 a_Marks, .int .i64 a_Step, .int .i64 a_Turns] 0 23 0)]) (c' := 2) ?_ (by kernel_rfl)
  refine XR.run E0_ok 1 5 [1, 2, 3, 7, 8, 9, 10, 11, 12, 13] rfl (σ' := [(1, .int .i64 b), (2, .int .i64 c), (3, .pointer (some ⟨0, 0, none⟩)), (7, .pointer (some ⟨1, 0, none⟩)), (8, .int .i64 r1.1), (9, .int .i64 r1.2), (10, .int .i64 r2.1), (11, .int .i64 r2.2), (12, .int .i64 r3.1), (13, .int .i64 r3.2)]) (h' := [(1, .cells [.int .i64 a_Marks, .int .i64 a_Step, .int .i64 a_Turns] 0 24 0), (0, .cells [.int .i64 a_Marks, .int .i64 a_Step, .int .i64 a_Turns] 0 23 0)]) (c' := 2) (by kernel_rfl) ?_
  refine XR.done (by kernel_rfl) ?_
  show XQ _ _ _ _ _ _ _ _
  refine XQ.seq E0_ok (by kernel_rfl) ?_
  refine XQ.region (by kernel_rfl) ?_
  refine XR.run E0_ok 1 2 [1, 3, 7, 8, 9, 10, 11, 12, 13, 42, 43] rfl (σ' := [(1, .int .i64 b), (3, .pointer (some ⟨0, 0, none⟩)), (7, .pointer (some ⟨1, 0, none⟩)), (8, .int .i64 r1.1), (9, .int .i64 r1.2), (10, .int .i64 r2.1), (11, .int .i64 r2.2), (12, .int .i64 r3.1), (13, .int .i64 r3.2), (42, .agg #[.int .i64 a_Marks, .int .i64 a_Step, .int .i64 a_Turns]), (43, .int .i64 c)]) (h' := [(1, .cells [.int .i64 a_Marks, .int .i64 a_Step, .int .i64 a_Turns] 0 24 0), (0, .cells [.int .i64 a_Marks, .int .i64 a_Step, .int .i64 a_Turns] 0 23 0)]) (c' := 2) (by kernel_rfl) ?_
  obtain ⟨r4, r4_h, h⟩ := bS h
  refine XR.call E0_ok [1, 3, 7, 8, 9, 10, 11, 12, 13, 44] rfl (K := 19) (args := [.agg #[.int .i64 a_Marks, .int .i64 a_Step, .int .i64 a_Turns], .int .i64 c]) (d := (some (path 12 44))) (by kernel_rfl) (KC.of_calls E0_ok (F := Proofs.Try.f19) (v := .tuple #[.int .i64 r4.1, .int .i64 r4.2]) (by kernel_rfl) rfl rfl (fun w hI => f19_ok m a_Marks a_Step a_Turns c r4 r4_h w hI)) ?_
  rintro _ _ _ ⟨rfl, rfl, rfl⟩
  refine XR.conv (σ' := [(1, .int .i64 b), (3, .pointer (some ⟨0, 0, none⟩)), (7, .pointer (some ⟨1, 0, none⟩)), (8, .int .i64 r1.1), (9, .int .i64 r1.2), (10, .int .i64 r2.1), (11, .int .i64 r2.2), (12, .int .i64 r3.1), (13, .int .i64 r3.2), (44, .tuple #[.int .i64 r4.1, .int .i64 r4.2])]) (h' := [(1, .cells [.int .i64 a_Marks, .int .i64 a_Step, .int .i64 a_Turns] 0 24 0), (0, .cells [.int .i64 a_Marks, .int .i64 a_Step, .int .i64 a_Turns] 0 23 0)]) (c' := 2) ?_ (by kernel_rfl)
  refine XR.run E0_ok 1 5 [1, 3, 7, 8, 9, 10, 11, 12, 13, 14, 15] rfl (σ' := [(1, .int .i64 b), (3, .pointer (some ⟨0, 0, none⟩)), (7, .pointer (some ⟨1, 0, none⟩)), (8, .int .i64 r1.1), (9, .int .i64 r1.2), (10, .int .i64 r2.1), (11, .int .i64 r2.2), (12, .int .i64 r3.1), (13, .int .i64 r3.2), (14, .int .i64 r4.1), (15, .int .i64 r4.2)]) (h' := [(1, .cells [.int .i64 a_Marks, .int .i64 a_Step, .int .i64 a_Turns] 0 24 0), (0, .cells [.int .i64 a_Marks, .int .i64 a_Step, .int .i64 a_Turns] 0 23 0)]) (c' := 2) (by kernel_rfl) ?_
  refine XR.done (by kernel_rfl) ?_
  show XQ _ _ _ _ _ _ _ _
  refine XQ.seq E0_ok (by kernel_rfl) ?_
  refine XQ.seq E0_ok (by kernel_rfl) ?_
  refine XQ.quiet E0_ok (by kernel_rfl) (by kernel_rfl) ?_
  refine XU.run E0_ok 1 4 [1, 3, 7, 9, 11, 12, 13, 14, 15, 50] rfl (σ' := [(1, .int .i64 b), (3, .pointer (some ⟨0, 0, none⟩)), (7, .pointer (some ⟨1, 0, none⟩)), (9, .int .i64 r1.2), (11, .int .i64 r2.2), (12, .int .i64 r3.1), (13, .int .i64 r3.2), (14, .int .i64 r4.1), (15, .int .i64 r4.2), (50, .bool (r1.1 != r2.1))]) (by kernel_rfl) ?_
  cases b1 : (r1.1 != r2.1 : Bool) with
  | true =>
    have h := cT b1 h
    refine XU.run E0_ok 1 21 [1, 3, 7, 71] rfl (σ' := [(1, .int .i64 b), (3, .pointer (some ⟨0, 0, none⟩)), (7, .pointer (some ⟨1, 0, none⟩)), (71, .bool true)]) (by kernel_rfl) ?_
    refine XU.done (by kernel_rfl) ?_
    show XQ _ _ _ _ _ _ _ _
    refine XQ.cond (s := (.tmp 71)) (b := true) (by kernel_rfl) (by kernel_rfl) (fun _ => ?_) (fun q => by cases q)
    refine XQ.seq E0_ok (by kernel_rfl) ?_
    refine XQ.region (by kernel_rfl) ?_
    refine XR.run E0_ok 1 1 [6] rfl (σ' := [(6, .bool false)]) (h' := [(1, .cells [.int .i64 a_Marks, .int .i64 a_Step, .int .i64 a_Turns] 0 24 0), (0, .cells [.int .i64 a_Marks, .int .i64 a_Step, .int .i64 a_Turns] 0 23 0)]) (c' := 2) (by kernel_rfl) ?_
    refine XR.done (by kernel_rfl) ?_
    show XQ _ _ _ _ _ _ _ _
    refine XQ.ret (by kernel_rfl) ?_
    have h := Option.some.inj h
    subst h
    exact ⟨fun i q => (by cases q), .bool false, (by kernel_rfl), rfl⟩
  | false =>
    have h := cF b1 h
    refine XU.run E0_ok 1 5 [1, 3, 7, 12, 13, 14, 15, 55] rfl (σ' := [(1, .int .i64 b), (3, .pointer (some ⟨0, 0, none⟩)), (7, .pointer (some ⟨1, 0, none⟩)), (12, .int .i64 r3.1), (13, .int .i64 r3.2), (14, .int .i64 r4.1), (15, .int .i64 r4.2), (55, .bool (r1.2 != r2.2))]) (by kernel_rfl) ?_
    cases b2 : (r1.2 != r2.2 : Bool) with
    | true =>
      have h := cT b2 h
      refine XU.run E0_ok 1 16 [1, 3, 7, 71] rfl (σ' := [(1, .int .i64 b), (3, .pointer (some ⟨0, 0, none⟩)), (7, .pointer (some ⟨1, 0, none⟩)), (71, .bool true)]) (by kernel_rfl) ?_
      refine XU.done (by kernel_rfl) ?_
      show XQ _ _ _ _ _ _ _ _
      refine XQ.cond (s := (.tmp 71)) (b := true) (by kernel_rfl) (by kernel_rfl) (fun _ => ?_) (fun q => by cases q)
      refine XQ.seq E0_ok (by kernel_rfl) ?_
      refine XQ.region (by kernel_rfl) ?_
      refine XR.run E0_ok 1 1 [6] rfl (σ' := [(6, .bool false)]) (h' := [(1, .cells [.int .i64 a_Marks, .int .i64 a_Step, .int .i64 a_Turns] 0 24 0), (0, .cells [.int .i64 a_Marks, .int .i64 a_Step, .int .i64 a_Turns] 0 23 0)]) (c' := 2) (by kernel_rfl) ?_
      refine XR.done (by kernel_rfl) ?_
      show XQ _ _ _ _ _ _ _ _
      refine XQ.ret (by kernel_rfl) ?_
      have h := Option.some.inj h
      subst h
      exact ⟨fun i q => (by cases q), .bool false, (by kernel_rfl), rfl⟩
    | false =>
      have h := cF b2 h
      refine XU.run E0_ok 1 5 [1, 3, 7, 13, 15, 60] rfl (σ' := [(1, .int .i64 b), (3, .pointer (some ⟨0, 0, none⟩)), (7, .pointer (some ⟨1, 0, none⟩)), (13, .int .i64 r3.2), (15, .int .i64 r4.2), (60, .bool (r3.1 != r4.1))]) (by kernel_rfl) ?_
      cases b3 : (r3.1 != r4.1 : Bool) with
      | true =>
        have h := cT b3 h
        refine XU.run E0_ok 1 11 [1, 3, 7, 71] rfl (σ' := [(1, .int .i64 b), (3, .pointer (some ⟨0, 0, none⟩)), (7, .pointer (some ⟨1, 0, none⟩)), (71, .bool true)]) (by kernel_rfl) ?_
        refine XU.done (by kernel_rfl) ?_
        show XQ _ _ _ _ _ _ _ _
        refine XQ.cond (s := (.tmp 71)) (b := true) (by kernel_rfl) (by kernel_rfl) (fun _ => ?_) (fun q => by cases q)
        refine XQ.seq E0_ok (by kernel_rfl) ?_
        refine XQ.region (by kernel_rfl) ?_
        refine XR.run E0_ok 1 1 [6] rfl (σ' := [(6, .bool false)]) (h' := [(1, .cells [.int .i64 a_Marks, .int .i64 a_Step, .int .i64 a_Turns] 0 24 0), (0, .cells [.int .i64 a_Marks, .int .i64 a_Step, .int .i64 a_Turns] 0 23 0)]) (c' := 2) (by kernel_rfl) ?_
        refine XR.done (by kernel_rfl) ?_
        show XQ _ _ _ _ _ _ _ _
        refine XQ.ret (by kernel_rfl) ?_
        have h := Option.some.inj h
        subst h
        exact ⟨fun i q => (by cases q), .bool false, (by kernel_rfl), rfl⟩
      | false =>
        have h := cF b3 h
        refine XU.run E0_ok 1 5 [1, 3, 7, 65] rfl (σ' := [(1, .int .i64 b), (3, .pointer (some ⟨0, 0, none⟩)), (7, .pointer (some ⟨1, 0, none⟩)), (65, .bool (r3.2 != r4.2))]) (by kernel_rfl) ?_
        cases b4 : (r3.2 != r4.2 : Bool) with
        | true =>
          have h := cT b4 h
          refine XU.run E0_ok 1 6 [1, 3, 7, 71] rfl (σ' := [(1, .int .i64 b), (3, .pointer (some ⟨0, 0, none⟩)), (7, .pointer (some ⟨1, 0, none⟩)), (71, .bool true)]) (by kernel_rfl) ?_
          refine XU.done (by kernel_rfl) ?_
          show XQ _ _ _ _ _ _ _ _
          refine XQ.cond (s := (.tmp 71)) (b := true) (by kernel_rfl) (by kernel_rfl) (fun _ => ?_) (fun q => by cases q)
          refine XQ.seq E0_ok (by kernel_rfl) ?_
          refine XQ.region (by kernel_rfl) ?_
          refine XR.run E0_ok 1 1 [6] rfl (σ' := [(6, .bool false)]) (h' := [(1, .cells [.int .i64 a_Marks, .int .i64 a_Step, .int .i64 a_Turns] 0 24 0), (0, .cells [.int .i64 a_Marks, .int .i64 a_Step, .int .i64 a_Turns] 0 23 0)]) (c' := 2) (by kernel_rfl) ?_
          refine XR.done (by kernel_rfl) ?_
          show XQ _ _ _ _ _ _ _ _
          refine XQ.ret (by kernel_rfl) ?_
          have h := Option.some.inj h
          subst h
          exact ⟨fun i q => (by cases q), .bool false, (by kernel_rfl), rfl⟩
        | false =>
          have h := cF b4 h
          refine XU.run E0_ok 1 1 [1, 3, 7, 65, 66] rfl (σ' := [(1, .int .i64 b), (3, .pointer (some ⟨0, 0, none⟩)), (7, .pointer (some ⟨1, 0, none⟩)), (65, .bool false), (66, .agg #[.int .i64 a_Marks, .int .i64 a_Step, .int .i64 a_Turns])]) (by kernel_rfl) ?_
          obtain ⟨r5, r5_h, h⟩ := bS h
          refine XU.call E0_ok [1, 3, 7, 65, 67] rfl (K := 20) (F := Proofs.Try.f20) (args := [.agg #[.int .i64 a_Marks, .int .i64 a_Step, .int .i64 a_Turns]]) (d := (some (path 12 67))) (v := .int .i64 r5) (by kernel_rfl) (by kernel_rfl) rfl rfl (fun w hI => f20_ok m a_Marks a_Step a_Turns r5 r5_h w hI) (σ' := [(1, .int .i64 b), (3, .pointer (some ⟨0, 0, none⟩)), (7, .pointer (some ⟨1, 0, none⟩)), (65, .bool false), (67, .int .i64 r5)]) (by kernel_rfl) ?_
          refine XU.run E0_ok 1 1 [1, 3, 7, 65, 67, 68] rfl (σ' := [(1, .int .i64 b), (3, .pointer (some ⟨0, 0, none⟩)), (7, .pointer (some ⟨1, 0, none⟩)), (65, .bool false), (67, .int .i64 r5), (68, .agg #[.int .i64 a_Marks, .int .i64 a_Step, .int .i64 a_Turns])]) (by kernel_rfl) ?_
          obtain ⟨r6, r6_h, h⟩ := bS h
          refine XU.call E0_ok [1, 3, 7, 65, 67, 69] rfl (K := 21) (F := Proofs.Try.f21) (args := [.agg #[.int .i64 a_Marks, .int .i64 a_Step, .int .i64 a_Turns]]) (d := (some (path 12 69))) (v := .int .i64 r6) (by kernel_rfl) (by kernel_rfl) rfl rfl (fun w hI => f21_ok m a_Marks a_Step a_Turns r6 r6_h w hI) (σ' := [(1, .int .i64 b), (3, .pointer (some ⟨0, 0, none⟩)), (7, .pointer (some ⟨1, 0, none⟩)), (65, .bool false), (67, .int .i64 r5), (69, .int .i64 r6)]) (by kernel_rfl) ?_
          refine XU.run E0_ok 1 2 [1, 3, 7, 71] rfl (σ' := [(1, .int .i64 b), (3, .pointer (some ⟨0, 0, none⟩)), (7, .pointer (some ⟨1, 0, none⟩)), (71, .bool (r5 != r6))]) (by kernel_rfl) ?_
          refine XU.done (by kernel_rfl) ?_
          show XQ _ _ _ _ _ _ _ _
          cases b5 : (r5 != r6 : Bool) with
          | true =>
            have h := cT b5 h
            refine XQ.cond (s := (.tmp 71)) (b := true) (by kernel_rfl) (by kernel_rfl) (fun _ => ?_) (fun q => by cases q)
            refine XQ.seq E0_ok (by kernel_rfl) ?_
            refine XQ.region (by kernel_rfl) ?_
            refine XR.run E0_ok 1 1 [6] rfl (σ' := [(6, .bool false)]) (h' := [(1, .cells [.int .i64 a_Marks, .int .i64 a_Step, .int .i64 a_Turns] 0 24 0), (0, .cells [.int .i64 a_Marks, .int .i64 a_Step, .int .i64 a_Turns] 0 23 0)]) (c' := 2) (by kernel_rfl) ?_
            refine XR.done (by kernel_rfl) ?_
            show XQ _ _ _ _ _ _ _ _
            refine XQ.ret (by kernel_rfl) ?_
            have h := Option.some.inj h
            subst h
            exact ⟨fun i q => (by cases q), .bool false, (by kernel_rfl), rfl⟩
          | false =>
            have h := cF b5 h
            refine XQ.cond (s := (.tmp 71)) (b := false) (by kernel_rfl) (by kernel_rfl) (fun q => by cases q) (fun _ => ?_)
            refine XQ.skip (by kernel_rfl) ?_
            show XQ _ _ _ _ _ _ _ _
            refine XQ.seq E0_ok (by kernel_rfl) ?_
            refine XQ.region (by kernel_rfl) ?_
            refine XR.run E0_ok 1 2 [1, 3, 7, 73, 74] rfl (σ' := [(1, .int .i64 b), (3, .pointer (some ⟨0, 0, none⟩)), (7, .pointer (some ⟨1, 0, none⟩)), (73, .agg #[.int .i64 a_Marks, .int .i64 a_Step, .int .i64 a_Turns]), (74, .int .i64 b)]) (h' := [(1, .cells [.int .i64 a_Marks, .int .i64 a_Step, .int .i64 a_Turns] 0 24 0), (0, .cells [.int .i64 a_Marks, .int .i64 a_Step, .int .i64 a_Turns] 0 23 0)]) (c' := 2) (by kernel_rfl) ?_
            obtain ⟨r7, r7_h, h⟩ := bS h
            refine XR.call E0_ok [1, 3, 7, 75] rfl (K := 22) (args := [.agg #[.int .i64 a_Marks, .int .i64 a_Step, .int .i64 a_Turns], .int .i64 b]) (d := (some (path 12 75))) (by kernel_rfl) (KC.of_calls E0_ok (F := Proofs.Try.f22) (v := .tuple #[.int .i64 r7.1, .int .i64 r7.2]) (by kernel_rfl) rfl rfl (fun w hI => f22_ok m a_Marks a_Step a_Turns b r7 r7_h w hI)) ?_
            rintro _ _ _ ⟨rfl, rfl, rfl⟩
            refine XR.conv (σ' := [(1, .int .i64 b), (3, .pointer (some ⟨0, 0, none⟩)), (7, .pointer (some ⟨1, 0, none⟩)), (75, .tuple #[.int .i64 r7.1, .int .i64 r7.2])]) (h' := [(1, .cells [.int .i64 a_Marks, .int .i64 a_Step, .int .i64 a_Turns] 0 24 0), (0, .cells [.int .i64 a_Marks, .int .i64 a_Step, .int .i64 a_Turns] 0 23 0)]) (c' := 2) ?_ (by kernel_rfl)
            refine XR.run E0_ok 1 5 [1, 3, 7, 8, 9] rfl (σ' := [(1, .int .i64 b), (3, .pointer (some ⟨0, 0, none⟩)), (7, .pointer (some ⟨1, 0, none⟩)), (8, .int .i64 r7.1), (9, .int .i64 r7.2)]) (h' := [(1, .cells [.int .i64 a_Marks, .int .i64 a_Step, .int .i64 a_Turns] 0 24 0), (0, .cells [.int .i64 a_Marks, .int .i64 a_Step, .int .i64 a_Turns] 0 23 0)]) (c' := 2) (by kernel_rfl) ?_
            refine XR.done (by kernel_rfl) ?_
            show XQ _ _ _ _ _ _ _ _
            refine XQ.seq E0_ok (by kernel_rfl) ?_
            refine XQ.region (by kernel_rfl) ?_
            refine XR.run E0_ok 1 2 [1, 3, 7, 8, 9, 79, 80] rfl (σ' := [(1, .int .i64 b), (3, .pointer (some ⟨0, 0, none⟩)), (7, .pointer (some ⟨1, 0, none⟩)), (8, .int .i64 r7.1), (9, .int .i64 r7.2), (79, .agg #[.int .i64 a_Marks, .int .i64 a_Step, .int .i64 a_Turns]), (80, .int .i64 b)]) (h' := [(1, .cells [.int .i64 a_Marks, .int .i64 a_Step, .int .i64 a_Turns] 0 24 0), (0, .cells [.int .i64 a_Marks, .int .i64 a_Step, .int .i64 a_Turns] 0 23 0)]) (c' := 2) (by kernel_rfl) ?_
            obtain ⟨r8, r8_h, h⟩ := bS h
            refine XR.call E0_ok [1, 3, 7, 8, 9, 81] rfl (K := 23) (args := [.agg #[.int .i64 a_Marks, .int .i64 a_Step, .int .i64 a_Turns], .int .i64 b]) (d := (some (path 12 81))) (by kernel_rfl) (KC.of_calls E0_ok (F := Proofs.Try.f23) (v := .tuple #[.int .i64 r8.1, .int .i64 r8.2]) (by kernel_rfl) rfl rfl (fun w hI => f23_ok m a_Marks a_Step a_Turns b r8 r8_h w hI)) ?_
            rintro _ _ _ ⟨rfl, rfl, rfl⟩
            refine XR.conv (σ' := [(1, .int .i64 b), (3, .pointer (some ⟨0, 0, none⟩)), (7, .pointer (some ⟨1, 0, none⟩)), (8, .int .i64 r7.1), (9, .int .i64 r7.2), (81, .tuple #[.int .i64 r8.1, .int .i64 r8.2])]) (h' := [(1, .cells [.int .i64 a_Marks, .int .i64 a_Step, .int .i64 a_Turns] 0 24 0), (0, .cells [.int .i64 a_Marks, .int .i64 a_Step, .int .i64 a_Turns] 0 23 0)]) (c' := 2) ?_ (by kernel_rfl)
            refine XR.run E0_ok 1 5 [1, 3, 7, 8, 9, 10, 11] rfl (σ' := [(1, .int .i64 b), (3, .pointer (some ⟨0, 0, none⟩)), (7, .pointer (some ⟨1, 0, none⟩)), (8, .int .i64 r7.1), (9, .int .i64 r7.2), (10, .int .i64 r8.1), (11, .int .i64 r8.2)]) (h' := [(1, .cells [.int .i64 a_Marks, .int .i64 a_Step, .int .i64 a_Turns] 0 24 0), (0, .cells [.int .i64 a_Marks, .int .i64 a_Step, .int .i64 a_Turns] 0 23 0)]) (c' := 2) (by kernel_rfl) ?_
            refine XR.done (by kernel_rfl) ?_
            show XQ _ _ _ _ _ _ _ _
            refine XQ.seq E0_ok (by kernel_rfl) ?_
            refine XQ.region (by kernel_rfl) ?_
            refine XR.run E0_ok 1 2 [1, 3, 7, 8, 9, 10, 11, 85, 86] rfl (σ' := [(1, .int .i64 b), (3, .pointer (some ⟨0, 0, none⟩)), (7, .pointer (some ⟨1, 0, none⟩)), (8, .int .i64 r7.1), (9, .int .i64 r7.2), (10, .int .i64 r8.1), (11, .int .i64 r8.2), (85, .agg #[.int .i64 a_Marks, .int .i64 a_Step, .int .i64 a_Turns]), (86, .int .i64 b)]) (h' := [(1, .cells [.int .i64 a_Marks, .int .i64 a_Step, .int .i64 a_Turns] 0 24 0), (0, .cells [.int .i64 a_Marks, .int .i64 a_Step, .int .i64 a_Turns] 0 23 0)]) (c' := 2) (by kernel_rfl) ?_
            obtain ⟨r9, r9_h, h⟩ := bS h
            refine XR.call E0_ok [1, 3, 7, 8, 9, 10, 11, 87] rfl (K := 24) (args := [.agg #[.int .i64 a_Marks, .int .i64 a_Step, .int .i64 a_Turns], .int .i64 b]) (d := (some (path 12 87))) (by kernel_rfl) (KC.of_calls E0_ok (F := Proofs.Try.f24) (v := .tuple #[.int .i64 r9.1, .int .i64 r9.2]) (by kernel_rfl) rfl rfl (fun w hI => f24_ok m a_Marks a_Step a_Turns b r9 r9_h w hI)) ?_
            rintro _ _ _ ⟨rfl, rfl, rfl⟩
            refine XR.conv (σ' := [(1, .int .i64 b), (3, .pointer (some ⟨0, 0, none⟩)), (7, .pointer (some ⟨1, 0, none⟩)), (8, .int .i64 r7.1), (9, .int .i64 r7.2), (10, .int .i64 r8.1), (11, .int .i64 r8.2), (87, .tuple #[.int .i64 r9.1, .int .i64 r9.2])]) (h' := [(1, .cells [.int .i64 a_Marks, .int .i64 a_Step, .int .i64 a_Turns] 0 24 0), (0, .cells [.int .i64 a_Marks, .int .i64 a_Step, .int .i64 a_Turns] 0 23 0)]) (c' := 2) ?_ (by kernel_rfl)
            refine XR.run E0_ok 1 5 [1, 3, 7, 8, 9, 10, 11, 12, 13] rfl (σ' := [(1, .int .i64 b), (3, .pointer (some ⟨0, 0, none⟩)), (7, .pointer (some ⟨1, 0, none⟩)), (8, .int .i64 r7.1), (9, .int .i64 r7.2), (10, .int .i64 r8.1), (11, .int .i64 r8.2), (12, .int .i64 r9.1), (13, .int .i64 r9.2)]) (h' := [(1, .cells [.int .i64 a_Marks, .int .i64 a_Step, .int .i64 a_Turns] 0 24 0), (0, .cells [.int .i64 a_Marks, .int .i64 a_Step, .int .i64 a_Turns] 0 23 0)]) (c' := 2) (by kernel_rfl) ?_
            refine XR.done (by kernel_rfl) ?_
            show XQ _ _ _ _ _ _ _ _
            refine XQ.seq E0_ok (by kernel_rfl) ?_
            refine XQ.region (by kernel_rfl) ?_
            refine XR.run E0_ok 1 2 [3, 7, 8, 9, 10, 11, 12, 13, 91, 92] rfl (σ' := [(3, .pointer (some ⟨0, 0, none⟩)), (7, .pointer (some ⟨1, 0, none⟩)), (8, .int .i64 r7.1), (9, .int .i64 r7.2), (10, .int .i64 r8.1), (11, .int .i64 r8.2), (12, .int .i64 r9.1), (13, .int .i64 r9.2), (91, .agg #[.int .i64 a_Marks, .int .i64 a_Step, .int .i64 a_Turns]), (92, .int .i64 b)]) (h' := [(1, .cells [.int .i64 a_Marks, .int .i64 a_Step, .int .i64 a_Turns] 0 24 0), (0, .cells [.int .i64 a_Marks, .int .i64 a_Step, .int .i64 a_Turns] 0 23 0)]) (c' := 2) (by kernel_rfl) ?_
            obtain ⟨r10, r10_h, h⟩ := bS h
            refine XR.call E0_ok [3, 7, 8, 9, 10, 11, 12, 13, 93] rfl (K := 25) (args := [.agg #[.int .i64 a_Marks, .int .i64 a_Step, .int .i64 a_Turns], .int .i64 b]) (d := (some (path 12 93))) (by kernel_rfl) (KC.of_calls E0_ok (F := Proofs.Try.f25) (v := .tuple #[.int .i64 r10.1, .int .i64 r10.2]) (by kernel_rfl) rfl rfl (fun w hI => f25_ok m a_Marks a_Step a_Turns b r10 r10_h w hI)) ?_
            rintro _ _ _ ⟨rfl, rfl, rfl⟩
            refine XR.conv (σ' := [(3, .pointer (some ⟨0, 0, none⟩)), (7, .pointer (some ⟨1, 0, none⟩)), (8, .int .i64 r7.1), (9, .int .i64 r7.2), (10, .int .i64 r8.1), (11, .int .i64 r8.2), (12, .int .i64 r9.1), (13, .int .i64 r9.2), (93, .tuple #[.int .i64 r10.1, .int .i64 r10.2])]) (h' := [(1, .cells [.int .i64 a_Marks, .int .i64 a_Step, .int .i64 a_Turns] 0 24 0), (0, .cells [.int .i64 a_Marks, .int .i64 a_Step, .int .i64 a_Turns] 0 23 0)]) (c' := 2) ?_ (by kernel_rfl)
            refine XR.run E0_ok 1 5 [3, 7, 8, 9, 10, 11, 12, 13, 14, 15] rfl (σ' := [(3, .pointer (some ⟨0, 0, none⟩)), (7, .pointer (some ⟨1, 0, none⟩)), (8, .int .i64 r7.1), (9, .int .i64 r7.2), (10, .int .i64 r8.1), (11, .int .i64 r8.2), (12, .int .i64 r9.1), (13, .int .i64 r9.2), (14, .int .i64 r10.1), (15, .int .i64 r10.2)]) (h' := [(1, .cells [.int .i64 a_Marks, .int .i64 a_Step, .int .i64 a_Turns] 0 24 0), (0, .cells [.int .i64 a_Marks, .int .i64 a_Step, .int .i64 a_Turns] 0 23 0)]) (c' := 2) (by kernel_rfl) ?_
            refine XR.done (by kernel_rfl) ?_
            show XQ _ _ _ _ _ _ _ _
            refine XQ.seq E0_ok (by kernel_rfl) ?_
            refine XQ.region (by kernel_rfl) ?_
            refine XR.run E0_ok 1 1 [7, 8, 9, 10, 11, 12, 13, 14, 15, 97] rfl (σ' := [(7, .pointer (some ⟨1, 0, none⟩)), (8, .int .i64 r7.1), (9, .int .i64 r7.2), (10, .int .i64 r8.1), (11, .int .i64 r8.2), (12, .int .i64 r9.1), (13, .int .i64 r9.2), (14, .int .i64 r10.1), (15, .int .i64 r10.2), (97, .agg #[.int .i64 a_Marks, .int .i64 a_Step, .int .i64 a_Turns])]) (h' := [(1, .cells [.int .i64 a_Marks, .int .i64 a_Step, .int .i64 a_Turns] 0 24 0), (0, .cells [.int .i64 a_Marks, .int .i64 a_Step, .int .i64 a_Turns] 0 23 0)]) (c' := 2) (by kernel_rfl) ?_
            obtain ⟨r11, r11_h, h⟩ := bS h
            refine XR.call E0_ok [7, 8, 9, 10, 11, 12, 13, 14, 15, 98] rfl (K := 26) (args := [.agg #[.int .i64 a_Marks, .int .i64 a_Step, .int .i64 a_Turns]]) (d := (some (path 12 98))) (by kernel_rfl) (KC.of_calls E0_ok (F := Proofs.Try.f26) (v := .tuple #[.int .i64 r11.1, .int .i64 r11.2.1, .int .i64 r11.2.2]) (by kernel_rfl) rfl rfl (fun w hI => f26_ok m a_Marks a_Step a_Turns r11 r11_h w hI)) ?_
            rintro _ _ _ ⟨rfl, rfl, rfl⟩
            refine XR.conv (σ' := [(7, .pointer (some ⟨1, 0, none⟩)), (8, .int .i64 r7.1), (9, .int .i64 r7.2), (10, .int .i64 r8.1), (11, .int .i64 r8.2), (12, .int .i64 r9.1), (13, .int .i64 r9.2), (14, .int .i64 r10.1), (15, .int .i64 r10.2), (98, .tuple #[.int .i64 r11.1, .int .i64 r11.2.1, .int .i64 r11.2.2])]) (h' := [(1, .cells [.int .i64 a_Marks, .int .i64 a_Step, .int .i64 a_Turns] 0 24 0), (0, .cells [.int .i64 a_Marks, .int .i64 a_Step, .int .i64 a_Turns] 0 23 0)]) (c' := 2) ?_ (by kernel_rfl)
            refine XR.run E0_ok 1 7 [7, 8, 9, 10, 11, 12, 13, 14, 15, 16, 17, 18] rfl (σ' := [(7, .pointer (some ⟨1, 0, none⟩)), (8, .int .i64 r7.1), (9, .int .i64 r7.2), (10, .int .i64 r8.1), (11, .int .i64 r8.2), (12, .int .i64 r9.1), (13, .int .i64 r9.2), (14, .int .i64 r10.1), (15, .int .i64 r10.2), (16, .int .i64 r11.1), (17, .int .i64 r11.2.1), (18, .int .i64 r11.2.2)]) (h' := [(1, .cells [.int .i64 a_Marks, .int .i64 a_Step, .int .i64 a_Turns] 0 24 0), (0, .cells [.int .i64 a_Marks, .int .i64 a_Step, .int .i64 a_Turns] 0 23 0)]) (c' := 2) (by kernel_rfl) ?_
            refine XR.done (by kernel_rfl) ?_
            show XQ _ _ _ _ _ _ _ _
            refine XQ.seq E0_ok (by kernel_rfl) ?_
            refine XQ.region (by kernel_rfl) ?_
            refine XR.run E0_ok 1 1 [8, 9, 10, 11, 12, 13, 14, 15, 16, 17, 18, 103] rfl (σ' := [(8, .int .i64 r7.1), (9, .int .i64 r7.2), (10, .int .i64 r8.1), (11, .int .i64 r8.2), (12, .int .i64 r9.1), (13, .int .i64 r9.2), (14, .int .i64 r10.1), (15, .int .i64 r10.2), (16, .int .i64 r11.1), (17, .int .i64 r11.2.1), (18, .int .i64 r11.2.2), (103, .agg #[.int .i64 a_Marks, .int .i64 a_Step, .int .i64 a_Turns])]) (h' := [(1, .cells [.int .i64 a_Marks, .int .i64 a_Step, .int .i64 a_Turns] 0 24 0), (0, .cells [.int .i64 a_Marks, .int .i64 a_Step, .int .i64 a_Turns] 0 23 0)]) (c' := 2) (by kernel_rfl) ?_
            obtain ⟨r12, r12_h, h⟩ := bS h
            refine XR.call E0_ok [8, 9, 10, 11, 12, 13, 14, 15, 16, 17, 18, 104] rfl (K := 27) (args := [.agg #[.int .i64 a_Marks, .int .i64 a_Step, .int .i64 a_Turns]]) (d := (some (path 12 104))) (by kernel_rfl) (KC.of_calls E0_ok (F := Proofs.Try.f27) (v := .tuple #[.int .i64 r12.1, .int .i64 r12.2.1, .int .i64 r12.2.2]) (by kernel_rfl) rfl rfl (fun w hI => f27_ok m a_Marks a_Step a_Turns r12 r12_h w hI)) ?_
            rintro _ _ _ ⟨rfl, rfl, rfl⟩
            refine XR.conv (σ' := [(8, .int .i64 r7.1), (9, .int .i64 r7.2), (10, .int .i64 r8.1), (11, .int .i64 r8.2), (12, .int .i64 r9.1), (13, .int .i64 r9.2), (14, .int .i64 r10.1), (15, .int .i64 r10.2), (16, .int .i64 r11.1), (17, .int .i64 r11.2.1), (18, .int .i64 r11.2.2), (104, .tuple #[.int .i64 r12.1, .int .i64 r12.2.1, .int .i64 r12.2.2])]) (h' := [(1, .cells [.int .i64 a_Marks, .int .i64 a_Step, .int .i64 a_Turns] 0 24 0), (0, .cells [.int .i64 a_Marks, .int .i64 a_Step, .int .i64 a_Turns] 0 23 0)]) (c' := 2) ?_ (by kernel_rfl)
            refine XR.run E0_ok 1 7 [8, 9, 10, 11, 12, 13, 14, 15, 16, 17, 18, 19, 20, 21] rfl (σ' := [(8, .int .i64 r7.1), (9, .int .i64 r7.2), (10, .int .i64 r8.1), (11, .int .i64 r8.2), (12, .int .i64 r9.1), (13, .int .i64 r9.2), (14, .int .i64 r10.1), (15, .int .i64 r10.2), (16, .int .i64 r11.1), (17, .int .i64 r11.2.1), (18, .int .i64 r11.2.2), (19, .int .i64 r12.1), (20, .int .i64 r12.2.1), (21, .int .i64 r12.2.2)]) (h' := [(1, .cells [.int .i64 a_Marks, .int .i64 a_Step, .int .i64 a_Turns] 0 24 0), (0, .cells [.int .i64 a_Marks, .int .i64 a_Step, .int .i64 a_Turns] 0 23 0)]) (c' := 2) (by kernel_rfl) ?_
            refine XR.done (by kernel_rfl) ?_
            show XQ _ _ _ _ _ _ _ _
            refine XQ.seq E0_ok (by kernel_rfl) ?_
            refine XQ.region (by kernel_rfl) ?_
            refine XR.run E0_ok 1 4 [9, 11, 12, 13, 14, 15, 16, 17, 18, 19, 20, 21, 111] rfl (σ' := [(9, .int .i64 r7.2), (11, .int .i64 r8.2), (12, .int .i64 r9.1), (13, .int .i64 r9.2), (14, .int .i64 r10.1), (15, .int .i64 r10.2), (16, .int .i64 r11.1), (17, .int .i64 r11.2.1), (18, .int .i64 r11.2.2), (19, .int .i64 r12.1), (20, .int .i64 r12.2.1), (21, .int .i64 r12.2.2), (111, .bool (r7.1 == r8.1))]) (h' := [(1, .cells [.int .i64 a_Marks, .int .i64 a_Step, .int .i64 a_Turns] 0 24 0), (0, .cells [.int .i64 a_Marks, .int .i64 a_Step, .int .i64 a_Turns] 0 23 0)]) (c' := 2) (by kernel_rfl) ?_
            cases b6 : (r7.1 == r8.1 : Bool) with
            | true =>
              have h := cT b6 h
              refine XR.run E0_ok 1 5 [12, 13, 14, 15, 16, 17, 18, 19, 20, 21, 116] rfl (σ' := [(12, .int .i64 r9.1), (13, .int .i64 r9.2), (14, .int .i64 r10.1), (15, .int .i64 r10.2), (16, .int .i64 r11.1), (17, .int .i64 r11.2.1), (18, .int .i64 r11.2.2), (19, .int .i64 r12.1), (20, .int .i64 r12.2.1), (21, .int .i64 r12.2.2), (116, .bool (r7.2 == r8.2))]) (h' := [(1, .cells [.int .i64 a_Marks, .int .i64 a_Step, .int .i64 a_Turns] 0 24 0), (0, .cells [.int .i64 a_Marks, .int .i64 a_Step, .int .i64 a_Turns] 0 23 0)]) (c' := 2) (by kernel_rfl) ?_
              cases b7 : (r7.2 == r8.2 : Bool) with
              | true =>
                have h := cT b7 h
                refine XR.run E0_ok 1 5 [13, 15, 16, 17, 18, 19, 20, 21, 121] rfl (σ' := [(13, .int .i64 r9.2), (15, .int .i64 r10.2), (16, .int .i64 r11.1), (17, .int .i64 r11.2.1), (18, .int .i64 r11.2.2), (19, .int .i64 r12.1), (20, .int .i64 r12.2.1), (21, .int .i64 r12.2.2), (121, .bool (r9.1 == r10.1))]) (h' := [(1, .cells [.int .i64 a_Marks, .int .i64 a_Step, .int .i64 a_Turns] 0 24 0), (0, .cells [.int .i64 a_Marks, .int .i64 a_Step, .int .i64 a_Turns] 0 23 0)]) (c' := 2) (by kernel_rfl) ?_
                cases b8 : (r9.1 == r10.1 : Bool) with
                | true =>
                  have h := cT b8 h
                  refine XR.run E0_ok 1 5 [16, 17, 18, 19, 20, 21, 126] rfl (σ' := [(16, .int .i64 r11.1), (17, .int .i64 r11.2.1), (18, .int .i64 r11.2.2), (19, .int .i64 r12.1), (20, .int .i64 r12.2.1), (21, .int .i64 r12.2.2), (126, .bool (r9.2 == r10.2))]) (h' := [(1, .cells [.int .i64 a_Marks, .int .i64 a_Step, .int .i64 a_Turns] 0 24 0), (0, .cells [.int .i64 a_Marks, .int .i64 a_Step, .int .i64 a_Turns] 0 23 0)]) (c' := 2) (by kernel_rfl) ?_
                  cases b9 : (r9.2 == r10.2 : Bool) with
                  | true =>
                    have h := cT b9 h
                    refine XR.run E0_ok 1 5 [17, 18, 20, 21, 131] rfl (σ' := [(17, .int .i64 r11.2.1), (18, .int .i64 r11.2.2), (20, .int .i64 r12.2.1), (21, .int .i64 r12.2.2), (131, .bool (r11.1 == r12.1))]) (h' := [(1, .cells [.int .i64 a_Marks, .int .i64 a_Step, .int .i64 a_Turns] 0 24 0), (0, .cells [.int .i64 a_Marks, .int .i64 a_Step, .int .i64 a_Turns] 0 23 0)]) (c' := 2) (by kernel_rfl) ?_
                    cases b10 : (r11.1 == r12.1 : Bool) with
                    | true =>
                      have h := cT b10 h
                      refine XR.run E0_ok 1 5 [18, 21, 136] rfl (σ' := [(18, .int .i64 r11.2.2), (21, .int .i64 r12.2.2), (136, .bool (r11.2.1 == r12.2.1))]) (h' := [(1, .cells [.int .i64 a_Marks, .int .i64 a_Step, .int .i64 a_Turns] 0 24 0), (0, .cells [.int .i64 a_Marks, .int .i64 a_Step, .int .i64 a_Turns] 0 23 0)]) (c' := 2) (by kernel_rfl) ?_
                      cases b11 : (r11.2.1 == r12.2.1 : Bool) with
                      | true =>
                        have h := cT b11 h
                        refine XR.run E0_ok 1 5 [141] rfl (σ' := [(141, .bool (r11.2.2 == r12.2.2))]) (h' := [(1, .cells [.int .i64 a_Marks, .int .i64 a_Step, .int .i64 a_Turns] 0 24 0), (0, .cells [.int .i64 a_Marks, .int .i64 a_Step, .int .i64 a_Turns] 0 23 0)]) (c' := 2) (by kernel_rfl) ?_
                        cases b12 : (r11.2.2 == r12.2.2 : Bool) with
                        | true =>
                          have h := cT b12 h
                          refine XR.call E0_ok [141, 142] rfl (K := 28) (args := []) (d := (some (path 12 142))) (by kernel_rfl) (KC.of_calls E0_ok (F := Proofs.Try.f28) (v := .bool true) (by kernel_rfl) rfl rfl (works_ok)) ?_
                          rintro _ _ _ ⟨rfl, rfl, rfl⟩
                          refine XR.conv (σ' := [(141, .bool true), (142, .bool true)]) (h' := [(1, .cells [.int .i64 a_Marks, .int .i64 a_Step, .int .i64 a_Turns] 0 24 0), (0, .cells [.int .i64 a_Marks, .int .i64 a_Step, .int .i64 a_Turns] 0 23 0)]) (c' := 2) ?_ (by kernel_rfl)
                          refine XR.run E0_ok 1 2 [6] rfl (σ' := [(6, .bool true)]) (h' := [(1, .cells [.int .i64 a_Marks, .int .i64 a_Step, .int .i64 a_Turns] 0 24 0), (0, .cells [.int .i64 a_Marks, .int .i64 a_Step, .int .i64 a_Turns] 0 23 0)]) (c' := 2) (by kernel_rfl) ?_
                          refine XR.done (by kernel_rfl) ?_
                          show XQ _ _ _ _ _ _ _ _
                          refine XQ.ret (by kernel_rfl) ?_
                          have h := Option.some.inj h
                          subst h
                          exact ⟨fun i q => (by cases q), .bool true, (by kernel_rfl), rfl⟩
                        | false =>
                          have h := cF b12 h
                          refine XR.run E0_ok 1 3 [6] rfl (σ' := [(6, .bool false)]) (h' := [(1, .cells [.int .i64 a_Marks, .int .i64 a_Step, .int .i64 a_Turns] 0 24 0), (0, .cells [.int .i64 a_Marks, .int .i64 a_Step, .int .i64 a_Turns] 0 23 0)]) (c' := 2) (by kernel_rfl) ?_
                          refine XR.done (by kernel_rfl) ?_
                          show XQ _ _ _ _ _ _ _ _
                          refine XQ.ret (by kernel_rfl) ?_
                          have h := Option.some.inj h
                          subst h
                          exact ⟨fun i q => (by cases q), .bool false, (by kernel_rfl), rfl⟩
                      | false =>
                        have h := cF b11 h
                        refine XR.run E0_ok 1 8 [6] rfl (σ' := [(6, .bool false)]) (h' := [(1, .cells [.int .i64 a_Marks, .int .i64 a_Step, .int .i64 a_Turns] 0 24 0), (0, .cells [.int .i64 a_Marks, .int .i64 a_Step, .int .i64 a_Turns] 0 23 0)]) (c' := 2) (by kernel_rfl) ?_
                        refine XR.done (by kernel_rfl) ?_
                        show XQ _ _ _ _ _ _ _ _
                        refine XQ.ret (by kernel_rfl) ?_
                        have h := Option.some.inj h
                        subst h
                        exact ⟨fun i q => (by cases q), .bool false, (by kernel_rfl), rfl⟩
                    | false =>
                      have h := cF b10 h
                      refine XR.run E0_ok 1 13 [6] rfl (σ' := [(6, .bool false)]) (h' := [(1, .cells [.int .i64 a_Marks, .int .i64 a_Step, .int .i64 a_Turns] 0 24 0), (0, .cells [.int .i64 a_Marks, .int .i64 a_Step, .int .i64 a_Turns] 0 23 0)]) (c' := 2) (by kernel_rfl) ?_
                      refine XR.done (by kernel_rfl) ?_
                      show XQ _ _ _ _ _ _ _ _
                      refine XQ.ret (by kernel_rfl) ?_
                      have h := Option.some.inj h
                      subst h
                      exact ⟨fun i q => (by cases q), .bool false, (by kernel_rfl), rfl⟩
                  | false =>
                    have h := cF b9 h
                    refine XR.run E0_ok 1 18 [6] rfl (σ' := [(6, .bool false)]) (h' := [(1, .cells [.int .i64 a_Marks, .int .i64 a_Step, .int .i64 a_Turns] 0 24 0), (0, .cells [.int .i64 a_Marks, .int .i64 a_Step, .int .i64 a_Turns] 0 23 0)]) (c' := 2) (by kernel_rfl) ?_
                    refine XR.done (by kernel_rfl) ?_
                    show XQ _ _ _ _ _ _ _ _
                    refine XQ.ret (by kernel_rfl) ?_
                    have h := Option.some.inj h
                    subst h
                    exact ⟨fun i q => (by cases q), .bool false, (by kernel_rfl), rfl⟩
                | false =>
                  have h := cF b8 h
                  refine XR.run E0_ok 1 23 [6] rfl (σ' := [(6, .bool false)]) (h' := [(1, .cells [.int .i64 a_Marks, .int .i64 a_Step, .int .i64 a_Turns] 0 24 0), (0, .cells [.int .i64 a_Marks, .int .i64 a_Step, .int .i64 a_Turns] 0 23 0)]) (c' := 2) (by kernel_rfl) ?_
                  refine XR.done (by kernel_rfl) ?_
                  show XQ _ _ _ _ _ _ _ _
                  refine XQ.ret (by kernel_rfl) ?_
                  have h := Option.some.inj h
                  subst h
                  exact ⟨fun i q => (by cases q), .bool false, (by kernel_rfl), rfl⟩
              | false =>
                have h := cF b7 h
                refine XR.run E0_ok 1 28 [6] rfl (σ' := [(6, .bool false)]) (h' := [(1, .cells [.int .i64 a_Marks, .int .i64 a_Step, .int .i64 a_Turns] 0 24 0), (0, .cells [.int .i64 a_Marks, .int .i64 a_Step, .int .i64 a_Turns] 0 23 0)]) (c' := 2) (by kernel_rfl) ?_
                refine XR.done (by kernel_rfl) ?_
                show XQ _ _ _ _ _ _ _ _
                refine XQ.ret (by kernel_rfl) ?_
                have h := Option.some.inj h
                subst h
                exact ⟨fun i q => (by cases q), .bool false, (by kernel_rfl), rfl⟩
            | false =>
              have h := cF b6 h
              refine XR.run E0_ok 1 33 [6] rfl (σ' := [(6, .bool false)]) (h' := [(1, .cells [.int .i64 a_Marks, .int .i64 a_Step, .int .i64 a_Turns] 0 24 0), (0, .cells [.int .i64 a_Marks, .int .i64 a_Step, .int .i64 a_Turns] 0 23 0)]) (c' := 2) (by kernel_rfl) ?_
              refine XR.done (by kernel_rfl) ?_
              show XQ _ _ _ _ _ _ _ _
              refine XQ.ret (by kernel_rfl) ?_
              have h := Option.some.inj h
              subst h
              exact ⟨fun i q => (by cases q), .bool false, (by kernel_rfl), rfl⟩

end Go.Xm
