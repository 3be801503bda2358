/- What these functions of the program compute, as functions in Lean, and the proofs that they do: vitolatop.TopFirstPart. Conditions: the library's variables hold what their texts lay. -/
import Derived.Test.YtcpagojealaigaaGreatDoorFe
namespace Go.Xm
open Go.RowKit
set_option linter.unusedVariables false
set_option linter.unusedSimpArgs false
set_option maxRecDepth 20000

/-! vitola/vitolatop.TopFirstPart -/
noncomputable def f3_C3 : Code := Proofs.Tryz.f3.body.getD .skip

def f3 (m : Nat) (a : Int) (b : Int) : Option (Bool) :=
  cond ((w64 ((w64 (2 + (Int.tmod (w64 b) 29))) - 1)) != 0) (
    (f5 m (w64 (1 + (Int.tmod (w64 a) (w64 ((w64 (2 + (Int.tmod (w64 b) 29))) - 1))))) (w64 (2 + (Int.tmod (w64 b) 29)))).bind fun r1 =>
      cond (r1.2.2 != 0) (
        some (false)
      ) (
        (f6 m r1.1 r1.2.1).bind fun r2 =>
          cond (r2 != 0) (
            some (false)
          ) (
            (f7 m r1.2.1 r1.1).bind fun r3 =>
              cond (r3.2 != 0) (
                some (false)
              ) (
                cond (((r3.1.length : Nat) : Int) == 0) (
                  some (false)
                ) (
                  (f8 m (w64 (1 + (Int.tmod (w64 a) (w64 ((w64 (2 + (Int.tmod (w64 b) 29))) - 1))))) (w64 (2 + (Int.tmod (w64 b) 29)))).bind fun r4 =>
                    cond (decide (r1.1 > 1)) (
                      (f9 m r1.2.1 r1.1 1 (w64 (r1.1 - 1))).bind fun r6 =>
                        cond (r6.2 != 0) (
                          some (false)
                        ) (
                          cond (inRow 0 r3.1.length) (
                            cond (r6.1 != (w64 ((List.getD r3.1 0 0) + 1))) (
                              some (false)
                            ) (
                              (f10 m r1.2.1 r1.1 r1.2.1 r6.1).bind fun r7 =>
                                cond (r7.2 != 0) (
                                  some (false)
                                ) (
                                  cond (r7.1 != (w64 ((w64 (r1.1 * r6.1)) - r1.2.1))) (
                                    some (false)
                                  ) (
                                    cond (r4.2 == 15) (
                                      cond (((r4.1.length : Nat) : Int) == 0) (
                                        some (true)
                                      ) (
                                        some (false)
                                      )
                                    ) (
                                      cond (r4.2 == 0) (
                                        cond (decide (((r4.1.length : Nat) : Int) > 0)) (
                                          cond (inRow 0 r4.1.length) (
                                            cond ((List.getD r4.1 0 0) == r6.1) (
                                              cond ((((r4.1.length : Nat) : Int) == 1) == (r1.1 == 1)) (
                                                some (true)
                                              ) (
                                                some (false)
                                              )
                                            ) (
                                              some (false)
                                            )
                                          ) none
                                        ) (
                                          some (false)
                                        )
                                      ) (
                                        some (false)
                                      )
                                    )
                                  )
                                )
                            )
                          ) none
                        )
                    ) (
                      cond (inRow 0 r3.1.length) (
                        cond (r4.2 == 15) (
                          some (false)
                        ) (
                          cond (r4.2 == 0) (
                            cond (decide (((r4.1.length : Nat) : Int) > 0)) (
                              cond (inRow 0 r4.1.length) (
                                cond ((List.getD r4.1 0 0) == (List.getD r3.1 0 0)) (
                                  cond ((((r4.1.length : Nat) : Int) == 1) == (r1.1 == 1)) (
                                    some (true)
                                  ) (
                                    some (false)
                                  )
                                ) (
                                  some (false)
                                )
                              ) none
                            ) (
                              some (false)
                            )
                          ) (
                            some (false)
                          )
                        )
                      ) none
                    )
                )
              )
          )
      )
  ) none

theorem f3_ok (m : Nat) (a : Int) (b : Int) (o : Bool) (h : f3 m a b = some o) (w : World) (hI : seatInv w) : Calls Proofs.Tryz.prog 3 #[.int .u8 a, .int .u8 b] w fun e w' => e = .returned (.bool o) ∧ Below w.heap.size w w' := by
  refine KC.calls (E := Ep) (args := [.int .u8 a, .int .u8 b]) (v := .bool o) rfl rfl (KC.bodyN Ep_ok (F := Proofs.Tryz.f3) (by kernel_rfl) (code := f3_C3) (by kernel_rfl) (nt := 152) (by kernel_rfl) (rs := [.tmp 4]) (by kernel_rfl) (by kernel_rfl) (σ := [(0, .int .u8 a), (1, .int .u8 b)]) (by kernel_rfl) ?_) w (seatInv_size hI) hI
  unfold f3 at h
  refine XQ.seq Ep_ok (by kernel_rfl) ?_
  refine XQ.region (by kernel_rfl) ?_
  refine XR.runS Ep_ok 1 1 [(0, .int .u8 a), (1, .int .u8 b)] rfl (by kernel_rfl) ?_
  refine XR.done (by kernel_rfl) ?_
  show XQ _ _ _ _ _ _ _ _
  refine XQ.seq Ep_ok (by kernel_rfl) ?_
  refine XQ.region (by kernel_rfl) ?_
  refine XR.runS Ep_ok 1 5 [(0, .int .u8 a), (5, ii (w64 (2 + (Int.tmod (w64 b) 29))))] rfl (by kernel_rfl) ?_
  refine XR.done (by kernel_rfl) ?_
  show XQ _ _ _ _ _ _ _ _
  refine XQ.seq Ep_ok (by kernel_rfl) ?_
  refine XQ.region (by kernel_rfl) ?_
  refine XR.runS Ep_ok 1 4 [(5, ii (w64 (2 + (Int.tmod (w64 b) 29)))), (21, ii (w64 a)), (23, ii (w64 ((w64 (2 + (Int.tmod (w64 b) 29))) - 1)))] rfl (by kernel_rfl) ?_
  cases b1 : ((w64 ((w64 (2 + (Int.tmod (w64 b) 29))) - 1)) != 0 : Bool) with
  | false => cases (cF b1 h)
  | true =>
    have h := cT b1 h
    have e2 : insV (headI ((gsOf Ep 152 (opsOf (lft (rgt (rgt f3_C3))))).drop 4) (trS 152 [(5, ii (w64 (2 + (Int.tmod (w64 b) 29)))), (21, ii (w64 a)), (23, ii (w64 ((w64 (2 + (Int.tmod (w64 b) 29))) - 1)))])) (trS 152 [(5, ii (w64 (2 + (Int.tmod (w64 b) 29)))), (21, ii (w64 a)), (23, ii (w64 ((w64 (2 + (Int.tmod (w64 b) 29))) - 1)))]) [] = (match ((w64 ((w64 (2 + (Int.tmod (w64 b) 29))) - 1)) != 0 : Bool) with | true => some (ii (Int.tmod (w64 a) (w64 ((w64 (2 + (Int.tmod (w64 b) 29))) - 1)))) | false => none) := by kernel_rfl
    refine XR.rd Ep_ok [5, 24] rfl (e2.trans (by rw [b1])) (σ' := [(5, ii (w64 (2 + (Int.tmod (w64 b) 29)))), (24, ii (Int.tmod (w64 a) (w64 ((w64 (2 + (Int.tmod (w64 b) 29))) - 1))))]) (by kernel_rfl) ?_
    refine XR.runT Ep_ok 1 5 [(6, pp 0 0)] [(0, .cells [ii (w64 (1 + (Int.tmod (w64 a) (w64 ((w64 (2 + (Int.tmod (w64 b) 29))) - 1))))), ii (w64 (2 + (Int.tmod (w64 b) 29)))] 0 23 0)] 1 rfl (by kernel_rfl) ?_
    refine XR.done (by kernel_rfl) ?_
    show XQ _ _ _ _ _ _ _ _
    refine XQ.seq Ep_ok (by kernel_rfl) ?_
    refine XQ.region (by kernel_rfl) ?_
    refine XR.runS Ep_ok 1 1 [(6, pp 0 0), (29, .agg #[ii (w64 (1 + (Int.tmod (w64 a) (w64 ((w64 (2 + (Int.tmod (w64 b) 29))) - 1))))), ii (w64 (2 + (Int.tmod (w64 b) 29)))])] rfl (by kernel_rfl) ?_
    obtain ⟨r1, r1_h, h⟩ := bS h
    refine XR.call Ep_ok [6, 30] rfl (K := 5) (args := [.agg #[ii (w64 (1 + (Int.tmod (w64 a) (w64 ((w64 (2 + (Int.tmod (w64 b) 29))) - 1))))), ii (w64 (2 + (Int.tmod (w64 b) 29)))]]) (d := (some (path 12 30))) (by kernel_rfl) (KC.of_calls Ep_ok (F := Proofs.Tryz.f5) (v := .tuple #[.agg #[ii r1.1, ii r1.2.1], ii r1.2.2]) (by kernel_rfl) rfl rfl (fun w hI => f5_ok m (w64 (1 + (Int.tmod (w64 a) (w64 ((w64 (2 + (Int.tmod (w64 b) 29))) - 1))))) (w64 (2 + (Int.tmod (w64 b) 29))) r1 r1_h w hI)) ?_
    rintro _ _ _ ⟨rfl, rfl, rfl⟩
    refine XR.conv (σ' := [(6, pp 0 0), (30, .tuple #[.agg #[ii r1.1, ii r1.2.1], ii r1.2.2])]) (h' := [(0, .cells [ii (w64 (1 + (Int.tmod (w64 a) (w64 ((w64 (2 + (Int.tmod (w64 b) 29))) - 1))))), ii (w64 (2 + (Int.tmod (w64 b) 29)))] 0 23 0)]) (c' := 1) ?_ (by kernel_rfl)
    refine XR.runT Ep_ok 1 6 [(6, pp 0 0), (7, pp 1 0), (8, ii r1.2.2)] [(1, .cells [ii r1.1, ii r1.2.1] 0 23 0), (0, .cells [ii (w64 (1 + (Int.tmod (w64 a) (w64 ((w64 (2 + (Int.tmod (w64 b) 29))) - 1))))), ii (w64 (2 + (Int.tmod (w64 b) 29)))] 0 23 0)] 2 rfl (by kernel_rfl) ?_
    refine XR.done (by kernel_rfl) ?_
    show XQ _ _ _ _ _ _ _ _
    refine XQ.seq Ep_ok (by kernel_rfl) ?_
    refine XQ.seq Ep_ok (by kernel_rfl) ?_
    refine XQ.region (by kernel_rfl) ?_
    refine XR.runS Ep_ok 1 3 [(6, pp 0 0), (7, pp 1 0), (35, .bool (r1.2.2 != 0))] rfl (by kernel_rfl) ?_
    cases b3 : (r1.2.2 != 0 : Bool) with
    | true =>
      have h := cT b3 h
      refine XR.runS Ep_ok 1 4 [(6, pp 0 0), (7, pp 1 0), (39, .bool true)] rfl (by kernel_rfl) ?_
      refine XR.done (by kernel_rfl) ?_
      show XQ _ _ _ _ _ _ _ _
      refine XQ.cond (s := (.tmp 39)) (b := true) (by kernel_rfl) (by kernel_rfl) (fun _ => ?_) (fun q => by cases q)
      refine XQ.seq Ep_ok (by kernel_rfl) ?_
      refine XQ.region (by kernel_rfl) ?_
      refine XR.runS Ep_ok 1 1 [(4, .bool false)] rfl (by kernel_rfl) ?_
      refine XR.done (by kernel_rfl) ?_
      show XQ _ _ _ _ _ _ _ _
      refine XQ.ret (by kernel_rfl) ?_
      have h := Option.some.inj h
      subst h
      exact ⟨fun i q => (by cases q), .bool false, (by kernel_rfl), rfl⟩
    | false =>
      have h := cF b3 h
      refine XR.runS Ep_ok 1 1 [(6, pp 0 0), (7, pp 1 0), (35, .bool false), (36, .agg #[ii r1.1, ii r1.2.1])] rfl (by kernel_rfl) ?_
      obtain ⟨r2, r2_h, h⟩ := bS h
      refine XR.call Ep_ok [6, 7, 35, 37] rfl (K := 6) (args := [.agg #[ii r1.1, ii r1.2.1]]) (d := (some (path 12 37))) (by kernel_rfl) (KC.of_calls Ep_ok (F := Proofs.Tryz.f6) (v := ii r2) (by kernel_rfl) rfl rfl (fun w hI => f6_ok m r1.1 r1.2.1 r2 r2_h w hI)) ?_
      rintro _ _ _ ⟨rfl, rfl, rfl⟩
      refine XR.conv (σ' := [(6, pp 0 0), (7, pp 1 0), (35, .bool false), (37, ii r2)]) (h' := [(1, .cells [ii r1.1, ii r1.2.1] 0 23 0), (0, .cells [ii (w64 (1 + (Int.tmod (w64 a) (w64 ((w64 (2 + (Int.tmod (w64 b) 29))) - 1))))), ii (w64 (2 + (Int.tmod (w64 b) 29)))] 0 23 0)]) (c' := 2) ?_ (by kernel_rfl)
      refine XR.runS Ep_ok 1 2 [(6, pp 0 0), (7, pp 1 0), (39, .bool (r2 != 0))] rfl (by kernel_rfl) ?_
      refine XR.done (by kernel_rfl) ?_
      show XQ _ _ _ _ _ _ _ _
      cases b4 : (r2 != 0 : Bool) with
      | true =>
        have h := cT b4 h
        refine XQ.cond (s := (.tmp 39)) (b := true) (by kernel_rfl) (by kernel_rfl) (fun _ => ?_) (fun q => by cases q)
        refine XQ.seq Ep_ok (by kernel_rfl) ?_
        refine XQ.region (by kernel_rfl) ?_
        refine XR.runS Ep_ok 1 1 [(4, .bool false)] rfl (by kernel_rfl) ?_
        refine XR.done (by kernel_rfl) ?_
        show XQ _ _ _ _ _ _ _ _
        refine XQ.ret (by kernel_rfl) ?_
        have h := Option.some.inj h
        subst h
        exact ⟨fun i q => (by cases q), .bool false, (by kernel_rfl), rfl⟩
      | false =>
        have h := cF b4 h
        refine XQ.cond (s := (.tmp 39)) (b := false) (by kernel_rfl) (by kernel_rfl) (fun q => by cases q) (fun _ => ?_)
        refine XQ.skip (by kernel_rfl) ?_
        show XQ _ _ _ _ _ _ _ _
        refine XQ.seq Ep_ok (by kernel_rfl) ?_
        refine XQ.region (by kernel_rfl) ?_
        refine XR.runS Ep_ok 1 4 [(6, pp 0 0), (7, pp 1 0), (42, ii r1.2.1), (44, ii r1.1)] rfl (by kernel_rfl) ?_
        obtain ⟨r3, r3_h, h⟩ := bS h
        refine XR.call Ep_ok [6, 7, 45] rfl (K := 7) (args := [ii r1.2.1, ii r1.1]) (d := (some (path 12 45))) (by kernel_rfl) (KC.lift (V2 := .tuple #[s0 2 r3.1.length, ii r3.2]) (H2 := [(2, rc (encI .i64) r3.1 0 3 1)]) [1, 2, 0] (f7_ok m r1.2.1 r1.1 r3 r3_h) rfl (by decide) (by decide) (by kernel_rfl) ⟨⟨_, _, rfl, rfl, .inl ⟨rfl, rowC_scal (encI_ok .i64) _⟩⟩, trivial⟩ (by rfl)) ?_
        rintro _ _ _ ⟨rfl, rfl, rfl⟩
        refine XR.conv (σ' := [(6, pp 0 0), (7, pp 1 0), (45, .tuple #[s0 2 r3.1.length, ii r3.2])]) (h' := [(2, rc (encI .i64) r3.1 0 3 1), (1, .cells [ii r1.1, ii r1.2.1] 0 23 0), (0, .cells [ii (w64 (1 + (Int.tmod (w64 a) (w64 ((w64 (2 + (Int.tmod (w64 b) 29))) - 1))))), ii (w64 (2 + (Int.tmod (w64 b) 29)))] 0 23 0)]) (c' := 3) ?_ (by kernel_rfl)
        refine XR.runS Ep_ok 1 5 [(6, pp 0 0), (7, pp 1 0), (8, ii r3.2), (9, s0 2 r3.1.length)] rfl (by kernel_rfl) ?_
        refine XR.done (by kernel_rfl) ?_
        show XQ _ _ _ _ _ _ _ _
        refine XQ.seq Ep_ok (by kernel_rfl) ?_
        refine XQ.seq Ep_ok (by kernel_rfl) ?_
        refine XQ.region (by kernel_rfl) ?_
        refine XR.runS Ep_ok 1 3 [(6, pp 0 0), (7, pp 1 0), (9, s0 2 r3.1.length), (50, .bool (r3.2 != 0))] rfl (by kernel_rfl) ?_
        cases b5 : (r3.2 != 0 : Bool) with
        | true =>
          have h := cT b5 h
          refine XR.runS Ep_ok 1 4 [(6, pp 0 0), (7, pp 1 0), (9, s0 2 r3.1.length), (54, .bool true)] rfl (by kernel_rfl) ?_
          refine XR.done (by kernel_rfl) ?_
          show XQ _ _ _ _ _ _ _ _
          refine XQ.cond (s := (.tmp 54)) (b := true) (by kernel_rfl) (by kernel_rfl) (fun _ => ?_) (fun q => by cases q)
          refine XQ.seq Ep_ok (by kernel_rfl) ?_
          refine XQ.region (by kernel_rfl) ?_
          refine XR.runS Ep_ok 1 1 [(4, .bool false)] rfl (by kernel_rfl) ?_
          refine XR.done (by kernel_rfl) ?_
          show XQ _ _ _ _ _ _ _ _
          refine XQ.ret (by kernel_rfl) ?_
          have h := Option.some.inj h
          subst h
          exact ⟨fun i q => (by cases q), .bool false, (by kernel_rfl), rfl⟩
        | false =>
          have h := cF b5 h
          refine XR.runS Ep_ok 1 4 [(6, pp 0 0), (7, pp 1 0), (9, s0 2 r3.1.length), (54, .bool (((r3.1.length : Nat) : Int) == 0))] rfl (by kernel_rfl) ?_
          refine XR.done (by kernel_rfl) ?_
          show XQ _ _ _ _ _ _ _ _
          cases b6 : (((r3.1.length : Nat) : Int) == 0 : Bool) with
          | true =>
            have h := cT b6 h
            refine XQ.cond (s := (.tmp 54)) (b := true) (by kernel_rfl) (by kernel_rfl) (fun _ => ?_) (fun q => by cases q)
            refine XQ.seq Ep_ok (by kernel_rfl) ?_
            refine XQ.region (by kernel_rfl) ?_
            refine XR.runS Ep_ok 1 1 [(4, .bool false)] rfl (by kernel_rfl) ?_
            refine XR.done (by kernel_rfl) ?_
            show XQ _ _ _ _ _ _ _ _
            refine XQ.ret (by kernel_rfl) ?_
            have h := Option.some.inj h
            subst h
            exact ⟨fun i q => (by cases q), .bool false, (by kernel_rfl), rfl⟩
          | false =>
            have h := cF b6 h
            refine XQ.cond (s := (.tmp 54)) (b := false) (by kernel_rfl) (by kernel_rfl) (fun q => by cases q) (fun _ => ?_)
            refine XQ.skip (by kernel_rfl) ?_
            show XQ _ _ _ _ _ _ _ _
            refine XQ.seq Ep_ok (by kernel_rfl) ?_
            refine XQ.region (by kernel_rfl) ?_
            refine XR.runS Ep_ok 1 1 [(7, pp 1 0), (9, s0 2 r3.1.length), (56, .agg #[ii (w64 (1 + (Int.tmod (w64 a) (w64 ((w64 (2 + (Int.tmod (w64 b) 29))) - 1))))), ii (w64 (2 + (Int.tmod (w64 b) 29)))])] rfl (by kernel_rfl) ?_
            obtain ⟨r4, r4_h, h⟩ := bS h
            refine XR.call Ep_ok [7, 9, 57] rfl (K := 8) (args := [.agg #[ii (w64 (1 + (Int.tmod (w64 a) (w64 ((w64 (2 + (Int.tmod (w64 b) 29))) - 1))))), ii (w64 (2 + (Int.tmod (w64 b) 29)))]]) (d := (some (path 12 57))) (by kernel_rfl) (KC.lift (V2 := .tuple #[s0 3 r4.1.length, ii r4.2]) (H2 := [(3, rc (encI .i64) r4.1 0 3 1)]) [1, 2, 3, 0] (f8_ok m (w64 (1 + (Int.tmod (w64 a) (w64 ((w64 (2 + (Int.tmod (w64 b) 29))) - 1))))) (w64 (2 + (Int.tmod (w64 b) 29))) r4 r4_h) rfl (by decide) (by decide) (by kernel_rfl) ⟨⟨_, _, rfl, rfl, .inl ⟨rfl, rowC_scal (encI_ok .i64) _⟩⟩, trivial⟩ (by rfl)) ?_
            rintro _ _ _ ⟨rfl, rfl, rfl⟩
            refine XR.conv (σ' := [(7, pp 1 0), (9, s0 2 r3.1.length), (57, .tuple #[s0 3 r4.1.length, ii r4.2])]) (h' := [(3, rc (encI .i64) r4.1 0 3 1), (2, rc (encI .i64) r3.1 0 3 1), (1, .cells [ii r1.1, ii r1.2.1] 0 23 0), (0, .cells [ii (w64 (1 + (Int.tmod (w64 a) (w64 ((w64 (2 + (Int.tmod (w64 b) 29))) - 1))))), ii (w64 (2 + (Int.tmod (w64 b) 29)))] 0 23 0)]) (c' := 4) ?_ (by kernel_rfl)
            refine XR.runS Ep_ok 1 5 [(7, pp 1 0), (9, s0 2 r3.1.length), (10, s0 3 r4.1.length), (11, ii r4.2)] rfl (by kernel_rfl) ?_
            refine XR.done (by kernel_rfl) ?_
            show XQ _ _ _ _ _ _ _ _
            refine XQ.seq Ep_ok (by kernel_rfl) ?_
            refine XQ.region (by kernel_rfl) ?_
            refine XR.runS Ep_ok 1 1 [(7, pp 1 0), (9, s0 2 r3.1.length), (10, s0 3 r4.1.length), (11, ii r4.2)] rfl (by kernel_rfl) ?_
            refine XR.done (by kernel_rfl) ?_
            show XQ _ _ _ _ _ _ _ _
            refine XQ.seq Ep_ok (by kernel_rfl) ?_
            refine XQ.seq Ep_ok (by kernel_rfl) ?_
            refine XQ.region (by kernel_rfl) ?_
            refine XR.runS Ep_ok 1 3 [(7, pp 1 0), (9, s0 2 r3.1.length), (10, s0 3 r4.1.length), (11, ii r4.2), (62, .bool (decide (r1.1 > 1)))] rfl (by kernel_rfl) ?_
            refine XR.done (by kernel_rfl) ?_
            show XQ _ _ _ _ _ _ _ _
            cases b7 : (decide (r1.1 > 1) : Bool) with
            | true =>
              have h := cT b7 h
              refine XQ.cond (s := (.tmp 62)) (b := true) (by kernel_rfl) (by kernel_rfl) (fun _ => ?_) (fun q => by cases q)
              refine XQ.seq Ep_ok (by kernel_rfl) ?_
              refine XQ.region (by kernel_rfl) ?_
              refine XR.runS Ep_ok 1 7 [(7, pp 1 0), (9, s0 2 r3.1.length), (10, s0 3 r4.1.length), (11, ii r4.2), (65, ii r1.2.1), (67, ii r1.1), (70, ii (w64 (r1.1 - 1)))] rfl (by kernel_rfl) ?_
              obtain ⟨r6, r6_h, h⟩ := bS h
              refine XR.call Ep_ok [7, 9, 10, 11, 71] rfl (K := 9) (args := [ii r1.2.1, ii r1.1, ii 1, ii (w64 (r1.1 - 1))]) (d := (some (path 12 71))) (by kernel_rfl) (KC.of_calls Ep_ok (F := Proofs.Tryz.f9) (v := .tuple #[ii r6.1, ii r6.2]) (by kernel_rfl) rfl rfl (fun w hI => f9_ok m r1.2.1 r1.1 1 (w64 (r1.1 - 1)) r6 r6_h w hI)) ?_
              rintro _ _ _ ⟨rfl, rfl, rfl⟩
              refine XR.conv (σ' := [(7, pp 1 0), (9, s0 2 r3.1.length), (10, s0 3 r4.1.length), (11, ii r4.2), (71, .tuple #[ii r6.1, ii r6.2])]) (h' := [(3, rc (encI .i64) r4.1 0 3 1), (2, rc (encI .i64) r3.1 0 3 1), (1, .cells [ii r1.1, ii r1.2.1] 0 23 0), (0, .cells [ii (w64 (1 + (Int.tmod (w64 a) (w64 ((w64 (2 + (Int.tmod (w64 b) 29))) - 1))))), ii (w64 (2 + (Int.tmod (w64 b) 29)))] 0 23 0)]) (c' := 4) ?_ (by kernel_rfl)
              refine XR.runS Ep_ok 1 5 [(7, pp 1 0), (9, s0 2 r3.1.length), (10, s0 3 r4.1.length), (11, ii r4.2), (13, ii r6.1), (14, ii r6.2)] rfl (by kernel_rfl) ?_
              refine XR.done (by kernel_rfl) ?_
              show XQ _ _ _ _ _ _ _ _
              refine XQ.seq Ep_ok (by kernel_rfl) ?_
              refine XQ.seq Ep_ok (by kernel_rfl) ?_
              refine XQ.region (by kernel_rfl) ?_
              refine XR.runS Ep_ok 1 3 [(7, pp 1 0), (9, s0 2 r3.1.length), (10, s0 3 r4.1.length), (11, ii r4.2), (13, ii r6.1), (76, .bool (r6.2 != 0))] rfl (by kernel_rfl) ?_
              cases b8 : (r6.2 != 0 : Bool) with
              | true =>
                have h := cT b8 h
                refine XR.runS Ep_ok 1 7 [(7, pp 1 0), (10, s0 3 r4.1.length), (11, ii r4.2), (13, ii r6.1), (83, .bool true)] rfl (by kernel_rfl) ?_
                refine XR.done (by kernel_rfl) ?_
                show XQ _ _ _ _ _ _ _ _
                refine XQ.cond (s := (.tmp 83)) (b := true) (by kernel_rfl) (by kernel_rfl) (fun _ => ?_) (fun q => by cases q)
                refine XQ.seq Ep_ok (by kernel_rfl) ?_
                refine XQ.region (by kernel_rfl) ?_
                refine XR.runS Ep_ok 1 1 [(4, .bool false)] rfl (by kernel_rfl) ?_
                refine XR.done (by kernel_rfl) ?_
                show XQ _ _ _ _ _ _ _ _
                refine XQ.ret (by kernel_rfl) ?_
                have h := Option.some.inj h
                subst h
                exact ⟨fun i q => (by cases q), .bool false, (by kernel_rfl), rfl⟩
              | false =>
                have h := cF b8 h
                refine XR.runS Ep_ok 1 2 [(7, pp 1 0), (10, s0 3 r4.1.length), (11, ii r4.2), (13, ii r6.1), (76, .bool false), (77, ii r6.1), (78, s0 2 r3.1.length)] rfl (by kernel_rfl) ?_
                cases b9 : (inRow 0 r3.1.length : Bool) with
                | false => cases (cF b9 h)
                | true =>
                  have h := cT b9 h
                  refine XR.rd Ep_ok [7, 10, 11, 13, 76, 77, 79] rfl (v := pp 2 (0 * 1)) (v_idx (s := 1) (x := (src 152 (.tmp 78))) (y := (src 152 (.const (ii 0)))) (b := 2) (o := 0) (len := r3.1.length) (cap := r3.1.length) (ik := .i64) (i := 0) (off := 0 * 1) (d := (some (path 12 79))) (by kernel_rfl) (by kernel_rfl) (by kernel_rfl) b9 (by omega)) (σ' := [(7, pp 1 0), (10, s0 3 r4.1.length), (11, ii r4.2), (13, ii r6.1), (76, .bool false), (77, ii r6.1), (79, pp 2 (0 * 1))]) (by kernel_rfl) ?_
                  refine XR.rd Ep_ok [7, 10, 11, 13, 76, 77, 80] rfl (v := ii (List.getD r3.1 0 0)) (v_load1 (encI_ok .i64) (x := (src 152 (.tmp 79))) (b := 2) (off := 0 * 1) (xs := r3.1) (fz := 0) (e := 3) (es := 1) (d := (some (path 12 80))) (by kernel_rfl) (by kernel_rfl) (by kernel_rfl) 0 0 0 (by first | with_reducible rfl | omega | rfl) (row_len (inRow_toNat b9) (by simp)) rfl rfl) (σ' := [(7, pp 1 0), (10, s0 3 r4.1.length), (11, ii r4.2), (13, ii r6.1), (76, .bool false), (77, ii r6.1), (80, ii (List.getD r3.1 0 0))]) (by kernel_rfl) ?_
                  refine XR.runS Ep_ok 1 3 [(7, pp 1 0), (10, s0 3 r4.1.length), (11, ii r4.2), (13, ii r6.1), (83, .bool (r6.1 != (w64 ((List.getD r3.1 0 0) + 1))))] rfl (by kernel_rfl) ?_
                  refine XR.done (by kernel_rfl) ?_
                  show XQ _ _ _ _ _ _ _ _
                  cases b10 : (r6.1 != (w64 ((List.getD r3.1 0 0) + 1)) : Bool) with
                  | true =>
                    have h := cT b10 h
                    refine XQ.cond (s := (.tmp 83)) (b := true) (by kernel_rfl) (by kernel_rfl) (fun _ => ?_) (fun q => by cases q)
                    refine XQ.seq Ep_ok (by kernel_rfl) ?_
                    refine XQ.region (by kernel_rfl) ?_
                    refine XR.runS Ep_ok 1 1 [(4, .bool false)] rfl (by kernel_rfl) ?_
                    refine XR.done (by kernel_rfl) ?_
                    show XQ _ _ _ _ _ _ _ _
                    refine XQ.ret (by kernel_rfl) ?_
                    have h := Option.some.inj h
                    subst h
                    exact ⟨fun i q => (by cases q), .bool false, (by kernel_rfl), rfl⟩
                  | false =>
                    have h := cF b10 h
                    refine XQ.cond (s := (.tmp 83)) (b := false) (by kernel_rfl) (by kernel_rfl) (fun q => by cases q) (fun _ => ?_)
                    refine XQ.skip (by kernel_rfl) ?_
                    show XQ _ _ _ _ _ _ _ _
                    refine XQ.seq Ep_ok (by kernel_rfl) ?_
                    refine XQ.region (by kernel_rfl) ?_
                    refine XR.runS Ep_ok 1 8 [(7, pp 1 0), (10, s0 3 r4.1.length), (11, ii r4.2), (13, ii r6.1), (91, .agg #[ii r1.2.1, ii r1.1, ii r1.2.1]), (92, ii r6.1)] rfl (by kernel_rfl) ?_
                    obtain ⟨r7, r7_h, h⟩ := bS h
                    refine XR.call Ep_ok [7, 10, 11, 13, 93] rfl (K := 10) (args := [.agg #[ii r1.2.1, ii r1.1, ii r1.2.1], ii r6.1]) (d := (some (path 12 93))) (by kernel_rfl) (KC.of_calls Ep_ok (F := Proofs.Tryz.f10) (v := .tuple #[ii r7.1, ii r7.2]) (by kernel_rfl) rfl rfl (fun w hI => f10_ok m r1.2.1 r1.1 r1.2.1 r6.1 r7 r7_h w hI)) ?_
                    rintro _ _ _ ⟨rfl, rfl, rfl⟩
                    refine XR.conv (σ' := [(7, pp 1 0), (10, s0 3 r4.1.length), (11, ii r4.2), (13, ii r6.1), (93, .tuple #[ii r7.1, ii r7.2])]) (h' := [(3, rc (encI .i64) r4.1 0 3 1), (2, rc (encI .i64) r3.1 0 3 1), (1, .cells [ii r1.1, ii r1.2.1] 0 23 0), (0, .cells [ii (w64 (1 + (Int.tmod (w64 a) (w64 ((w64 (2 + (Int.tmod (w64 b) 29))) - 1))))), ii (w64 (2 + (Int.tmod (w64 b) 29)))] 0 23 0)]) (c' := 4) ?_ (by kernel_rfl)
                    refine XR.runS Ep_ok 1 5 [(7, pp 1 0), (10, s0 3 r4.1.length), (11, ii r4.2), (13, ii r6.1), (14, ii r7.2), (15, ii r7.1)] rfl (by kernel_rfl) ?_
                    refine XR.done (by kernel_rfl) ?_
                    show XQ _ _ _ _ _ _ _ _
                    refine XQ.seq Ep_ok (by kernel_rfl) ?_
                    refine XQ.seq Ep_ok (by kernel_rfl) ?_
                    refine XQ.region (by kernel_rfl) ?_
                    refine XR.runS Ep_ok 1 3 [(7, pp 1 0), (10, s0 3 r4.1.length), (11, ii r4.2), (13, ii r6.1), (15, ii r7.1), (98, .bool (r7.2 != 0))] rfl (by kernel_rfl) ?_
                    cases b11 : (r7.2 != 0 : Bool) with
                    | true =>
                      have h := cT b11 h
                      refine XR.runS Ep_ok 1 10 [(7, pp 1 0), (10, s0 3 r4.1.length), (11, ii r4.2), (13, ii r6.1), (108, .bool true)] rfl (by kernel_rfl) ?_
                      refine XR.done (by kernel_rfl) ?_
                      show XQ _ _ _ _ _ _ _ _
                      refine XQ.cond (s := (.tmp 108)) (b := true) (by kernel_rfl) (by kernel_rfl) (fun _ => ?_) (fun q => by cases q)
                      refine XQ.seq Ep_ok (by kernel_rfl) ?_
                      refine XQ.region (by kernel_rfl) ?_
                      refine XR.runS Ep_ok 1 1 [(4, .bool false)] rfl (by kernel_rfl) ?_
                      refine XR.done (by kernel_rfl) ?_
                      show XQ _ _ _ _ _ _ _ _
                      refine XQ.ret (by kernel_rfl) ?_
                      have h := Option.some.inj h
                      subst h
                      exact ⟨fun i q => (by cases q), .bool false, (by kernel_rfl), rfl⟩
                    | false =>
                      have h := cF b11 h
                      refine XR.runS Ep_ok 1 10 [(7, pp 1 0), (10, s0 3 r4.1.length), (11, ii r4.2), (13, ii r6.1), (108, .bool (r7.1 != (w64 ((w64 (r1.1 * r6.1)) - r1.2.1))))] rfl (by kernel_rfl) ?_
                      refine XR.done (by kernel_rfl) ?_
                      show XQ _ _ _ _ _ _ _ _
                      cases b12 : (r7.1 != (w64 ((w64 (r1.1 * r6.1)) - r1.2.1)) : Bool) with
                      | true =>
                        have h := cT b12 h
                        refine XQ.cond (s := (.tmp 108)) (b := true) (by kernel_rfl) (by kernel_rfl) (fun _ => ?_) (fun q => by cases q)
                        refine XQ.seq Ep_ok (by kernel_rfl) ?_
                        refine XQ.region (by kernel_rfl) ?_
                        refine XR.runS Ep_ok 1 1 [(4, .bool false)] rfl (by kernel_rfl) ?_
                        refine XR.done (by kernel_rfl) ?_
                        show XQ _ _ _ _ _ _ _ _
                        refine XQ.ret (by kernel_rfl) ?_
                        have h := Option.some.inj h
                        subst h
                        exact ⟨fun i q => (by cases q), .bool false, (by kernel_rfl), rfl⟩
                      | false =>
                        have h := cF b12 h
                        refine XQ.cond (s := (.tmp 108)) (b := false) (by kernel_rfl) (by kernel_rfl) (fun q => by cases q) (fun _ => ?_)
                        refine XQ.skip (by kernel_rfl) ?_
                        show XQ _ _ _ _ _ _ _ _
                        refine XQ.region (by kernel_rfl) ?_
                        refine XR.runS Ep_ok 1 2 [(7, pp 1 0), (10, s0 3 r4.1.length), (11, ii r4.2), (12, ii r6.1)] rfl (by kernel_rfl) ?_
                        refine XR.done (by kernel_rfl) ?_
                        show XQ _ _ _ _ _ _ _ _
                        refine XQ.seq Ep_ok (by kernel_rfl) ?_
                        refine XQ.seq Ep_ok (by kernel_rfl) ?_
                        refine XQ.region (by kernel_rfl) ?_
                        refine XR.runS Ep_ok 1 2 [(7, pp 1 0), (10, s0 3 r4.1.length), (11, ii r4.2), (12, ii r6.1), (114, .bool (r4.2 == 15))] rfl (by kernel_rfl) ?_
                        refine XR.done (by kernel_rfl) ?_
                        show XQ _ _ _ _ _ _ _ _
                        cases b13 : (r4.2 == 15 : Bool) with
                        | true =>
                          have h := cT b13 h
                          refine XQ.cond (s := (.tmp 114)) (b := true) (by kernel_rfl) (by kernel_rfl) (fun _ => ?_) (fun q => by cases q)
                          refine XQ.seq Ep_ok (by kernel_rfl) ?_
                          refine XQ.region (by kernel_rfl) ?_
                          refine XR.runS Ep_ok 1 4 [(10, s0 3 r4.1.length), (118, .bool (decide (r1.1 > 1)))] rfl (by kernel_rfl) ?_
                          rw [b7]
                          refine XR.runS Ep_ok 1 5 [(123, .bool (((r4.1.length : Nat) : Int) == 0))] rfl (by kernel_rfl) ?_
                          cases b14 : (((r4.1.length : Nat) : Int) == 0 : Bool) with
                          | true =>
                            have h := cT b14 h
                            refine XR.call Ep_ok [123, 124] rfl (K := 11) (args := []) (d := (some (path 12 124))) (by kernel_rfl) (KC.of_calls Ep_ok (F := Proofs.Tryz.f11) (v := .bool true) (by kernel_rfl) rfl rfl (works_ok)) ?_
                            rintro _ _ _ ⟨rfl, rfl, rfl⟩
                            refine XR.conv (σ' := [(123, .bool true), (124, .bool true)]) (h' := [(3, rc (encI .i64) r4.1 0 3 1), (2, rc (encI .i64) r3.1 0 3 1), (1, .cells [ii r1.1, ii r1.2.1] 0 23 0), (0, .cells [ii (w64 (1 + (Int.tmod (w64 a) (w64 ((w64 (2 + (Int.tmod (w64 b) 29))) - 1))))), ii (w64 (2 + (Int.tmod (w64 b) 29)))] 0 23 0)]) (c' := 4) ?_ (by kernel_rfl)
                            refine XR.runS Ep_ok 1 2 [(4, .bool true)] rfl (by kernel_rfl) ?_
                            refine XR.done (by kernel_rfl) ?_
                            show XQ _ _ _ _ _ _ _ _
                            refine XQ.ret (by kernel_rfl) ?_
                            have h := Option.some.inj h
                            subst h
                            exact ⟨fun i q => (by cases q), .bool true, (by kernel_rfl), rfl⟩
                          | false =>
                            have h := cF b14 h
                            refine XR.runS Ep_ok 1 3 [(4, .bool false)] rfl (by kernel_rfl) ?_
                            refine XR.done (by kernel_rfl) ?_
                            show XQ _ _ _ _ _ _ _ _
                            refine XQ.ret (by kernel_rfl) ?_
                            have h := Option.some.inj h
                            subst h
                            exact ⟨fun i q => (by cases q), .bool false, (by kernel_rfl), rfl⟩
                        | false =>
                          have h := cF b13 h
                          refine XQ.cond (s := (.tmp 114)) (b := false) (by kernel_rfl) (by kernel_rfl) (fun q => by cases q) (fun _ => ?_)
                          refine XQ.skip (by kernel_rfl) ?_
                          show XQ _ _ _ _ _ _ _ _
                          refine XQ.seq Ep_ok (by kernel_rfl) ?_
                          refine XQ.region (by kernel_rfl) ?_
                          refine XR.runS Ep_ok 1 3 [(7, pp 1 0), (10, s0 3 r4.1.length), (12, ii r6.1), (128, .bool (r4.2 == 0))] rfl (by kernel_rfl) ?_
                          cases b15 : (r4.2 == 0 : Bool) with
                          | true =>
                            have h := cT b15 h
                            refine XR.runS Ep_ok 1 5 [(7, pp 1 0), (10, s0 3 r4.1.length), (12, ii r6.1), (133, .bool (decide (((r4.1.length : Nat) : Int) > 0)))] rfl (by kernel_rfl) ?_
                            cases b16 : (decide (((r4.1.length : Nat) : Int) > 0) : Bool) with
                            | true =>
                              have h := cT b16 h
                              refine XR.runS Ep_ok 1 1 [(7, pp 1 0), (10, s0 3 r4.1.length), (12, ii r6.1), (133, .bool true), (134, s0 3 r4.1.length)] rfl (by kernel_rfl) ?_
                              cases b17 : (inRow 0 r4.1.length : Bool) with
                              | false => cases (cF b17 h)
                              | true =>
                                have h := cT b17 h
                                refine XR.rd Ep_ok [7, 10, 12, 133, 135] rfl (v := pp 3 (0 * 1)) (v_idx (s := 1) (x := (src 152 (.tmp 134))) (y := (src 152 (.const (ii 0)))) (b := 3) (o := 0) (len := r4.1.length) (cap := r4.1.length) (ik := .i64) (i := 0) (off := 0 * 1) (d := (some (path 12 135))) (by kernel_rfl) (by kernel_rfl) (by kernel_rfl) b17 (by omega)) (σ' := [(7, pp 1 0), (10, s0 3 r4.1.length), (12, ii r6.1), (133, .bool true), (135, pp 3 (0 * 1))]) (by kernel_rfl) ?_
                                refine XR.rd Ep_ok [7, 10, 12, 133, 136] rfl (v := ii (List.getD r4.1 0 0)) (v_load1 (encI_ok .i64) (x := (src 152 (.tmp 135))) (b := 3) (off := 0 * 1) (xs := r4.1) (fz := 0) (e := 3) (es := 1) (d := (some (path 12 136))) (by kernel_rfl) (by kernel_rfl) (by kernel_rfl) 0 0 0 (by first | with_reducible rfl | omega | rfl) (row_len (inRow_toNat b17) (by simp)) rfl rfl) (σ' := [(7, pp 1 0), (10, s0 3 r4.1.length), (12, ii r6.1), (133, .bool true), (136, ii (List.getD r4.1 0 0))]) (by kernel_rfl) ?_
                                refine XR.runS Ep_ok 1 4 [(7, pp 1 0), (10, s0 3 r4.1.length), (140, .bool ((List.getD r4.1 0 0) == r6.1))] rfl (by kernel_rfl) ?_
                                cases b18 : ((List.getD r4.1 0 0) == r6.1 : Bool) with
                                | true =>
                                  have h := cT b18 h
                                  refine XR.runS Ep_ok 1 9 [(149, .bool ((((r4.1.length : Nat) : Int) == 1) == (r1.1 == 1)))] rfl (by kernel_rfl) ?_
                                  cases b19 : ((((r4.1.length : Nat) : Int) == 1) == (r1.1 == 1) : Bool) with
                                  | true =>
                                    have h := cT b19 h
                                    refine XR.call Ep_ok [149, 150] rfl (K := 11) (args := []) (d := (some (path 12 150))) (by kernel_rfl) (KC.of_calls Ep_ok (F := Proofs.Tryz.f11) (v := .bool true) (by kernel_rfl) rfl rfl (works_ok)) ?_
                                    rintro _ _ _ ⟨rfl, rfl, rfl⟩
                                    refine XR.conv (σ' := [(149, .bool true), (150, .bool true)]) (h' := [(3, rc (encI .i64) r4.1 0 3 1), (2, rc (encI .i64) r3.1 0 3 1), (1, .cells [ii r1.1, ii r1.2.1] 0 23 0), (0, .cells [ii (w64 (1 + (Int.tmod (w64 a) (w64 ((w64 (2 + (Int.tmod (w64 b) 29))) - 1))))), ii (w64 (2 + (Int.tmod (w64 b) 29)))] 0 23 0)]) (c' := 4) ?_ (by kernel_rfl)
                                    refine XR.runS Ep_ok 1 2 [(4, .bool true)] rfl (by kernel_rfl) ?_
                                    refine XR.done (by kernel_rfl) ?_
                                    show XQ _ _ _ _ _ _ _ _
                                    refine XQ.ret (by kernel_rfl) ?_
                                    have h := Option.some.inj h
                                    subst h
                                    exact ⟨fun i q => (by cases q), .bool true, (by kernel_rfl), rfl⟩
                                  | false =>
                                    have h := cF b19 h
                                    refine XR.runS Ep_ok 1 3 [(4, .bool false)] rfl (by kernel_rfl) ?_
                                    refine XR.done (by kernel_rfl) ?_
                                    show XQ _ _ _ _ _ _ _ _
                                    refine XQ.ret (by kernel_rfl) ?_
                                    have h := Option.some.inj h
                                    subst h
                                    exact ⟨fun i q => (by cases q), .bool false, (by kernel_rfl), rfl⟩
                                | false =>
                                  have h := cF b18 h
                                  refine XR.runS Ep_ok 1 12 [(4, .bool false)] rfl (by kernel_rfl) ?_
                                  refine XR.done (by kernel_rfl) ?_
                                  show XQ _ _ _ _ _ _ _ _
                                  refine XQ.ret (by kernel_rfl) ?_
                                  have h := Option.some.inj h
                                  subst h
                                  exact ⟨fun i q => (by cases q), .bool false, (by kernel_rfl), rfl⟩
                            | false =>
                              have h := cF b16 h
                              refine XR.runS Ep_ok 1 19 [(4, .bool false)] rfl (by kernel_rfl) ?_
                              refine XR.done (by kernel_rfl) ?_
                              show XQ _ _ _ _ _ _ _ _
                              refine XQ.ret (by kernel_rfl) ?_
                              have h := Option.some.inj h
                              subst h
                              exact ⟨fun i q => (by cases q), .bool false, (by kernel_rfl), rfl⟩
                          | false =>
                            have h := cF b15 h
                            refine XR.runS Ep_ok 1 24 [(4, .bool false)] rfl (by kernel_rfl) ?_
                            refine XR.done (by kernel_rfl) ?_
                            show XQ _ _ _ _ _ _ _ _
                            refine XQ.ret (by kernel_rfl) ?_
                            have h := Option.some.inj h
                            subst h
                            exact ⟨fun i q => (by cases q), .bool false, (by kernel_rfl), rfl⟩
            | false =>
              have h := cF b7 h
              refine XQ.cond (s := (.tmp 62)) (b := false) (by kernel_rfl) (by kernel_rfl) (fun q => by cases q) (fun _ => ?_)
              refine XQ.region (by kernel_rfl) ?_
              refine XR.runS Ep_ok 1 1 [(7, pp 1 0), (10, s0 3 r4.1.length), (11, ii r4.2), (110, s0 2 r3.1.length)] rfl (by kernel_rfl) ?_
              cases b20 : (inRow 0 r3.1.length : Bool) with
              | false => cases (cF b20 h)
              | true =>
                have h := cT b20 h
                refine XR.rd Ep_ok [7, 10, 11, 111] rfl (v := pp 2 (0 * 1)) (v_idx (s := 1) (x := (src 152 (.tmp 110))) (y := (src 152 (.const (ii 0)))) (b := 2) (o := 0) (len := r3.1.length) (cap := r3.1.length) (ik := .i64) (i := 0) (off := 0 * 1) (d := (some (path 12 111))) (by kernel_rfl) (by kernel_rfl) (by kernel_rfl) b20 (by omega)) (σ' := [(7, pp 1 0), (10, s0 3 r4.1.length), (11, ii r4.2), (111, pp 2 (0 * 1))]) (by kernel_rfl) ?_
                refine XR.rd Ep_ok [7, 10, 11, 112] rfl (v := ii (List.getD r3.1 0 0)) (v_load1 (encI_ok .i64) (x := (src 152 (.tmp 111))) (b := 2) (off := 0 * 1) (xs := r3.1) (fz := 0) (e := 3) (es := 1) (d := (some (path 12 112))) (by kernel_rfl) (by kernel_rfl) (by kernel_rfl) 0 0 0 (by first | with_reducible rfl | omega | rfl) (row_len (inRow_toNat b20) (by simp)) rfl rfl) (σ' := [(7, pp 1 0), (10, s0 3 r4.1.length), (11, ii r4.2), (112, ii (List.getD r3.1 0 0))]) (by kernel_rfl) ?_
                refine XR.runS Ep_ok 1 1 [(7, pp 1 0), (10, s0 3 r4.1.length), (11, ii r4.2), (12, ii (List.getD r3.1 0 0))] rfl (by kernel_rfl) ?_
                refine XR.done (by kernel_rfl) ?_
                show XQ _ _ _ _ _ _ _ _
                refine XQ.seq Ep_ok (by kernel_rfl) ?_
                refine XQ.seq Ep_ok (by kernel_rfl) ?_
                refine XQ.region (by kernel_rfl) ?_
                refine XR.runS Ep_ok 1 2 [(7, pp 1 0), (10, s0 3 r4.1.length), (11, ii r4.2), (12, ii (List.getD r3.1 0 0)), (114, .bool (r4.2 == 15))] rfl (by kernel_rfl) ?_
                refine XR.done (by kernel_rfl) ?_
                show XQ _ _ _ _ _ _ _ _
                cases b21 : (r4.2 == 15 : Bool) with
                | true =>
                  have h := cT b21 h
                  refine XQ.cond (s := (.tmp 114)) (b := true) (by kernel_rfl) (by kernel_rfl) (fun _ => ?_) (fun q => by cases q)
                  refine XQ.seq Ep_ok (by kernel_rfl) ?_
                  refine XQ.region (by kernel_rfl) ?_
                  refine XR.runS Ep_ok 1 4 [(10, s0 3 r4.1.length), (118, .bool (decide (r1.1 > 1)))] rfl (by kernel_rfl) ?_
                  rw [b7]
                  refine XR.runS Ep_ok 1 8 [(4, .bool false)] rfl (by kernel_rfl) ?_
                  refine XR.done (by kernel_rfl) ?_
                  show XQ _ _ _ _ _ _ _ _
                  refine XQ.ret (by kernel_rfl) ?_
                  have h := Option.some.inj h
                  subst h
                  exact ⟨fun i q => (by cases q), .bool false, (by kernel_rfl), rfl⟩
                | false =>
                  have h := cF b21 h
                  refine XQ.cond (s := (.tmp 114)) (b := false) (by kernel_rfl) (by kernel_rfl) (fun q => by cases q) (fun _ => ?_)
                  refine XQ.skip (by kernel_rfl) ?_
                  show XQ _ _ _ _ _ _ _ _
                  refine XQ.seq Ep_ok (by kernel_rfl) ?_
                  refine XQ.region (by kernel_rfl) ?_
                  refine XR.runS Ep_ok 1 3 [(7, pp 1 0), (10, s0 3 r4.1.length), (12, ii (List.getD r3.1 0 0)), (128, .bool (r4.2 == 0))] rfl (by kernel_rfl) ?_
                  cases b22 : (r4.2 == 0 : Bool) with
                  | true =>
                    have h := cT b22 h
                    refine XR.runS Ep_ok 1 5 [(7, pp 1 0), (10, s0 3 r4.1.length), (12, ii (List.getD r3.1 0 0)), (133, .bool (decide (((r4.1.length : Nat) : Int) > 0)))] rfl (by kernel_rfl) ?_
                    cases b23 : (decide (((r4.1.length : Nat) : Int) > 0) : Bool) with
                    | true =>
                      have h := cT b23 h
                      refine XR.runS Ep_ok 1 1 [(7, pp 1 0), (10, s0 3 r4.1.length), (12, ii (List.getD r3.1 0 0)), (133, .bool true), (134, s0 3 r4.1.length)] rfl (by kernel_rfl) ?_
                      cases b24 : (inRow 0 r4.1.length : Bool) with
                      | false => cases (cF b24 h)
                      | true =>
                        have h := cT b24 h
                        refine XR.rd Ep_ok [7, 10, 12, 133, 135] rfl (v := pp 3 (0 * 1)) (v_idx (s := 1) (x := (src 152 (.tmp 134))) (y := (src 152 (.const (ii 0)))) (b := 3) (o := 0) (len := r4.1.length) (cap := r4.1.length) (ik := .i64) (i := 0) (off := 0 * 1) (d := (some (path 12 135))) (by kernel_rfl) (by kernel_rfl) (by kernel_rfl) b24 (by omega)) (σ' := [(7, pp 1 0), (10, s0 3 r4.1.length), (12, ii (List.getD r3.1 0 0)), (133, .bool true), (135, pp 3 (0 * 1))]) (by kernel_rfl) ?_
                        refine XR.rd Ep_ok [7, 10, 12, 133, 136] rfl (v := ii (List.getD r4.1 0 0)) (v_load1 (encI_ok .i64) (x := (src 152 (.tmp 135))) (b := 3) (off := 0 * 1) (xs := r4.1) (fz := 0) (e := 3) (es := 1) (d := (some (path 12 136))) (by kernel_rfl) (by kernel_rfl) (by kernel_rfl) 0 0 0 (by first | with_reducible rfl | omega | rfl) (row_len (inRow_toNat b24) (by simp)) rfl rfl) (σ' := [(7, pp 1 0), (10, s0 3 r4.1.length), (12, ii (List.getD r3.1 0 0)), (133, .bool true), (136, ii (List.getD r4.1 0 0))]) (by kernel_rfl) ?_
                        refine XR.runS Ep_ok 1 4 [(7, pp 1 0), (10, s0 3 r4.1.length), (140, .bool ((List.getD r4.1 0 0) == (List.getD r3.1 0 0)))] rfl (by kernel_rfl) ?_
                        cases b25 : ((List.getD r4.1 0 0) == (List.getD r3.1 0 0) : Bool) with
                        | true =>
                          have h := cT b25 h
                          refine XR.runS Ep_ok 1 9 [(149, .bool ((((r4.1.length : Nat) : Int) == 1) == (r1.1 == 1)))] rfl (by kernel_rfl) ?_
                          cases b26 : ((((r4.1.length : Nat) : Int) == 1) == (r1.1 == 1) : Bool) with
                          | true =>
                            have h := cT b26 h
                            refine XR.call Ep_ok [149, 150] rfl (K := 11) (args := []) (d := (some (path 12 150))) (by kernel_rfl) (KC.of_calls Ep_ok (F := Proofs.Tryz.f11) (v := .bool true) (by kernel_rfl) rfl rfl (works_ok)) ?_
                            rintro _ _ _ ⟨rfl, rfl, rfl⟩
                            refine XR.conv (σ' := [(149, .bool true), (150, .bool true)]) (h' := [(3, rc (encI .i64) r4.1 0 3 1), (2, rc (encI .i64) r3.1 0 3 1), (1, .cells [ii r1.1, ii r1.2.1] 0 23 0), (0, .cells [ii (w64 (1 + (Int.tmod (w64 a) (w64 ((w64 (2 + (Int.tmod (w64 b) 29))) - 1))))), ii (w64 (2 + (Int.tmod (w64 b) 29)))] 0 23 0)]) (c' := 4) ?_ (by kernel_rfl)
                            refine XR.runS Ep_ok 1 2 [(4, .bool true)] rfl (by kernel_rfl) ?_
                            refine XR.done (by kernel_rfl) ?_
                            show XQ _ _ _ _ _ _ _ _
                            refine XQ.ret (by kernel_rfl) ?_
                            have h := Option.some.inj h
                            subst h
                            exact ⟨fun i q => (by cases q), .bool true, (by kernel_rfl), rfl⟩
                          | false =>
                            have h := cF b26 h
                            refine XR.runS Ep_ok 1 3 [(4, .bool false)] rfl (by kernel_rfl) ?_
                            refine XR.done (by kernel_rfl) ?_
                            show XQ _ _ _ _ _ _ _ _
                            refine XQ.ret (by kernel_rfl) ?_
                            have h := Option.some.inj h
                            subst h
                            exact ⟨fun i q => (by cases q), .bool false, (by kernel_rfl), rfl⟩
                        | false =>
                          have h := cF b25 h
                          refine XR.runS Ep_ok 1 12 [(4, .bool false)] rfl (by kernel_rfl) ?_
                          refine XR.done (by kernel_rfl) ?_
                          show XQ _ _ _ _ _ _ _ _
                          refine XQ.ret (by kernel_rfl) ?_
                          have h := Option.some.inj h
                          subst h
                          exact ⟨fun i q => (by cases q), .bool false, (by kernel_rfl), rfl⟩
                    | false =>
                      have h := cF b23 h
                      refine XR.runS Ep_ok 1 19 [(4, .bool false)] rfl (by kernel_rfl) ?_
                      refine XR.done (by kernel_rfl) ?_
                      show XQ _ _ _ _ _ _ _ _
                      refine XQ.ret (by kernel_rfl) ?_
                      have h := Option.some.inj h
                      subst h
                      exact ⟨fun i q => (by cases q), .bool false, (by kernel_rfl), rfl⟩
                  | false =>
                    have h := cF b22 h
                    refine XR.runS Ep_ok 1 24 [(4, .bool false)] rfl (by kernel_rfl) ?_
                    refine XR.done (by kernel_rfl) ?_
                    show XQ _ _ _ _ _ _ _ _
                    refine XQ.ret (by kernel_rfl) ?_
                    have h := Option.some.inj h
                    subst h
                    exact ⟨fun i q => (by cases q), .bool false, (by kernel_rfl), rfl⟩

end Go.Xm
