/- What these functions of the program compute, as functions in Lean, and the proofs that they do: vitolalaw05.WrapDivided. Conditions: none. -/
import Derived.Test.YtagagpkjlkoieaaPj
import Derived.Test.YtagagpkjlkoieaaQa
import Derived.Test.YtagagpkjlkoieaaQb
import Derived.Test.YtagagpkjlkoieaaQd
namespace Go.Xm
open Go.RowKit
set_option linter.unusedVariables false
set_option linter.unusedSimpArgs false
set_option maxRecDepth 20000

/-! vitola/vitolalaw05.WrapDivided -/
noncomputable def f14_C14 : Code := Proofs.Try.f14.body.getD .skip

def gR (r1 r2 : Int × Int × Int) (r4 : List Int) : Int := cond ((Int.tmod (w64 ((w64 ((List.getD r4 (Int.toNat r2.2.1) 0) - (List.getD r4 (Int.toNat r2.1) 0))) + r1.1)) r1.1) == 0) r1.1 (Int.tmod (w64 ((w64 ((List.getD r4 (Int.toNat r2.2.1) 0) - (List.getD r4 (Int.toNat r2.1) 0))) + r1.1)) r1.1)

def f14 (m : Nat) (a_Marks : Int) (a_Step : Int) (a_Turns : Int) : Option (Bool) :=
 (f45 m a_Marks a_Step a_Turns 100).bind fun r1 =>
  (f26 m r1.1 r1.2.1 r1.2.2).bind fun r2 =>
   (f47 m r1.1 r1.2.1).bind fun r3 =>
    cond (r1.2.2 == r3) (
     cond (r2.2.2 == 12) (
      cond (r2.1 == 0) (
       cond (r2.2.1 == 0) (
        some (true)
       ) (
        some (false)
       )
      ) (
       some (false)
      )
     ) (
      some (false)
     )
    ) (
     (f46 m r1.1 r1.2.1 r1.2.2).bind fun r4 =>
      cond (r2.2.2 != 0) (
       some (false)
      ) (
       cond (decide (r2.1 < 0)) (
        some (false)
       ) (
        cond (decide (r2.1 ≥ ((r4.length : Nat) : Int))) (
         some (false)
        ) (
         cond (decide (r2.2.1 < 0)) (
          some (false)
         ) (
          cond (decide (r2.2.1 ≥ ((r4.length : Nat) : Int))) (
           some (false)
          ) (
           (f22 m r1.1 r1.2.1 r1.2.2 r2.1).bind fun r5 =>
            (f31 m r1.1 r1.2.1 r1.2.2).bind fun r6 =>
             (f31 m r1.1 r1.2.1 (w64 (r1.2.2 + 1))).bind fun r7 =>
              cond (r5.2 != 0) (
               some (false)
              ) (
               cond (r6.2 != 0) (
                some (false)
               ) (
                cond (r7.2 != 0) (
                 some (false)
                ) (
                 cond (r5.1 != r2.2.1) (
                  some (false)
                 ) (
                  cond (((r6.1.length : Nat) : Int) == 0) (
                   some (false)
                  ) (
                   cond (((r7.1.length : Nat) : Int) == 0) (
                    some (false)
                   ) (
                    cond (inRow r2.2.1 r4.length) (
                     cond (inRow r2.1 r4.length) (
                      cond (r1.1 != 0) (
                       (f46 m r1.1 r1.2.1 (w64 (r1.2.2 + 1))).bind fun r9 =>
                        cond (inRow r1.2.2 r9.length) (
                         cond (decide ((Int.tmod (w64 ((w64 ((List.getD r9 (Int.toNat r1.2.2) 0) - (List.getD r4 (Int.toNat r2.1) 0))) + r1.1)) r1.1) > 0)) (
                          cond (decide ((Int.tmod (w64 ((w64 ((List.getD r9 (Int.toNat r1.2.2) 0) - (List.getD r4 (Int.toNat r2.1) 0))) + r1.1)) r1.1) < (gR r1 r2 r4))) (
                           (f56 m r1.1 r1.2.1 r1.2.2).bind fun r10 =>
                            (f55 m r10).bind fun r11 =>
                             cond ((gR r1 r2 r4) == r11) (
                              (f55 m r6.1).bind fun r12 =>
                               cond (r12 == (gR r1 r2 r4)) (
                                (f55 m r7.1).bind fun r13 =>
                                 cond (decide (r13 ≤ (gR r1 r2 r4))) (
                                  some (true)
                                 ) (
                                  some (false)
                                 )
                               ) (
                                some (false)
                               )
                             ) (
                              some (false)
                             )
                          ) (
                           some (false)
                          )
                         ) (
                          some (false)
                         )
                        ) none
                      ) none
                     ) none
                    ) none
                   )
                  )
                 )
                )
               )
              )
          )
         )
        )
       )
      )
    )

set_option maxHeartbeats 8000000 in
theorem f14_ok (m : Nat) (a_Marks : Int) (a_Step : Int) (a_Turns : Int) (o : Bool) (h : f14 m a_Marks a_Step a_Turns = some o) (w : World) (hI : anyInv w) : Calls Proofs.Try.prog 14 #[.agg #[.int .u8 a_Marks, .int .u8 a_Step, .int .u8 a_Turns]] w fun e w' => e = .returned (.bool o) ∧ Below w.heap.size w w' := by
 refine KC.calls (E := E0) (args := [.agg #[.int .u8 a_Marks, .int .u8 a_Step, .int .u8 a_Turns]]) (v := .bool o) rfl rfl (KC.bodyN E0_ok (F := Proofs.Try.f14) (by kernel_rfl) (code := f14_C14) (by kernel_rfl) (nt := 181) (by kernel_rfl) (rs := [.tmp 2]) (by kernel_rfl) (by kernel_rfl) (σ := [(0, .agg #[.int .u8 a_Marks, .int .u8 a_Step, .int .u8 a_Turns])]) (by kernel_rfl) ?_) w (anyInv_size hI) hI
 unfold f14 at h
 refine XQ.seq E0_ok (by kernel_rfl) ?_
 refine XQ.region (by kernel_rfl) ?_
 refine XR.runT E0_ok 1 2 [(1, pp 0 0)] [(0, .cells [.int .u8 a_Marks, .int .u8 a_Step, .int .u8 a_Turns] 0 52 0)] 1 rfl (by kernel_rfl) ?_
 refine XR.done (by kernel_rfl) ?_
 show XQ _ _ _ _ _ _ _ _
 refine XQ.seq E0_ok (by kernel_rfl) ?_
 refine XQ.region (by kernel_rfl) ?_
 refine XR.runS E0_ok 1 1 [(17, .agg #[.int .u8 a_Marks, .int .u8 a_Step, .int .u8 a_Turns])] rfl (by kernel_rfl) ?_
 obtain ⟨r1, r1_h, h⟩ := bS h
 refine XR.call E0_ok [18] rfl (K := 45) (args := [.agg #[.int .u8 a_Marks, .int .u8 a_Step, .int .u8 a_Turns], ii 100]) (d := (some (path 12 18))) (by kernel_rfl) (KC.of_calls E0_ok (F := Proofs.Try.f45) (v := .agg #[ii r1.1, ii r1.2.1, ii r1.2.2]) (by kernel_rfl) rfl rfl (fun w hI => f45_ok m a_Marks a_Step a_Turns 100 r1 r1_h w hI)) ?_
 rintro _ _ _ ⟨rfl, rfl, rfl⟩
 refine XR.conv (σ' := [(18, .agg #[ii r1.1, ii r1.2.1, ii r1.2.2])]) (h' := [(0, .cells [.int .u8 a_Marks, .int .u8 a_Step, .int .u8 a_Turns] 0 52 0)]) (c' := 1) ?_ (by kernel_rfl)
 refine XR.runT E0_ok 1 2 [(3, pp 1 0)] [(1, .cells [ii r1.1, ii r1.2.1, ii r1.2.2] 0 23 0), (0, .cells [.int .u8 a_Marks, .int .u8 a_Step, .int .u8 a_Turns] 0 52 0)] 2 rfl (by kernel_rfl) ?_
 refine XR.done (by kernel_rfl) ?_
 show XQ _ _ _ _ _ _ _ _
 refine XQ.seq E0_ok (by kernel_rfl) ?_
 refine XQ.region (by kernel_rfl) ?_
 refine XR.runS E0_ok 1 1 [(3, pp 1 0), (20, .agg #[ii r1.1, ii r1.2.1, ii r1.2.2])] rfl (by kernel_rfl) ?_
 obtain ⟨r2, r2_h, h⟩ := bS h
 refine XR.call E0_ok [3, 21] rfl (K := 26) (args := [.agg #[ii r1.1, ii r1.2.1, ii r1.2.2]]) (d := (some (path 12 21))) (by kernel_rfl) (KC.of_calls E0_ok (F := Proofs.Try.f26) (v := .tuple #[ii r2.1, ii r2.2.1, ii r2.2.2]) (by kernel_rfl) rfl rfl (fun w hI => f26_ok m r1.1 r1.2.1 r1.2.2 r2 r2_h w hI)) ?_
 rintro _ _ _ ⟨rfl, rfl, rfl⟩
 refine XR.conv (σ' := [(3, pp 1 0), (21, .tuple #[ii r2.1, ii r2.2.1, ii r2.2.2])]) (h' := [(1, .cells [ii r1.1, ii r1.2.1, ii r1.2.2] 0 23 0), (0, .cells [.int .u8 a_Marks, .int .u8 a_Step, .int .u8 a_Turns] 0 52 0)]) (c' := 2) ?_ (by kernel_rfl)
 refine XR.runS E0_ok 1 7 [(3, pp 1 0), (4, ii r2.1), (5, ii r2.2.1), (6, ii r2.2.2)] rfl (by kernel_rfl) ?_
 refine XR.done (by kernel_rfl) ?_
 show XQ _ _ _ _ _ _ _ _
 refine XQ.seq E0_ok (by kernel_rfl) ?_
 refine XQ.seq E0_ok (by kernel_rfl) ?_
 refine XQ.quiet E0_ok (by kernel_rfl) (by kernel_rfl) ?_
 refine XU.run E0_ok 1 6 [3, 4, 5, 6, 26, 28, 30] rfl (σ' := [(3, pp 1 0), (4, ii r2.1), (5, ii r2.2.1), (6, ii r2.2.2), (26, ii r1.2.2), (28, ii r1.1), (30, ii r1.2.1)]) (by kernel_rfl) ?_
 obtain ⟨r3, r3_h, h⟩ := bS h
 refine XU.call E0_ok [3, 4, 5, 6, 26, 31] rfl (K := 47) (F := Proofs.Try.f47) (args := [ii r1.1, ii r1.2.1]) (d := (some (path 12 31))) (v := ii r3) (by kernel_rfl) (by kernel_rfl) rfl rfl (fun w hI => f47_ok m r1.1 r1.2.1 r3 r3_h w hI) (σ' := [(3, pp 1 0), (4, ii r2.1), (5, ii r2.2.1), (6, ii r2.2.2), (26, ii r1.2.2), (31, ii r3)]) (by kernel_rfl) ?_
 refine XU.run E0_ok 1 1 [3, 4, 5, 6, 32] rfl (σ' := [(3, pp 1 0), (4, ii r2.1), (5, ii r2.2.1), (6, ii r2.2.2), (32, .bool (r1.2.2 == r3))]) (by kernel_rfl) ?_
 refine XU.done (by kernel_rfl) ?_
 show XQ _ _ _ _ _ _ _ _
 cases b1 : (r1.2.2 == r3 : Bool) with
 | true =>
  have h := cT b1 h
  refine XQ.cond (s := (.tmp 32)) (b := true) (by kernel_rfl) (by kernel_rfl) (fun _ => ?_) (fun q => by cases q)
  refine XQ.seq E0_ok (by kernel_rfl) ?_
  refine XQ.region (by kernel_rfl) ?_
  refine XR.runS E0_ok 1 3 [(4, ii r2.1), (5, ii r2.2.1), (35, .bool (r2.2.2 == 12))] rfl (by kernel_rfl) ?_
  cases b2 : (r2.2.2 == 12 : Bool) with
  | true =>
   have h := cT b2 h
   refine XR.runS E0_ok 1 4 [(5, ii r2.2.1), (39, .bool (r2.1 == 0))] rfl (by kernel_rfl) ?_
   cases b3 : (r2.1 == 0 : Bool) with
   | true =>
    have h := cT b3 h
    refine XR.runS E0_ok 1 4 [(43, .bool (r2.2.1 == 0))] rfl (by kernel_rfl) ?_
    cases b4 : (r2.2.1 == 0 : Bool) with
    | true =>
     have h := cT b4 h
     refine XR.call E0_ok [43, 44] rfl (K := 28) (args := []) (d := (some (path 12 44))) (by kernel_rfl) (KC.of_calls E0_ok (F := Proofs.Try.f28) (v := .bool true) (by kernel_rfl) rfl rfl (works_ok)) ?_
     rintro _ _ _ ⟨rfl, rfl, rfl⟩
     refine XR.conv (σ' := [(43, .bool true), (44, .bool true)]) (h' := [(1, .cells [ii r1.1, ii r1.2.1, ii r1.2.2] 0 23 0), (0, .cells [.int .u8 a_Marks, .int .u8 a_Step, .int .u8 a_Turns] 0 52 0)]) (c' := 2) ?_ (by kernel_rfl)
     refine XR.runS E0_ok 1 2 [(2, .bool true)] rfl (by kernel_rfl) ?_
     refine XR.done (by kernel_rfl) ?_
     show XQ _ _ _ _ _ _ _ _
     refine XQ.ret (by kernel_rfl) ?_
     have h := Option.some.inj h
     subst h
     exact ⟨fun i q => (by cases q), .bool true, (by kernel_rfl), rfl⟩
    | false =>
     have h := cF b4 h
     refine XR.runS E0_ok 1 3 [(2, .bool false)] rfl (by kernel_rfl) ?_
     refine XR.done (by kernel_rfl) ?_
     show XQ _ _ _ _ _ _ _ _
     refine XQ.ret (by kernel_rfl) ?_
     have h := Option.some.inj h
     subst h
     exact ⟨fun i q => (by cases q), .bool false, (by kernel_rfl), rfl⟩
   | false =>
    have h := cF b3 h
    refine XR.runS E0_ok 1 7 [(2, .bool false)] rfl (by kernel_rfl) ?_
    refine XR.done (by kernel_rfl) ?_
    show XQ _ _ _ _ _ _ _ _
    refine XQ.ret (by kernel_rfl) ?_
    have h := Option.some.inj h
    subst h
    exact ⟨fun i q => (by cases q), .bool false, (by kernel_rfl), rfl⟩
  | false =>
   have h := cF b2 h
   refine XR.runS E0_ok 1 11 [(2, .bool false)] rfl (by kernel_rfl) ?_
   refine XR.done (by kernel_rfl) ?_
   show XQ _ _ _ _ _ _ _ _
   refine XQ.ret (by kernel_rfl) ?_
   have h := Option.some.inj h
   subst h
   exact ⟨fun i q => (by cases q), .bool false, (by kernel_rfl), rfl⟩
 | false =>
  have h := cF b1 h
  refine XQ.cond (s := (.tmp 32)) (b := false) (by kernel_rfl) (by kernel_rfl) (fun q => by cases q) (fun _ => ?_)
  refine XQ.skip (by kernel_rfl) ?_
  show XQ _ _ _ _ _ _ _ _
  refine XQ.seq E0_ok (by kernel_rfl) ?_
  refine XQ.region (by kernel_rfl) ?_
  refine XR.runS E0_ok 1 1 [(3, pp 1 0), (4, ii r2.1), (5, ii r2.2.1), (6, ii r2.2.2), (46, .agg #[ii r1.1, ii r1.2.1, ii r1.2.2])] rfl (by kernel_rfl) ?_
  obtain ⟨r4, r4_h, h⟩ := bS h
  refine XR.call E0_ok [3, 4, 5, 6, 47] rfl (K := 46) (args := [.agg #[ii r1.1, ii r1.2.1, ii r1.2.2]]) (d := (some (path 12 47))) (by kernel_rfl) (KC.lift (V2 := s0 2 r4.length) (H2 := [(2, rc (encI .i64) r4 0 3 1)]) [1, 2, 0] (f46_ok m r1.1 r1.2.1 r1.2.2 r4 r4_h) rfl (by decide) (by decide) (by kernel_rfl) ⟨⟨_, _, rfl, rfl, .inl ⟨rfl, rowC_scal (encI_ok .i64) _⟩⟩, trivial⟩ (by rfl)) ?_
  rintro _ _ _ ⟨rfl, rfl, rfl⟩
  refine XR.conv (σ' := [(3, pp 1 0), (4, ii r2.1), (5, ii r2.2.1), (6, ii r2.2.2), (47, s0 2 r4.length)]) (h' := [(2, rc (encI .i64) r4 0 3 1), (1, .cells [ii r1.1, ii r1.2.1, ii r1.2.2] 0 23 0), (0, .cells [.int .u8 a_Marks, .int .u8 a_Step, .int .u8 a_Turns] 0 52 0)]) (c' := 3) ?_ (by kernel_rfl)
  refine XR.runS E0_ok 1 1 [(3, pp 1 0), (4, ii r2.1), (5, ii r2.2.1), (6, ii r2.2.2), (7, s0 2 r4.length)] rfl (by kernel_rfl) ?_
  refine XR.done (by kernel_rfl) ?_
  show XQ _ _ _ _ _ _ _ _
  refine XQ.seq E0_ok (by kernel_rfl) ?_
  refine XQ.seq E0_ok (by kernel_rfl) ?_
  refine XQ.region (by kernel_rfl) ?_
  refine XR.runS E0_ok 1 3 [(3, pp 1 0), (4, ii r2.1), (5, ii r2.2.1), (7, s0 2 r4.length), (50, .bool (r2.2.2 != 0))] rfl (by kernel_rfl) ?_
  cases b5 : (r2.2.2 != 0 : Bool) with
  | true =>
   have h := cT b5 h
   refine XR.runS E0_ok 1 19 [(3, pp 1 0), (4, ii r2.1), (5, ii r2.2.1), (7, s0 2 r4.length), (69, .bool true)] rfl (by kernel_rfl) ?_
   refine XR.done (by kernel_rfl) ?_
   show XQ _ _ _ _ _ _ _ _
   refine XQ.cond (s := (.tmp 69)) (b := true) (by kernel_rfl) (by kernel_rfl) (fun _ => ?_) (fun q => by cases q)
   refine XQ.seq E0_ok (by kernel_rfl) ?_
   refine XQ.region (by kernel_rfl) ?_
   refine XR.runS E0_ok 1 1 [(2, .bool false)] rfl (by kernel_rfl) ?_
   refine XR.done (by kernel_rfl) ?_
   show XQ _ _ _ _ _ _ _ _
   refine XQ.ret (by kernel_rfl) ?_
   have h := Option.some.inj h
   subst h
   exact ⟨fun i q => (by cases q), .bool false, (by kernel_rfl), rfl⟩
  | false =>
   have h := cF b5 h
   refine XR.runS E0_ok 1 4 [(3, pp 1 0), (4, ii r2.1), (5, ii r2.2.1), (7, s0 2 r4.length), (54, .bool (decide (r2.1 < 0)))] rfl (by kernel_rfl) ?_
   cases b6 : (decide (r2.1 < 0) : Bool) with
   | true =>
    have h := cT b6 h
    refine XR.runS E0_ok 1 15 [(3, pp 1 0), (4, ii r2.1), (5, ii r2.2.1), (7, s0 2 r4.length), (69, .bool true)] rfl (by kernel_rfl) ?_
    refine XR.done (by kernel_rfl) ?_
    show XQ _ _ _ _ _ _ _ _
    refine XQ.cond (s := (.tmp 69)) (b := true) (by kernel_rfl) (by kernel_rfl) (fun _ => ?_) (fun q => by cases q)
    refine XQ.seq E0_ok (by kernel_rfl) ?_
    refine XQ.region (by kernel_rfl) ?_
    refine XR.runS E0_ok 1 1 [(2, .bool false)] rfl (by kernel_rfl) ?_
    refine XR.done (by kernel_rfl) ?_
    show XQ _ _ _ _ _ _ _ _
    refine XQ.ret (by kernel_rfl) ?_
    have h := Option.some.inj h
    subst h
    exact ⟨fun i q => (by cases q), .bool false, (by kernel_rfl), rfl⟩
   | false =>
    have h := cF b6 h
    refine XR.runS E0_ok 1 6 [(3, pp 1 0), (4, ii r2.1), (5, ii r2.2.1), (7, s0 2 r4.length), (60, .bool (decide (r2.1 ≥ ((r4.length : Nat) : Int))))] rfl (by kernel_rfl) ?_
    cases b7 : (decide (r2.1 ≥ ((r4.length : Nat) : Int)) : Bool) with
    | true =>
     have h := cT b7 h
     refine XR.runS E0_ok 1 9 [(3, pp 1 0), (4, ii r2.1), (5, ii r2.2.1), (7, s0 2 r4.length), (69, .bool true)] rfl (by kernel_rfl) ?_
     refine XR.done (by kernel_rfl) ?_
     show XQ _ _ _ _ _ _ _ _
     refine XQ.cond (s := (.tmp 69)) (b := true) (by kernel_rfl) (by kernel_rfl) (fun _ => ?_) (fun q => by cases q)
     refine XQ.seq E0_ok (by kernel_rfl) ?_
     refine XQ.region (by kernel_rfl) ?_
     refine XR.runS E0_ok 1 1 [(2, .bool false)] rfl (by kernel_rfl) ?_
     refine XR.done (by kernel_rfl) ?_
     show XQ _ _ _ _ _ _ _ _
     refine XQ.ret (by kernel_rfl) ?_
     have h := Option.some.inj h
     subst h
     exact ⟨fun i q => (by cases q), .bool false, (by kernel_rfl), rfl⟩
    | false =>
     have h := cF b7 h
     refine XR.runS E0_ok 1 4 [(3, pp 1 0), (4, ii r2.1), (5, ii r2.2.1), (7, s0 2 r4.length), (64, .bool (decide (r2.2.1 < 0)))] rfl (by kernel_rfl) ?_
     cases b8 : (decide (r2.2.1 < 0) : Bool) with
     | true =>
      have h := cT b8 h
      refine XR.runS E0_ok 1 5 [(3, pp 1 0), (4, ii r2.1), (5, ii r2.2.1), (7, s0 2 r4.length), (69, .bool true)] rfl (by kernel_rfl) ?_
      refine XR.done (by kernel_rfl) ?_
      show XQ _ _ _ _ _ _ _ _
      refine XQ.cond (s := (.tmp 69)) (b := true) (by kernel_rfl) (by kernel_rfl) (fun _ => ?_) (fun q => by cases q)
      refine XQ.seq E0_ok (by kernel_rfl) ?_
      refine XQ.region (by kernel_rfl) ?_
      refine XR.runS E0_ok 1 1 [(2, .bool false)] rfl (by kernel_rfl) ?_
      refine XR.done (by kernel_rfl) ?_
      show XQ _ _ _ _ _ _ _ _
      refine XQ.ret (by kernel_rfl) ?_
      have h := Option.some.inj h
      subst h
      exact ⟨fun i q => (by cases q), .bool false, (by kernel_rfl), rfl⟩
     | false =>
      have h := cF b8 h
      refine XR.runS E0_ok 1 5 [(3, pp 1 0), (4, ii r2.1), (5, ii r2.2.1), (7, s0 2 r4.length), (69, .bool (decide (r2.2.1 ≥ ((r4.length : Nat) : Int))))] rfl (by kernel_rfl) ?_
      refine XR.done (by kernel_rfl) ?_
      show XQ _ _ _ _ _ _ _ _
      cases b9 : (decide (r2.2.1 ≥ ((r4.length : Nat) : Int)) : Bool) with
      | true =>
       have h := cT b9 h
       refine XQ.cond (s := (.tmp 69)) (b := true) (by kernel_rfl) (by kernel_rfl) (fun _ => ?_) (fun q => by cases q)
       refine XQ.seq E0_ok (by kernel_rfl) ?_
       refine XQ.region (by kernel_rfl) ?_
       refine XR.runS E0_ok 1 1 [(2, .bool false)] rfl (by kernel_rfl) ?_
       refine XR.done (by kernel_rfl) ?_
       show XQ _ _ _ _ _ _ _ _
       refine XQ.ret (by kernel_rfl) ?_
       have h := Option.some.inj h
       subst h
       exact ⟨fun i q => (by cases q), .bool false, (by kernel_rfl), rfl⟩
      | false =>
       have h := cF b9 h
       refine XQ.cond (s := (.tmp 69)) (b := false) (by kernel_rfl) (by kernel_rfl) (fun q => by cases q) (fun _ => ?_)
       refine XQ.skip (by kernel_rfl) ?_
       show XQ _ _ _ _ _ _ _ _
       refine XQ.seq E0_ok (by kernel_rfl) ?_
       refine XQ.region (by kernel_rfl) ?_
       refine XR.runS E0_ok 1 2 [(3, pp 1 0), (4, ii r2.1), (5, ii r2.2.1), (7, s0 2 r4.length), (71, .agg #[ii r1.1, ii r1.2.1, ii r1.2.2]), (72, ii r2.1)] rfl (by kernel_rfl) ?_
       obtain ⟨r5, r5_h, h⟩ := bS h
       refine XR.call E0_ok [3, 4, 5, 7, 73] rfl (K := 22) (args := [.agg #[ii r1.1, ii r1.2.1, ii r1.2.2], ii r2.1]) (d := (some (path 12 73))) (by kernel_rfl) (KC.of_calls E0_ok (F := Proofs.Try.f22) (v := .tuple #[ii r5.1, ii r5.2]) (by kernel_rfl) rfl rfl (fun w hI => f22_ok m r1.1 r1.2.1 r1.2.2 r2.1 r5 r5_h w hI)) ?_
       rintro _ _ _ ⟨rfl, rfl, rfl⟩
       refine XR.conv (σ' := [(3, pp 1 0), (4, ii r2.1), (5, ii r2.2.1), (7, s0 2 r4.length), (73, .tuple #[ii r5.1, ii r5.2])]) (h' := [(2, rc (encI .i64) r4 0 3 1), (1, .cells [ii r1.1, ii r1.2.1, ii r1.2.2] 0 23 0), (0, .cells [.int .u8 a_Marks, .int .u8 a_Step, .int .u8 a_Turns] 0 52 0)]) (c' := 3) ?_ (by kernel_rfl)
       refine XR.runS E0_ok 1 5 [(3, pp 1 0), (4, ii r2.1), (5, ii r2.2.1), (7, s0 2 r4.length), (8, ii r5.1), (9, ii r5.2)] rfl (by kernel_rfl) ?_
       refine XR.done (by kernel_rfl) ?_
       show XQ _ _ _ _ _ _ _ _
       refine XQ.seq E0_ok (by kernel_rfl) ?_
       refine XQ.region (by kernel_rfl) ?_
       refine XR.runS E0_ok 1 1 [(3, pp 1 0), (4, ii r2.1), (5, ii r2.2.1), (7, s0 2 r4.length), (8, ii r5.1), (9, ii r5.2), (77, .agg #[ii r1.1, ii r1.2.1, ii r1.2.2])] rfl (by kernel_rfl) ?_
       obtain ⟨r6, r6_h, h⟩ := bS h
       refine XR.call E0_ok [3, 4, 5, 7, 8, 9, 78] rfl (K := 31) (args := [.agg #[ii r1.1, ii r1.2.1, ii r1.2.2]]) (d := (some (path 12 78))) (by kernel_rfl) (KC.lift (V2 := .tuple #[s0 3 r6.1.length, ii r6.2]) (H2 := [(3, rc (encI .i64) r6.1 0 3 1)]) [1, 2, 3, 0] (f31_ok m r1.1 r1.2.1 r1.2.2 r6 r6_h) rfl (by decide) (by decide) (by kernel_rfl) ⟨⟨_, _, rfl, rfl, .inl ⟨rfl, rowC_scal (encI_ok .i64) _⟩⟩, trivial⟩ (by rfl)) ?_
       rintro _ _ _ ⟨rfl, rfl, rfl⟩
       refine XR.conv (σ' := [(3, pp 1 0), (4, ii r2.1), (5, ii r2.2.1), (7, s0 2 r4.length), (8, ii r5.1), (9, ii r5.2), (78, .tuple #[s0 3 r6.1.length, ii r6.2])]) (h' := [(3, rc (encI .i64) r6.1 0 3 1), (2, rc (encI .i64) r4 0 3 1), (1, .cells [ii r1.1, ii r1.2.1, ii r1.2.2] 0 23 0), (0, .cells [.int .u8 a_Marks, .int .u8 a_Step, .int .u8 a_Turns] 0 52 0)]) (c' := 4) ?_ (by kernel_rfl)
       refine XR.runS E0_ok 1 5 [(3, pp 1 0), (4, ii r2.1), (5, ii r2.2.1), (7, s0 2 r4.length), (8, ii r5.1), (9, ii r5.2), (10, s0 3 r6.1.length), (11, ii r6.2)] rfl (by kernel_rfl) ?_
       refine XR.done (by kernel_rfl) ?_
       show XQ _ _ _ _ _ _ _ _
       refine XQ.seq E0_ok (by kernel_rfl) ?_
       refine XQ.region (by kernel_rfl) ?_
       refine XR.runT E0_ok 1 3 [(3, pp 1 0), (4, ii r2.1), (5, ii r2.2.1), (7, s0 2 r4.length), (8, ii r5.1), (9, ii r5.2), (10, s0 3 r6.1.length), (11, ii r6.2), (12, pp 4 0)] [(4, .cells [ii r1.1, ii r1.2.1, ii r1.2.2] 0 23 0), (3, rc (encI .i64) r6.1 0 3 1), (2, rc (encI .i64) r4 0 3 1), (1, .cells [ii r1.1, ii r1.2.1, ii r1.2.2] 0 23 0), (0, .cells [.int .u8 a_Marks, .int .u8 a_Step, .int .u8 a_Turns] 0 52 0)] 5 rfl (by kernel_rfl) ?_
       refine XR.done (by kernel_rfl) ?_
       show XQ _ _ _ _ _ _ _ _
       refine XQ.seq E0_ok (by kernel_rfl) ?_
       refine XQ.region (by kernel_rfl) ?_
       refine XR.runT E0_ok 1 5 [(3, pp 1 0), (4, ii r2.1), (5, ii r2.2.1), (7, s0 2 r4.length), (8, ii r5.1), (9, ii r5.2), (10, s0 3 r6.1.length), (11, ii r6.2), (12, pp 4 0)] [(4, .cells [ii r1.1, ii r1.2.1, ii (w64 (r1.2.2 + 1))] 0 23 0), (3, rc (encI .i64) r6.1 0 3 1), (2, rc (encI .i64) r4 0 3 1), (1, .cells [ii r1.1, ii r1.2.1, ii r1.2.2] 0 23 0), (0, .cells [.int .u8 a_Marks, .int .u8 a_Step, .int .u8 a_Turns] 0 52 0)] 5 rfl (by kernel_rfl) ?_
       refine XR.done (by kernel_rfl) ?_
       show XQ _ _ _ _ _ _ _ _
       refine XQ.seq E0_ok (by kernel_rfl) ?_
       refine XQ.region (by kernel_rfl) ?_
       refine XR.runS E0_ok 1 1 [(3, pp 1 0), (4, ii r2.1), (5, ii r2.2.1), (7, s0 2 r4.length), (8, ii r5.1), (9, ii r5.2), (10, s0 3 r6.1.length), (11, ii r6.2), (12, pp 4 0), (87, .agg #[ii r1.1, ii r1.2.1, ii (w64 (r1.2.2 + 1))])] rfl (by kernel_rfl) ?_
       obtain ⟨r7, r7_h, h⟩ := bS h
       refine XR.call E0_ok [3, 4, 5, 7, 8, 9, 10, 11, 12, 88] rfl (K := 31) (args := [.agg #[ii r1.1, ii r1.2.1, ii (w64 (r1.2.2 + 1))]]) (d := (some (path 12 88))) (by kernel_rfl) (KC.lift (V2 := .tuple #[s0 5 r7.1.length, ii r7.2]) (H2 := [(5, rc (encI .i64) r7.1 0 3 1)]) [1, 2, 3, 4, 5, 0] (f31_ok m r1.1 r1.2.1 (w64 (r1.2.2 + 1)) r7 r7_h) rfl (by decide) (by decide) (by kernel_rfl) ⟨⟨_, _, rfl, rfl, .inl ⟨rfl, rowC_scal (encI_ok .i64) _⟩⟩, trivial⟩ (by rfl)) ?_
       rintro _ _ _ ⟨rfl, rfl, rfl⟩
       refine XR.conv (σ' := [(3, pp 1 0), (4, ii r2.1), (5, ii r2.2.1), (7, s0 2 r4.length), (8, ii r5.1), (9, ii r5.2), (10, s0 3 r6.1.length), (11, ii r6.2), (12, pp 4 0), (88, .tuple #[s0 5 r7.1.length, ii r7.2])]) (h' := [(5, rc (encI .i64) r7.1 0 3 1), (4, .cells [ii r1.1, ii r1.2.1, ii (w64 (r1.2.2 + 1))] 0 23 0), (3, rc (encI .i64) r6.1 0 3 1), (2, rc (encI .i64) r4 0 3 1), (1, .cells [ii r1.1, ii r1.2.1, ii r1.2.2] 0 23 0), (0, .cells [.int .u8 a_Marks, .int .u8 a_Step, .int .u8 a_Turns] 0 52 0)]) (c' := 6) ?_ (by kernel_rfl)
       refine XR.runS E0_ok 1 5 [(3, pp 1 0), (4, ii r2.1), (5, ii r2.2.1), (7, s0 2 r4.length), (8, ii r5.1), (9, ii r5.2), (10, s0 3 r6.1.length), (11, ii r6.2), (12, pp 4 0), (13, s0 5 r7.1.length), (14, ii r7.2)] rfl (by kernel_rfl) ?_
       refine XR.done (by kernel_rfl) ?_
       show XQ _ _ _ _ _ _ _ _
       refine XQ.seq E0_ok (by kernel_rfl) ?_
       refine XQ.seq E0_ok (by kernel_rfl) ?_
       refine XQ.region (by kernel_rfl) ?_
       refine XR.runS E0_ok 1 3 [(3, pp 1 0), (4, ii r2.1), (5, ii r2.2.1), (7, s0 2 r4.length), (8, ii r5.1), (10, s0 3 r6.1.length), (11, ii r6.2), (12, pp 4 0), (13, s0 5 r7.1.length), (14, ii r7.2), (93, .bool (r5.2 != 0))] rfl (by kernel_rfl) ?_
       cases b10 : (r5.2 != 0 : Bool) with
       | true =>
        have h := cT b10 h
        refine XR.runS E0_ok 1 22 [(3, pp 1 0), (4, ii r2.1), (5, ii r2.2.1), (7, s0 2 r4.length), (10, s0 3 r6.1.length), (12, pp 4 0), (13, s0 5 r7.1.length), (115, .bool true)] rfl (by kernel_rfl) ?_
        refine XR.done (by kernel_rfl) ?_
        show XQ _ _ _ _ _ _ _ _
        refine XQ.cond (s := (.tmp 115)) (b := true) (by kernel_rfl) (by kernel_rfl) (fun _ => ?_) (fun q => by cases q)
        refine XQ.seq E0_ok (by kernel_rfl) ?_
        refine XQ.region (by kernel_rfl) ?_
        refine XR.runS E0_ok 1 1 [(2, .bool false)] rfl (by kernel_rfl) ?_
        refine XR.done (by kernel_rfl) ?_
        show XQ _ _ _ _ _ _ _ _
        refine XQ.ret (by kernel_rfl) ?_
        have h := Option.some.inj h
        subst h
        exact ⟨fun i q => (by cases q), .bool false, (by kernel_rfl), rfl⟩
       | false =>
        have h := cF b10 h
        refine XR.runS E0_ok 1 4 [(3, pp 1 0), (4, ii r2.1), (5, ii r2.2.1), (7, s0 2 r4.length), (8, ii r5.1), (10, s0 3 r6.1.length), (12, pp 4 0), (13, s0 5 r7.1.length), (14, ii r7.2), (97, .bool (r6.2 != 0))] rfl (by kernel_rfl) ?_
        cases b11 : (r6.2 != 0 : Bool) with
        | true =>
         have h := cT b11 h
         refine XR.runS E0_ok 1 18 [(3, pp 1 0), (4, ii r2.1), (5, ii r2.2.1), (7, s0 2 r4.length), (10, s0 3 r6.1.length), (12, pp 4 0), (13, s0 5 r7.1.length), (115, .bool true)] rfl (by kernel_rfl) ?_
         refine XR.done (by kernel_rfl) ?_
         show XQ _ _ _ _ _ _ _ _
         refine XQ.cond (s := (.tmp 115)) (b := true) (by kernel_rfl) (by kernel_rfl) (fun _ => ?_) (fun q => by cases q)
         refine XQ.seq E0_ok (by kernel_rfl) ?_
         refine XQ.region (by kernel_rfl) ?_
         refine XR.runS E0_ok 1 1 [(2, .bool false)] rfl (by kernel_rfl) ?_
         refine XR.done (by kernel_rfl) ?_
         show XQ _ _ _ _ _ _ _ _
         refine XQ.ret (by kernel_rfl) ?_
         have h := Option.some.inj h
         subst h
         exact ⟨fun i q => (by cases q), .bool false, (by kernel_rfl), rfl⟩
        | false =>
         have h := cF b11 h
         refine XR.runS E0_ok 1 4 [(3, pp 1 0), (4, ii r2.1), (5, ii r2.2.1), (7, s0 2 r4.length), (8, ii r5.1), (10, s0 3 r6.1.length), (12, pp 4 0), (13, s0 5 r7.1.length), (101, .bool (r7.2 != 0))] rfl (by kernel_rfl) ?_
         cases b12 : (r7.2 != 0 : Bool) with
         | true =>
          have h := cT b12 h
          refine XR.runS E0_ok 1 14 [(3, pp 1 0), (4, ii r2.1), (5, ii r2.2.1), (7, s0 2 r4.length), (10, s0 3 r6.1.length), (12, pp 4 0), (13, s0 5 r7.1.length), (115, .bool true)] rfl (by kernel_rfl) ?_
          refine XR.done (by kernel_rfl) ?_
          show XQ _ _ _ _ _ _ _ _
          refine XQ.cond (s := (.tmp 115)) (b := true) (by kernel_rfl) (by kernel_rfl) (fun _ => ?_) (fun q => by cases q)
          refine XQ.seq E0_ok (by kernel_rfl) ?_
          refine XQ.region (by kernel_rfl) ?_
          refine XR.runS E0_ok 1 1 [(2, .bool false)] rfl (by kernel_rfl) ?_
          refine XR.done (by kernel_rfl) ?_
          show XQ _ _ _ _ _ _ _ _
          refine XQ.ret (by kernel_rfl) ?_
          have h := Option.some.inj h
          subst h
          exact ⟨fun i q => (by cases q), .bool false, (by kernel_rfl), rfl⟩
         | false =>
          have h := cF b12 h
          refine XR.runS E0_ok 1 5 [(3, pp 1 0), (4, ii r2.1), (5, ii r2.2.1), (7, s0 2 r4.length), (10, s0 3 r6.1.length), (12, pp 4 0), (13, s0 5 r7.1.length), (106, .bool (r5.1 != r2.2.1))] rfl (by kernel_rfl) ?_
          cases b13 : (r5.1 != r2.2.1 : Bool) with
          | true =>
           have h := cT b13 h
           refine XR.runS E0_ok 1 9 [(3, pp 1 0), (4, ii r2.1), (5, ii r2.2.1), (7, s0 2 r4.length), (10, s0 3 r6.1.length), (12, pp 4 0), (13, s0 5 r7.1.length), (115, .bool true)] rfl (by kernel_rfl) ?_
           refine XR.done (by kernel_rfl) ?_
           show XQ _ _ _ _ _ _ _ _
           refine XQ.cond (s := (.tmp 115)) (b := true) (by kernel_rfl) (by kernel_rfl) (fun _ => ?_) (fun q => by cases q)
           refine XQ.seq E0_ok (by kernel_rfl) ?_
           refine XQ.region (by kernel_rfl) ?_
           refine XR.runS E0_ok 1 1 [(2, .bool false)] rfl (by kernel_rfl) ?_
           refine XR.done (by kernel_rfl) ?_
           show XQ _ _ _ _ _ _ _ _
           refine XQ.ret (by kernel_rfl) ?_
           have h := Option.some.inj h
           subst h
           exact ⟨fun i q => (by cases q), .bool false, (by kernel_rfl), rfl⟩
          | false =>
           have h := cF b13 h
           refine XR.runS E0_ok 1 5 [(3, pp 1 0), (4, ii r2.1), (5, ii r2.2.1), (7, s0 2 r4.length), (10, s0 3 r6.1.length), (12, pp 4 0), (13, s0 5 r7.1.length), (111, .bool (((r6.1.length : Nat) : Int) == 0))] rfl (by kernel_rfl) ?_
           cases b14 : (((r6.1.length : Nat) : Int) == 0 : Bool) with
           | true =>
            have h := cT b14 h
            refine XR.runS E0_ok 1 4 [(3, pp 1 0), (4, ii r2.1), (5, ii r2.2.1), (7, s0 2 r4.length), (10, s0 3 r6.1.length), (12, pp 4 0), (13, s0 5 r7.1.length), (115, .bool true)] rfl (by kernel_rfl) ?_
            refine XR.done (by kernel_rfl) ?_
            show XQ _ _ _ _ _ _ _ _
            refine XQ.cond (s := (.tmp 115)) (b := true) (by kernel_rfl) (by kernel_rfl) (fun _ => ?_) (fun q => by cases q)
            refine XQ.seq E0_ok (by kernel_rfl) ?_
            refine XQ.region (by kernel_rfl) ?_
            refine XR.runS E0_ok 1 1 [(2, .bool false)] rfl (by kernel_rfl) ?_
            refine XR.done (by kernel_rfl) ?_
            show XQ _ _ _ _ _ _ _ _
            refine XQ.ret (by kernel_rfl) ?_
            have h := Option.some.inj h
            subst h
            exact ⟨fun i q => (by cases q), .bool false, (by kernel_rfl), rfl⟩
           | false =>
            have h := cF b14 h
            refine XR.runS E0_ok 1 4 [(3, pp 1 0), (4, ii r2.1), (5, ii r2.2.1), (7, s0 2 r4.length), (10, s0 3 r6.1.length), (12, pp 4 0), (13, s0 5 r7.1.length), (115, .bool (((r7.1.length : Nat) : Int) == 0))] rfl (by kernel_rfl) ?_
            refine XR.done (by kernel_rfl) ?_
            show XQ _ _ _ _ _ _ _ _
            cases b15 : (((r7.1.length : Nat) : Int) == 0 : Bool) with
            | true =>
             have h := cT b15 h
             refine XQ.cond (s := (.tmp 115)) (b := true) (by kernel_rfl) (by kernel_rfl) (fun _ => ?_) (fun q => by cases q)
             refine XQ.seq E0_ok (by kernel_rfl) ?_
             refine XQ.region (by kernel_rfl) ?_
             refine XR.runS E0_ok 1 1 [(2, .bool false)] rfl (by kernel_rfl) ?_
             refine XR.done (by kernel_rfl) ?_
             show XQ _ _ _ _ _ _ _ _
             refine XQ.ret (by kernel_rfl) ?_
             have h := Option.some.inj h
             subst h
             exact ⟨fun i q => (by cases q), .bool false, (by kernel_rfl), rfl⟩
            | false =>
             have h := cF b15 h
             refine XQ.cond (s := (.tmp 115)) (b := false) (by kernel_rfl) (by kernel_rfl) (fun q => by cases q) (fun _ => ?_)
             refine XQ.skip (by kernel_rfl) ?_
             show XQ _ _ _ _ _ _ _ _
             refine XQ.seq E0_ok (by kernel_rfl) ?_
             refine XQ.quiet E0_ok (by kernel_rfl) (by kernel_rfl) ?_
             refine XU.run E0_ok 1 2 [3, 4, 7, 10, 12, 13, 116, 117] rfl (σ' := [(3, pp 1 0), (4, ii r2.1), (7, s0 2 r4.length), (10, s0 3 r6.1.length), (12, pp 4 0), (13, s0 5 r7.1.length), (116, s0 2 r4.length), (117, ii r2.2.1)]) (by kernel_rfl) ?_
             cases b16 : (inRow r2.2.1 r4.length : Bool) with
             | false => cases (cF b16 h)
             | true =>
              have h := cT b16 h
              refine XU.rd E0_ok [3, 4, 7, 10, 12, 13, 118] rfl (v := pp 2 ((Int.toNat r2.2.1) * 1)) (v_idx (s := 1) (x := (src 181 (.tmp 116))) (y := (src 181 (.tmp 117))) (b := 2) (o := 0) (len := r4.length) (cap := r4.length) (ik := .i64) (i := r2.2.1) (off := (Int.toNat r2.2.1) * 1) (d := (some (path 12 118))) (by kernel_rfl) (by kernel_rfl) (by kernel_rfl) b16 (by omega)) (σ' := [(3, pp 1 0), (4, ii r2.1), (7, s0 2 r4.length), (10, s0 3 r6.1.length), (12, pp 4 0), (13, s0 5 r7.1.length), (118, pp 2 ((Int.toNat r2.2.1) * 1))]) (by kernel_rfl) ?_
              refine XU.rd E0_ok [3, 4, 7, 10, 12, 13, 119] rfl (v := ii (List.getD r4 (Int.toNat r2.2.1) 0)) (v_load1 (encI_ok .i64) (x := (src 181 (.tmp 118))) (b := 2) (off := (Int.toNat r2.2.1) * 1) (xs := r4) (fz := 0) (e := 3) (es := 1) (d := (some (path 12 119))) (by kernel_rfl) (by kernel_rfl) (by kernel_rfl) (Int.toNat r2.2.1) 0 0 (by first | rfl | omega) (row_len (inRow_toNat b16) (by simp)) rfl rfl) (σ' := [(3, pp 1 0), (4, ii r2.1), (7, s0 2 r4.length), (10, s0 3 r6.1.length), (12, pp 4 0), (13, s0 5 r7.1.length), (119, ii (List.getD r4 (Int.toNat r2.2.1) 0))]) (by kernel_rfl) ?_
              refine XU.run E0_ok 1 2 [3, 4, 7, 10, 12, 13, 119, 120, 121] rfl (σ' := [(3, pp 1 0), (4, ii r2.1), (7, s0 2 r4.length), (10, s0 3 r6.1.length), (12, pp 4 0), (13, s0 5 r7.1.length), (119, ii (List.getD r4 (Int.toNat r2.2.1) 0)), (120, s0 2 r4.length), (121, ii r2.1)]) (by kernel_rfl) ?_
              cases b17 : (inRow r2.1 r4.length : Bool) with
              | false => cases (cF b17 h)
              | true =>
               have h := cT b17 h
               refine XU.rd E0_ok [3, 4, 7, 10, 12, 13, 119, 122] rfl (v := pp 2 ((Int.toNat r2.1) * 1)) (v_idx (s := 1) (x := (src 181 (.tmp 120))) (y := (src 181 (.tmp 121))) (b := 2) (o := 0) (len := r4.length) (cap := r4.length) (ik := .i64) (i := r2.1) (off := (Int.toNat r2.1) * 1) (d := (some (path 12 122))) (by kernel_rfl) (by kernel_rfl) (by kernel_rfl) b17 (by omega)) (σ' := [(3, pp 1 0), (4, ii r2.1), (7, s0 2 r4.length), (10, s0 3 r6.1.length), (12, pp 4 0), (13, s0 5 r7.1.length), (119, ii (List.getD r4 (Int.toNat r2.2.1) 0)), (122, pp 2 ((Int.toNat r2.1) * 1))]) (by kernel_rfl) ?_
               refine XU.rd E0_ok [3, 4, 7, 10, 12, 13, 119, 123] rfl (v := ii (List.getD r4 (Int.toNat r2.1) 0)) (v_load1 (encI_ok .i64) (x := (src 181 (.tmp 122))) (b := 2) (off := (Int.toNat r2.1) * 1) (xs := r4) (fz := 0) (e := 3) (es := 1) (d := (some (path 12 123))) (by kernel_rfl) (by kernel_rfl) (by kernel_rfl) (Int.toNat r2.1) 0 0 (by first | rfl | omega) (row_len (inRow_toNat b17) (by simp)) rfl rfl) (σ' := [(3, pp 1 0), (4, ii r2.1), (7, s0 2 r4.length), (10, s0 3 r6.1.length), (12, pp 4 0), (13, s0 5 r7.1.length), (119, ii (List.getD r4 (Int.toNat r2.2.1) 0)), (123, ii (List.getD r4 (Int.toNat r2.1) 0))]) (by kernel_rfl) ?_
               refine XU.run E0_ok 1 6 [3, 4, 7, 10, 12, 13, 127, 129] rfl (σ' := [(3, pp 1 0), (4, ii r2.1), (7, s0 2 r4.length), (10, s0 3 r6.1.length), (12, pp 4 0), (13, s0 5 r7.1.length), (127, ii (w64 ((w64 ((List.getD r4 (Int.toNat r2.2.1) 0) - (List.getD r4 (Int.toNat r2.1) 0))) + r1.1))), (129, ii r1.1)]) (by kernel_rfl) ?_
               cases b18 : (r1.1 != 0 : Bool) with
               | false => cases (cF b18 h)
               | true =>
                have h := cT b18 h
                have e19 : insV (headI ((gsOf E0 181 (opsOf (lft (rgt (rgt (rgt (rgt (rgt (rgt (rgt (rgt (rgt (rgt (rgt (rgt f14_C14))))))))))))))).drop 14) (trS 181 [(3, pp 1 0), (4, ii r2.1), (7, s0 2 r4.length), (10, s0 3 r6.1.length), (12, pp 4 0), (13, s0 5 r7.1.length), (127, ii (w64 ((w64 ((List.getD r4 (Int.toNat r2.2.1) 0) - (List.getD r4 (Int.toNat r2.1) 0))) + r1.1))), (129, ii r1.1)])) (trS 181 [(3, pp 1 0), (4, ii r2.1), (7, s0 2 r4.length), (10, s0 3 r6.1.length), (12, pp 4 0), (13, s0 5 r7.1.length), (127, ii (w64 ((w64 ((List.getD r4 (Int.toNat r2.2.1) 0) - (List.getD r4 (Int.toNat r2.1) 0))) + r1.1))), (129, ii r1.1)]) [(5, rc (encI .i64) r7.1 0 3 1), (4, .cells [ii r1.1, ii r1.2.1, ii (w64 (r1.2.2 + 1))] 0 23 0), (3, rc (encI .i64) r6.1 0 3 1), (2, rc (encI .i64) r4 0 3 1), (1, .cells [ii r1.1, ii r1.2.1, ii r1.2.2] 0 23 0), (0, .cells [.int .u8 a_Marks, .int .u8 a_Step, .int .u8 a_Turns] 0 52 0)] = (match (r1.1 != 0 : Bool) with | true => some (ii (Int.tmod (w64 ((w64 ((List.getD r4 (Int.toNat r2.2.1) 0) - (List.getD r4 (Int.toNat r2.1) 0))) + r1.1)) r1.1)) | false => none) := by kernel_rfl
                refine XU.rd E0_ok [3, 4, 7, 10, 12, 13, 130] rfl (e19.trans (by rw [b18])) (σ' := [(3, pp 1 0), (4, ii r2.1), (7, s0 2 r4.length), (10, s0 3 r6.1.length), (12, pp 4 0), (13, s0 5 r7.1.length), (130, ii (Int.tmod (w64 ((w64 ((List.getD r4 (Int.toNat r2.2.1) 0) - (List.getD r4 (Int.toNat r2.1) 0))) + r1.1)) r1.1))]) (by kernel_rfl) ?_
                refine XU.run E0_ok 1 1 [3, 4, 7, 10, 12, 13, 15] rfl (σ' := [(3, pp 1 0), (4, ii r2.1), (7, s0 2 r4.length), (10, s0 3 r6.1.length), (12, pp 4 0), (13, s0 5 r7.1.length), (15, ii (Int.tmod (w64 ((w64 ((List.getD r4 (Int.toNat r2.2.1) 0) - (List.getD r4 (Int.toNat r2.1) 0))) + r1.1)) r1.1))]) (by kernel_rfl) ?_
                refine XU.done (by kernel_rfl) ?_
                show XQ _ _ _ _ _ _ _ _
                refine XQ.seq E0_ok (by kernel_rfl) ?_
                refine XQ.seq E0_ok (by kernel_rfl) ?_
                refine XQ.region (by kernel_rfl) ?_
                refine XR.runS E0_ok 1 2 [(3, pp 1 0), (4, ii r2.1), (7, s0 2 r4.length), (10, s0 3 r6.1.length), (12, pp 4 0), (13, s0 5 r7.1.length), (15, ii (Int.tmod (w64 ((w64 ((List.getD r4 (Int.toNat r2.2.1) 0) - (List.getD r4 (Int.toNat r2.1) 0))) + r1.1)) r1.1)), (132, .bool ((Int.tmod (w64 ((w64 ((List.getD r4 (Int.toNat r2.2.1) 0) - (List.getD r4 (Int.toNat r2.1) 0))) + r1.1)) r1.1) == 0))] rfl (by kernel_rfl) ?_
                refine XR.done (by kernel_rfl) ?_
                show XQ _ _ _ _ _ _ _ _
                refine XQ.meetC (σ' := [(3, pp 1 0), (4, ii r2.1), (7, s0 2 r4.length), (10, s0 3 r6.1.length), (12, pp 4 0), (13, s0 5 r7.1.length), (15, ii (gR r1 r2 r4))]) (h' := [(5, rc (encI .i64) r7.1 0 3 1), (4, .cells [ii r1.1, ii r1.2.1, ii (w64 (r1.2.2 + 1))] 0 23 0), (3, rc (encI .i64) r6.1 0 3 1), (2, rc (encI .i64) r4 0 3 1), (1, .cells [ii r1.1, ii r1.2.1, ii r1.2.2] 0 23 0), (0, .cells [.int .u8 a_Marks, .int .u8 a_Step, .int .u8 a_Turns] 0 52 0)]) (c' := 6) ?_ ?_
                rotate_left
                ·refine XQ.cond (s := (.tmp 132)) (b := (Int.tmod (w64 ((w64 ((List.getD r4 (Int.toNat r2.2.1) 0) - (List.getD r4 (Int.toNat r2.1) 0))) + r1.1)) r1.1) == 0) (by kernel_rfl) (by kernel_rfl) (fun b20 => ?_) (fun b20 => ?_)
                 ·refine XQ.region (by kernel_rfl) ?_
                  refine XR.runS E0_ok 1 3 [(3, pp 1 0), (4, ii r2.1), (7, s0 2 r4.length), (10, s0 3 r6.1.length), (12, pp 4 0), (13, s0 5 r7.1.length), (15, ii r1.1)] rfl (by kernel_rfl) ?_
                  refine XR.done (by kernel_rfl) ?_
                  refine ⟨rfl, ?_, ?_⟩
                  ·try (unfold gR; rw [b20])
                   exact ⟨by kernel_rfl, by kernel_rfl, by kernel_rfl, by kernel_rfl, by kernel_rfl, by kernel_rfl, by kernel_rfl, trivial⟩
                  ·try (unfold gR; rw [b20])
                   kernel_rfl
                 ·refine XQ.skip (by kernel_rfl) ?_
                  refine ⟨rfl, ?_, ?_⟩
                  ·try (unfold gR; rw [b20])
                   exact ⟨by kernel_rfl, by kernel_rfl, by kernel_rfl, by kernel_rfl, by kernel_rfl, by kernel_rfl, by kernel_rfl, trivial⟩
                  ·try (unfold gR; rw [b20])
                   kernel_rfl
                show XQ _ _ _ _ _ _ _ _
                refine XQ.seq E0_ok (by kernel_rfl) ?_
                obtain ⟨r9, r9_h, h⟩ := bS h
                cases b21 : (inRow r1.2.2 r9.length : Bool) with
                | false => cases (cF b21 h)
                | true =>
                 have h := cT b21 h
                 refine XQ.preA E0_ok [2, 6, 7, 8, 11, 14] (by kernel_rfl) (g := 12) (listed := #[false, false, true, false, false, false, true, true, true, false, false, true, false, false, true, false, false, false]) (by kernel_rfl) (by kernel_rfl) (by kernel_rfl) (by kernel_rfl) (by kernel_rfl) (σ' := [(3, pp 0 0), (10, s0 1 r6.1.length), (13, s0 2 r7.1.length), (15, ii (gR r1 r2 r4)), (16, ii (Int.tmod (w64 ((w64 ((List.getD r9 (Int.toNat r1.2.2) 0) - (List.getD r4 (Int.toNat r2.1) 0))) + r1.1)) r1.1))]) (h' := [(2, rc (encI .i64) r7.1 0 3 1), (1, rc (encI .i64) r6.1 0 3 1), (0, .cells [ii r1.1, ii r1.2.1, ii r1.2.2] 0 23 0)]) (c' := 3) ?_ ?_
                 ·show XQ _ _ _ _ _ _ _ _
                  refine XQ.seq E0_ok (by kernel_rfl) ?_
                  refine XQ.region (by kernel_rfl) ?_
                  refine XR.runS E0_ok 1 3 [(3, pp 0 0), (10, s0 1 r6.1.length), (13, s0 2 r7.1.length), (15, ii (gR r1 r2 r4)), (16, ii (Int.tmod (w64 ((w64 ((List.getD r9 (Int.toNat r1.2.2) 0) - (List.getD r4 (Int.toNat r2.1) 0))) + r1.1)) r1.1)), (154, .bool (decide ((Int.tmod (w64 ((w64 ((List.getD r9 (Int.toNat r1.2.2) 0) - (List.getD r4 (Int.toNat r2.1) 0))) + r1.1)) r1.1) > 0)))] rfl (by kernel_rfl) ?_
                  cases b22 : (decide ((Int.tmod (w64 ((w64 ((List.getD r9 (Int.toNat r1.2.2) 0) - (List.getD r4 (Int.toNat r2.1) 0))) + r1.1)) r1.1) > 0) : Bool) with
                  | true =>
                   have h := cT b22 h
                   refine XR.runS E0_ok 1 5 [(3, pp 0 0), (10, s0 1 r6.1.length), (13, s0 2 r7.1.length), (15, ii (gR r1 r2 r4)), (159, .bool (decide ((Int.tmod (w64 ((w64 ((List.getD r9 (Int.toNat r1.2.2) 0) - (List.getD r4 (Int.toNat r2.1) 0))) + r1.1)) r1.1) < (gR r1 r2 r4))))] rfl (by kernel_rfl) ?_
                   cases b23 : (decide ((Int.tmod (w64 ((w64 ((List.getD r9 (Int.toNat r1.2.2) 0) - (List.getD r4 (Int.toNat r2.1) 0))) + r1.1)) r1.1) < (gR r1 r2 r4)) : Bool) with
                   | true =>
                    have h := cT b23 h
                    refine XR.runS E0_ok 1 2 [(10, s0 1 r6.1.length), (13, s0 2 r7.1.length), (15, ii (gR r1 r2 r4)), (159, .bool true), (160, ii (gR r1 r2 r4)), (161, .agg #[ii r1.1, ii r1.2.1, ii r1.2.2])] rfl (by kernel_rfl) ?_
                    obtain ⟨r10, r10_h, h⟩ := bS h
                    refine XR.call E0_ok [10, 13, 15, 159, 160, 162] rfl (K := 56) (args := [.agg #[ii r1.1, ii r1.2.1, ii r1.2.2]]) (d := (some (path 12 162))) (by kernel_rfl) (KC.lift (V2 := s0 3 r10.length) (H2 := [(3, rc (encI .i64) r10 0 3 1)]) [1, 2, 3, 0] (f56_ok m r1.1 r1.2.1 r1.2.2 r10 r10_h) rfl (by decide) (by decide) (by kernel_rfl) ⟨⟨_, _, rfl, rfl, .inl ⟨rfl, rowC_scal (encI_ok .i64) _⟩⟩, trivial⟩ (by rfl)) ?_
                    rintro _ _ _ ⟨rfl, rfl, rfl⟩
                    refine XR.conv (σ' := [(10, s0 1 r6.1.length), (13, s0 2 r7.1.length), (15, ii (gR r1 r2 r4)), (159, .bool true), (160, ii (gR r1 r2 r4)), (162, s0 3 r10.length)]) (h' := [(3, rc (encI .i64) r10 0 3 1), (2, rc (encI .i64) r7.1 0 3 1), (1, rc (encI .i64) r6.1 0 3 1), (0, .cells [ii r1.1, ii r1.2.1, ii r1.2.2] 0 23 0)]) (c' := 4) ?_ (by kernel_rfl)
                    obtain ⟨r11, r11_h, h⟩ := bS h
                    refine XR.call E0_ok [10, 13, 15, 159, 160, 163] rfl (K := 55) (args := [s0 3 r10.length]) (d := (some (path 12 163))) (by kernel_rfl) (KQ.call (KC.quiet E0_ok (args0 := [s0 0 r10.length]) (h0 := [(0, rc (encI .i64) r10 (0 + ((rowC (encI .i64) r10).length + 1)) 3 1)]) (n := 1) (V := ii r11) [3] (f55_ok m (0 + ((rowC (encI .i64) r10).length + 1)) 3 r10 r11 r11_h) rfl (by rfl) (by decide) rfl (by kernel_rfl) ⟨⟨_, _, rfl, rfl, .inl ⟨rfl, rowC_scal (encI_ok .i64) _⟩⟩, trivial⟩) rfl) ?_
                    rintro _ _ _ ⟨rfl, rfl, rfl⟩
                    refine XR.conv (σ' := [(10, s0 1 r6.1.length), (13, s0 2 r7.1.length), (15, ii (gR r1 r2 r4)), (159, .bool true), (160, ii (gR r1 r2 r4)), (163, ii r11)]) (h' := [(3, rc (encI .i64) r10 0 3 1), (2, rc (encI .i64) r7.1 0 3 1), (1, rc (encI .i64) r6.1 0 3 1), (0, .cells [ii r1.1, ii r1.2.1, ii r1.2.2] 0 23 0)]) (c' := 4) ?_ (by kernel_rfl)
                    refine XR.runS E0_ok 1 3 [(10, s0 1 r6.1.length), (13, s0 2 r7.1.length), (15, ii (gR r1 r2 r4)), (166, .bool ((gR r1 r2 r4) == r11))] rfl (by kernel_rfl) ?_
                    cases b24 : ((gR r1 r2 r4) == r11 : Bool) with
                    | true =>
                     have h := cT b24 h
                     refine XR.runS E0_ok 1 1 [(13, s0 2 r7.1.length), (15, ii (gR r1 r2 r4)), (166, .bool true), (167, s0 1 r6.1.length)] rfl (by kernel_rfl) ?_
                     obtain ⟨r12, r12_h, h⟩ := bS h
                     refine XR.call E0_ok [13, 15, 166, 168] rfl (K := 55) (args := [s0 1 r6.1.length]) (d := (some (path 12 168))) (by kernel_rfl) (KQ.call (KC.quiet E0_ok (args0 := [s0 0 r6.1.length]) (h0 := [(0, rc (encI .i64) r6.1 (0 + ((rowC (encI .i64) r6.1).length + 1)) 3 1)]) (n := 1) (V := ii r12) [1] (f55_ok m (0 + ((rowC (encI .i64) r6.1).length + 1)) 3 r6.1 r12 r12_h) rfl (by rfl) (by decide) rfl (by kernel_rfl) ⟨⟨_, _, rfl, rfl, .inl ⟨rfl, rowC_scal (encI_ok .i64) _⟩⟩, trivial⟩) rfl) ?_
                     rintro _ _ _ ⟨rfl, rfl, rfl⟩
                     refine XR.conv (σ' := [(13, s0 2 r7.1.length), (15, ii (gR r1 r2 r4)), (166, .bool true), (168, ii r12)]) (h' := [(3, rc (encI .i64) r10 0 3 1), (2, rc (encI .i64) r7.1 0 3 1), (1, rc (encI .i64) r6.1 0 3 1), (0, .cells [ii r1.1, ii r1.2.1, ii r1.2.2] 0 23 0)]) (c' := 4) ?_ (by kernel_rfl)
                     refine XR.runS E0_ok 1 4 [(13, s0 2 r7.1.length), (15, ii (gR r1 r2 r4)), (172, .bool (r12 == (gR r1 r2 r4)))] rfl (by kernel_rfl) ?_
                     cases b25 : (r12 == (gR r1 r2 r4) : Bool) with
                     | true =>
                      have h := cT b25 h
                      refine XR.runS E0_ok 1 1 [(15, ii (gR r1 r2 r4)), (172, .bool true), (173, s0 2 r7.1.length)] rfl (by kernel_rfl) ?_
                      obtain ⟨r13, r13_h, h⟩ := bS h
                      refine XR.call E0_ok [15, 172, 174] rfl (K := 55) (args := [s0 2 r7.1.length]) (d := (some (path 12 174))) (by kernel_rfl) (KQ.call (KC.quiet E0_ok (args0 := [s0 0 r7.1.length]) (h0 := [(0, rc (encI .i64) r7.1 (0 + ((rowC (encI .i64) r7.1).length + 1)) 3 1)]) (n := 1) (V := ii r13) [2] (f55_ok m (0 + ((rowC (encI .i64) r7.1).length + 1)) 3 r7.1 r13 r13_h) rfl (by rfl) (by decide) rfl (by kernel_rfl) ⟨⟨_, _, rfl, rfl, .inl ⟨rfl, rowC_scal (encI_ok .i64) _⟩⟩, trivial⟩) rfl) ?_
                      rintro _ _ _ ⟨rfl, rfl, rfl⟩
                      refine XR.conv (σ' := [(15, ii (gR r1 r2 r4)), (172, .bool true), (174, ii r13)]) (h' := [(3, rc (encI .i64) r10 0 3 1), (2, rc (encI .i64) r7.1 0 3 1), (1, rc (encI .i64) r6.1 0 3 1), (0, .cells [ii r1.1, ii r1.2.1, ii r1.2.2] 0 23 0)]) (c' := 4) ?_ (by kernel_rfl)
                      refine XR.runS E0_ok 1 4 [(178, .bool (decide (r13 ≤ (gR r1 r2 r4))))] rfl (by kernel_rfl) ?_
                      cases b26 : (decide (r13 ≤ (gR r1 r2 r4)) : Bool) with
                      | true =>
                       have h := cT b26 h
                       refine XR.call E0_ok [178, 179] rfl (K := 28) (args := []) (d := (some (path 12 179))) (by kernel_rfl) (KC.of_calls E0_ok (F := Proofs.Try.f28) (v := .bool true) (by kernel_rfl) rfl rfl (works_ok)) ?_
                       rintro _ _ _ ⟨rfl, rfl, rfl⟩
                       refine XR.conv (σ' := [(178, .bool true), (179, .bool true)]) (h' := [(3, rc (encI .i64) r10 0 3 1), (2, rc (encI .i64) r7.1 0 3 1), (1, rc (encI .i64) r6.1 0 3 1), (0, .cells [ii r1.1, ii r1.2.1, ii r1.2.2] 0 23 0)]) (c' := 4) ?_ (by kernel_rfl)
                       refine XR.runS E0_ok 1 2 [(2, .bool true)] rfl (by kernel_rfl) ?_
                       refine XR.done (by kernel_rfl) ?_
                       show XQ _ _ _ _ _ _ _ _
                       refine XQ.ret (by kernel_rfl) ?_
                       have h := Option.some.inj h
                       subst h
                       exact ⟨fun i q => (by cases q), .bool true, (by kernel_rfl), rfl⟩
                      | false =>
                       have h := cF b26 h
                       refine XR.runS E0_ok 1 3 [(2, .bool false)] rfl (by kernel_rfl) ?_
                       refine XR.done (by kernel_rfl) ?_
                       show XQ _ _ _ _ _ _ _ _
                       refine XQ.ret (by kernel_rfl) ?_
                       have h := Option.some.inj h
                       subst h
                       exact ⟨fun i q => (by cases q), .bool false, (by kernel_rfl), rfl⟩
                     | false =>
                      have h := cF b25 h
                      refine XR.runS E0_ok 1 9 [(2, .bool false)] rfl (by kernel_rfl) ?_
                      refine XR.done (by kernel_rfl) ?_
                      show XQ _ _ _ _ _ _ _ _
                      refine XQ.ret (by kernel_rfl) ?_
                      have h := Option.some.inj h
                      subst h
                      exact ⟨fun i q => (by cases q), .bool false, (by kernel_rfl), rfl⟩
                    | false =>
                     have h := cF b24 h
                     refine XR.runS E0_ok 1 15 [(2, .bool false)] rfl (by kernel_rfl) ?_
                     refine XR.done (by kernel_rfl) ?_
                     show XQ _ _ _ _ _ _ _ _
                     refine XQ.ret (by kernel_rfl) ?_
                     have h := Option.some.inj h
                     subst h
                     exact ⟨fun i q => (by cases q), .bool false, (by kernel_rfl), rfl⟩
                   | false =>
                    have h := cF b23 h
                    refine XR.runS E0_ok 1 22 [(2, .bool false)] rfl (by kernel_rfl) ?_
                    refine XR.done (by kernel_rfl) ?_
                    show XQ _ _ _ _ _ _ _ _
                    refine XQ.ret (by kernel_rfl) ?_
                    have h := Option.some.inj h
                    subst h
                    exact ⟨fun i q => (by cases q), .bool false, (by kernel_rfl), rfl⟩
                  | false =>
                   have h := cF b22 h
                   refine XR.runS E0_ok 1 27 [(2, .bool false)] rfl (by kernel_rfl) ?_
                   refine XR.done (by kernel_rfl) ?_
                   show XQ _ _ _ _ _ _ _ _
                   refine XQ.ret (by kernel_rfl) ?_
                   have h := Option.some.inj h
                   subst h
                   exact ⟨fun i q => (by cases q), .bool false, (by kernel_rfl), rfl⟩
                 ·have xa12 : XA E0 181 0 (opsOf (lft (rgt (rgt (rgt (rgt (rgt (rgt (rgt (rgt (rgt (rgt (rgt (rgt (rgt (rgt f14_C14)))))))))))))))) 0 #[true, true, true, true, true, true, true, true, true, true, true, true, true, true, true, true, true, true] [(3, pp 0 0), (10, s0 1 r6.1.length), (13, s0 2 r7.1.length), (15, ii (gR r1 r2 r4)), (16, ii (Int.tmod (w64 ((w64 ((List.getD r9 (Int.toNat r1.2.2) 0) - (List.getD r4 (Int.toNat r2.1) 0))) + r1.1)) r1.1))] [(2, rc (encI .i64) r7.1 0 3 1), (1, rc (encI .i64) r6.1 0 3 1), (0, .cells [ii r1.1, ii r1.2.1, ii r1.2.2] 0 23 0)] 3 (fun e σ1 h1 c1 => e = .normal ∧ (σ1, h1, c1) = ([(3, pp 0 0), (10, s0 1 r6.1.length), (13, s0 2 r7.1.length), (15, ii (gR r1 r2 r4)), (16, ii (Int.tmod (w64 ((w64 ((List.getD r9 (Int.toNat r1.2.2) 0) - (List.getD r4 (Int.toNat r2.1) 0))) + r1.1)) r1.1))], [(2, rc (encI .i64) r7.1 0 3 1), (1, rc (encI .i64) r6.1 0 3 1), (0, .cells [ii r1.1, ii r1.2.1, ii r1.2.2] 0 23 0)], 3)) := by
                   exact XA.done (by kernel_rfl) ⟨rfl, rfl⟩
                  have xa11 : XA E0 181 0 (opsOf (lft (rgt (rgt (rgt (rgt (rgt (rgt (rgt (rgt (rgt (rgt (rgt (rgt (rgt (rgt f14_C14)))))))))))))))) 1 #[true, true, true, true, true, true, true, true, true, true, true, true, true, true, true, true, true, false] [(3, pp 0 0), (10, s0 1 r6.1.length), (13, s0 2 r7.1.length), (15, ii (gR r1 r2 r4)), (151, ii (Int.tmod (w64 ((w64 ((List.getD r9 (Int.toNat r1.2.2) 0) - (List.getD r4 (Int.toNat r2.1) 0))) + r1.1)) r1.1))] [(2, rc (encI .i64) r7.1 0 3 1), (1, rc (encI .i64) r6.1 0 3 1), (0, .cells [ii r1.1, ii r1.2.1, ii r1.2.2] 0 23 0)] 3 (fun e σ1 h1 c1 => e = .normal ∧ (σ1, h1, c1) = ([(3, pp 0 0), (10, s0 1 r6.1.length), (13, s0 2 r7.1.length), (15, ii (gR r1 r2 r4)), (16, ii (Int.tmod (w64 ((w64 ((List.getD r9 (Int.toNat r1.2.2) 0) - (List.getD r4 (Int.toNat r2.1) 0))) + r1.1)) r1.1))], [(2, rc (encI .i64) r7.1 0 3 1), (1, rc (encI .i64) r6.1 0 3 1), (0, .cells [ii r1.1, ii r1.2.1, ii r1.2.2] 0 23 0)], 3)) := by
                   refine XA.step E0_ok [17] (by kernel_rfl) rfl (by kernel_rfl) ⟨?_, trivial⟩
                   ·refine XR.runS E0_ok 1 1 [(3, pp 0 0), (10, s0 1 r6.1.length), (13, s0 2 r7.1.length), (15, ii (gR r1 r2 r4)), (16, ii (Int.tmod (w64 ((w64 ((List.getD r9 (Int.toNat r1.2.2) 0) - (List.getD r4 (Int.toNat r2.1) 0))) + r1.1)) r1.1))] rfl (by kernel_rfl) ?_
                    refine XR.done (by kernel_rfl) ?_
                    refine ⟨rfl, ?_⟩
                    show XA _ _ _ _ _ _ _ _ _ _
                    exact xa12
                  have xa10 : XA E0 181 0 (opsOf (lft (rgt (rgt (rgt (rgt (rgt (rgt (rgt (rgt (rgt (rgt (rgt (rgt (rgt (rgt f14_C14)))))))))))))))) 2 #[true, true, true, true, true, true, true, true, true, true, true, true, true, true, true, true, false, false] [(3, pp 0 0), (10, s0 1 r6.1.length), (13, s0 2 r7.1.length), (15, ii (gR r1 r2 r4)), (148, ii (w64 ((w64 ((List.getD r9 (Int.toNat r1.2.2) 0) - (List.getD r4 (Int.toNat r2.1) 0))) + r1.1))), (150, ii r1.1)] [(2, rc (encI .i64) r7.1 0 3 1), (1, rc (encI .i64) r6.1 0 3 1), (0, .cells [ii r1.1, ii r1.2.1, ii r1.2.2] 0 23 0)] 3 (fun e σ1 h1 c1 => e = .normal ∧ (σ1, h1, c1) = ([(3, pp 0 0), (10, s0 1 r6.1.length), (13, s0 2 r7.1.length), (15, ii (gR r1 r2 r4)), (16, ii (Int.tmod (w64 ((w64 ((List.getD r9 (Int.toNat r1.2.2) 0) - (List.getD r4 (Int.toNat r2.1) 0))) + r1.1)) r1.1))], [(2, rc (encI .i64) r7.1 0 3 1), (1, rc (encI .i64) r6.1 0 3 1), (0, .cells [ii r1.1, ii r1.2.1, ii r1.2.2] 0 23 0)], 3)) := by
                   refine XA.step E0_ok [16] (by kernel_rfl) rfl (by kernel_rfl) ⟨?_, trivial⟩
                   ·have e27 : insV (headI ((gsOf E0 181 (reOps (opsOf (lft (rgt (rgt (rgt (rgt (rgt (rgt (rgt (rgt (rgt (rgt (rgt (rgt (rgt (rgt f14_C14)))))))))))))))) [16])).drop 0) (trS 181 [(3, pp 0 0), (10, s0 1 r6.1.length), (13, s0 2 r7.1.length), (15, ii (gR r1 r2 r4)), (148, ii (w64 ((w64 ((List.getD r9 (Int.toNat r1.2.2) 0) - (List.getD r4 (Int.toNat r2.1) 0))) + r1.1))), (150, ii r1.1)])) (trS 181 [(3, pp 0 0), (10, s0 1 r6.1.length), (13, s0 2 r7.1.length), (15, ii (gR r1 r2 r4)), (148, ii (w64 ((w64 ((List.getD r9 (Int.toNat r1.2.2) 0) - (List.getD r4 (Int.toNat r2.1) 0))) + r1.1))), (150, ii r1.1)]) [(2, rc (encI .i64) r7.1 0 3 1), (1, rc (encI .i64) r6.1 0 3 1), (0, .cells [ii r1.1, ii r1.2.1, ii r1.2.2] 0 23 0)] = (match (r1.1 != 0 : Bool) with | true => some (ii (Int.tmod (w64 ((w64 ((List.getD r9 (Int.toNat r1.2.2) 0) - (List.getD r4 (Int.toNat r2.1) 0))) + r1.1)) r1.1)) | false => none) := by kernel_rfl
                    refine XR.rd E0_ok [3, 10, 13, 15, 151] rfl (e27.trans (by rw [b18])) (σ' := [(3, pp 0 0), (10, s0 1 r6.1.length), (13, s0 2 r7.1.length), (15, ii (gR r1 r2 r4)), (151, ii (Int.tmod (w64 ((w64 ((List.getD r9 (Int.toNat r1.2.2) 0) - (List.getD r4 (Int.toNat r2.1) 0))) + r1.1)) r1.1))]) (by kernel_rfl) ?_
                    refine XR.done (by kernel_rfl) ?_
                    refine ⟨rfl, ?_⟩
                    show XA _ _ _ _ _ _ _ _ _ _
                    exact xa11
                  have xa9 : XA E0 181 0 (opsOf (lft (rgt (rgt (rgt (rgt (rgt (rgt (rgt (rgt (rgt (rgt (rgt (rgt (rgt (rgt f14_C14)))))))))))))))) 3 #[true, true, true, true, true, true, true, true, true, true, true, true, true, true, true, false, false, false] [(3, pp 0 0), (10, s0 1 r6.1.length), (13, s0 2 r7.1.length), (15, ii (gR r1 r2 r4)), (148, ii (w64 ((w64 ((List.getD r9 (Int.toNat r1.2.2) 0) - (List.getD r4 (Int.toNat r2.1) 0))) + r1.1))), (149, pp 0 0)] [(2, rc (encI .i64) r7.1 0 3 1), (1, rc (encI .i64) r6.1 0 3 1), (0, .cells [ii r1.1, ii r1.2.1, ii r1.2.2] 0 23 0)] 3 (fun e σ1 h1 c1 => e = .normal ∧ (σ1, h1, c1) = ([(3, pp 0 0), (10, s0 1 r6.1.length), (13, s0 2 r7.1.length), (15, ii (gR r1 r2 r4)), (16, ii (Int.tmod (w64 ((w64 ((List.getD r9 (Int.toNat r1.2.2) 0) - (List.getD r4 (Int.toNat r2.1) 0))) + r1.1)) r1.1))], [(2, rc (encI .i64) r7.1 0 3 1), (1, rc (encI .i64) r6.1 0 3 1), (0, .cells [ii r1.1, ii r1.2.1, ii r1.2.2] 0 23 0)], 3)) := by
                   refine XA.step E0_ok [15] (by kernel_rfl) rfl (by kernel_rfl) ⟨?_, trivial⟩
                   ·refine XR.runS E0_ok 1 1 [(3, pp 0 0), (10, s0 1 r6.1.length), (13, s0 2 r7.1.length), (15, ii (gR r1 r2 r4)), (148, ii (w64 ((w64 ((List.getD r9 (Int.toNat r1.2.2) 0) - (List.getD r4 (Int.toNat r2.1) 0))) + r1.1))), (150, ii r1.1)] rfl (by kernel_rfl) ?_
                    refine XR.done (by kernel_rfl) ?_
                    refine ⟨rfl, ?_⟩
                    show XA _ _ _ _ _ _ _ _ _ _
                    exact xa10
                  have xa13 : XA E0 181 0 (opsOf (lft (rgt (rgt (rgt (rgt (rgt (rgt (rgt (rgt (rgt (rgt (rgt (rgt (rgt (rgt f14_C14)))))))))))))))) 3 #[true, true, true, true, true, true, true, true, true, true, true, true, true, false, true, true, false, false] [(3, pp 0 0), (10, s0 1 r6.1.length), (13, s0 2 r7.1.length), (15, ii (gR r1 r2 r4)), (145, ii (w64 ((List.getD r9 (Int.toNat r1.2.2) 0) - (List.getD r4 (Int.toNat r2.1) 0)))), (147, ii r1.1), (150, ii r1.1)] [(2, rc (encI .i64) r7.1 0 3 1), (1, rc (encI .i64) r6.1 0 3 1), (0, .cells [ii r1.1, ii r1.2.1, ii r1.2.2] 0 23 0)] 3 (fun e σ1 h1 c1 => e = .normal ∧ (σ1, h1, c1) = ([(3, pp 0 0), (10, s0 1 r6.1.length), (13, s0 2 r7.1.length), (15, ii (gR r1 r2 r4)), (16, ii (Int.tmod (w64 ((w64 ((List.getD r9 (Int.toNat r1.2.2) 0) - (List.getD r4 (Int.toNat r2.1) 0))) + r1.1)) r1.1))], [(2, rc (encI .i64) r7.1 0 3 1), (1, rc (encI .i64) r6.1 0 3 1), (0, .cells [ii r1.1, ii r1.2.1, ii r1.2.2] 0 23 0)], 3)) := by
                   refine XA.step E0_ok [13] (by kernel_rfl) rfl (by kernel_rfl) ⟨?_, trivial⟩
                   ·refine XR.runS E0_ok 1 1 [(3, pp 0 0), (10, s0 1 r6.1.length), (13, s0 2 r7.1.length), (15, ii (gR r1 r2 r4)), (148, ii (w64 ((w64 ((List.getD r9 (Int.toNat r1.2.2) 0) - (List.getD r4 (Int.toNat r2.1) 0))) + r1.1))), (150, ii r1.1)] rfl (by kernel_rfl) ?_
                    refine XR.done (by kernel_rfl) ?_
                    refine ⟨rfl, ?_⟩
                    show XA _ _ _ _ _ _ _ _ _ _
                    exact xa10
                  have xa8 : XA E0 181 0 (opsOf (lft (rgt (rgt (rgt (rgt (rgt (rgt (rgt (rgt (rgt (rgt (rgt (rgt (rgt (rgt f14_C14)))))))))))))))) 4 #[true, true, true, true, true, true, true, true, true, true, true, true, true, false, true, false, false, false] [(3, pp 0 0), (10, s0 1 r6.1.length), (13, s0 2 r7.1.length), (15, ii (gR r1 r2 r4)), (145, ii (w64 ((List.getD r9 (Int.toNat r1.2.2) 0) - (List.getD r4 (Int.toNat r2.1) 0)))), (147, ii r1.1), (149, pp 0 0)] [(2, rc (encI .i64) r7.1 0 3 1), (1, rc (encI .i64) r6.1 0 3 1), (0, .cells [ii r1.1, ii r1.2.1, ii r1.2.2] 0 23 0)] 3 (fun e σ1 h1 c1 => e = .normal ∧ (σ1, h1, c1) = ([(3, pp 0 0), (10, s0 1 r6.1.length), (13, s0 2 r7.1.length), (15, ii (gR r1 r2 r4)), (16, ii (Int.tmod (w64 ((w64 ((List.getD r9 (Int.toNat r1.2.2) 0) - (List.getD r4 (Int.toNat r2.1) 0))) + r1.1)) r1.1))], [(2, rc (encI .i64) r7.1 0 3 1), (1, rc (encI .i64) r6.1 0 3 1), (0, .cells [ii r1.1, ii r1.2.1, ii r1.2.2] 0 23 0)], 3)) := by
                   refine XA.step E0_ok [13, 15] (by kernel_rfl) rfl (by kernel_rfl) ⟨?_, ?_, trivial⟩
                   ·refine XR.runS E0_ok 1 1 [(3, pp 0 0), (10, s0 1 r6.1.length), (13, s0 2 r7.1.length), (15, ii (gR r1 r2 r4)), (148, ii (w64 ((w64 ((List.getD r9 (Int.toNat r1.2.2) 0) - (List.getD r4 (Int.toNat r2.1) 0))) + r1.1))), (149, pp 0 0)] rfl (by kernel_rfl) ?_
                    refine XR.done (by kernel_rfl) ?_
                    refine ⟨rfl, ?_⟩
                    show XA _ _ _ _ _ _ _ _ _ _
                    exact xa9
                   ·refine XR.runS E0_ok 1 1 [(3, pp 0 0), (10, s0 1 r6.1.length), (13, s0 2 r7.1.length), (15, ii (gR r1 r2 r4)), (145, ii (w64 ((List.getD r9 (Int.toNat r1.2.2) 0) - (List.getD r4 (Int.toNat r2.1) 0)))), (147, ii r1.1), (150, ii r1.1)] rfl (by kernel_rfl) ?_
                    refine XR.done (by kernel_rfl) ?_
                    refine ⟨rfl, ?_⟩
                    show XA _ _ _ _ _ _ _ _ _ _
                    exact xa13
                  have xa14 : XA E0 181 0 (opsOf (lft (rgt (rgt (rgt (rgt (rgt (rgt (rgt (rgt (rgt (rgt (rgt (rgt (rgt (rgt f14_C14)))))))))))))))) 4 #[true, true, true, true, true, true, true, true, true, true, true, true, false, false, true, true, false, false] [(3, pp 0 0), (10, s0 1 r6.1.length), (13, s0 2 r7.1.length), (15, ii (gR r1 r2 r4)), (145, ii (w64 ((List.getD r9 (Int.toNat r1.2.2) 0) - (List.getD r4 (Int.toNat r2.1) 0)))), (146, pp 0 0), (150, ii r1.1)] [(2, rc (encI .i64) r7.1 0 3 1), (1, rc (encI .i64) r6.1 0 3 1), (0, .cells [ii r1.1, ii r1.2.1, ii r1.2.2] 0 23 0)] 3 (fun e σ1 h1 c1 => e = .normal ∧ (σ1, h1, c1) = ([(3, pp 0 0), (10, s0 1 r6.1.length), (13, s0 2 r7.1.length), (15, ii (gR r1 r2 r4)), (16, ii (Int.tmod (w64 ((w64 ((List.getD r9 (Int.toNat r1.2.2) 0) - (List.getD r4 (Int.toNat r2.1) 0))) + r1.1)) r1.1))], [(2, rc (encI .i64) r7.1 0 3 1), (1, rc (encI .i64) r6.1 0 3 1), (0, .cells [ii r1.1, ii r1.2.1, ii r1.2.2] 0 23 0)], 3)) := by
                   refine XA.step E0_ok [12] (by kernel_rfl) rfl (by kernel_rfl) ⟨?_, trivial⟩
                   ·refine XR.runS E0_ok 1 1 [(3, pp 0 0), (10, s0 1 r6.1.length), (13, s0 2 r7.1.length), (15, ii (gR r1 r2 r4)), (145, ii (w64 ((List.getD r9 (Int.toNat r1.2.2) 0) - (List.getD r4 (Int.toNat r2.1) 0)))), (147, ii r1.1), (150, ii r1.1)] rfl (by kernel_rfl) ?_
                    refine XR.done (by kernel_rfl) ?_
                    refine ⟨rfl, ?_⟩
                    show XA _ _ _ _ _ _ _ _ _ _
                    exact xa13
                  have xa7 : XA E0 181 0 (opsOf (lft (rgt (rgt (rgt (rgt (rgt (rgt (rgt (rgt (rgt (rgt (rgt (rgt (rgt (rgt f14_C14)))))))))))))))) 5 #[true, true, true, true, true, true, true, true, true, true, true, true, false, false, true, false, false, false] [(3, pp 0 0), (10, s0 1 r6.1.length), (13, s0 2 r7.1.length), (15, ii (gR r1 r2 r4)), (145, ii (w64 ((List.getD r9 (Int.toNat r1.2.2) 0) - (List.getD r4 (Int.toNat r2.1) 0)))), (146, pp 0 0), (149, pp 0 0)] [(2, rc (encI .i64) r7.1 0 3 1), (1, rc (encI .i64) r6.1 0 3 1), (0, .cells [ii r1.1, ii r1.2.1, ii r1.2.2] 0 23 0)] 3 (fun e σ1 h1 c1 => e = .normal ∧ (σ1, h1, c1) = ([(3, pp 0 0), (10, s0 1 r6.1.length), (13, s0 2 r7.1.length), (15, ii (gR r1 r2 r4)), (16, ii (Int.tmod (w64 ((w64 ((List.getD r9 (Int.toNat r1.2.2) 0) - (List.getD r4 (Int.toNat r2.1) 0))) + r1.1)) r1.1))], [(2, rc (encI .i64) r7.1 0 3 1), (1, rc (encI .i64) r6.1 0 3 1), (0, .cells [ii r1.1, ii r1.2.1, ii r1.2.2] 0 23 0)], 3)) := by
                   refine XA.step E0_ok [12, 15] (by kernel_rfl) rfl (by kernel_rfl) ⟨?_, ?_, trivial⟩
                   ·refine XR.runS E0_ok 1 1 [(3, pp 0 0), (10, s0 1 r6.1.length), (13, s0 2 r7.1.length), (15, ii (gR r1 r2 r4)), (145, ii (w64 ((List.getD r9 (Int.toNat r1.2.2) 0) - (List.getD r4 (Int.toNat r2.1) 0)))), (147, ii r1.1), (149, pp 0 0)] rfl (by kernel_rfl) ?_
                    refine XR.done (by kernel_rfl) ?_
                    refine ⟨rfl, ?_⟩
                    show XA _ _ _ _ _ _ _ _ _ _
                    exact xa8
                   ·refine XR.runS E0_ok 1 1 [(3, pp 0 0), (10, s0 1 r6.1.length), (13, s0 2 r7.1.length), (15, ii (gR r1 r2 r4)), (145, ii (w64 ((List.getD r9 (Int.toNat r1.2.2) 0) - (List.getD r4 (Int.toNat r2.1) 0)))), (146, pp 0 0), (150, ii r1.1)] rfl (by kernel_rfl) ?_
                    refine XR.done (by kernel_rfl) ?_
                    refine ⟨rfl, ?_⟩
                    show XA _ _ _ _ _ _ _ _ _ _
                    exact xa14
                  have xa16 : XA E0 181 0 (opsOf (lft (rgt (rgt (rgt (rgt (rgt (rgt (rgt (rgt (rgt (rgt (rgt (rgt (rgt (rgt f14_C14)))))))))))))))) 4 #[true, true, true, true, true, true, true, true, true, true, false, true, true, false, true, true, false, false] [(3, pp 0 0), (10, s0 1 r6.1.length), (13, s0 2 r7.1.length), (15, ii (gR r1 r2 r4)), (140, ii (List.getD r9 (Int.toNat r1.2.2) 0)), (144, ii (List.getD r4 (Int.toNat r2.1) 0)), (147, ii r1.1), (150, ii r1.1)] [(2, rc (encI .i64) r7.1 0 3 1), (1, rc (encI .i64) r6.1 0 3 1), (0, .cells [ii r1.1, ii r1.2.1, ii r1.2.2] 0 23 0)] 3 (fun e σ1 h1 c1 => e = .normal ∧ (σ1, h1, c1) = ([(3, pp 0 0), (10, s0 1 r6.1.length), (13, s0 2 r7.1.length), (15, ii (gR r1 r2 r4)), (16, ii (Int.tmod (w64 ((w64 ((List.getD r9 (Int.toNat r1.2.2) 0) - (List.getD r4 (Int.toNat r2.1) 0))) + r1.1)) r1.1))], [(2, rc (encI .i64) r7.1 0 3 1), (1, rc (encI .i64) r6.1 0 3 1), (0, .cells [ii r1.1, ii r1.2.1, ii r1.2.2] 0 23 0)], 3)) := by
                   refine XA.step E0_ok [10] (by kernel_rfl) rfl (by kernel_rfl) ⟨?_, trivial⟩
                   ·refine XR.runS E0_ok 1 1 [(3, pp 0 0), (10, s0 1 r6.1.length), (13, s0 2 r7.1.length), (15, ii (gR r1 r2 r4)), (145, ii (w64 ((List.getD r9 (Int.toNat r1.2.2) 0) - (List.getD r4 (Int.toNat r2.1) 0)))), (147, ii r1.1), (150, ii r1.1)] rfl (by kernel_rfl) ?_
                    refine XR.done (by kernel_rfl) ?_
                    refine ⟨rfl, ?_⟩
                    show XA _ _ _ _ _ _ _ _ _ _
                    exact xa13
                  have xa15 : XA E0 181 0 (opsOf (lft (rgt (rgt (rgt (rgt (rgt (rgt (rgt (rgt (rgt (rgt (rgt (rgt (rgt (rgt f14_C14)))))))))))))))) 5 #[true, true, true, true, true, true, true, true, true, true, false, true, true, false, true, false, false, false] [(3, pp 0 0), (10, s0 1 r6.1.length), (13, s0 2 r7.1.length), (15, ii (gR r1 r2 r4)), (140, ii (List.getD r9 (Int.toNat r1.2.2) 0)), (144, ii (List.getD r4 (Int.toNat r2.1) 0)), (147, ii r1.1), (149, pp 0 0)] [(2, rc (encI .i64) r7.1 0 3 1), (1, rc (encI .i64) r6.1 0 3 1), (0, .cells [ii r1.1, ii r1.2.1, ii r1.2.2] 0 23 0)] 3 (fun e σ1 h1 c1 => e = .normal ∧ (σ1, h1, c1) = ([(3, pp 0 0), (10, s0 1 r6.1.length), (13, s0 2 r7.1.length), (15, ii (gR r1 r2 r4)), (16, ii (Int.tmod (w64 ((w64 ((List.getD r9 (Int.toNat r1.2.2) 0) - (List.getD r4 (Int.toNat r2.1) 0))) + r1.1)) r1.1))], [(2, rc (encI .i64) r7.1 0 3 1), (1, rc (encI .i64) r6.1 0 3 1), (0, .cells [ii r1.1, ii r1.2.1, ii r1.2.2] 0 23 0)], 3)) := by
                   refine XA.step E0_ok [10, 15] (by kernel_rfl) rfl (by kernel_rfl) ⟨?_, ?_, trivial⟩
                   ·refine XR.runS E0_ok 1 1 [(3, pp 0 0), (10, s0 1 r6.1.length), (13, s0 2 r7.1.length), (15, ii (gR r1 r2 r4)), (145, ii (w64 ((List.getD r9 (Int.toNat r1.2.2) 0) - (List.getD r4 (Int.toNat r2.1) 0)))), (147, ii r1.1), (149, pp 0 0)] rfl (by kernel_rfl) ?_
                    refine XR.done (by kernel_rfl) ?_
                    refine ⟨rfl, ?_⟩
                    show XA _ _ _ _ _ _ _ _ _ _
                    exact xa8
                   ·refine XR.runS E0_ok 1 1 [(3, pp 0 0), (10, s0 1 r6.1.length), (13, s0 2 r7.1.length), (15, ii (gR r1 r2 r4)), (140, ii (List.getD r9 (Int.toNat r1.2.2) 0)), (144, ii (List.getD r4 (Int.toNat r2.1) 0)), (147, ii r1.1), (150, ii r1.1)] rfl (by kernel_rfl) ?_
                    refine XR.done (by kernel_rfl) ?_
                    refine ⟨rfl, ?_⟩
                    show XA _ _ _ _ _ _ _ _ _ _
                    exact xa16
                  have xa17 : XA E0 181 0 (opsOf (lft (rgt (rgt (rgt (rgt (rgt (rgt (rgt (rgt (rgt (rgt (rgt (rgt (rgt (rgt f14_C14)))))))))))))))) 5 #[true, true, true, true, true, true, true, true, true, true, false, true, false, false, true, true, false, false] [(3, pp 0 0), (10, s0 1 r6.1.length), (13, s0 2 r7.1.length), (15, ii (gR r1 r2 r4)), (140, ii (List.getD r9 (Int.toNat r1.2.2) 0)), (144, ii (List.getD r4 (Int.toNat r2.1) 0)), (146, pp 0 0), (150, ii r1.1)] [(2, rc (encI .i64) r7.1 0 3 1), (1, rc (encI .i64) r6.1 0 3 1), (0, .cells [ii r1.1, ii r1.2.1, ii r1.2.2] 0 23 0)] 3 (fun e σ1 h1 c1 => e = .normal ∧ (σ1, h1, c1) = ([(3, pp 0 0), (10, s0 1 r6.1.length), (13, s0 2 r7.1.length), (15, ii (gR r1 r2 r4)), (16, ii (Int.tmod (w64 ((w64 ((List.getD r9 (Int.toNat r1.2.2) 0) - (List.getD r4 (Int.toNat r2.1) 0))) + r1.1)) r1.1))], [(2, rc (encI .i64) r7.1 0 3 1), (1, rc (encI .i64) r6.1 0 3 1), (0, .cells [ii r1.1, ii r1.2.1, ii r1.2.2] 0 23 0)], 3)) := by
                   refine XA.step E0_ok [10, 12] (by kernel_rfl) rfl (by kernel_rfl) ⟨?_, ?_, trivial⟩
                   ·refine XR.runS E0_ok 1 1 [(3, pp 0 0), (10, s0 1 r6.1.length), (13, s0 2 r7.1.length), (15, ii (gR r1 r2 r4)), (145, ii (w64 ((List.getD r9 (Int.toNat r1.2.2) 0) - (List.getD r4 (Int.toNat r2.1) 0)))), (146, pp 0 0), (150, ii r1.1)] rfl (by kernel_rfl) ?_
                    refine XR.done (by kernel_rfl) ?_
                    refine ⟨rfl, ?_⟩
                    show XA _ _ _ _ _ _ _ _ _ _
                    exact xa14
                   ·refine XR.runS E0_ok 1 1 [(3, pp 0 0), (10, s0 1 r6.1.length), (13, s0 2 r7.1.length), (15, ii (gR r1 r2 r4)), (140, ii (List.getD r9 (Int.toNat r1.2.2) 0)), (144, ii (List.getD r4 (Int.toNat r2.1) 0)), (147, ii r1.1), (150, ii r1.1)] rfl (by kernel_rfl) ?_
                    refine XR.done (by kernel_rfl) ?_
                    refine ⟨rfl, ?_⟩
                    show XA _ _ _ _ _ _ _ _ _ _
                    exact xa16
                  have xa6 : XA E0 181 0 (opsOf (lft (rgt (rgt (rgt (rgt (rgt (rgt (rgt (rgt (rgt (rgt (rgt (rgt (rgt (rgt f14_C14)))))))))))))))) 6 #[true, true, true, true, true, true, true, true, true, true, false, true, false, false, true, false, false, false] [(3, pp 0 0), (10, s0 1 r6.1.length), (13, s0 2 r7.1.length), (15, ii (gR r1 r2 r4)), (140, ii (List.getD r9 (Int.toNat r1.2.2) 0)), (144, ii (List.getD r4 (Int.toNat r2.1) 0)), (146, pp 0 0), (149, pp 0 0)] [(2, rc (encI .i64) r7.1 0 3 1), (1, rc (encI .i64) r6.1 0 3 1), (0, .cells [ii r1.1, ii r1.2.1, ii r1.2.2] 0 23 0)] 3 (fun e σ1 h1 c1 => e = .normal ∧ (σ1, h1, c1) = ([(3, pp 0 0), (10, s0 1 r6.1.length), (13, s0 2 r7.1.length), (15, ii (gR r1 r2 r4)), (16, ii (Int.tmod (w64 ((w64 ((List.getD r9 (Int.toNat r1.2.2) 0) - (List.getD r4 (Int.toNat r2.1) 0))) + r1.1)) r1.1))], [(2, rc (encI .i64) r7.1 0 3 1), (1, rc (encI .i64) r6.1 0 3 1), (0, .cells [ii r1.1, ii r1.2.1, ii r1.2.2] 0 23 0)], 3)) := by
                   refine XA.step E0_ok [10, 12, 15] (by kernel_rfl) rfl (by kernel_rfl) ⟨?_, ?_, ?_, trivial⟩
                   ·refine XR.runS E0_ok 1 1 [(3, pp 0 0), (10, s0 1 r6.1.length), (13, s0 2 r7.1.length), (15, ii (gR r1 r2 r4)), (145, ii (w64 ((List.getD r9 (Int.toNat r1.2.2) 0) - (List.getD r4 (Int.toNat r2.1) 0)))), (146, pp 0 0), (149, pp 0 0)] rfl (by kernel_rfl) ?_
                    refine XR.done (by kernel_rfl) ?_
                    refine ⟨rfl, ?_⟩
                    show XA _ _ _ _ _ _ _ _ _ _
                    exact xa7
                   ·refine XR.runS E0_ok 1 1 [(3, pp 0 0), (10, s0 1 r6.1.length), (13, s0 2 r7.1.length), (15, ii (gR r1 r2 r4)), (140, ii (List.getD r9 (Int.toNat r1.2.2) 0)), (144, ii (List.getD r4 (Int.toNat r2.1) 0)), (147, ii r1.1), (149, pp 0 0)] rfl (by kernel_rfl) ?_
                    refine XR.done (by kernel_rfl) ?_
                    refine ⟨rfl, ?_⟩
                    show XA _ _ _ _ _ _ _ _ _ _
                    exact xa15
                   ·refine XR.runS E0_ok 1 1 [(3, pp 0 0), (10, s0 1 r6.1.length), (13, s0 2 r7.1.length), (15, ii (gR r1 r2 r4)), (140, ii (List.getD r9 (Int.toNat r1.2.2) 0)), (144, ii (List.getD r4 (Int.toNat r2.1) 0)), (146, pp 0 0), (150, ii r1.1)] rfl (by kernel_rfl) ?_
                    refine XR.done (by kernel_rfl) ?_
                    refine ⟨rfl, ?_⟩
                    show XA _ _ _ _ _ _ _ _ _ _
                    exact xa17
                  have xa19 : XA E0 181 0 (opsOf (lft (rgt (rgt (rgt (rgt (rgt (rgt (rgt (rgt (rgt (rgt (rgt (rgt (rgt (rgt f14_C14)))))))))))))))) 5 #[true, true, true, true, true, true, true, true, true, false, false, true, true, false, true, true, false, false] [(3, pp 0 0), (10, s0 1 r6.1.length), (13, s0 2 r7.1.length), (15, ii (gR r1 r2 r4)), (140, ii (List.getD r9 (Int.toNat r1.2.2) 0)), (143, pp 3 ((Int.toNat r2.1) * 1)), (147, ii r1.1), (150, ii r1.1)] [(3, rc (encI .i64) r4 0 3 1), (2, rc (encI .i64) r7.1 0 3 1), (1, rc (encI .i64) r6.1 0 3 1), (0, .cells [ii r1.1, ii r1.2.1, ii r1.2.2] 0 23 0)] 4 (fun e σ1 h1 c1 => e = .normal ∧ (σ1, h1, c1) = ([(3, pp 0 0), (10, s0 1 r6.1.length), (13, s0 2 r7.1.length), (15, ii (gR r1 r2 r4)), (16, ii (Int.tmod (w64 ((w64 ((List.getD r9 (Int.toNat r1.2.2) 0) - (List.getD r4 (Int.toNat r2.1) 0))) + r1.1)) r1.1))], [(2, rc (encI .i64) r7.1 0 3 1), (1, rc (encI .i64) r6.1 0 3 1), (0, .cells [ii r1.1, ii r1.2.1, ii r1.2.2] 0 23 0)], 3)) := by
                   refine XA.step E0_ok [9] (by kernel_rfl) rfl (by kernel_rfl) ⟨?_, trivial⟩
                   ·refine XR.rd E0_ok [3, 10, 13, 15, 140, 144, 147, 150] rfl (v := ii (List.getD r4 (Int.toNat r2.1) 0)) (v_load1 (encI_ok .i64) (x := (src 181 (.tmp 143))) (b := 3) (off := (Int.toNat r2.1) * 1) (xs := r4) (fz := 0) (e := 3) (es := 1) (d := (some (path 12 144))) (by kernel_rfl) (by kernel_rfl) (by kernel_rfl) (Int.toNat r2.1) 0 0 (by first | rfl | omega) (row_len (inRow_toNat b17) (by simp)) rfl rfl) (σ' := [(3, pp 0 0), (10, s0 1 r6.1.length), (13, s0 2 r7.1.length), (15, ii (gR r1 r2 r4)), (140, ii (List.getD r9 (Int.toNat r1.2.2) 0)), (144, ii (List.getD r4 (Int.toNat r2.1) 0)), (147, ii r1.1), (150, ii r1.1)]) (by kernel_rfl) ?_
                    refine XR.done (by kernel_rfl) ?_
                    refine ⟨rfl, ?_⟩
                    show XA _ _ _ _ _ _ _ _ _ _
                    refine XA.ren (σ' := [(3, pp 0 0), (10, s0 1 r6.1.length), (13, s0 2 r7.1.length), (15, ii (gR r1 r2 r4)), (140, ii (List.getD r9 (Int.toNat r1.2.2) 0)), (144, ii (List.getD r4 (Int.toNat r2.1) 0)), (147, ii r1.1), (150, ii r1.1)]) (h' := [(2, rc (encI .i64) r7.1 0 3 1), (1, rc (encI .i64) r6.1 0 3 1), (0, .cells [ii r1.1, ii r1.2.1, ii r1.2.2] 0 23 0)]) (c' := 3) [0, 1, 2] (by decide) rfl ⟨by kernel_rfl, by kernel_rfl, by kernel_rfl, by kernel_rfl, by kernel_rfl, by kernel_rfl, by kernel_rfl, by kernel_rfl, trivial⟩ ⟨⟨_, _, rfl, rfl, .inl ⟨rfl, rowC_scal (encI_ok .i64) _⟩⟩, ⟨_, _, rfl, rfl, .inl ⟨rfl, rowC_scal (encI_ok .i64) _⟩⟩, ⟨_, _, rfl, rfl, .inr ⟨_, _, _, _, rfl, rfl⟩⟩, trivial⟩ rfl ?_
                    exact xa16
                  have xa18 : XA E0 181 0 (opsOf (lft (rgt (rgt (rgt (rgt (rgt (rgt (rgt (rgt (rgt (rgt (rgt (rgt (rgt (rgt f14_C14)))))))))))))))) 6 #[true, true, true, true, true, true, true, true, true, false, false, true, true, false, true, false, false, false] [(3, pp 0 0), (10, s0 1 r6.1.length), (13, s0 2 r7.1.length), (15, ii (gR r1 r2 r4)), (140, ii (List.getD r9 (Int.toNat r1.2.2) 0)), (143, pp 3 ((Int.toNat r2.1) * 1)), (147, ii r1.1), (149, pp 0 0)] [(3, rc (encI .i64) r4 0 3 1), (2, rc (encI .i64) r7.1 0 3 1), (1, rc (encI .i64) r6.1 0 3 1), (0, .cells [ii r1.1, ii r1.2.1, ii r1.2.2] 0 23 0)] 4 (fun e σ1 h1 c1 => e = .normal ∧ (σ1, h1, c1) = ([(3, pp 0 0), (10, s0 1 r6.1.length), (13, s0 2 r7.1.length), (15, ii (gR r1 r2 r4)), (16, ii (Int.tmod (w64 ((w64 ((List.getD r9 (Int.toNat r1.2.2) 0) - (List.getD r4 (Int.toNat r2.1) 0))) + r1.1)) r1.1))], [(2, rc (encI .i64) r7.1 0 3 1), (1, rc (encI .i64) r6.1 0 3 1), (0, .cells [ii r1.1, ii r1.2.1, ii r1.2.2] 0 23 0)], 3)) := by
                   refine XA.step E0_ok [9, 15] (by kernel_rfl) rfl (by kernel_rfl) ⟨?_, ?_, trivial⟩
                   ·refine XR.rd E0_ok [3, 10, 13, 15, 140, 144, 147, 149] rfl (v := ii (List.getD r4 (Int.toNat r2.1) 0)) (v_load1 (encI_ok .i64) (x := (src 181 (.tmp 143))) (b := 3) (off := (Int.toNat r2.1) * 1) (xs := r4) (fz := 0) (e := 3) (es := 1) (d := (some (path 12 144))) (by kernel_rfl) (by kernel_rfl) (by kernel_rfl) (Int.toNat r2.1) 0 0 (by first | rfl | omega) (row_len (inRow_toNat b17) (by simp)) rfl rfl) (σ' := [(3, pp 0 0), (10, s0 1 r6.1.length), (13, s0 2 r7.1.length), (15, ii (gR r1 r2 r4)), (140, ii (List.getD r9 (Int.toNat r1.2.2) 0)), (144, ii (List.getD r4 (Int.toNat r2.1) 0)), (147, ii r1.1), (149, pp 0 0)]) (by kernel_rfl) ?_
                    refine XR.done (by kernel_rfl) ?_
                    refine ⟨rfl, ?_⟩
                    show XA _ _ _ _ _ _ _ _ _ _
                    refine XA.ren (σ' := [(3, pp 0 0), (10, s0 1 r6.1.length), (13, s0 2 r7.1.length), (15, ii (gR r1 r2 r4)), (140, ii (List.getD r9 (Int.toNat r1.2.2) 0)), (144, ii (List.getD r4 (Int.toNat r2.1) 0)), (147, ii r1.1), (149, pp 0 0)]) (h' := [(2, rc (encI .i64) r7.1 0 3 1), (1, rc (encI .i64) r6.1 0 3 1), (0, .cells [ii r1.1, ii r1.2.1, ii r1.2.2] 0 23 0)]) (c' := 3) [0, 1, 2] (by decide) rfl ⟨by kernel_rfl, by kernel_rfl, by kernel_rfl, by kernel_rfl, by kernel_rfl, by kernel_rfl, by kernel_rfl, by kernel_rfl, trivial⟩ ⟨⟨_, _, rfl, rfl, .inl ⟨rfl, rowC_scal (encI_ok .i64) _⟩⟩, ⟨_, _, rfl, rfl, .inl ⟨rfl, rowC_scal (encI_ok .i64) _⟩⟩, ⟨_, _, rfl, rfl, .inr ⟨_, _, _, _, rfl, rfl⟩⟩, trivial⟩ rfl ?_
                    exact xa15
                   ·refine XR.runS E0_ok 1 1 [(3, pp 0 0), (10, s0 1 r6.1.length), (13, s0 2 r7.1.length), (15, ii (gR r1 r2 r4)), (140, ii (List.getD r9 (Int.toNat r1.2.2) 0)), (143, pp 3 ((Int.toNat r2.1) * 1)), (147, ii r1.1), (150, ii r1.1)] rfl (by kernel_rfl) ?_
                    refine XR.done (by kernel_rfl) ?_
                    refine ⟨rfl, ?_⟩
                    show XA _ _ _ _ _ _ _ _ _ _
                    exact xa19
                  have xa20 : XA E0 181 0 (opsOf (lft (rgt (rgt (rgt (rgt (rgt (rgt (rgt (rgt (rgt (rgt (rgt (rgt (rgt (rgt f14_C14)))))))))))))))) 6 #[true, true, true, true, true, true, true, true, true, false, false, true, false, false, true, true, false, false] [(3, pp 0 0), (10, s0 1 r6.1.length), (13, s0 2 r7.1.length), (15, ii (gR r1 r2 r4)), (140, ii (List.getD r9 (Int.toNat r1.2.2) 0)), (143, pp 3 ((Int.toNat r2.1) * 1)), (146, pp 0 0), (150, ii r1.1)] [(3, rc (encI .i64) r4 0 3 1), (2, rc (encI .i64) r7.1 0 3 1), (1, rc (encI .i64) r6.1 0 3 1), (0, .cells [ii r1.1, ii r1.2.1, ii r1.2.2] 0 23 0)] 4 (fun e σ1 h1 c1 => e = .normal ∧ (σ1, h1, c1) = ([(3, pp 0 0), (10, s0 1 r6.1.length), (13, s0 2 r7.1.length), (15, ii (gR r1 r2 r4)), (16, ii (Int.tmod (w64 ((w64 ((List.getD r9 (Int.toNat r1.2.2) 0) - (List.getD r4 (Int.toNat r2.1) 0))) + r1.1)) r1.1))], [(2, rc (encI .i64) r7.1 0 3 1), (1, rc (encI .i64) r6.1 0 3 1), (0, .cells [ii r1.1, ii r1.2.1, ii r1.2.2] 0 23 0)], 3)) := by
                   refine XA.step E0_ok [9, 12] (by kernel_rfl) rfl (by kernel_rfl) ⟨?_, ?_, trivial⟩
                   ·refine XR.rd E0_ok [3, 10, 13, 15, 140, 144, 146, 150] rfl (v := ii (List.getD r4 (Int.toNat r2.1) 0)) (v_load1 (encI_ok .i64) (x := (src 181 (.tmp 143))) (b := 3) (off := (Int.toNat r2.1) * 1) (xs := r4) (fz := 0) (e := 3) (es := 1) (d := (some (path 12 144))) (by kernel_rfl) (by kernel_rfl) (by kernel_rfl) (Int.toNat r2.1) 0 0 (by first | rfl | omega) (row_len (inRow_toNat b17) (by simp)) rfl rfl) (σ' := [(3, pp 0 0), (10, s0 1 r6.1.length), (13, s0 2 r7.1.length), (15, ii (gR r1 r2 r4)), (140, ii (List.getD r9 (Int.toNat r1.2.2) 0)), (144, ii (List.getD r4 (Int.toNat r2.1) 0)), (146, pp 0 0), (150, ii r1.1)]) (by kernel_rfl) ?_
                    refine XR.done (by kernel_rfl) ?_
                    refine ⟨rfl, ?_⟩
                    show XA _ _ _ _ _ _ _ _ _ _
                    refine XA.ren (σ' := [(3, pp 0 0), (10, s0 1 r6.1.length), (13, s0 2 r7.1.length), (15, ii (gR r1 r2 r4)), (140, ii (List.getD r9 (Int.toNat r1.2.2) 0)), (144, ii (List.getD r4 (Int.toNat r2.1) 0)), (146, pp 0 0), (150, ii r1.1)]) (h' := [(2, rc (encI .i64) r7.1 0 3 1), (1, rc (encI .i64) r6.1 0 3 1), (0, .cells [ii r1.1, ii r1.2.1, ii r1.2.2] 0 23 0)]) (c' := 3) [0, 1, 2] (by decide) rfl ⟨by kernel_rfl, by kernel_rfl, by kernel_rfl, by kernel_rfl, by kernel_rfl, by kernel_rfl, by kernel_rfl, by kernel_rfl, trivial⟩ ⟨⟨_, _, rfl, rfl, .inl ⟨rfl, rowC_scal (encI_ok .i64) _⟩⟩, ⟨_, _, rfl, rfl, .inl ⟨rfl, rowC_scal (encI_ok .i64) _⟩⟩, ⟨_, _, rfl, rfl, .inr ⟨_, _, _, _, rfl, rfl⟩⟩, trivial⟩ rfl ?_
                    exact xa17
                   ·refine XR.runS E0_ok 1 1 [(3, pp 0 0), (10, s0 1 r6.1.length), (13, s0 2 r7.1.length), (15, ii (gR r1 r2 r4)), (140, ii (List.getD r9 (Int.toNat r1.2.2) 0)), (143, pp 3 ((Int.toNat r2.1) * 1)), (147, ii r1.1), (150, ii r1.1)] rfl (by kernel_rfl) ?_
                    refine XR.done (by kernel_rfl) ?_
                    refine ⟨rfl, ?_⟩
                    show XA _ _ _ _ _ _ _ _ _ _
                    exact xa19
                  have xa5 : XA E0 181 0 (opsOf (lft (rgt (rgt (rgt (rgt (rgt (rgt (rgt (rgt (rgt (rgt (rgt (rgt (rgt (rgt f14_C14)))))))))))))))) 7 #[true, true, true, true, true, true, true, true, true, false, false, true, false, false, true, false, false, false] [(3, pp 0 0), (10, s0 1 r6.1.length), (13, s0 2 r7.1.length), (15, ii (gR r1 r2 r4)), (140, ii (List.getD r9 (Int.toNat r1.2.2) 0)), (143, pp 3 ((Int.toNat r2.1) * 1)), (146, pp 0 0), (149, pp 0 0)] [(3, rc (encI .i64) r4 0 3 1), (2, rc (encI .i64) r7.1 0 3 1), (1, rc (encI .i64) r6.1 0 3 1), (0, .cells [ii r1.1, ii r1.2.1, ii r1.2.2] 0 23 0)] 4 (fun e σ1 h1 c1 => e = .normal ∧ (σ1, h1, c1) = ([(3, pp 0 0), (10, s0 1 r6.1.length), (13, s0 2 r7.1.length), (15, ii (gR r1 r2 r4)), (16, ii (Int.tmod (w64 ((w64 ((List.getD r9 (Int.toNat r1.2.2) 0) - (List.getD r4 (Int.toNat r2.1) 0))) + r1.1)) r1.1))], [(2, rc (encI .i64) r7.1 0 3 1), (1, rc (encI .i64) r6.1 0 3 1), (0, .cells [ii r1.1, ii r1.2.1, ii r1.2.2] 0 23 0)], 3)) := by
                   refine XA.step E0_ok [9, 12, 15] (by kernel_rfl) rfl (by kernel_rfl) ⟨?_, ?_, ?_, trivial⟩
                   ·refine XR.rd E0_ok [3, 10, 13, 15, 140, 144, 146, 149] rfl (v := ii (List.getD r4 (Int.toNat r2.1) 0)) (v_load1 (encI_ok .i64) (x := (src 181 (.tmp 143))) (b := 3) (off := (Int.toNat r2.1) * 1) (xs := r4) (fz := 0) (e := 3) (es := 1) (d := (some (path 12 144))) (by kernel_rfl) (by kernel_rfl) (by kernel_rfl) (Int.toNat r2.1) 0 0 (by first | rfl | omega) (row_len (inRow_toNat b17) (by simp)) rfl rfl) (σ' := [(3, pp 0 0), (10, s0 1 r6.1.length), (13, s0 2 r7.1.length), (15, ii (gR r1 r2 r4)), (140, ii (List.getD r9 (Int.toNat r1.2.2) 0)), (144, ii (List.getD r4 (Int.toNat r2.1) 0)), (146, pp 0 0), (149, pp 0 0)]) (by kernel_rfl) ?_
                    refine XR.done (by kernel_rfl) ?_
                    refine ⟨rfl, ?_⟩
                    show XA _ _ _ _ _ _ _ _ _ _
                    refine XA.ren (σ' := [(3, pp 0 0), (10, s0 1 r6.1.length), (13, s0 2 r7.1.length), (15, ii (gR r1 r2 r4)), (140, ii (List.getD r9 (Int.toNat r1.2.2) 0)), (144, ii (List.getD r4 (Int.toNat r2.1) 0)), (146, pp 0 0), (149, pp 0 0)]) (h' := [(2, rc (encI .i64) r7.1 0 3 1), (1, rc (encI .i64) r6.1 0 3 1), (0, .cells [ii r1.1, ii r1.2.1, ii r1.2.2] 0 23 0)]) (c' := 3) [0, 1, 2] (by decide) rfl ⟨by kernel_rfl, by kernel_rfl, by kernel_rfl, by kernel_rfl, by kernel_rfl, by kernel_rfl, by kernel_rfl, by kernel_rfl, trivial⟩ ⟨⟨_, _, rfl, rfl, .inl ⟨rfl, rowC_scal (encI_ok .i64) _⟩⟩, ⟨_, _, rfl, rfl, .inl ⟨rfl, rowC_scal (encI_ok .i64) _⟩⟩, ⟨_, _, rfl, rfl, .inr ⟨_, _, _, _, rfl, rfl⟩⟩, trivial⟩ rfl ?_
                    exact xa6
                   ·refine XR.runS E0_ok 1 1 [(3, pp 0 0), (10, s0 1 r6.1.length), (13, s0 2 r7.1.length), (15, ii (gR r1 r2 r4)), (140, ii (List.getD r9 (Int.toNat r1.2.2) 0)), (143, pp 3 ((Int.toNat r2.1) * 1)), (147, ii r1.1), (149, pp 0 0)] rfl (by kernel_rfl) ?_
                    refine XR.done (by kernel_rfl) ?_
                    refine ⟨rfl, ?_⟩
                    show XA _ _ _ _ _ _ _ _ _ _
                    exact xa18
                   ·refine XR.runS E0_ok 1 1 [(3, pp 0 0), (10, s0 1 r6.1.length), (13, s0 2 r7.1.length), (15, ii (gR r1 r2 r4)), (140, ii (List.getD r9 (Int.toNat r1.2.2) 0)), (143, pp 3 ((Int.toNat r2.1) * 1)), (146, pp 0 0), (150, ii r1.1)] rfl (by kernel_rfl) ?_
                    refine XR.done (by kernel_rfl) ?_
                    refine ⟨rfl, ?_⟩
                    show XA _ _ _ _ _ _ _ _ _ _
                    exact xa20
                  have xa23 : XA E0 181 0 (opsOf (lft (rgt (rgt (rgt (rgt (rgt (rgt (rgt (rgt (rgt (rgt (rgt (rgt (rgt (rgt f14_C14)))))))))))))))) 5 #[true, true, true, true, true, false, true, true, true, true, false, true, true, false, true, true, false, false] [(3, pp 0 0), (10, s0 1 r6.1.length), (13, s0 2 r7.1.length), (15, ii (gR r1 r2 r4)), (139, pp 3 ((Int.toNat r1.2.2) * 1)), (144, ii (List.getD r4 (Int.toNat r2.1) 0)), (147, ii r1.1), (150, ii r1.1)] [(3, rc (encI .i64) r9 0 3 1), (2, rc (encI .i64) r7.1 0 3 1), (1, rc (encI .i64) r6.1 0 3 1), (0, .cells [ii r1.1, ii r1.2.1, ii r1.2.2] 0 23 0)] 4 (fun e σ1 h1 c1 => e = .normal ∧ (σ1, h1, c1) = ([(3, pp 0 0), (10, s0 1 r6.1.length), (13, s0 2 r7.1.length), (15, ii (gR r1 r2 r4)), (16, ii (Int.tmod (w64 ((w64 ((List.getD r9 (Int.toNat r1.2.2) 0) - (List.getD r4 (Int.toNat r2.1) 0))) + r1.1)) r1.1))], [(2, rc (encI .i64) r7.1 0 3 1), (1, rc (encI .i64) r6.1 0 3 1), (0, .cells [ii r1.1, ii r1.2.1, ii r1.2.2] 0 23 0)], 3)) := by
                   refine XA.step E0_ok [5] (by kernel_rfl) rfl (by kernel_rfl) ⟨?_, trivial⟩
                   ·refine XR.rd E0_ok [3, 10, 13, 15, 140, 144, 147, 150] rfl (v := ii (List.getD r9 (Int.toNat r1.2.2) 0)) (v_load1 (encI_ok .i64) (x := (src 181 (.tmp 139))) (b := 3) (off := (Int.toNat r1.2.2) * 1) (xs := r9) (fz := 0) (e := 3) (es := 1) (d := (some (path 12 140))) (by kernel_rfl) (by kernel_rfl) (by kernel_rfl) (Int.toNat r1.2.2) 0 0 (by first | rfl | omega) (row_len (inRow_toNat b21) (by simp)) rfl rfl) (σ' := [(3, pp 0 0), (10, s0 1 r6.1.length), (13, s0 2 r7.1.length), (15, ii (gR r1 r2 r4)), (140, ii (List.getD r9 (Int.toNat r1.2.2) 0)), (144, ii (List.getD r4 (Int.toNat r2.1) 0)), (147, ii r1.1), (150, ii r1.1)]) (by kernel_rfl) ?_
                    refine XR.done (by kernel_rfl) ?_
                    refine ⟨rfl, ?_⟩
                    show XA _ _ _ _ _ _ _ _ _ _
                    refine XA.ren (σ' := [(3, pp 0 0), (10, s0 1 r6.1.length), (13, s0 2 r7.1.length), (15, ii (gR r1 r2 r4)), (140, ii (List.getD r9 (Int.toNat r1.2.2) 0)), (144, ii (List.getD r4 (Int.toNat r2.1) 0)), (147, ii r1.1), (150, ii r1.1)]) (h' := [(2, rc (encI .i64) r7.1 0 3 1), (1, rc (encI .i64) r6.1 0 3 1), (0, .cells [ii r1.1, ii r1.2.1, ii r1.2.2] 0 23 0)]) (c' := 3) [0, 1, 2] (by decide) rfl ⟨by kernel_rfl, by kernel_rfl, by kernel_rfl, by kernel_rfl, by kernel_rfl, by kernel_rfl, by kernel_rfl, by kernel_rfl, trivial⟩ ⟨⟨_, _, rfl, rfl, .inl ⟨rfl, rowC_scal (encI_ok .i64) _⟩⟩, ⟨_, _, rfl, rfl, .inl ⟨rfl, rowC_scal (encI_ok .i64) _⟩⟩, ⟨_, _, rfl, rfl, .inr ⟨_, _, _, _, rfl, rfl⟩⟩, trivial⟩ rfl ?_
                    exact xa16
                  have xa22 : XA E0 181 0 (opsOf (lft (rgt (rgt (rgt (rgt (rgt (rgt (rgt (rgt (rgt (rgt (rgt (rgt (rgt (rgt f14_C14)))))))))))))))) 6 #[true, true, true, true, true, false, true, true, true, true, false, true, true, false, true, false, false, false] [(3, pp 0 0), (10, s0 1 r6.1.length), (13, s0 2 r7.1.length), (15, ii (gR r1 r2 r4)), (139, pp 3 ((Int.toNat r1.2.2) * 1)), (144, ii (List.getD r4 (Int.toNat r2.1) 0)), (147, ii r1.1), (149, pp 0 0)] [(3, rc (encI .i64) r9 0 3 1), (2, rc (encI .i64) r7.1 0 3 1), (1, rc (encI .i64) r6.1 0 3 1), (0, .cells [ii r1.1, ii r1.2.1, ii r1.2.2] 0 23 0)] 4 (fun e σ1 h1 c1 => e = .normal ∧ (σ1, h1, c1) = ([(3, pp 0 0), (10, s0 1 r6.1.length), (13, s0 2 r7.1.length), (15, ii (gR r1 r2 r4)), (16, ii (Int.tmod (w64 ((w64 ((List.getD r9 (Int.toNat r1.2.2) 0) - (List.getD r4 (Int.toNat r2.1) 0))) + r1.1)) r1.1))], [(2, rc (encI .i64) r7.1 0 3 1), (1, rc (encI .i64) r6.1 0 3 1), (0, .cells [ii r1.1, ii r1.2.1, ii r1.2.2] 0 23 0)], 3)) := by
                   refine XA.step E0_ok [5, 15] (by kernel_rfl) rfl (by kernel_rfl) ⟨?_, ?_, trivial⟩
                   ·refine XR.rd E0_ok [3, 10, 13, 15, 140, 144, 147, 149] rfl (v := ii (List.getD r9 (Int.toNat r1.2.2) 0)) (v_load1 (encI_ok .i64) (x := (src 181 (.tmp 139))) (b := 3) (off := (Int.toNat r1.2.2) * 1) (xs := r9) (fz := 0) (e := 3) (es := 1) (d := (some (path 12 140))) (by kernel_rfl) (by kernel_rfl) (by kernel_rfl) (Int.toNat r1.2.2) 0 0 (by first | rfl | omega) (row_len (inRow_toNat b21) (by simp)) rfl rfl) (σ' := [(3, pp 0 0), (10, s0 1 r6.1.length), (13, s0 2 r7.1.length), (15, ii (gR r1 r2 r4)), (140, ii (List.getD r9 (Int.toNat r1.2.2) 0)), (144, ii (List.getD r4 (Int.toNat r2.1) 0)), (147, ii r1.1), (149, pp 0 0)]) (by kernel_rfl) ?_
                    refine XR.done (by kernel_rfl) ?_
                    refine ⟨rfl, ?_⟩
                    show XA _ _ _ _ _ _ _ _ _ _
                    refine XA.ren (σ' := [(3, pp 0 0), (10, s0 1 r6.1.length), (13, s0 2 r7.1.length), (15, ii (gR r1 r2 r4)), (140, ii (List.getD r9 (Int.toNat r1.2.2) 0)), (144, ii (List.getD r4 (Int.toNat r2.1) 0)), (147, ii r1.1), (149, pp 0 0)]) (h' := [(2, rc (encI .i64) r7.1 0 3 1), (1, rc (encI .i64) r6.1 0 3 1), (0, .cells [ii r1.1, ii r1.2.1, ii r1.2.2] 0 23 0)]) (c' := 3) [0, 1, 2] (by decide) rfl ⟨by kernel_rfl, by kernel_rfl, by kernel_rfl, by kernel_rfl, by kernel_rfl, by kernel_rfl, by kernel_rfl, by kernel_rfl, trivial⟩ ⟨⟨_, _, rfl, rfl, .inl ⟨rfl, rowC_scal (encI_ok .i64) _⟩⟩, ⟨_, _, rfl, rfl, .inl ⟨rfl, rowC_scal (encI_ok .i64) _⟩⟩, ⟨_, _, rfl, rfl, .inr ⟨_, _, _, _, rfl, rfl⟩⟩, trivial⟩ rfl ?_
                    exact xa15
                   ·refine XR.runS E0_ok 1 1 [(3, pp 0 0), (10, s0 1 r6.1.length), (13, s0 2 r7.1.length), (15, ii (gR r1 r2 r4)), (139, pp 3 ((Int.toNat r1.2.2) * 1)), (144, ii (List.getD r4 (Int.toNat r2.1) 0)), (147, ii r1.1), (150, ii r1.1)] rfl (by kernel_rfl) ?_
                    refine XR.done (by kernel_rfl) ?_
                    refine ⟨rfl, ?_⟩
                    show XA _ _ _ _ _ _ _ _ _ _
                    exact xa23
                  have xa24 : XA E0 181 0 (opsOf (lft (rgt (rgt (rgt (rgt (rgt (rgt (rgt (rgt (rgt (rgt (rgt (rgt (rgt (rgt f14_C14)))))))))))))))) 6 #[true, true, true, true, true, false, true, true, true, true, false, true, false, false, true, true, false, false] [(3, pp 0 0), (10, s0 1 r6.1.length), (13, s0 2 r7.1.length), (15, ii (gR r1 r2 r4)), (139, pp 3 ((Int.toNat r1.2.2) * 1)), (144, ii (List.getD r4 (Int.toNat r2.1) 0)), (146, pp 0 0), (150, ii r1.1)] [(3, rc (encI .i64) r9 0 3 1), (2, rc (encI .i64) r7.1 0 3 1), (1, rc (encI .i64) r6.1 0 3 1), (0, .cells [ii r1.1, ii r1.2.1, ii r1.2.2] 0 23 0)] 4 (fun e σ1 h1 c1 => e = .normal ∧ (σ1, h1, c1) = ([(3, pp 0 0), (10, s0 1 r6.1.length), (13, s0 2 r7.1.length), (15, ii (gR r1 r2 r4)), (16, ii (Int.tmod (w64 ((w64 ((List.getD r9 (Int.toNat r1.2.2) 0) - (List.getD r4 (Int.toNat r2.1) 0))) + r1.1)) r1.1))], [(2, rc (encI .i64) r7.1 0 3 1), (1, rc (encI .i64) r6.1 0 3 1), (0, .cells [ii r1.1, ii r1.2.1, ii r1.2.2] 0 23 0)], 3)) := by
                   refine XA.step E0_ok [5, 12] (by kernel_rfl) rfl (by kernel_rfl) ⟨?_, ?_, trivial⟩
                   ·refine XR.rd E0_ok [3, 10, 13, 15, 140, 144, 146, 150] rfl (v := ii (List.getD r9 (Int.toNat r1.2.2) 0)) (v_load1 (encI_ok .i64) (x := (src 181 (.tmp 139))) (b := 3) (off := (Int.toNat r1.2.2) * 1) (xs := r9) (fz := 0) (e := 3) (es := 1) (d := (some (path 12 140))) (by kernel_rfl) (by kernel_rfl) (by kernel_rfl) (Int.toNat r1.2.2) 0 0 (by first | rfl | omega) (row_len (inRow_toNat b21) (by simp)) rfl rfl) (σ' := [(3, pp 0 0), (10, s0 1 r6.1.length), (13, s0 2 r7.1.length), (15, ii (gR r1 r2 r4)), (140, ii (List.getD r9 (Int.toNat r1.2.2) 0)), (144, ii (List.getD r4 (Int.toNat r2.1) 0)), (146, pp 0 0), (150, ii r1.1)]) (by kernel_rfl) ?_
                    refine XR.done (by kernel_rfl) ?_
                    refine ⟨rfl, ?_⟩
                    show XA _ _ _ _ _ _ _ _ _ _
                    refine XA.ren (σ' := [(3, pp 0 0), (10, s0 1 r6.1.length), (13, s0 2 r7.1.length), (15, ii (gR r1 r2 r4)), (140, ii (List.getD r9 (Int.toNat r1.2.2) 0)), (144, ii (List.getD r4 (Int.toNat r2.1) 0)), (146, pp 0 0), (150, ii r1.1)]) (h' := [(2, rc (encI .i64) r7.1 0 3 1), (1, rc (encI .i64) r6.1 0 3 1), (0, .cells [ii r1.1, ii r1.2.1, ii r1.2.2] 0 23 0)]) (c' := 3) [0, 1, 2] (by decide) rfl ⟨by kernel_rfl, by kernel_rfl, by kernel_rfl, by kernel_rfl, by kernel_rfl, by kernel_rfl, by kernel_rfl, by kernel_rfl, trivial⟩ ⟨⟨_, _, rfl, rfl, .inl ⟨rfl, rowC_scal (encI_ok .i64) _⟩⟩, ⟨_, _, rfl, rfl, .inl ⟨rfl, rowC_scal (encI_ok .i64) _⟩⟩, ⟨_, _, rfl, rfl, .inr ⟨_, _, _, _, rfl, rfl⟩⟩, trivial⟩ rfl ?_
                    exact xa17
                   ·refine XR.runS E0_ok 1 1 [(3, pp 0 0), (10, s0 1 r6.1.length), (13, s0 2 r7.1.length), (15, ii (gR r1 r2 r4)), (139, pp 3 ((Int.toNat r1.2.2) * 1)), (144, ii (List.getD r4 (Int.toNat r2.1) 0)), (147, ii r1.1), (150, ii r1.1)] rfl (by kernel_rfl) ?_
                    refine XR.done (by kernel_rfl) ?_
                    refine ⟨rfl, ?_⟩
                    show XA _ _ _ _ _ _ _ _ _ _
                    exact xa23
                  have xa21 : XA E0 181 0 (opsOf (lft (rgt (rgt (rgt (rgt (rgt (rgt (rgt (rgt (rgt (rgt (rgt (rgt (rgt (rgt f14_C14)))))))))))))))) 7 #[true, true, true, true, true, false, true, true, true, true, false, true, false, false, true, false, false, false] [(3, pp 0 0), (10, s0 1 r6.1.length), (13, s0 2 r7.1.length), (15, ii (gR r1 r2 r4)), (139, pp 3 ((Int.toNat r1.2.2) * 1)), (144, ii (List.getD r4 (Int.toNat r2.1) 0)), (146, pp 0 0), (149, pp 0 0)] [(3, rc (encI .i64) r9 0 3 1), (2, rc (encI .i64) r7.1 0 3 1), (1, rc (encI .i64) r6.1 0 3 1), (0, .cells [ii r1.1, ii r1.2.1, ii r1.2.2] 0 23 0)] 4 (fun e σ1 h1 c1 => e = .normal ∧ (σ1, h1, c1) = ([(3, pp 0 0), (10, s0 1 r6.1.length), (13, s0 2 r7.1.length), (15, ii (gR r1 r2 r4)), (16, ii (Int.tmod (w64 ((w64 ((List.getD r9 (Int.toNat r1.2.2) 0) - (List.getD r4 (Int.toNat r2.1) 0))) + r1.1)) r1.1))], [(2, rc (encI .i64) r7.1 0 3 1), (1, rc (encI .i64) r6.1 0 3 1), (0, .cells [ii r1.1, ii r1.2.1, ii r1.2.2] 0 23 0)], 3)) := by
                   refine XA.step E0_ok [5, 12, 15] (by kernel_rfl) rfl (by kernel_rfl) ⟨?_, ?_, ?_, trivial⟩
                   ·refine XR.rd E0_ok [3, 10, 13, 15, 140, 144, 146, 149] rfl (v := ii (List.getD r9 (Int.toNat r1.2.2) 0)) (v_load1 (encI_ok .i64) (x := (src 181 (.tmp 139))) (b := 3) (off := (Int.toNat r1.2.2) * 1) (xs := r9) (fz := 0) (e := 3) (es := 1) (d := (some (path 12 140))) (by kernel_rfl) (by kernel_rfl) (by kernel_rfl) (Int.toNat r1.2.2) 0 0 (by first | rfl | omega) (row_len (inRow_toNat b21) (by simp)) rfl rfl) (σ' := [(3, pp 0 0), (10, s0 1 r6.1.length), (13, s0 2 r7.1.length), (15, ii (gR r1 r2 r4)), (140, ii (List.getD r9 (Int.toNat r1.2.2) 0)), (144, ii (List.getD r4 (Int.toNat r2.1) 0)), (146, pp 0 0), (149, pp 0 0)]) (by kernel_rfl) ?_
                    refine XR.done (by kernel_rfl) ?_
                    refine ⟨rfl, ?_⟩
                    show XA _ _ _ _ _ _ _ _ _ _
                    refine XA.ren (σ' := [(3, pp 0 0), (10, s0 1 r6.1.length), (13, s0 2 r7.1.length), (15, ii (gR r1 r2 r4)), (140, ii (List.getD r9 (Int.toNat r1.2.2) 0)), (144, ii (List.getD r4 (Int.toNat r2.1) 0)), (146, pp 0 0), (149, pp 0 0)]) (h' := [(2, rc (encI .i64) r7.1 0 3 1), (1, rc (encI .i64) r6.1 0 3 1), (0, .cells [ii r1.1, ii r1.2.1, ii r1.2.2] 0 23 0)]) (c' := 3) [0, 1, 2] (by decide) rfl ⟨by kernel_rfl, by kernel_rfl, by kernel_rfl, by kernel_rfl, by kernel_rfl, by kernel_rfl, by kernel_rfl, by kernel_rfl, trivial⟩ ⟨⟨_, _, rfl, rfl, .inl ⟨rfl, rowC_scal (encI_ok .i64) _⟩⟩, ⟨_, _, rfl, rfl, .inl ⟨rfl, rowC_scal (encI_ok .i64) _⟩⟩, ⟨_, _, rfl, rfl, .inr ⟨_, _, _, _, rfl, rfl⟩⟩, trivial⟩ rfl ?_
                    exact xa6
                   ·refine XR.runS E0_ok 1 1 [(3, pp 0 0), (10, s0 1 r6.1.length), (13, s0 2 r7.1.length), (15, ii (gR r1 r2 r4)), (139, pp 3 ((Int.toNat r1.2.2) * 1)), (144, ii (List.getD r4 (Int.toNat r2.1) 0)), (147, ii r1.1), (149, pp 0 0)] rfl (by kernel_rfl) ?_
                    refine XR.done (by kernel_rfl) ?_
                    refine ⟨rfl, ?_⟩
                    show XA _ _ _ _ _ _ _ _ _ _
                    exact xa22
                   ·refine XR.runS E0_ok 1 1 [(3, pp 0 0), (10, s0 1 r6.1.length), (13, s0 2 r7.1.length), (15, ii (gR r1 r2 r4)), (139, pp 3 ((Int.toNat r1.2.2) * 1)), (144, ii (List.getD r4 (Int.toNat r2.1) 0)), (146, pp 0 0), (150, ii r1.1)] rfl (by kernel_rfl) ?_
                    refine XR.done (by kernel_rfl) ?_
                    refine ⟨rfl, ?_⟩
                    show XA _ _ _ _ _ _ _ _ _ _
                    exact xa24
                  have xa26 : XA E0 181 0 (opsOf (lft (rgt (rgt (rgt (rgt (rgt (rgt (rgt (rgt (rgt (rgt (rgt (rgt (rgt (rgt f14_C14)))))))))))))))) 6 #[true, true, true, true, true, false, true, true, true, false, false, true, true, false, true, true, false, false] [(3, pp 0 0), (10, s0 1 r6.1.length), (13, s0 2 r7.1.length), (15, ii (gR r1 r2 r4)), (139, pp 3 ((Int.toNat r1.2.2) * 1)), (143, pp 4 ((Int.toNat r2.1) * 1)), (147, ii r1.1), (150, ii r1.1)] [(4, rc (encI .i64) r4 0 3 1), (3, rc (encI .i64) r9 0 3 1), (2, rc (encI .i64) r7.1 0 3 1), (1, rc (encI .i64) r6.1 0 3 1), (0, .cells [ii r1.1, ii r1.2.1, ii r1.2.2] 0 23 0)] 5 (fun e σ1 h1 c1 => e = .normal ∧ (σ1, h1, c1) = ([(3, pp 0 0), (10, s0 1 r6.1.length), (13, s0 2 r7.1.length), (15, ii (gR r1 r2 r4)), (16, ii (Int.tmod (w64 ((w64 ((List.getD r9 (Int.toNat r1.2.2) 0) - (List.getD r4 (Int.toNat r2.1) 0))) + r1.1)) r1.1))], [(2, rc (encI .i64) r7.1 0 3 1), (1, rc (encI .i64) r6.1 0 3 1), (0, .cells [ii r1.1, ii r1.2.1, ii r1.2.2] 0 23 0)], 3)) := by
                   refine XA.step E0_ok [5, 9] (by kernel_rfl) rfl (by kernel_rfl) ⟨?_, ?_, trivial⟩
                   ·refine XR.rd E0_ok [3, 10, 13, 15, 140, 143, 147, 150] rfl (v := ii (List.getD r9 (Int.toNat r1.2.2) 0)) (v_load1 (encI_ok .i64) (x := (src 181 (.tmp 139))) (b := 3) (off := (Int.toNat r1.2.2) * 1) (xs := r9) (fz := 0) (e := 3) (es := 1) (d := (some (path 12 140))) (by kernel_rfl) (by kernel_rfl) (by kernel_rfl) (Int.toNat r1.2.2) 0 0 (by first | rfl | omega) (row_len (inRow_toNat b21) (by simp)) rfl rfl) (σ' := [(3, pp 0 0), (10, s0 1 r6.1.length), (13, s0 2 r7.1.length), (15, ii (gR r1 r2 r4)), (140, ii (List.getD r9 (Int.toNat r1.2.2) 0)), (143, pp 4 ((Int.toNat r2.1) * 1)), (147, ii r1.1), (150, ii r1.1)]) (by kernel_rfl) ?_
                    refine XR.done (by kernel_rfl) ?_
                    refine ⟨rfl, ?_⟩
                    show XA _ _ _ _ _ _ _ _ _ _
                    refine XA.ren (σ' := [(3, pp 0 0), (10, s0 1 r6.1.length), (13, s0 2 r7.1.length), (15, ii (gR r1 r2 r4)), (140, ii (List.getD r9 (Int.toNat r1.2.2) 0)), (143, pp 3 ((Int.toNat r2.1) * 1)), (147, ii r1.1), (150, ii r1.1)]) (h' := [(3, rc (encI .i64) r4 0 3 1), (2, rc (encI .i64) r7.1 0 3 1), (1, rc (encI .i64) r6.1 0 3 1), (0, .cells [ii r1.1, ii r1.2.1, ii r1.2.2] 0 23 0)]) (c' := 4) [0, 1, 2, 4] (by decide) rfl ⟨by kernel_rfl, by kernel_rfl, by kernel_rfl, by kernel_rfl, by kernel_rfl, by kernel_rfl, by kernel_rfl, by kernel_rfl, trivial⟩ ⟨⟨_, _, rfl, rfl, .inl ⟨rfl, rowC_scal (encI_ok .i64) _⟩⟩, ⟨_, _, rfl, rfl, .inl ⟨rfl, rowC_scal (encI_ok .i64) _⟩⟩, ⟨_, _, rfl, rfl, .inl ⟨rfl, rowC_scal (encI_ok .i64) _⟩⟩, ⟨_, _, rfl, rfl, .inr ⟨_, _, _, _, rfl, rfl⟩⟩, trivial⟩ rfl ?_
                    exact xa19
                   ·refine XR.rd E0_ok [3, 10, 13, 15, 139, 144, 147, 150] rfl (v := ii (List.getD r4 (Int.toNat r2.1) 0)) (v_load1 (encI_ok .i64) (x := (src 181 (.tmp 143))) (b := 4) (off := (Int.toNat r2.1) * 1) (xs := r4) (fz := 0) (e := 3) (es := 1) (d := (some (path 12 144))) (by kernel_rfl) (by kernel_rfl) (by kernel_rfl) (Int.toNat r2.1) 0 0 (by first | rfl | omega) (row_len (inRow_toNat b17) (by simp)) rfl rfl) (σ' := [(3, pp 0 0), (10, s0 1 r6.1.length), (13, s0 2 r7.1.length), (15, ii (gR r1 r2 r4)), (139, pp 3 ((Int.toNat r1.2.2) * 1)), (144, ii (List.getD r4 (Int.toNat r2.1) 0)), (147, ii r1.1), (150, ii r1.1)]) (by kernel_rfl) ?_
                    refine XR.done (by kernel_rfl) ?_
                    refine ⟨rfl, ?_⟩
                    show XA _ _ _ _ _ _ _ _ _ _
                    refine XA.ren (σ' := [(3, pp 0 0), (10, s0 1 r6.1.length), (13, s0 2 r7.1.length), (15, ii (gR r1 r2 r4)), (139, pp 3 ((Int.toNat r1.2.2) * 1)), (144, ii (List.getD r4 (Int.toNat r2.1) 0)), (147, ii r1.1), (150, ii r1.1)]) (h' := [(3, rc (encI .i64) r9 0 3 1), (2, rc (encI .i64) r7.1 0 3 1), (1, rc (encI .i64) r6.1 0 3 1), (0, .cells [ii r1.1, ii r1.2.1, ii r1.2.2] 0 23 0)]) (c' := 4) [0, 1, 2, 3] (by decide) rfl ⟨by kernel_rfl, by kernel_rfl, by kernel_rfl, by kernel_rfl, by kernel_rfl, by kernel_rfl, by kernel_rfl, by kernel_rfl, trivial⟩ ⟨⟨_, _, rfl, rfl, .inl ⟨rfl, rowC_scal (encI_ok .i64) _⟩⟩, ⟨_, _, rfl, rfl, .inl ⟨rfl, rowC_scal (encI_ok .i64) _⟩⟩, ⟨_, _, rfl, rfl, .inl ⟨rfl, rowC_scal (encI_ok .i64) _⟩⟩, ⟨_, _, rfl, rfl, .inr ⟨_, _, _, _, rfl, rfl⟩⟩, trivial⟩ rfl ?_
                    exact xa23
                  have xa25 : XA E0 181 0 (opsOf (lft (rgt (rgt (rgt (rgt (rgt (rgt (rgt (rgt (rgt (rgt (rgt (rgt (rgt (rgt f14_C14)))))))))))))))) 7 #[true, true, true, true, true, false, true, true, true, false, false, true, true, false, true, false, false, false] [(3, pp 0 0), (10, s0 1 r6.1.length), (13, s0 2 r7.1.length), (15, ii (gR r1 r2 r4)), (139, pp 3 ((Int.toNat r1.2.2) * 1)), (143, pp 4 ((Int.toNat r2.1) * 1)), (147, ii r1.1), (149, pp 0 0)] [(4, rc (encI .i64) r4 0 3 1), (3, rc (encI .i64) r9 0 3 1), (2, rc (encI .i64) r7.1 0 3 1), (1, rc (encI .i64) r6.1 0 3 1), (0, .cells [ii r1.1, ii r1.2.1, ii r1.2.2] 0 23 0)] 5 (fun e σ1 h1 c1 => e = .normal ∧ (σ1, h1, c1) = ([(3, pp 0 0), (10, s0 1 r6.1.length), (13, s0 2 r7.1.length), (15, ii (gR r1 r2 r4)), (16, ii (Int.tmod (w64 ((w64 ((List.getD r9 (Int.toNat r1.2.2) 0) - (List.getD r4 (Int.toNat r2.1) 0))) + r1.1)) r1.1))], [(2, rc (encI .i64) r7.1 0 3 1), (1, rc (encI .i64) r6.1 0 3 1), (0, .cells [ii r1.1, ii r1.2.1, ii r1.2.2] 0 23 0)], 3)) := by
                   refine XA.step E0_ok [5, 9, 15] (by kernel_rfl) rfl (by kernel_rfl) ⟨?_, ?_, ?_, trivial⟩
                   ·refine XR.rd E0_ok [3, 10, 13, 15, 140, 143, 147, 149] rfl (v := ii (List.getD r9 (Int.toNat r1.2.2) 0)) (v_load1 (encI_ok .i64) (x := (src 181 (.tmp 139))) (b := 3) (off := (Int.toNat r1.2.2) * 1) (xs := r9) (fz := 0) (e := 3) (es := 1) (d := (some (path 12 140))) (by kernel_rfl) (by kernel_rfl) (by kernel_rfl) (Int.toNat r1.2.2) 0 0 (by first | rfl | omega) (row_len (inRow_toNat b21) (by simp)) rfl rfl) (σ' := [(3, pp 0 0), (10, s0 1 r6.1.length), (13, s0 2 r7.1.length), (15, ii (gR r1 r2 r4)), (140, ii (List.getD r9 (Int.toNat r1.2.2) 0)), (143, pp 4 ((Int.toNat r2.1) * 1)), (147, ii r1.1), (149, pp 0 0)]) (by kernel_rfl) ?_
                    refine XR.done (by kernel_rfl) ?_
                    refine ⟨rfl, ?_⟩
                    show XA _ _ _ _ _ _ _ _ _ _
                    refine XA.ren (σ' := [(3, pp 0 0), (10, s0 1 r6.1.length), (13, s0 2 r7.1.length), (15, ii (gR r1 r2 r4)), (140, ii (List.getD r9 (Int.toNat r1.2.2) 0)), (143, pp 3 ((Int.toNat r2.1) * 1)), (147, ii r1.1), (149, pp 0 0)]) (h' := [(3, rc (encI .i64) r4 0 3 1), (2, rc (encI .i64) r7.1 0 3 1), (1, rc (encI .i64) r6.1 0 3 1), (0, .cells [ii r1.1, ii r1.2.1, ii r1.2.2] 0 23 0)]) (c' := 4) [0, 1, 2, 4] (by decide) rfl ⟨by kernel_rfl, by kernel_rfl, by kernel_rfl, by kernel_rfl, by kernel_rfl, by kernel_rfl, by kernel_rfl, by kernel_rfl, trivial⟩ ⟨⟨_, _, rfl, rfl, .inl ⟨rfl, rowC_scal (encI_ok .i64) _⟩⟩, ⟨_, _, rfl, rfl, .inl ⟨rfl, rowC_scal (encI_ok .i64) _⟩⟩, ⟨_, _, rfl, rfl, .inl ⟨rfl, rowC_scal (encI_ok .i64) _⟩⟩, ⟨_, _, rfl, rfl, .inr ⟨_, _, _, _, rfl, rfl⟩⟩, trivial⟩ rfl ?_
                    exact xa18
                   ·refine XR.rd E0_ok [3, 10, 13, 15, 139, 144, 147, 149] rfl (v := ii (List.getD r4 (Int.toNat r2.1) 0)) (v_load1 (encI_ok .i64) (x := (src 181 (.tmp 143))) (b := 4) (off := (Int.toNat r2.1) * 1) (xs := r4) (fz := 0) (e := 3) (es := 1) (d := (some (path 12 144))) (by kernel_rfl) (by kernel_rfl) (by kernel_rfl) (Int.toNat r2.1) 0 0 (by first | rfl | omega) (row_len (inRow_toNat b17) (by simp)) rfl rfl) (σ' := [(3, pp 0 0), (10, s0 1 r6.1.length), (13, s0 2 r7.1.length), (15, ii (gR r1 r2 r4)), (139, pp 3 ((Int.toNat r1.2.2) * 1)), (144, ii (List.getD r4 (Int.toNat r2.1) 0)), (147, ii r1.1), (149, pp 0 0)]) (by kernel_rfl) ?_
                    refine XR.done (by kernel_rfl) ?_
                    refine ⟨rfl, ?_⟩
                    show XA _ _ _ _ _ _ _ _ _ _
                    refine XA.ren (σ' := [(3, pp 0 0), (10, s0 1 r6.1.length), (13, s0 2 r7.1.length), (15, ii (gR r1 r2 r4)), (139, pp 3 ((Int.toNat r1.2.2) * 1)), (144, ii (List.getD r4 (Int.toNat r2.1) 0)), (147, ii r1.1), (149, pp 0 0)]) (h' := [(3, rc (encI .i64) r9 0 3 1), (2, rc (encI .i64) r7.1 0 3 1), (1, rc (encI .i64) r6.1 0 3 1), (0, .cells [ii r1.1, ii r1.2.1, ii r1.2.2] 0 23 0)]) (c' := 4) [0, 1, 2, 3] (by decide) rfl ⟨by kernel_rfl, by kernel_rfl, by kernel_rfl, by kernel_rfl, by kernel_rfl, by kernel_rfl, by kernel_rfl, by kernel_rfl, trivial⟩ ⟨⟨_, _, rfl, rfl, .inl ⟨rfl, rowC_scal (encI_ok .i64) _⟩⟩, ⟨_, _, rfl, rfl, .inl ⟨rfl, rowC_scal (encI_ok .i64) _⟩⟩, ⟨_, _, rfl, rfl, .inl ⟨rfl, rowC_scal (encI_ok .i64) _⟩⟩, ⟨_, _, rfl, rfl, .inr ⟨_, _, _, _, rfl, rfl⟩⟩, trivial⟩ rfl ?_
                    exact xa22
                   ·refine XR.runS E0_ok 1 1 [(3, pp 0 0), (10, s0 1 r6.1.length), (13, s0 2 r7.1.length), (15, ii (gR r1 r2 r4)), (139, pp 3 ((Int.toNat r1.2.2) * 1)), (143, pp 4 ((Int.toNat r2.1) * 1)), (147, ii r1.1), (150, ii r1.1)] rfl (by kernel_rfl) ?_
                    refine XR.done (by kernel_rfl) ?_
                    refine ⟨rfl, ?_⟩
                    show XA _ _ _ _ _ _ _ _ _ _
                    exact xa26
                  have xa27 : XA E0 181 0 (opsOf (lft (rgt (rgt (rgt (rgt (rgt (rgt (rgt (rgt (rgt (rgt (rgt (rgt (rgt (rgt f14_C14)))))))))))))))) 7 #[true, true, true, true, true, false, true, true, true, false, false, true, false, false, true, true, false, false] [(3, pp 0 0), (10, s0 1 r6.1.length), (13, s0 2 r7.1.length), (15, ii (gR r1 r2 r4)), (139, pp 3 ((Int.toNat r1.2.2) * 1)), (143, pp 4 ((Int.toNat r2.1) * 1)), (146, pp 0 0), (150, ii r1.1)] [(4, rc (encI .i64) r4 0 3 1), (3, rc (encI .i64) r9 0 3 1), (2, rc (encI .i64) r7.1 0 3 1), (1, rc (encI .i64) r6.1 0 3 1), (0, .cells [ii r1.1, ii r1.2.1, ii r1.2.2] 0 23 0)] 5 (fun e σ1 h1 c1 => e = .normal ∧ (σ1, h1, c1) = ([(3, pp 0 0), (10, s0 1 r6.1.length), (13, s0 2 r7.1.length), (15, ii (gR r1 r2 r4)), (16, ii (Int.tmod (w64 ((w64 ((List.getD r9 (Int.toNat r1.2.2) 0) - (List.getD r4 (Int.toNat r2.1) 0))) + r1.1)) r1.1))], [(2, rc (encI .i64) r7.1 0 3 1), (1, rc (encI .i64) r6.1 0 3 1), (0, .cells [ii r1.1, ii r1.2.1, ii r1.2.2] 0 23 0)], 3)) := by
                   refine XA.step E0_ok [5, 9, 12] (by kernel_rfl) rfl (by kernel_rfl) ⟨?_, ?_, ?_, trivial⟩
                   ·refine XR.rd E0_ok [3, 10, 13, 15, 140, 143, 146, 150] rfl (v := ii (List.getD r9 (Int.toNat r1.2.2) 0)) (v_load1 (encI_ok .i64) (x := (src 181 (.tmp 139))) (b := 3) (off := (Int.toNat r1.2.2) * 1) (xs := r9) (fz := 0) (e := 3) (es := 1) (d := (some (path 12 140))) (by kernel_rfl) (by kernel_rfl) (by kernel_rfl) (Int.toNat r1.2.2) 0 0 (by first | rfl | omega) (row_len (inRow_toNat b21) (by simp)) rfl rfl) (σ' := [(3, pp 0 0), (10, s0 1 r6.1.length), (13, s0 2 r7.1.length), (15, ii (gR r1 r2 r4)), (140, ii (List.getD r9 (Int.toNat r1.2.2) 0)), (143, pp 4 ((Int.toNat r2.1) * 1)), (146, pp 0 0), (150, ii r1.1)]) (by kernel_rfl) ?_
                    refine XR.done (by kernel_rfl) ?_
                    refine ⟨rfl, ?_⟩
                    show XA _ _ _ _ _ _ _ _ _ _
                    refine XA.ren (σ' := [(3, pp 0 0), (10, s0 1 r6.1.length), (13, s0 2 r7.1.length), (15, ii (gR r1 r2 r4)), (140, ii (List.getD r9 (Int.toNat r1.2.2) 0)), (143, pp 3 ((Int.toNat r2.1) * 1)), (146, pp 0 0), (150, ii r1.1)]) (h' := [(3, rc (encI .i64) r4 0 3 1), (2, rc (encI .i64) r7.1 0 3 1), (1, rc (encI .i64) r6.1 0 3 1), (0, .cells [ii r1.1, ii r1.2.1, ii r1.2.2] 0 23 0)]) (c' := 4) [0, 1, 2, 4] (by decide) rfl ⟨by kernel_rfl, by kernel_rfl, by kernel_rfl, by kernel_rfl, by kernel_rfl, by kernel_rfl, by kernel_rfl, by kernel_rfl, trivial⟩ ⟨⟨_, _, rfl, rfl, .inl ⟨rfl, rowC_scal (encI_ok .i64) _⟩⟩, ⟨_, _, rfl, rfl, .inl ⟨rfl, rowC_scal (encI_ok .i64) _⟩⟩, ⟨_, _, rfl, rfl, .inl ⟨rfl, rowC_scal (encI_ok .i64) _⟩⟩, ⟨_, _, rfl, rfl, .inr ⟨_, _, _, _, rfl, rfl⟩⟩, trivial⟩ rfl ?_
                    exact xa20
                   ·refine XR.rd E0_ok [3, 10, 13, 15, 139, 144, 146, 150] rfl (v := ii (List.getD r4 (Int.toNat r2.1) 0)) (v_load1 (encI_ok .i64) (x := (src 181 (.tmp 143))) (b := 4) (off := (Int.toNat r2.1) * 1) (xs := r4) (fz := 0) (e := 3) (es := 1) (d := (some (path 12 144))) (by kernel_rfl) (by kernel_rfl) (by kernel_rfl) (Int.toNat r2.1) 0 0 (by first | rfl | omega) (row_len (inRow_toNat b17) (by simp)) rfl rfl) (σ' := [(3, pp 0 0), (10, s0 1 r6.1.length), (13, s0 2 r7.1.length), (15, ii (gR r1 r2 r4)), (139, pp 3 ((Int.toNat r1.2.2) * 1)), (144, ii (List.getD r4 (Int.toNat r2.1) 0)), (146, pp 0 0), (150, ii r1.1)]) (by kernel_rfl) ?_
                    refine XR.done (by kernel_rfl) ?_
                    refine ⟨rfl, ?_⟩
                    show XA _ _ _ _ _ _ _ _ _ _
                    refine XA.ren (σ' := [(3, pp 0 0), (10, s0 1 r6.1.length), (13, s0 2 r7.1.length), (15, ii (gR r1 r2 r4)), (139, pp 3 ((Int.toNat r1.2.2) * 1)), (144, ii (List.getD r4 (Int.toNat r2.1) 0)), (146, pp 0 0), (150, ii r1.1)]) (h' := [(3, rc (encI .i64) r9 0 3 1), (2, rc (encI .i64) r7.1 0 3 1), (1, rc (encI .i64) r6.1 0 3 1), (0, .cells [ii r1.1, ii r1.2.1, ii r1.2.2] 0 23 0)]) (c' := 4) [0, 1, 2, 3] (by decide) rfl ⟨by kernel_rfl, by kernel_rfl, by kernel_rfl, by kernel_rfl, by kernel_rfl, by kernel_rfl, by kernel_rfl, by kernel_rfl, trivial⟩ ⟨⟨_, _, rfl, rfl, .inl ⟨rfl, rowC_scal (encI_ok .i64) _⟩⟩, ⟨_, _, rfl, rfl, .inl ⟨rfl, rowC_scal (encI_ok .i64) _⟩⟩, ⟨_, _, rfl, rfl, .inl ⟨rfl, rowC_scal (encI_ok .i64) _⟩⟩, ⟨_, _, rfl, rfl, .inr ⟨_, _, _, _, rfl, rfl⟩⟩, trivial⟩ rfl ?_
                    exact xa24
                   ·refine XR.runS E0_ok 1 1 [(3, pp 0 0), (10, s0 1 r6.1.length), (13, s0 2 r7.1.length), (15, ii (gR r1 r2 r4)), (139, pp 3 ((Int.toNat r1.2.2) * 1)), (143, pp 4 ((Int.toNat r2.1) * 1)), (147, ii r1.1), (150, ii r1.1)] rfl (by kernel_rfl) ?_
                    refine XR.done (by kernel_rfl) ?_
                    refine ⟨rfl, ?_⟩
                    show XA _ _ _ _ _ _ _ _ _ _
                    exact xa26
                  have xa4 : XA E0 181 0 (opsOf (lft (rgt (rgt (rgt (rgt (rgt (rgt (rgt (rgt (rgt (rgt (rgt (rgt (rgt (rgt f14_C14)))))))))))))))) 8 #[true, true, true, true, true, false, true, true, true, false, false, true, false, false, true, false, false, false] [(3, pp 0 0), (10, s0 1 r6.1.length), (13, s0 2 r7.1.length), (15, ii (gR r1 r2 r4)), (139, pp 3 ((Int.toNat r1.2.2) * 1)), (143, pp 4 ((Int.toNat r2.1) * 1)), (146, pp 0 0), (149, pp 0 0)] [(4, rc (encI .i64) r4 0 3 1), (3, rc (encI .i64) r9 0 3 1), (2, rc (encI .i64) r7.1 0 3 1), (1, rc (encI .i64) r6.1 0 3 1), (0, .cells [ii r1.1, ii r1.2.1, ii r1.2.2] 0 23 0)] 5 (fun e σ1 h1 c1 => e = .normal ∧ (σ1, h1, c1) = ([(3, pp 0 0), (10, s0 1 r6.1.length), (13, s0 2 r7.1.length), (15, ii (gR r1 r2 r4)), (16, ii (Int.tmod (w64 ((w64 ((List.getD r9 (Int.toNat r1.2.2) 0) - (List.getD r4 (Int.toNat r2.1) 0))) + r1.1)) r1.1))], [(2, rc (encI .i64) r7.1 0 3 1), (1, rc (encI .i64) r6.1 0 3 1), (0, .cells [ii r1.1, ii r1.2.1, ii r1.2.2] 0 23 0)], 3)) := by
                   refine XA.step E0_ok [5, 9, 12, 15] (by kernel_rfl) rfl (by kernel_rfl) ⟨?_, ?_, ?_, ?_, trivial⟩
                   ·refine XR.rd E0_ok [3, 10, 13, 15, 140, 143, 146, 149] rfl (v := ii (List.getD r9 (Int.toNat r1.2.2) 0)) (v_load1 (encI_ok .i64) (x := (src 181 (.tmp 139))) (b := 3) (off := (Int.toNat r1.2.2) * 1) (xs := r9) (fz := 0) (e := 3) (es := 1) (d := (some (path 12 140))) (by kernel_rfl) (by kernel_rfl) (by kernel_rfl) (Int.toNat r1.2.2) 0 0 (by first | rfl | omega) (row_len (inRow_toNat b21) (by simp)) rfl rfl) (σ' := [(3, pp 0 0), (10, s0 1 r6.1.length), (13, s0 2 r7.1.length), (15, ii (gR r1 r2 r4)), (140, ii (List.getD r9 (Int.toNat r1.2.2) 0)), (143, pp 4 ((Int.toNat r2.1) * 1)), (146, pp 0 0), (149, pp 0 0)]) (by kernel_rfl) ?_
                    refine XR.done (by kernel_rfl) ?_
                    refine ⟨rfl, ?_⟩
                    show XA _ _ _ _ _ _ _ _ _ _
                    refine XA.ren (σ' := [(3, pp 0 0), (10, s0 1 r6.1.length), (13, s0 2 r7.1.length), (15, ii (gR r1 r2 r4)), (140, ii (List.getD r9 (Int.toNat r1.2.2) 0)), (143, pp 3 ((Int.toNat r2.1) * 1)), (146, pp 0 0), (149, pp 0 0)]) (h' := [(3, rc (encI .i64) r4 0 3 1), (2, rc (encI .i64) r7.1 0 3 1), (1, rc (encI .i64) r6.1 0 3 1), (0, .cells [ii r1.1, ii r1.2.1, ii r1.2.2] 0 23 0)]) (c' := 4) [0, 1, 2, 4] (by decide) rfl ⟨by kernel_rfl, by kernel_rfl, by kernel_rfl, by kernel_rfl, by kernel_rfl, by kernel_rfl, by kernel_rfl, by kernel_rfl, trivial⟩ ⟨⟨_, _, rfl, rfl, .inl ⟨rfl, rowC_scal (encI_ok .i64) _⟩⟩, ⟨_, _, rfl, rfl, .inl ⟨rfl, rowC_scal (encI_ok .i64) _⟩⟩, ⟨_, _, rfl, rfl, .inl ⟨rfl, rowC_scal (encI_ok .i64) _⟩⟩, ⟨_, _, rfl, rfl, .inr ⟨_, _, _, _, rfl, rfl⟩⟩, trivial⟩ rfl ?_
                    exact xa5
                   ·refine XR.rd E0_ok [3, 10, 13, 15, 139, 144, 146, 149] rfl (v := ii (List.getD r4 (Int.toNat r2.1) 0)) (v_load1 (encI_ok .i64) (x := (src 181 (.tmp 143))) (b := 4) (off := (Int.toNat r2.1) * 1) (xs := r4) (fz := 0) (e := 3) (es := 1) (d := (some (path 12 144))) (by kernel_rfl) (by kernel_rfl) (by kernel_rfl) (Int.toNat r2.1) 0 0 (by first | rfl | omega) (row_len (inRow_toNat b17) (by simp)) rfl rfl) (σ' := [(3, pp 0 0), (10, s0 1 r6.1.length), (13, s0 2 r7.1.length), (15, ii (gR r1 r2 r4)), (139, pp 3 ((Int.toNat r1.2.2) * 1)), (144, ii (List.getD r4 (Int.toNat r2.1) 0)), (146, pp 0 0), (149, pp 0 0)]) (by kernel_rfl) ?_
                    refine XR.done (by kernel_rfl) ?_
                    refine ⟨rfl, ?_⟩
                    show XA _ _ _ _ _ _ _ _ _ _
                    refine XA.ren (σ' := [(3, pp 0 0), (10, s0 1 r6.1.length), (13, s0 2 r7.1.length), (15, ii (gR r1 r2 r4)), (139, pp 3 ((Int.toNat r1.2.2) * 1)), (144, ii (List.getD r4 (Int.toNat r2.1) 0)), (146, pp 0 0), (149, pp 0 0)]) (h' := [(3, rc (encI .i64) r9 0 3 1), (2, rc (encI .i64) r7.1 0 3 1), (1, rc (encI .i64) r6.1 0 3 1), (0, .cells [ii r1.1, ii r1.2.1, ii r1.2.2] 0 23 0)]) (c' := 4) [0, 1, 2, 3] (by decide) rfl ⟨by kernel_rfl, by kernel_rfl, by kernel_rfl, by kernel_rfl, by kernel_rfl, by kernel_rfl, by kernel_rfl, by kernel_rfl, trivial⟩ ⟨⟨_, _, rfl, rfl, .inl ⟨rfl, rowC_scal (encI_ok .i64) _⟩⟩, ⟨_, _, rfl, rfl, .inl ⟨rfl, rowC_scal (encI_ok .i64) _⟩⟩, ⟨_, _, rfl, rfl, .inl ⟨rfl, rowC_scal (encI_ok .i64) _⟩⟩, ⟨_, _, rfl, rfl, .inr ⟨_, _, _, _, rfl, rfl⟩⟩, trivial⟩ rfl ?_
                    exact xa21
                   ·refine XR.runS E0_ok 1 1 [(3, pp 0 0), (10, s0 1 r6.1.length), (13, s0 2 r7.1.length), (15, ii (gR r1 r2 r4)), (139, pp 3 ((Int.toNat r1.2.2) * 1)), (143, pp 4 ((Int.toNat r2.1) * 1)), (147, ii r1.1), (149, pp 0 0)] rfl (by kernel_rfl) ?_
                    refine XR.done (by kernel_rfl) ?_
                    refine ⟨rfl, ?_⟩
                    show XA _ _ _ _ _ _ _ _ _ _
                    exact xa25
                   ·refine XR.runS E0_ok 1 1 [(3, pp 0 0), (10, s0 1 r6.1.length), (13, s0 2 r7.1.length), (15, ii (gR r1 r2 r4)), (139, pp 3 ((Int.toNat r1.2.2) * 1)), (143, pp 4 ((Int.toNat r2.1) * 1)), (146, pp 0 0), (150, ii r1.1)] rfl (by kernel_rfl) ?_
                    refine XR.done (by kernel_rfl) ?_
                    refine ⟨rfl, ?_⟩
                    show XA _ _ _ _ _ _ _ _ _ _
                    exact xa27
                  have xa30 : XA E0 181 0 (opsOf (lft (rgt (rgt (rgt (rgt (rgt (rgt (rgt (rgt (rgt (rgt (rgt (rgt (rgt (rgt f14_C14)))))))))))))))) 6 #[true, true, true, true, false, false, true, true, true, true, false, true, true, false, true, true, false, false] [(3, pp 0 0), (10, s0 1 r6.1.length), (13, s0 2 r7.1.length), (15, ii (gR r1 r2 r4)), (136, s0 3 r9.length), (138, ii r1.2.2), (144, ii (List.getD r4 (Int.toNat r2.1) 0)), (147, ii r1.1), (150, ii r1.1)] [(3, rc (encI .i64) r9 0 3 1), (2, rc (encI .i64) r7.1 0 3 1), (1, rc (encI .i64) r6.1 0 3 1), (0, .cells [ii r1.1, ii r1.2.1, ii r1.2.2] 0 23 0)] 4 (fun e σ1 h1 c1 => e = .normal ∧ (σ1, h1, c1) = ([(3, pp 0 0), (10, s0 1 r6.1.length), (13, s0 2 r7.1.length), (15, ii (gR r1 r2 r4)), (16, ii (Int.tmod (w64 ((w64 ((List.getD r9 (Int.toNat r1.2.2) 0) - (List.getD r4 (Int.toNat r2.1) 0))) + r1.1)) r1.1))], [(2, rc (encI .i64) r7.1 0 3 1), (1, rc (encI .i64) r6.1 0 3 1), (0, .cells [ii r1.1, ii r1.2.1, ii r1.2.2] 0 23 0)], 3)) := by
                   refine XA.step E0_ok [4] (by kernel_rfl) rfl (by kernel_rfl) ⟨?_, trivial⟩
                   ·refine XR.rd E0_ok [3, 10, 13, 15, 139, 144, 147, 150] rfl (v := pp 3 ((Int.toNat r1.2.2) * 1)) (v_idx (s := 1) (x := (src 181 (.tmp 136))) (y := (src 181 (.tmp 138))) (b := 3) (o := 0) (len := r9.length) (cap := r9.length) (ik := .i64) (i := r1.2.2) (off := (Int.toNat r1.2.2) * 1) (d := (some (path 12 139))) (by kernel_rfl) (by kernel_rfl) (by kernel_rfl) b21 (by omega)) (σ' := [(3, pp 0 0), (10, s0 1 r6.1.length), (13, s0 2 r7.1.length), (15, ii (gR r1 r2 r4)), (139, pp 3 ((Int.toNat r1.2.2) * 1)), (144, ii (List.getD r4 (Int.toNat r2.1) 0)), (147, ii r1.1), (150, ii r1.1)]) (by kernel_rfl) ?_
                    refine XR.done (by kernel_rfl) ?_
                    refine ⟨rfl, ?_⟩
                    show XA _ _ _ _ _ _ _ _ _ _
                    exact xa23
                  have xa29 : XA E0 181 0 (opsOf (lft (rgt (rgt (rgt (rgt (rgt (rgt (rgt (rgt (rgt (rgt (rgt (rgt (rgt (rgt f14_C14)))))))))))))))) 7 #[true, true, true, true, false, false, true, true, true, true, false, true, true, false, true, false, false, false] [(3, pp 0 0), (10, s0 1 r6.1.length), (13, s0 2 r7.1.length), (15, ii (gR r1 r2 r4)), (136, s0 3 r9.length), (138, ii r1.2.2), (144, ii (List.getD r4 (Int.toNat r2.1) 0)), (147, ii r1.1), (149, pp 0 0)] [(3, rc (encI .i64) r9 0 3 1), (2, rc (encI .i64) r7.1 0 3 1), (1, rc (encI .i64) r6.1 0 3 1), (0, .cells [ii r1.1, ii r1.2.1, ii r1.2.2] 0 23 0)] 4 (fun e σ1 h1 c1 => e = .normal ∧ (σ1, h1, c1) = ([(3, pp 0 0), (10, s0 1 r6.1.length), (13, s0 2 r7.1.length), (15, ii (gR r1 r2 r4)), (16, ii (Int.tmod (w64 ((w64 ((List.getD r9 (Int.toNat r1.2.2) 0) - (List.getD r4 (Int.toNat r2.1) 0))) + r1.1)) r1.1))], [(2, rc (encI .i64) r7.1 0 3 1), (1, rc (encI .i64) r6.1 0 3 1), (0, .cells [ii r1.1, ii r1.2.1, ii r1.2.2] 0 23 0)], 3)) := by
                   refine XA.step E0_ok [4, 15] (by kernel_rfl) rfl (by kernel_rfl) ⟨?_, ?_, trivial⟩
                   ·refine XR.rd E0_ok [3, 10, 13, 15, 139, 144, 147, 149] rfl (v := pp 3 ((Int.toNat r1.2.2) * 1)) (v_idx (s := 1) (x := (src 181 (.tmp 136))) (y := (src 181 (.tmp 138))) (b := 3) (o := 0) (len := r9.length) (cap := r9.length) (ik := .i64) (i := r1.2.2) (off := (Int.toNat r1.2.2) * 1) (d := (some (path 12 139))) (by kernel_rfl) (by kernel_rfl) (by kernel_rfl) b21 (by omega)) (σ' := [(3, pp 0 0), (10, s0 1 r6.1.length), (13, s0 2 r7.1.length), (15, ii (gR r1 r2 r4)), (139, pp 3 ((Int.toNat r1.2.2) * 1)), (144, ii (List.getD r4 (Int.toNat r2.1) 0)), (147, ii r1.1), (149, pp 0 0)]) (by kernel_rfl) ?_
                    refine XR.done (by kernel_rfl) ?_
                    refine ⟨rfl, ?_⟩
                    show XA _ _ _ _ _ _ _ _ _ _
                    exact xa22
                   ·refine XR.runS E0_ok 1 1 [(3, pp 0 0), (10, s0 1 r6.1.length), (13, s0 2 r7.1.length), (15, ii (gR r1 r2 r4)), (136, s0 3 r9.length), (138, ii r1.2.2), (144, ii (List.getD r4 (Int.toNat r2.1) 0)), (147, ii r1.1), (150, ii r1.1)] rfl (by kernel_rfl) ?_
                    refine XR.done (by kernel_rfl) ?_
                    refine ⟨rfl, ?_⟩
                    show XA _ _ _ _ _ _ _ _ _ _
                    exact xa30
                  have xa31 : XA E0 181 0 (opsOf (lft (rgt (rgt (rgt (rgt (rgt (rgt (rgt (rgt (rgt (rgt (rgt (rgt (rgt (rgt f14_C14)))))))))))))))) 7 #[true, true, true, true, false, false, true, true, true, true, false, true, false, false, true, true, false, false] [(3, pp 0 0), (10, s0 1 r6.1.length), (13, s0 2 r7.1.length), (15, ii (gR r1 r2 r4)), (136, s0 3 r9.length), (138, ii r1.2.2), (144, ii (List.getD r4 (Int.toNat r2.1) 0)), (146, pp 0 0), (150, ii r1.1)] [(3, rc (encI .i64) r9 0 3 1), (2, rc (encI .i64) r7.1 0 3 1), (1, rc (encI .i64) r6.1 0 3 1), (0, .cells [ii r1.1, ii r1.2.1, ii r1.2.2] 0 23 0)] 4 (fun e σ1 h1 c1 => e = .normal ∧ (σ1, h1, c1) = ([(3, pp 0 0), (10, s0 1 r6.1.length), (13, s0 2 r7.1.length), (15, ii (gR r1 r2 r4)), (16, ii (Int.tmod (w64 ((w64 ((List.getD r9 (Int.toNat r1.2.2) 0) - (List.getD r4 (Int.toNat r2.1) 0))) + r1.1)) r1.1))], [(2, rc (encI .i64) r7.1 0 3 1), (1, rc (encI .i64) r6.1 0 3 1), (0, .cells [ii r1.1, ii r1.2.1, ii r1.2.2] 0 23 0)], 3)) := by
                   refine XA.step E0_ok [4, 12] (by kernel_rfl) rfl (by kernel_rfl) ⟨?_, ?_, trivial⟩
                   ·refine XR.rd E0_ok [3, 10, 13, 15, 139, 144, 146, 150] rfl (v := pp 3 ((Int.toNat r1.2.2) * 1)) (v_idx (s := 1) (x := (src 181 (.tmp 136))) (y := (src 181 (.tmp 138))) (b := 3) (o := 0) (len := r9.length) (cap := r9.length) (ik := .i64) (i := r1.2.2) (off := (Int.toNat r1.2.2) * 1) (d := (some (path 12 139))) (by kernel_rfl) (by kernel_rfl) (by kernel_rfl) b21 (by omega)) (σ' := [(3, pp 0 0), (10, s0 1 r6.1.length), (13, s0 2 r7.1.length), (15, ii (gR r1 r2 r4)), (139, pp 3 ((Int.toNat r1.2.2) * 1)), (144, ii (List.getD r4 (Int.toNat r2.1) 0)), (146, pp 0 0), (150, ii r1.1)]) (by kernel_rfl) ?_
                    refine XR.done (by kernel_rfl) ?_
                    refine ⟨rfl, ?_⟩
                    show XA _ _ _ _ _ _ _ _ _ _
                    exact xa24
                   ·refine XR.runS E0_ok 1 1 [(3, pp 0 0), (10, s0 1 r6.1.length), (13, s0 2 r7.1.length), (15, ii (gR r1 r2 r4)), (136, s0 3 r9.length), (138, ii r1.2.2), (144, ii (List.getD r4 (Int.toNat r2.1) 0)), (147, ii r1.1), (150, ii r1.1)] rfl (by kernel_rfl) ?_
                    refine XR.done (by kernel_rfl) ?_
                    refine ⟨rfl, ?_⟩
                    show XA _ _ _ _ _ _ _ _ _ _
                    exact xa30
                  have xa28 : XA E0 181 0 (opsOf (lft (rgt (rgt (rgt (rgt (rgt (rgt (rgt (rgt (rgt (rgt (rgt (rgt (rgt (rgt f14_C14)))))))))))))))) 8 #[true, true, true, true, false, false, true, true, true, true, false, true, false, false, true, false, false, false] [(3, pp 0 0), (10, s0 1 r6.1.length), (13, s0 2 r7.1.length), (15, ii (gR r1 r2 r4)), (136, s0 3 r9.length), (138, ii r1.2.2), (144, ii (List.getD r4 (Int.toNat r2.1) 0)), (146, pp 0 0), (149, pp 0 0)] [(3, rc (encI .i64) r9 0 3 1), (2, rc (encI .i64) r7.1 0 3 1), (1, rc (encI .i64) r6.1 0 3 1), (0, .cells [ii r1.1, ii r1.2.1, ii r1.2.2] 0 23 0)] 4 (fun e σ1 h1 c1 => e = .normal ∧ (σ1, h1, c1) = ([(3, pp 0 0), (10, s0 1 r6.1.length), (13, s0 2 r7.1.length), (15, ii (gR r1 r2 r4)), (16, ii (Int.tmod (w64 ((w64 ((List.getD r9 (Int.toNat r1.2.2) 0) - (List.getD r4 (Int.toNat r2.1) 0))) + r1.1)) r1.1))], [(2, rc (encI .i64) r7.1 0 3 1), (1, rc (encI .i64) r6.1 0 3 1), (0, .cells [ii r1.1, ii r1.2.1, ii r1.2.2] 0 23 0)], 3)) := by
                   refine XA.step E0_ok [4, 12, 15] (by kernel_rfl) rfl (by kernel_rfl) ⟨?_, ?_, ?_, trivial⟩
                   ·refine XR.rd E0_ok [3, 10, 13, 15, 139, 144, 146, 149] rfl (v := pp 3 ((Int.toNat r1.2.2) * 1)) (v_idx (s := 1) (x := (src 181 (.tmp 136))) (y := (src 181 (.tmp 138))) (b := 3) (o := 0) (len := r9.length) (cap := r9.length) (ik := .i64) (i := r1.2.2) (off := (Int.toNat r1.2.2) * 1) (d := (some (path 12 139))) (by kernel_rfl) (by kernel_rfl) (by kernel_rfl) b21 (by omega)) (σ' := [(3, pp 0 0), (10, s0 1 r6.1.length), (13, s0 2 r7.1.length), (15, ii (gR r1 r2 r4)), (139, pp 3 ((Int.toNat r1.2.2) * 1)), (144, ii (List.getD r4 (Int.toNat r2.1) 0)), (146, pp 0 0), (149, pp 0 0)]) (by kernel_rfl) ?_
                    refine XR.done (by kernel_rfl) ?_
                    refine ⟨rfl, ?_⟩
                    show XA _ _ _ _ _ _ _ _ _ _
                    exact xa21
                   ·refine XR.runS E0_ok 1 1 [(3, pp 0 0), (10, s0 1 r6.1.length), (13, s0 2 r7.1.length), (15, ii (gR r1 r2 r4)), (136, s0 3 r9.length), (138, ii r1.2.2), (144, ii (List.getD r4 (Int.toNat r2.1) 0)), (147, ii r1.1), (149, pp 0 0)] rfl (by kernel_rfl) ?_
                    refine XR.done (by kernel_rfl) ?_
                    refine ⟨rfl, ?_⟩
                    show XA _ _ _ _ _ _ _ _ _ _
                    exact xa29
                   ·refine XR.runS E0_ok 1 1 [(3, pp 0 0), (10, s0 1 r6.1.length), (13, s0 2 r7.1.length), (15, ii (gR r1 r2 r4)), (136, s0 3 r9.length), (138, ii r1.2.2), (144, ii (List.getD r4 (Int.toNat r2.1) 0)), (146, pp 0 0), (150, ii r1.1)] rfl (by kernel_rfl) ?_
                    refine XR.done (by kernel_rfl) ?_
                    refine ⟨rfl, ?_⟩
                    show XA _ _ _ _ _ _ _ _ _ _
                    exact xa31
                  have xa33 : XA E0 181 0 (opsOf (lft (rgt (rgt (rgt (rgt (rgt (rgt (rgt (rgt (rgt (rgt (rgt (rgt (rgt (rgt f14_C14)))))))))))))))) 7 #[true, true, true, true, false, false, true, true, true, false, false, true, true, false, true, true, false, false] [(3, pp 0 0), (10, s0 1 r6.1.length), (13, s0 2 r7.1.length), (15, ii (gR r1 r2 r4)), (136, s0 3 r9.length), (138, ii r1.2.2), (143, pp 4 ((Int.toNat r2.1) * 1)), (147, ii r1.1), (150, ii r1.1)] [(4, rc (encI .i64) r4 0 3 1), (3, rc (encI .i64) r9 0 3 1), (2, rc (encI .i64) r7.1 0 3 1), (1, rc (encI .i64) r6.1 0 3 1), (0, .cells [ii r1.1, ii r1.2.1, ii r1.2.2] 0 23 0)] 5 (fun e σ1 h1 c1 => e = .normal ∧ (σ1, h1, c1) = ([(3, pp 0 0), (10, s0 1 r6.1.length), (13, s0 2 r7.1.length), (15, ii (gR r1 r2 r4)), (16, ii (Int.tmod (w64 ((w64 ((List.getD r9 (Int.toNat r1.2.2) 0) - (List.getD r4 (Int.toNat r2.1) 0))) + r1.1)) r1.1))], [(2, rc (encI .i64) r7.1 0 3 1), (1, rc (encI .i64) r6.1 0 3 1), (0, .cells [ii r1.1, ii r1.2.1, ii r1.2.2] 0 23 0)], 3)) := by
                   refine XA.step E0_ok [4, 9] (by kernel_rfl) rfl (by kernel_rfl) ⟨?_, ?_, trivial⟩
                   ·refine XR.rd E0_ok [3, 10, 13, 15, 139, 143, 147, 150] rfl (v := pp 3 ((Int.toNat r1.2.2) * 1)) (v_idx (s := 1) (x := (src 181 (.tmp 136))) (y := (src 181 (.tmp 138))) (b := 3) (o := 0) (len := r9.length) (cap := r9.length) (ik := .i64) (i := r1.2.2) (off := (Int.toNat r1.2.2) * 1) (d := (some (path 12 139))) (by kernel_rfl) (by kernel_rfl) (by kernel_rfl) b21 (by omega)) (σ' := [(3, pp 0 0), (10, s0 1 r6.1.length), (13, s0 2 r7.1.length), (15, ii (gR r1 r2 r4)), (139, pp 3 ((Int.toNat r1.2.2) * 1)), (143, pp 4 ((Int.toNat r2.1) * 1)), (147, ii r1.1), (150, ii r1.1)]) (by kernel_rfl) ?_
                    refine XR.done (by kernel_rfl) ?_
                    refine ⟨rfl, ?_⟩
                    show XA _ _ _ _ _ _ _ _ _ _
                    exact xa26
                   ·refine XR.rd E0_ok [3, 10, 13, 15, 136, 138, 144, 147, 150] rfl (v := ii (List.getD r4 (Int.toNat r2.1) 0)) (v_load1 (encI_ok .i64) (x := (src 181 (.tmp 143))) (b := 4) (off := (Int.toNat r2.1) * 1) (xs := r4) (fz := 0) (e := 3) (es := 1) (d := (some (path 12 144))) (by kernel_rfl) (by kernel_rfl) (by kernel_rfl) (Int.toNat r2.1) 0 0 (by first | rfl | omega) (row_len (inRow_toNat b17) (by simp)) rfl rfl) (σ' := [(3, pp 0 0), (10, s0 1 r6.1.length), (13, s0 2 r7.1.length), (15, ii (gR r1 r2 r4)), (136, s0 3 r9.length), (138, ii r1.2.2), (144, ii (List.getD r4 (Int.toNat r2.1) 0)), (147, ii r1.1), (150, ii r1.1)]) (by kernel_rfl) ?_
                    refine XR.done (by kernel_rfl) ?_
                    refine ⟨rfl, ?_⟩
                    show XA _ _ _ _ _ _ _ _ _ _
                    refine XA.ren (σ' := [(3, pp 0 0), (10, s0 1 r6.1.length), (13, s0 2 r7.1.length), (15, ii (gR r1 r2 r4)), (136, s0 3 r9.length), (138, ii r1.2.2), (144, ii (List.getD r4 (Int.toNat r2.1) 0)), (147, ii r1.1), (150, ii r1.1)]) (h' := [(3, rc (encI .i64) r9 0 3 1), (2, rc (encI .i64) r7.1 0 3 1), (1, rc (encI .i64) r6.1 0 3 1), (0, .cells [ii r1.1, ii r1.2.1, ii r1.2.2] 0 23 0)]) (c' := 4) [0, 1, 2, 3] (by decide) rfl ⟨by kernel_rfl, by kernel_rfl, by kernel_rfl, by kernel_rfl, by kernel_rfl, by kernel_rfl, by kernel_rfl, by kernel_rfl, by kernel_rfl, trivial⟩ ⟨⟨_, _, rfl, rfl, .inl ⟨rfl, rowC_scal (encI_ok .i64) _⟩⟩, ⟨_, _, rfl, rfl, .inl ⟨rfl, rowC_scal (encI_ok .i64) _⟩⟩, ⟨_, _, rfl, rfl, .inl ⟨rfl, rowC_scal (encI_ok .i64) _⟩⟩, ⟨_, _, rfl, rfl, .inr ⟨_, _, _, _, rfl, rfl⟩⟩, trivial⟩ rfl ?_
                    exact xa30
                  have xa32 : XA E0 181 0 (opsOf (lft (rgt (rgt (rgt (rgt (rgt (rgt (rgt (rgt (rgt (rgt (rgt (rgt (rgt (rgt f14_C14)))))))))))))))) 8 #[true, true, true, true, false, false, true, true, true, false, false, true, true, false, true, false, false, false] [(3, pp 0 0), (10, s0 1 r6.1.length), (13, s0 2 r7.1.length), (15, ii (gR r1 r2 r4)), (136, s0 3 r9.length), (138, ii r1.2.2), (143, pp 4 ((Int.toNat r2.1) * 1)), (147, ii r1.1), (149, pp 0 0)] [(4, rc (encI .i64) r4 0 3 1), (3, rc (encI .i64) r9 0 3 1), (2, rc (encI .i64) r7.1 0 3 1), (1, rc (encI .i64) r6.1 0 3 1), (0, .cells [ii r1.1, ii r1.2.1, ii r1.2.2] 0 23 0)] 5 (fun e σ1 h1 c1 => e = .normal ∧ (σ1, h1, c1) = ([(3, pp 0 0), (10, s0 1 r6.1.length), (13, s0 2 r7.1.length), (15, ii (gR r1 r2 r4)), (16, ii (Int.tmod (w64 ((w64 ((List.getD r9 (Int.toNat r1.2.2) 0) - (List.getD r4 (Int.toNat r2.1) 0))) + r1.1)) r1.1))], [(2, rc (encI .i64) r7.1 0 3 1), (1, rc (encI .i64) r6.1 0 3 1), (0, .cells [ii r1.1, ii r1.2.1, ii r1.2.2] 0 23 0)], 3)) := by
                   refine XA.step E0_ok [4, 9, 15] (by kernel_rfl) rfl (by kernel_rfl) ⟨?_, ?_, ?_, trivial⟩
                   ·refine XR.rd E0_ok [3, 10, 13, 15, 139, 143, 147, 149] rfl (v := pp 3 ((Int.toNat r1.2.2) * 1)) (v_idx (s := 1) (x := (src 181 (.tmp 136))) (y := (src 181 (.tmp 138))) (b := 3) (o := 0) (len := r9.length) (cap := r9.length) (ik := .i64) (i := r1.2.2) (off := (Int.toNat r1.2.2) * 1) (d := (some (path 12 139))) (by kernel_rfl) (by kernel_rfl) (by kernel_rfl) b21 (by omega)) (σ' := [(3, pp 0 0), (10, s0 1 r6.1.length), (13, s0 2 r7.1.length), (15, ii (gR r1 r2 r4)), (139, pp 3 ((Int.toNat r1.2.2) * 1)), (143, pp 4 ((Int.toNat r2.1) * 1)), (147, ii r1.1), (149, pp 0 0)]) (by kernel_rfl) ?_
                    refine XR.done (by kernel_rfl) ?_
                    refine ⟨rfl, ?_⟩
                    show XA _ _ _ _ _ _ _ _ _ _
                    exact xa25
                   ·refine XR.rd E0_ok [3, 10, 13, 15, 136, 138, 144, 147, 149] rfl (v := ii (List.getD r4 (Int.toNat r2.1) 0)) (v_load1 (encI_ok .i64) (x := (src 181 (.tmp 143))) (b := 4) (off := (Int.toNat r2.1) * 1) (xs := r4) (fz := 0) (e := 3) (es := 1) (d := (some (path 12 144))) (by kernel_rfl) (by kernel_rfl) (by kernel_rfl) (Int.toNat r2.1) 0 0 (by first | rfl | omega) (row_len (inRow_toNat b17) (by simp)) rfl rfl) (σ' := [(3, pp 0 0), (10, s0 1 r6.1.length), (13, s0 2 r7.1.length), (15, ii (gR r1 r2 r4)), (136, s0 3 r9.length), (138, ii r1.2.2), (144, ii (List.getD r4 (Int.toNat r2.1) 0)), (147, ii r1.1), (149, pp 0 0)]) (by kernel_rfl) ?_
                    refine XR.done (by kernel_rfl) ?_
                    refine ⟨rfl, ?_⟩
                    show XA _ _ _ _ _ _ _ _ _ _
                    refine XA.ren (σ' := [(3, pp 0 0), (10, s0 1 r6.1.length), (13, s0 2 r7.1.length), (15, ii (gR r1 r2 r4)), (136, s0 3 r9.length), (138, ii r1.2.2), (144, ii (List.getD r4 (Int.toNat r2.1) 0)), (147, ii r1.1), (149, pp 0 0)]) (h' := [(3, rc (encI .i64) r9 0 3 1), (2, rc (encI .i64) r7.1 0 3 1), (1, rc (encI .i64) r6.1 0 3 1), (0, .cells [ii r1.1, ii r1.2.1, ii r1.2.2] 0 23 0)]) (c' := 4) [0, 1, 2, 3] (by decide) rfl ⟨by kernel_rfl, by kernel_rfl, by kernel_rfl, by kernel_rfl, by kernel_rfl, by kernel_rfl, by kernel_rfl, by kernel_rfl, by kernel_rfl, trivial⟩ ⟨⟨_, _, rfl, rfl, .inl ⟨rfl, rowC_scal (encI_ok .i64) _⟩⟩, ⟨_, _, rfl, rfl, .inl ⟨rfl, rowC_scal (encI_ok .i64) _⟩⟩, ⟨_, _, rfl, rfl, .inl ⟨rfl, rowC_scal (encI_ok .i64) _⟩⟩, ⟨_, _, rfl, rfl, .inr ⟨_, _, _, _, rfl, rfl⟩⟩, trivial⟩ rfl ?_
                    exact xa29
                   ·refine XR.runS E0_ok 1 1 [(3, pp 0 0), (10, s0 1 r6.1.length), (13, s0 2 r7.1.length), (15, ii (gR r1 r2 r4)), (136, s0 3 r9.length), (138, ii r1.2.2), (143, pp 4 ((Int.toNat r2.1) * 1)), (147, ii r1.1), (150, ii r1.1)] rfl (by kernel_rfl) ?_
                    refine XR.done (by kernel_rfl) ?_
                    refine ⟨rfl, ?_⟩
                    show XA _ _ _ _ _ _ _ _ _ _
                    exact xa33
                  have xa34 : XA E0 181 0 (opsOf (lft (rgt (rgt (rgt (rgt (rgt (rgt (rgt (rgt (rgt (rgt (rgt (rgt (rgt (rgt f14_C14)))))))))))))))) 8 #[true, true, true, true, false, false, true, true, true, false, false, true, false, false, true, true, false, false] [(3, pp 0 0), (10, s0 1 r6.1.length), (13, s0 2 r7.1.length), (15, ii (gR r1 r2 r4)), (136, s0 3 r9.length), (138, ii r1.2.2), (143, pp 4 ((Int.toNat r2.1) * 1)), (146, pp 0 0), (150, ii r1.1)] [(4, rc (encI .i64) r4 0 3 1), (3, rc (encI .i64) r9 0 3 1), (2, rc (encI .i64) r7.1 0 3 1), (1, rc (encI .i64) r6.1 0 3 1), (0, .cells [ii r1.1, ii r1.2.1, ii r1.2.2] 0 23 0)] 5 (fun e σ1 h1 c1 => e = .normal ∧ (σ1, h1, c1) = ([(3, pp 0 0), (10, s0 1 r6.1.length), (13, s0 2 r7.1.length), (15, ii (gR r1 r2 r4)), (16, ii (Int.tmod (w64 ((w64 ((List.getD r9 (Int.toNat r1.2.2) 0) - (List.getD r4 (Int.toNat r2.1) 0))) + r1.1)) r1.1))], [(2, rc (encI .i64) r7.1 0 3 1), (1, rc (encI .i64) r6.1 0 3 1), (0, .cells [ii r1.1, ii r1.2.1, ii r1.2.2] 0 23 0)], 3)) := by
                   refine XA.step E0_ok [4, 9, 12] (by kernel_rfl) rfl (by kernel_rfl) ⟨?_, ?_, ?_, trivial⟩
                   ·refine XR.rd E0_ok [3, 10, 13, 15, 139, 143, 146, 150] rfl (v := pp 3 ((Int.toNat r1.2.2) * 1)) (v_idx (s := 1) (x := (src 181 (.tmp 136))) (y := (src 181 (.tmp 138))) (b := 3) (o := 0) (len := r9.length) (cap := r9.length) (ik := .i64) (i := r1.2.2) (off := (Int.toNat r1.2.2) * 1) (d := (some (path 12 139))) (by kernel_rfl) (by kernel_rfl) (by kernel_rfl) b21 (by omega)) (σ' := [(3, pp 0 0), (10, s0 1 r6.1.length), (13, s0 2 r7.1.length), (15, ii (gR r1 r2 r4)), (139, pp 3 ((Int.toNat r1.2.2) * 1)), (143, pp 4 ((Int.toNat r2.1) * 1)), (146, pp 0 0), (150, ii r1.1)]) (by kernel_rfl) ?_
                    refine XR.done (by kernel_rfl) ?_
                    refine ⟨rfl, ?_⟩
                    show XA _ _ _ _ _ _ _ _ _ _
                    exact xa27
                   ·refine XR.rd E0_ok [3, 10, 13, 15, 136, 138, 144, 146, 150] rfl (v := ii (List.getD r4 (Int.toNat r2.1) 0)) (v_load1 (encI_ok .i64) (x := (src 181 (.tmp 143))) (b := 4) (off := (Int.toNat r2.1) * 1) (xs := r4) (fz := 0) (e := 3) (es := 1) (d := (some (path 12 144))) (by kernel_rfl) (by kernel_rfl) (by kernel_rfl) (Int.toNat r2.1) 0 0 (by first | rfl | omega) (row_len (inRow_toNat b17) (by simp)) rfl rfl) (σ' := [(3, pp 0 0), (10, s0 1 r6.1.length), (13, s0 2 r7.1.length), (15, ii (gR r1 r2 r4)), (136, s0 3 r9.length), (138, ii r1.2.2), (144, ii (List.getD r4 (Int.toNat r2.1) 0)), (146, pp 0 0), (150, ii r1.1)]) (by kernel_rfl) ?_
                    refine XR.done (by kernel_rfl) ?_
                    refine ⟨rfl, ?_⟩
                    show XA _ _ _ _ _ _ _ _ _ _
                    refine XA.ren (σ' := [(3, pp 0 0), (10, s0 1 r6.1.length), (13, s0 2 r7.1.length), (15, ii (gR r1 r2 r4)), (136, s0 3 r9.length), (138, ii r1.2.2), (144, ii (List.getD r4 (Int.toNat r2.1) 0)), (146, pp 0 0), (150, ii r1.1)]) (h' := [(3, rc (encI .i64) r9 0 3 1), (2, rc (encI .i64) r7.1 0 3 1), (1, rc (encI .i64) r6.1 0 3 1), (0, .cells [ii r1.1, ii r1.2.1, ii r1.2.2] 0 23 0)]) (c' := 4) [0, 1, 2, 3] (by decide) rfl ⟨by kernel_rfl, by kernel_rfl, by kernel_rfl, by kernel_rfl, by kernel_rfl, by kernel_rfl, by kernel_rfl, by kernel_rfl, by kernel_rfl, trivial⟩ ⟨⟨_, _, rfl, rfl, .inl ⟨rfl, rowC_scal (encI_ok .i64) _⟩⟩, ⟨_, _, rfl, rfl, .inl ⟨rfl, rowC_scal (encI_ok .i64) _⟩⟩, ⟨_, _, rfl, rfl, .inl ⟨rfl, rowC_scal (encI_ok .i64) _⟩⟩, ⟨_, _, rfl, rfl, .inr ⟨_, _, _, _, rfl, rfl⟩⟩, trivial⟩ rfl ?_
                    exact xa31
                   ·refine XR.runS E0_ok 1 1 [(3, pp 0 0), (10, s0 1 r6.1.length), (13, s0 2 r7.1.length), (15, ii (gR r1 r2 r4)), (136, s0 3 r9.length), (138, ii r1.2.2), (143, pp 4 ((Int.toNat r2.1) * 1)), (147, ii r1.1), (150, ii r1.1)] rfl (by kernel_rfl) ?_
                    refine XR.done (by kernel_rfl) ?_
                    refine ⟨rfl, ?_⟩
                    show XA _ _ _ _ _ _ _ _ _ _
                    exact xa33
                  have xa3 : XA E0 181 0 (opsOf (lft (rgt (rgt (rgt (rgt (rgt (rgt (rgt (rgt (rgt (rgt (rgt (rgt (rgt (rgt f14_C14)))))))))))))))) 9 #[true, true, true, true, false, false, true, true, true, false, false, true, false, false, true, false, false, false] [(3, pp 0 0), (10, s0 1 r6.1.length), (13, s0 2 r7.1.length), (15, ii (gR r1 r2 r4)), (136, s0 3 r9.length), (138, ii r1.2.2), (143, pp 4 ((Int.toNat r2.1) * 1)), (146, pp 0 0), (149, pp 0 0)] [(4, rc (encI .i64) r4 0 3 1), (3, rc (encI .i64) r9 0 3 1), (2, rc (encI .i64) r7.1 0 3 1), (1, rc (encI .i64) r6.1 0 3 1), (0, .cells [ii r1.1, ii r1.2.1, ii r1.2.2] 0 23 0)] 5 (fun e σ1 h1 c1 => e = .normal ∧ (σ1, h1, c1) = ([(3, pp 0 0), (10, s0 1 r6.1.length), (13, s0 2 r7.1.length), (15, ii (gR r1 r2 r4)), (16, ii (Int.tmod (w64 ((w64 ((List.getD r9 (Int.toNat r1.2.2) 0) - (List.getD r4 (Int.toNat r2.1) 0))) + r1.1)) r1.1))], [(2, rc (encI .i64) r7.1 0 3 1), (1, rc (encI .i64) r6.1 0 3 1), (0, .cells [ii r1.1, ii r1.2.1, ii r1.2.2] 0 23 0)], 3)) := by
                   refine XA.step E0_ok [4, 9, 12, 15] (by kernel_rfl) rfl (by kernel_rfl) ⟨?_, ?_, ?_, ?_, trivial⟩
                   ·refine XR.rd E0_ok [3, 10, 13, 15, 139, 143, 146, 149] rfl (v := pp 3 ((Int.toNat r1.2.2) * 1)) (v_idx (s := 1) (x := (src 181 (.tmp 136))) (y := (src 181 (.tmp 138))) (b := 3) (o := 0) (len := r9.length) (cap := r9.length) (ik := .i64) (i := r1.2.2) (off := (Int.toNat r1.2.2) * 1) (d := (some (path 12 139))) (by kernel_rfl) (by kernel_rfl) (by kernel_rfl) b21 (by omega)) (σ' := [(3, pp 0 0), (10, s0 1 r6.1.length), (13, s0 2 r7.1.length), (15, ii (gR r1 r2 r4)), (139, pp 3 ((Int.toNat r1.2.2) * 1)), (143, pp 4 ((Int.toNat r2.1) * 1)), (146, pp 0 0), (149, pp 0 0)]) (by kernel_rfl) ?_
                    refine XR.done (by kernel_rfl) ?_
                    refine ⟨rfl, ?_⟩
                    show XA _ _ _ _ _ _ _ _ _ _
                    exact xa4
                   ·refine XR.rd E0_ok [3, 10, 13, 15, 136, 138, 144, 146, 149] rfl (v := ii (List.getD r4 (Int.toNat r2.1) 0)) (v_load1 (encI_ok .i64) (x := (src 181 (.tmp 143))) (b := 4) (off := (Int.toNat r2.1) * 1) (xs := r4) (fz := 0) (e := 3) (es := 1) (d := (some (path 12 144))) (by kernel_rfl) (by kernel_rfl) (by kernel_rfl) (Int.toNat r2.1) 0 0 (by first | rfl | omega) (row_len (inRow_toNat b17) (by simp)) rfl rfl) (σ' := [(3, pp 0 0), (10, s0 1 r6.1.length), (13, s0 2 r7.1.length), (15, ii (gR r1 r2 r4)), (136, s0 3 r9.length), (138, ii r1.2.2), (144, ii (List.getD r4 (Int.toNat r2.1) 0)), (146, pp 0 0), (149, pp 0 0)]) (by kernel_rfl) ?_
                    refine XR.done (by kernel_rfl) ?_
                    refine ⟨rfl, ?_⟩
                    show XA _ _ _ _ _ _ _ _ _ _
                    refine XA.ren (σ' := [(3, pp 0 0), (10, s0 1 r6.1.length), (13, s0 2 r7.1.length), (15, ii (gR r1 r2 r4)), (136, s0 3 r9.length), (138, ii r1.2.2), (144, ii (List.getD r4 (Int.toNat r2.1) 0)), (146, pp 0 0), (149, pp 0 0)]) (h' := [(3, rc (encI .i64) r9 0 3 1), (2, rc (encI .i64) r7.1 0 3 1), (1, rc (encI .i64) r6.1 0 3 1), (0, .cells [ii r1.1, ii r1.2.1, ii r1.2.2] 0 23 0)]) (c' := 4) [0, 1, 2, 3] (by decide) rfl ⟨by kernel_rfl, by kernel_rfl, by kernel_rfl, by kernel_rfl, by kernel_rfl, by kernel_rfl, by kernel_rfl, by kernel_rfl, by kernel_rfl, trivial⟩ ⟨⟨_, _, rfl, rfl, .inl ⟨rfl, rowC_scal (encI_ok .i64) _⟩⟩, ⟨_, _, rfl, rfl, .inl ⟨rfl, rowC_scal (encI_ok .i64) _⟩⟩, ⟨_, _, rfl, rfl, .inl ⟨rfl, rowC_scal (encI_ok .i64) _⟩⟩, ⟨_, _, rfl, rfl, .inr ⟨_, _, _, _, rfl, rfl⟩⟩, trivial⟩ rfl ?_
                    exact xa28
                   ·refine XR.runS E0_ok 1 1 [(3, pp 0 0), (10, s0 1 r6.1.length), (13, s0 2 r7.1.length), (15, ii (gR r1 r2 r4)), (136, s0 3 r9.length), (138, ii r1.2.2), (143, pp 4 ((Int.toNat r2.1) * 1)), (147, ii r1.1), (149, pp 0 0)] rfl (by kernel_rfl) ?_
                    refine XR.done (by kernel_rfl) ?_
                    refine ⟨rfl, ?_⟩
                    show XA _ _ _ _ _ _ _ _ _ _
                    exact xa32
                   ·refine XR.runS E0_ok 1 1 [(3, pp 0 0), (10, s0 1 r6.1.length), (13, s0 2 r7.1.length), (15, ii (gR r1 r2 r4)), (136, s0 3 r9.length), (138, ii r1.2.2), (143, pp 4 ((Int.toNat r2.1) * 1)), (146, pp 0 0), (150, ii r1.1)] rfl (by kernel_rfl) ?_
                    refine XR.done (by kernel_rfl) ?_
                    refine ⟨rfl, ?_⟩
                    show XA _ _ _ _ _ _ _ _ _ _
                    exact xa34
                  have xa37 : XA E0 181 0 (opsOf (lft (rgt (rgt (rgt (rgt (rgt (rgt (rgt (rgt (rgt (rgt (rgt (rgt (rgt (rgt f14_C14)))))))))))))))) 7 #[true, true, true, false, false, false, true, true, true, true, false, true, true, false, true, true, false, false] [(3, pp 0 0), (10, s0 1 r6.1.length), (13, s0 2 r7.1.length), (15, ii (gR r1 r2 r4)), (136, s0 3 r9.length), (137, pp 0 2), (144, ii (List.getD r4 (Int.toNat r2.1) 0)), (147, ii r1.1), (150, ii r1.1)] [(3, rc (encI .i64) r9 0 3 1), (2, rc (encI .i64) r7.1 0 3 1), (1, rc (encI .i64) r6.1 0 3 1), (0, .cells [ii r1.1, ii r1.2.1, ii r1.2.2] 0 23 0)] 4 (fun e σ1 h1 c1 => e = .normal ∧ (σ1, h1, c1) = ([(3, pp 0 0), (10, s0 1 r6.1.length), (13, s0 2 r7.1.length), (15, ii (gR r1 r2 r4)), (16, ii (Int.tmod (w64 ((w64 ((List.getD r9 (Int.toNat r1.2.2) 0) - (List.getD r4 (Int.toNat r2.1) 0))) + r1.1)) r1.1))], [(2, rc (encI .i64) r7.1 0 3 1), (1, rc (encI .i64) r6.1 0 3 1), (0, .cells [ii r1.1, ii r1.2.1, ii r1.2.2] 0 23 0)], 3)) := by
                   refine XA.step E0_ok [3] (by kernel_rfl) rfl (by kernel_rfl) ⟨?_, trivial⟩
                   ·refine XR.runS E0_ok 1 1 [(3, pp 0 0), (10, s0 1 r6.1.length), (13, s0 2 r7.1.length), (15, ii (gR r1 r2 r4)), (136, s0 3 r9.length), (138, ii r1.2.2), (144, ii (List.getD r4 (Int.toNat r2.1) 0)), (147, ii r1.1), (150, ii r1.1)] rfl (by kernel_rfl) ?_
                    refine XR.done (by kernel_rfl) ?_
                    refine ⟨rfl, ?_⟩
                    show XA _ _ _ _ _ _ _ _ _ _
                    exact xa30
                  have xa36 : XA E0 181 0 (opsOf (lft (rgt (rgt (rgt (rgt (rgt (rgt (rgt (rgt (rgt (rgt (rgt (rgt (rgt (rgt f14_C14)))))))))))))))) 8 #[true, true, true, false, false, false, true, true, true, true, false, true, true, false, true, false, false, false] [(3, pp 0 0), (10, s0 1 r6.1.length), (13, s0 2 r7.1.length), (15, ii (gR r1 r2 r4)), (136, s0 3 r9.length), (137, pp 0 2), (144, ii (List.getD r4 (Int.toNat r2.1) 0)), (147, ii r1.1), (149, pp 0 0)] [(3, rc (encI .i64) r9 0 3 1), (2, rc (encI .i64) r7.1 0 3 1), (1, rc (encI .i64) r6.1 0 3 1), (0, .cells [ii r1.1, ii r1.2.1, ii r1.2.2] 0 23 0)] 4 (fun e σ1 h1 c1 => e = .normal ∧ (σ1, h1, c1) = ([(3, pp 0 0), (10, s0 1 r6.1.length), (13, s0 2 r7.1.length), (15, ii (gR r1 r2 r4)), (16, ii (Int.tmod (w64 ((w64 ((List.getD r9 (Int.toNat r1.2.2) 0) - (List.getD r4 (Int.toNat r2.1) 0))) + r1.1)) r1.1))], [(2, rc (encI .i64) r7.1 0 3 1), (1, rc (encI .i64) r6.1 0 3 1), (0, .cells [ii r1.1, ii r1.2.1, ii r1.2.2] 0 23 0)], 3)) := by
                   refine XA.step E0_ok [3, 15] (by kernel_rfl) rfl (by kernel_rfl) ⟨?_, ?_, trivial⟩
                   ·refine XR.runS E0_ok 1 1 [(3, pp 0 0), (10, s0 1 r6.1.length), (13, s0 2 r7.1.length), (15, ii (gR r1 r2 r4)), (136, s0 3 r9.length), (138, ii r1.2.2), (144, ii (List.getD r4 (Int.toNat r2.1) 0)), (147, ii r1.1), (149, pp 0 0)] rfl (by kernel_rfl) ?_
                    refine XR.done (by kernel_rfl) ?_
                    refine ⟨rfl, ?_⟩
                    show XA _ _ _ _ _ _ _ _ _ _
                    exact xa29
                   ·refine XR.runS E0_ok 1 1 [(3, pp 0 0), (10, s0 1 r6.1.length), (13, s0 2 r7.1.length), (15, ii (gR r1 r2 r4)), (136, s0 3 r9.length), (137, pp 0 2), (144, ii (List.getD r4 (Int.toNat r2.1) 0)), (147, ii r1.1), (150, ii r1.1)] rfl (by kernel_rfl) ?_
                    refine XR.done (by kernel_rfl) ?_
                    refine ⟨rfl, ?_⟩
                    show XA _ _ _ _ _ _ _ _ _ _
                    exact xa37
                  have xa38 : XA E0 181 0 (opsOf (lft (rgt (rgt (rgt (rgt (rgt (rgt (rgt (rgt (rgt (rgt (rgt (rgt (rgt (rgt f14_C14)))))))))))))))) 8 #[true, true, true, false, false, false, true, true, true, true, false, true, false, false, true, true, false, false] [(3, pp 0 0), (10, s0 1 r6.1.length), (13, s0 2 r7.1.length), (15, ii (gR r1 r2 r4)), (136, s0 3 r9.length), (137, pp 0 2), (144, ii (List.getD r4 (Int.toNat r2.1) 0)), (146, pp 0 0), (150, ii r1.1)] [(3, rc (encI .i64) r9 0 3 1), (2, rc (encI .i64) r7.1 0 3 1), (1, rc (encI .i64) r6.1 0 3 1), (0, .cells [ii r1.1, ii r1.2.1, ii r1.2.2] 0 23 0)] 4 (fun e σ1 h1 c1 => e = .normal ∧ (σ1, h1, c1) = ([(3, pp 0 0), (10, s0 1 r6.1.length), (13, s0 2 r7.1.length), (15, ii (gR r1 r2 r4)), (16, ii (Int.tmod (w64 ((w64 ((List.getD r9 (Int.toNat r1.2.2) 0) - (List.getD r4 (Int.toNat r2.1) 0))) + r1.1)) r1.1))], [(2, rc (encI .i64) r7.1 0 3 1), (1, rc (encI .i64) r6.1 0 3 1), (0, .cells [ii r1.1, ii r1.2.1, ii r1.2.2] 0 23 0)], 3)) := by
                   refine XA.step E0_ok [3, 12] (by kernel_rfl) rfl (by kernel_rfl) ⟨?_, ?_, trivial⟩
                   ·refine XR.runS E0_ok 1 1 [(3, pp 0 0), (10, s0 1 r6.1.length), (13, s0 2 r7.1.length), (15, ii (gR r1 r2 r4)), (136, s0 3 r9.length), (138, ii r1.2.2), (144, ii (List.getD r4 (Int.toNat r2.1) 0)), (146, pp 0 0), (150, ii r1.1)] rfl (by kernel_rfl) ?_
                    refine XR.done (by kernel_rfl) ?_
                    refine ⟨rfl, ?_⟩
                    show XA _ _ _ _ _ _ _ _ _ _
                    exact xa31
                   ·refine XR.runS E0_ok 1 1 [(3, pp 0 0), (10, s0 1 r6.1.length), (13, s0 2 r7.1.length), (15, ii (gR r1 r2 r4)), (136, s0 3 r9.length), (137, pp 0 2), (144, ii (List.getD r4 (Int.toNat r2.1) 0)), (147, ii r1.1), (150, ii r1.1)] rfl (by kernel_rfl) ?_
                    refine XR.done (by kernel_rfl) ?_
                    refine ⟨rfl, ?_⟩
                    show XA _ _ _ _ _ _ _ _ _ _
                    exact xa37
                  have xa35 : XA E0 181 0 (opsOf (lft (rgt (rgt (rgt (rgt (rgt (rgt (rgt (rgt (rgt (rgt (rgt (rgt (rgt (rgt f14_C14)))))))))))))))) 9 #[true, true, true, false, false, false, true, true, true, true, false, true, false, false, true, false, false, false] [(3, pp 0 0), (10, s0 1 r6.1.length), (13, s0 2 r7.1.length), (15, ii (gR r1 r2 r4)), (136, s0 3 r9.length), (137, pp 0 2), (144, ii (List.getD r4 (Int.toNat r2.1) 0)), (146, pp 0 0), (149, pp 0 0)] [(3, rc (encI .i64) r9 0 3 1), (2, rc (encI .i64) r7.1 0 3 1), (1, rc (encI .i64) r6.1 0 3 1), (0, .cells [ii r1.1, ii r1.2.1, ii r1.2.2] 0 23 0)] 4 (fun e σ1 h1 c1 => e = .normal ∧ (σ1, h1, c1) = ([(3, pp 0 0), (10, s0 1 r6.1.length), (13, s0 2 r7.1.length), (15, ii (gR r1 r2 r4)), (16, ii (Int.tmod (w64 ((w64 ((List.getD r9 (Int.toNat r1.2.2) 0) - (List.getD r4 (Int.toNat r2.1) 0))) + r1.1)) r1.1))], [(2, rc (encI .i64) r7.1 0 3 1), (1, rc (encI .i64) r6.1 0 3 1), (0, .cells [ii r1.1, ii r1.2.1, ii r1.2.2] 0 23 0)], 3)) := by
                   refine XA.step E0_ok [3, 12, 15] (by kernel_rfl) rfl (by kernel_rfl) ⟨?_, ?_, ?_, trivial⟩
                   ·refine XR.runS E0_ok 1 1 [(3, pp 0 0), (10, s0 1 r6.1.length), (13, s0 2 r7.1.length), (15, ii (gR r1 r2 r4)), (136, s0 3 r9.length), (138, ii r1.2.2), (144, ii (List.getD r4 (Int.toNat r2.1) 0)), (146, pp 0 0), (149, pp 0 0)] rfl (by kernel_rfl) ?_
                    refine XR.done (by kernel_rfl) ?_
                    refine ⟨rfl, ?_⟩
                    show XA _ _ _ _ _ _ _ _ _ _
                    exact xa28
                   ·refine XR.runS E0_ok 1 1 [(3, pp 0 0), (10, s0 1 r6.1.length), (13, s0 2 r7.1.length), (15, ii (gR r1 r2 r4)), (136, s0 3 r9.length), (137, pp 0 2), (144, ii (List.getD r4 (Int.toNat r2.1) 0)), (147, ii r1.1), (149, pp 0 0)] rfl (by kernel_rfl) ?_
                    refine XR.done (by kernel_rfl) ?_
                    refine ⟨rfl, ?_⟩
                    show XA _ _ _ _ _ _ _ _ _ _
                    exact xa36
                   ·refine XR.runS E0_ok 1 1 [(3, pp 0 0), (10, s0 1 r6.1.length), (13, s0 2 r7.1.length), (15, ii (gR r1 r2 r4)), (136, s0 3 r9.length), (137, pp 0 2), (144, ii (List.getD r4 (Int.toNat r2.1) 0)), (146, pp 0 0), (150, ii r1.1)] rfl (by kernel_rfl) ?_
                    refine XR.done (by kernel_rfl) ?_
                    refine ⟨rfl, ?_⟩
                    show XA _ _ _ _ _ _ _ _ _ _
                    exact xa38
                  have xa40 : XA E0 181 0 (opsOf (lft (rgt (rgt (rgt (rgt (rgt (rgt (rgt (rgt (rgt (rgt (rgt (rgt (rgt (rgt f14_C14)))))))))))))))) 8 #[true, true, true, false, false, false, true, true, true, false, false, true, true, false, true, true, false, false] [(3, pp 0 0), (10, s0 1 r6.1.length), (13, s0 2 r7.1.length), (15, ii (gR r1 r2 r4)), (136, s0 3 r9.length), (137, pp 0 2), (143, pp 4 ((Int.toNat r2.1) * 1)), (147, ii r1.1), (150, ii r1.1)] [(4, rc (encI .i64) r4 0 3 1), (3, rc (encI .i64) r9 0 3 1), (2, rc (encI .i64) r7.1 0 3 1), (1, rc (encI .i64) r6.1 0 3 1), (0, .cells [ii r1.1, ii r1.2.1, ii r1.2.2] 0 23 0)] 5 (fun e σ1 h1 c1 => e = .normal ∧ (σ1, h1, c1) = ([(3, pp 0 0), (10, s0 1 r6.1.length), (13, s0 2 r7.1.length), (15, ii (gR r1 r2 r4)), (16, ii (Int.tmod (w64 ((w64 ((List.getD r9 (Int.toNat r1.2.2) 0) - (List.getD r4 (Int.toNat r2.1) 0))) + r1.1)) r1.1))], [(2, rc (encI .i64) r7.1 0 3 1), (1, rc (encI .i64) r6.1 0 3 1), (0, .cells [ii r1.1, ii r1.2.1, ii r1.2.2] 0 23 0)], 3)) := by
                   refine XA.step E0_ok [3, 9] (by kernel_rfl) rfl (by kernel_rfl) ⟨?_, ?_, trivial⟩
                   ·refine XR.runS E0_ok 1 1 [(3, pp 0 0), (10, s0 1 r6.1.length), (13, s0 2 r7.1.length), (15, ii (gR r1 r2 r4)), (136, s0 3 r9.length), (138, ii r1.2.2), (143, pp 4 ((Int.toNat r2.1) * 1)), (147, ii r1.1), (150, ii r1.1)] rfl (by kernel_rfl) ?_
                    refine XR.done (by kernel_rfl) ?_
                    refine ⟨rfl, ?_⟩
                    show XA _ _ _ _ _ _ _ _ _ _
                    exact xa33
                   ·refine XR.rd E0_ok [3, 10, 13, 15, 136, 137, 144, 147, 150] rfl (v := ii (List.getD r4 (Int.toNat r2.1) 0)) (v_load1 (encI_ok .i64) (x := (src 181 (.tmp 143))) (b := 4) (off := (Int.toNat r2.1) * 1) (xs := r4) (fz := 0) (e := 3) (es := 1) (d := (some (path 12 144))) (by kernel_rfl) (by kernel_rfl) (by kernel_rfl) (Int.toNat r2.1) 0 0 (by first | rfl | omega) (row_len (inRow_toNat b17) (by simp)) rfl rfl) (σ' := [(3, pp 0 0), (10, s0 1 r6.1.length), (13, s0 2 r7.1.length), (15, ii (gR r1 r2 r4)), (136, s0 3 r9.length), (137, pp 0 2), (144, ii (List.getD r4 (Int.toNat r2.1) 0)), (147, ii r1.1), (150, ii r1.1)]) (by kernel_rfl) ?_
                    refine XR.done (by kernel_rfl) ?_
                    refine ⟨rfl, ?_⟩
                    show XA _ _ _ _ _ _ _ _ _ _
                    refine XA.ren (σ' := [(3, pp 0 0), (10, s0 1 r6.1.length), (13, s0 2 r7.1.length), (15, ii (gR r1 r2 r4)), (136, s0 3 r9.length), (137, pp 0 2), (144, ii (List.getD r4 (Int.toNat r2.1) 0)), (147, ii r1.1), (150, ii r1.1)]) (h' := [(3, rc (encI .i64) r9 0 3 1), (2, rc (encI .i64) r7.1 0 3 1), (1, rc (encI .i64) r6.1 0 3 1), (0, .cells [ii r1.1, ii r1.2.1, ii r1.2.2] 0 23 0)]) (c' := 4) [0, 1, 2, 3] (by decide) rfl ⟨by kernel_rfl, by kernel_rfl, by kernel_rfl, by kernel_rfl, by kernel_rfl, by kernel_rfl, by kernel_rfl, by kernel_rfl, by kernel_rfl, trivial⟩ ⟨⟨_, _, rfl, rfl, .inl ⟨rfl, rowC_scal (encI_ok .i64) _⟩⟩, ⟨_, _, rfl, rfl, .inl ⟨rfl, rowC_scal (encI_ok .i64) _⟩⟩, ⟨_, _, rfl, rfl, .inl ⟨rfl, rowC_scal (encI_ok .i64) _⟩⟩, ⟨_, _, rfl, rfl, .inr ⟨_, _, _, _, rfl, rfl⟩⟩, trivial⟩ rfl ?_
                    exact xa37
                  have xa39 : XA E0 181 0 (opsOf (lft (rgt (rgt (rgt (rgt (rgt (rgt (rgt (rgt (rgt (rgt (rgt (rgt (rgt (rgt f14_C14)))))))))))))))) 9 #[true, true, true, false, false, false, true, true, true, false, false, true, true, false, true, false, false, false] [(3, pp 0 0), (10, s0 1 r6.1.length), (13, s0 2 r7.1.length), (15, ii (gR r1 r2 r4)), (136, s0 3 r9.length), (137, pp 0 2), (143, pp 4 ((Int.toNat r2.1) * 1)), (147, ii r1.1), (149, pp 0 0)] [(4, rc (encI .i64) r4 0 3 1), (3, rc (encI .i64) r9 0 3 1), (2, rc (encI .i64) r7.1 0 3 1), (1, rc (encI .i64) r6.1 0 3 1), (0, .cells [ii r1.1, ii r1.2.1, ii r1.2.2] 0 23 0)] 5 (fun e σ1 h1 c1 => e = .normal ∧ (σ1, h1, c1) = ([(3, pp 0 0), (10, s0 1 r6.1.length), (13, s0 2 r7.1.length), (15, ii (gR r1 r2 r4)), (16, ii (Int.tmod (w64 ((w64 ((List.getD r9 (Int.toNat r1.2.2) 0) - (List.getD r4 (Int.toNat r2.1) 0))) + r1.1)) r1.1))], [(2, rc (encI .i64) r7.1 0 3 1), (1, rc (encI .i64) r6.1 0 3 1), (0, .cells [ii r1.1, ii r1.2.1, ii r1.2.2] 0 23 0)], 3)) := by
                   refine XA.step E0_ok [3, 9, 15] (by kernel_rfl) rfl (by kernel_rfl) ⟨?_, ?_, ?_, trivial⟩
                   ·refine XR.runS E0_ok 1 1 [(3, pp 0 0), (10, s0 1 r6.1.length), (13, s0 2 r7.1.length), (15, ii (gR r1 r2 r4)), (136, s0 3 r9.length), (138, ii r1.2.2), (143, pp 4 ((Int.toNat r2.1) * 1)), (147, ii r1.1), (149, pp 0 0)] rfl (by kernel_rfl) ?_
                    refine XR.done (by kernel_rfl) ?_
                    refine ⟨rfl, ?_⟩
                    show XA _ _ _ _ _ _ _ _ _ _
                    exact xa32
                   ·refine XR.rd E0_ok [3, 10, 13, 15, 136, 137, 144, 147, 149] rfl (v := ii (List.getD r4 (Int.toNat r2.1) 0)) (v_load1 (encI_ok .i64) (x := (src 181 (.tmp 143))) (b := 4) (off := (Int.toNat r2.1) * 1) (xs := r4) (fz := 0) (e := 3) (es := 1) (d := (some (path 12 144))) (by kernel_rfl) (by kernel_rfl) (by kernel_rfl) (Int.toNat r2.1) 0 0 (by first | rfl | omega) (row_len (inRow_toNat b17) (by simp)) rfl rfl) (σ' := [(3, pp 0 0), (10, s0 1 r6.1.length), (13, s0 2 r7.1.length), (15, ii (gR r1 r2 r4)), (136, s0 3 r9.length), (137, pp 0 2), (144, ii (List.getD r4 (Int.toNat r2.1) 0)), (147, ii r1.1), (149, pp 0 0)]) (by kernel_rfl) ?_
                    refine XR.done (by kernel_rfl) ?_
                    refine ⟨rfl, ?_⟩
                    show XA _ _ _ _ _ _ _ _ _ _
                    refine XA.ren (σ' := [(3, pp 0 0), (10, s0 1 r6.1.length), (13, s0 2 r7.1.length), (15, ii (gR r1 r2 r4)), (136, s0 3 r9.length), (137, pp 0 2), (144, ii (List.getD r4 (Int.toNat r2.1) 0)), (147, ii r1.1), (149, pp 0 0)]) (h' := [(3, rc (encI .i64) r9 0 3 1), (2, rc (encI .i64) r7.1 0 3 1), (1, rc (encI .i64) r6.1 0 3 1), (0, .cells [ii r1.1, ii r1.2.1, ii r1.2.2] 0 23 0)]) (c' := 4) [0, 1, 2, 3] (by decide) rfl ⟨by kernel_rfl, by kernel_rfl, by kernel_rfl, by kernel_rfl, by kernel_rfl, by kernel_rfl, by kernel_rfl, by kernel_rfl, by kernel_rfl, trivial⟩ ⟨⟨_, _, rfl, rfl, .inl ⟨rfl, rowC_scal (encI_ok .i64) _⟩⟩, ⟨_, _, rfl, rfl, .inl ⟨rfl, rowC_scal (encI_ok .i64) _⟩⟩, ⟨_, _, rfl, rfl, .inl ⟨rfl, rowC_scal (encI_ok .i64) _⟩⟩, ⟨_, _, rfl, rfl, .inr ⟨_, _, _, _, rfl, rfl⟩⟩, trivial⟩ rfl ?_
                    exact xa36
                   ·refine XR.runS E0_ok 1 1 [(3, pp 0 0), (10, s0 1 r6.1.length), (13, s0 2 r7.1.length), (15, ii (gR r1 r2 r4)), (136, s0 3 r9.length), (137, pp 0 2), (143, pp 4 ((Int.toNat r2.1) * 1)), (147, ii r1.1), (150, ii r1.1)] rfl (by kernel_rfl) ?_
                    refine XR.done (by kernel_rfl) ?_
                    refine ⟨rfl, ?_⟩
                    show XA _ _ _ _ _ _ _ _ _ _
                    exact xa40
                  have xa41 : XA E0 181 0 (opsOf (lft (rgt (rgt (rgt (rgt (rgt (rgt (rgt (rgt (rgt (rgt (rgt (rgt (rgt (rgt f14_C14)))))))))))))))) 9 #[true, true, true, false, false, false, true, true, true, false, false, true, false, false, true, true, false, false] [(3, pp 0 0), (10, s0 1 r6.1.length), (13, s0 2 r7.1.length), (15, ii (gR r1 r2 r4)), (136, s0 3 r9.length), (137, pp 0 2), (143, pp 4 ((Int.toNat r2.1) * 1)), (146, pp 0 0), (150, ii r1.1)] [(4, rc (encI .i64) r4 0 3 1), (3, rc (encI .i64) r9 0 3 1), (2, rc (encI .i64) r7.1 0 3 1), (1, rc (encI .i64) r6.1 0 3 1), (0, .cells [ii r1.1, ii r1.2.1, ii r1.2.2] 0 23 0)] 5 (fun e σ1 h1 c1 => e = .normal ∧ (σ1, h1, c1) = ([(3, pp 0 0), (10, s0 1 r6.1.length), (13, s0 2 r7.1.length), (15, ii (gR r1 r2 r4)), (16, ii (Int.tmod (w64 ((w64 ((List.getD r9 (Int.toNat r1.2.2) 0) - (List.getD r4 (Int.toNat r2.1) 0))) + r1.1)) r1.1))], [(2, rc (encI .i64) r7.1 0 3 1), (1, rc (encI .i64) r6.1 0 3 1), (0, .cells [ii r1.1, ii r1.2.1, ii r1.2.2] 0 23 0)], 3)) := by
                   refine XA.step E0_ok [3, 9, 12] (by kernel_rfl) rfl (by kernel_rfl) ⟨?_, ?_, ?_, trivial⟩
                   ·refine XR.runS E0_ok 1 1 [(3, pp 0 0), (10, s0 1 r6.1.length), (13, s0 2 r7.1.length), (15, ii (gR r1 r2 r4)), (136, s0 3 r9.length), (138, ii r1.2.2), (143, pp 4 ((Int.toNat r2.1) * 1)), (146, pp 0 0), (150, ii r1.1)] rfl (by kernel_rfl) ?_
                    refine XR.done (by kernel_rfl) ?_
                    refine ⟨rfl, ?_⟩
                    show XA _ _ _ _ _ _ _ _ _ _
                    exact xa34
                   ·refine XR.rd E0_ok [3, 10, 13, 15, 136, 137, 144, 146, 150] rfl (v := ii (List.getD r4 (Int.toNat r2.1) 0)) (v_load1 (encI_ok .i64) (x := (src 181 (.tmp 143))) (b := 4) (off := (Int.toNat r2.1) * 1) (xs := r4) (fz := 0) (e := 3) (es := 1) (d := (some (path 12 144))) (by kernel_rfl) (by kernel_rfl) (by kernel_rfl) (Int.toNat r2.1) 0 0 (by first | rfl | omega) (row_len (inRow_toNat b17) (by simp)) rfl rfl) (σ' := [(3, pp 0 0), (10, s0 1 r6.1.length), (13, s0 2 r7.1.length), (15, ii (gR r1 r2 r4)), (136, s0 3 r9.length), (137, pp 0 2), (144, ii (List.getD r4 (Int.toNat r2.1) 0)), (146, pp 0 0), (150, ii r1.1)]) (by kernel_rfl) ?_
                    refine XR.done (by kernel_rfl) ?_
                    refine ⟨rfl, ?_⟩
                    show XA _ _ _ _ _ _ _ _ _ _
                    refine XA.ren (σ' := [(3, pp 0 0), (10, s0 1 r6.1.length), (13, s0 2 r7.1.length), (15, ii (gR r1 r2 r4)), (136, s0 3 r9.length), (137, pp 0 2), (144, ii (List.getD r4 (Int.toNat r2.1) 0)), (146, pp 0 0), (150, ii r1.1)]) (h' := [(3, rc (encI .i64) r9 0 3 1), (2, rc (encI .i64) r7.1 0 3 1), (1, rc (encI .i64) r6.1 0 3 1), (0, .cells [ii r1.1, ii r1.2.1, ii r1.2.2] 0 23 0)]) (c' := 4) [0, 1, 2, 3] (by decide) rfl ⟨by kernel_rfl, by kernel_rfl, by kernel_rfl, by kernel_rfl, by kernel_rfl, by kernel_rfl, by kernel_rfl, by kernel_rfl, by kernel_rfl, trivial⟩ ⟨⟨_, _, rfl, rfl, .inl ⟨rfl, rowC_scal (encI_ok .i64) _⟩⟩, ⟨_, _, rfl, rfl, .inl ⟨rfl, rowC_scal (encI_ok .i64) _⟩⟩, ⟨_, _, rfl, rfl, .inl ⟨rfl, rowC_scal (encI_ok .i64) _⟩⟩, ⟨_, _, rfl, rfl, .inr ⟨_, _, _, _, rfl, rfl⟩⟩, trivial⟩ rfl ?_
                    exact xa38
                   ·refine XR.runS E0_ok 1 1 [(3, pp 0 0), (10, s0 1 r6.1.length), (13, s0 2 r7.1.length), (15, ii (gR r1 r2 r4)), (136, s0 3 r9.length), (137, pp 0 2), (143, pp 4 ((Int.toNat r2.1) * 1)), (147, ii r1.1), (150, ii r1.1)] rfl (by kernel_rfl) ?_
                    refine XR.done (by kernel_rfl) ?_
                    refine ⟨rfl, ?_⟩
                    show XA _ _ _ _ _ _ _ _ _ _
                    exact xa40
                  have xa2 : XA E0 181 0 (opsOf (lft (rgt (rgt (rgt (rgt (rgt (rgt (rgt (rgt (rgt (rgt (rgt (rgt (rgt (rgt f14_C14)))))))))))))))) 10 #[true, true, true, false, false, false, true, true, true, false, false, true, false, false, true, false, false, false] [(3, pp 0 0), (10, s0 1 r6.1.length), (13, s0 2 r7.1.length), (15, ii (gR r1 r2 r4)), (136, s0 3 r9.length), (137, pp 0 2), (143, pp 4 ((Int.toNat r2.1) * 1)), (146, pp 0 0), (149, pp 0 0)] [(4, rc (encI .i64) r4 0 3 1), (3, rc (encI .i64) r9 0 3 1), (2, rc (encI .i64) r7.1 0 3 1), (1, rc (encI .i64) r6.1 0 3 1), (0, .cells [ii r1.1, ii r1.2.1, ii r1.2.2] 0 23 0)] 5 (fun e σ1 h1 c1 => e = .normal ∧ (σ1, h1, c1) = ([(3, pp 0 0), (10, s0 1 r6.1.length), (13, s0 2 r7.1.length), (15, ii (gR r1 r2 r4)), (16, ii (Int.tmod (w64 ((w64 ((List.getD r9 (Int.toNat r1.2.2) 0) - (List.getD r4 (Int.toNat r2.1) 0))) + r1.1)) r1.1))], [(2, rc (encI .i64) r7.1 0 3 1), (1, rc (encI .i64) r6.1 0 3 1), (0, .cells [ii r1.1, ii r1.2.1, ii r1.2.2] 0 23 0)], 3)) := by
                   refine XA.step E0_ok [3, 9, 12, 15] (by kernel_rfl) rfl (by kernel_rfl) ⟨?_, ?_, ?_, ?_, trivial⟩
                   ·refine XR.runS E0_ok 1 1 [(3, pp 0 0), (10, s0 1 r6.1.length), (13, s0 2 r7.1.length), (15, ii (gR r1 r2 r4)), (136, s0 3 r9.length), (138, ii r1.2.2), (143, pp 4 ((Int.toNat r2.1) * 1)), (146, pp 0 0), (149, pp 0 0)] rfl (by kernel_rfl) ?_
                    refine XR.done (by kernel_rfl) ?_
                    refine ⟨rfl, ?_⟩
                    show XA _ _ _ _ _ _ _ _ _ _
                    exact xa3
                   ·refine XR.rd E0_ok [3, 10, 13, 15, 136, 137, 144, 146, 149] rfl (v := ii (List.getD r4 (Int.toNat r2.1) 0)) (v_load1 (encI_ok .i64) (x := (src 181 (.tmp 143))) (b := 4) (off := (Int.toNat r2.1) * 1) (xs := r4) (fz := 0) (e := 3) (es := 1) (d := (some (path 12 144))) (by kernel_rfl) (by kernel_rfl) (by kernel_rfl) (Int.toNat r2.1) 0 0 (by first | rfl | omega) (row_len (inRow_toNat b17) (by simp)) rfl rfl) (σ' := [(3, pp 0 0), (10, s0 1 r6.1.length), (13, s0 2 r7.1.length), (15, ii (gR r1 r2 r4)), (136, s0 3 r9.length), (137, pp 0 2), (144, ii (List.getD r4 (Int.toNat r2.1) 0)), (146, pp 0 0), (149, pp 0 0)]) (by kernel_rfl) ?_
                    refine XR.done (by kernel_rfl) ?_
                    refine ⟨rfl, ?_⟩
                    show XA _ _ _ _ _ _ _ _ _ _
                    refine XA.ren (σ' := [(3, pp 0 0), (10, s0 1 r6.1.length), (13, s0 2 r7.1.length), (15, ii (gR r1 r2 r4)), (136, s0 3 r9.length), (137, pp 0 2), (144, ii (List.getD r4 (Int.toNat r2.1) 0)), (146, pp 0 0), (149, pp 0 0)]) (h' := [(3, rc (encI .i64) r9 0 3 1), (2, rc (encI .i64) r7.1 0 3 1), (1, rc (encI .i64) r6.1 0 3 1), (0, .cells [ii r1.1, ii r1.2.1, ii r1.2.2] 0 23 0)]) (c' := 4) [0, 1, 2, 3] (by decide) rfl ⟨by kernel_rfl, by kernel_rfl, by kernel_rfl, by kernel_rfl, by kernel_rfl, by kernel_rfl, by kernel_rfl, by kernel_rfl, by kernel_rfl, trivial⟩ ⟨⟨_, _, rfl, rfl, .inl ⟨rfl, rowC_scal (encI_ok .i64) _⟩⟩, ⟨_, _, rfl, rfl, .inl ⟨rfl, rowC_scal (encI_ok .i64) _⟩⟩, ⟨_, _, rfl, rfl, .inl ⟨rfl, rowC_scal (encI_ok .i64) _⟩⟩, ⟨_, _, rfl, rfl, .inr ⟨_, _, _, _, rfl, rfl⟩⟩, trivial⟩ rfl ?_
                    exact xa35
                   ·refine XR.runS E0_ok 1 1 [(3, pp 0 0), (10, s0 1 r6.1.length), (13, s0 2 r7.1.length), (15, ii (gR r1 r2 r4)), (136, s0 3 r9.length), (137, pp 0 2), (143, pp 4 ((Int.toNat r2.1) * 1)), (147, ii r1.1), (149, pp 0 0)] rfl (by kernel_rfl) ?_
                    refine XR.done (by kernel_rfl) ?_
                    refine ⟨rfl, ?_⟩
                    show XA _ _ _ _ _ _ _ _ _ _
                    exact xa39
                   ·refine XR.runS E0_ok 1 1 [(3, pp 0 0), (10, s0 1 r6.1.length), (13, s0 2 r7.1.length), (15, ii (gR r1 r2 r4)), (136, s0 3 r9.length), (137, pp 0 2), (143, pp 4 ((Int.toNat r2.1) * 1)), (146, pp 0 0), (150, ii r1.1)] rfl (by kernel_rfl) ?_
                    refine XR.done (by kernel_rfl) ?_
                    refine ⟨rfl, ?_⟩
                    show XA _ _ _ _ _ _ _ _ _ _
                    exact xa41
                  have xa45 : XA E0 181 0 (opsOf (lft (rgt (rgt (rgt (rgt (rgt (rgt (rgt (rgt (rgt (rgt (rgt (rgt (rgt (rgt f14_C14)))))))))))))))) 7 #[true, false, true, true, false, false, true, true, true, true, false, true, true, false, true, true, false, false] [(3, pp 0 0), (10, s0 1 r6.1.length), (13, s0 2 r7.1.length), (15, ii (gR r1 r2 r4)), (135, .agg #[ii r1.1, ii r1.2.1, ii (w64 (r1.2.2 + 1))]), (138, ii r1.2.2), (144, ii (List.getD r4 (Int.toNat r2.1) 0)), (147, ii r1.1), (150, ii r1.1)] [(2, rc (encI .i64) r7.1 0 3 1), (1, rc (encI .i64) r6.1 0 3 1), (0, .cells [ii r1.1, ii r1.2.1, ii r1.2.2] 0 23 0)] 3 (fun e σ1 h1 c1 => e = .normal ∧ (σ1, h1, c1) = ([(3, pp 0 0), (10, s0 1 r6.1.length), (13, s0 2 r7.1.length), (15, ii (gR r1 r2 r4)), (16, ii (Int.tmod (w64 ((w64 ((List.getD r9 (Int.toNat r1.2.2) 0) - (List.getD r4 (Int.toNat r2.1) 0))) + r1.1)) r1.1))], [(2, rc (encI .i64) r7.1 0 3 1), (1, rc (encI .i64) r6.1 0 3 1), (0, .cells [ii r1.1, ii r1.2.1, ii r1.2.2] 0 23 0)], 3)) := by
                   refine XA.step E0_ok [1] (by kernel_rfl) rfl (by kernel_rfl) ⟨?_, trivial⟩
                   ·refine XR.call E0_ok [3, 10, 13, 15, 136, 138, 144, 147, 150] rfl (K := 46) (args := [.agg #[ii r1.1, ii r1.2.1, ii (w64 (r1.2.2 + 1))]]) (d := (some (path 12 136))) (by kernel_rfl) (KC.lift (V2 := s0 3 r9.length) (H2 := [(3, rc (encI .i64) r9 0 3 1)]) [1, 2, 3, 0] (f46_ok m r1.1 r1.2.1 (w64 (r1.2.2 + 1)) r9 r9_h) rfl (by decide) (by decide) (by kernel_rfl) ⟨⟨_, _, rfl, rfl, .inl ⟨rfl, rowC_scal (encI_ok .i64) _⟩⟩, trivial⟩ (by rfl)) ?_
                    rintro _ _ _ ⟨rfl, rfl, rfl⟩
                    refine XR.conv (σ' := [(3, pp 0 0), (10, s0 1 r6.1.length), (13, s0 2 r7.1.length), (15, ii (gR r1 r2 r4)), (136, s0 3 r9.length), (138, ii r1.2.2), (144, ii (List.getD r4 (Int.toNat r2.1) 0)), (147, ii r1.1), (150, ii r1.1)]) (h' := [(3, rc (encI .i64) r9 0 3 1), (2, rc (encI .i64) r7.1 0 3 1), (1, rc (encI .i64) r6.1 0 3 1), (0, .cells [ii r1.1, ii r1.2.1, ii r1.2.2] 0 23 0)]) (c' := 4) ?_ (by kernel_rfl)
                    refine XR.done (by kernel_rfl) ?_
                    refine ⟨rfl, ?_⟩
                    show XA _ _ _ _ _ _ _ _ _ _
                    exact xa30
                  have xa44 : XA E0 181 0 (opsOf (lft (rgt (rgt (rgt (rgt (rgt (rgt (rgt (rgt (rgt (rgt (rgt (rgt (rgt (rgt f14_C14)))))))))))))))) 8 #[true, false, true, true, false, false, true, true, true, true, false, true, true, false, true, false, false, false] [(3, pp 0 0), (10, s0 1 r6.1.length), (13, s0 2 r7.1.length), (15, ii (gR r1 r2 r4)), (135, .agg #[ii r1.1, ii r1.2.1, ii (w64 (r1.2.2 + 1))]), (138, ii r1.2.2), (144, ii (List.getD r4 (Int.toNat r2.1) 0)), (147, ii r1.1), (149, pp 0 0)] [(2, rc (encI .i64) r7.1 0 3 1), (1, rc (encI .i64) r6.1 0 3 1), (0, .cells [ii r1.1, ii r1.2.1, ii r1.2.2] 0 23 0)] 3 (fun e σ1 h1 c1 => e = .normal ∧ (σ1, h1, c1) = ([(3, pp 0 0), (10, s0 1 r6.1.length), (13, s0 2 r7.1.length), (15, ii (gR r1 r2 r4)), (16, ii (Int.tmod (w64 ((w64 ((List.getD r9 (Int.toNat r1.2.2) 0) - (List.getD r4 (Int.toNat r2.1) 0))) + r1.1)) r1.1))], [(2, rc (encI .i64) r7.1 0 3 1), (1, rc (encI .i64) r6.1 0 3 1), (0, .cells [ii r1.1, ii r1.2.1, ii r1.2.2] 0 23 0)], 3)) := by
                   refine XA.step E0_ok [1, 15] (by kernel_rfl) rfl (by kernel_rfl) ⟨?_, ?_, trivial⟩
                   ·refine XR.call E0_ok [3, 10, 13, 15, 136, 138, 144, 147, 149] rfl (K := 46) (args := [.agg #[ii r1.1, ii r1.2.1, ii (w64 (r1.2.2 + 1))]]) (d := (some (path 12 136))) (by kernel_rfl) (KC.lift (V2 := s0 3 r9.length) (H2 := [(3, rc (encI .i64) r9 0 3 1)]) [1, 2, 3, 0] (f46_ok m r1.1 r1.2.1 (w64 (r1.2.2 + 1)) r9 r9_h) rfl (by decide) (by decide) (by kernel_rfl) ⟨⟨_, _, rfl, rfl, .inl ⟨rfl, rowC_scal (encI_ok .i64) _⟩⟩, trivial⟩ (by rfl)) ?_
                    rintro _ _ _ ⟨rfl, rfl, rfl⟩
                    refine XR.conv (σ' := [(3, pp 0 0), (10, s0 1 r6.1.length), (13, s0 2 r7.1.length), (15, ii (gR r1 r2 r4)), (136, s0 3 r9.length), (138, ii r1.2.2), (144, ii (List.getD r4 (Int.toNat r2.1) 0)), (147, ii r1.1), (149, pp 0 0)]) (h' := [(3, rc (encI .i64) r9 0 3 1), (2, rc (encI .i64) r7.1 0 3 1), (1, rc (encI .i64) r6.1 0 3 1), (0, .cells [ii r1.1, ii r1.2.1, ii r1.2.2] 0 23 0)]) (c' := 4) ?_ (by kernel_rfl)
                    refine XR.done (by kernel_rfl) ?_
                    refine ⟨rfl, ?_⟩
                    show XA _ _ _ _ _ _ _ _ _ _
                    exact xa29
                   ·refine XR.runS E0_ok 1 1 [(3, pp 0 0), (10, s0 1 r6.1.length), (13, s0 2 r7.1.length), (15, ii (gR r1 r2 r4)), (135, .agg #[ii r1.1, ii r1.2.1, ii (w64 (r1.2.2 + 1))]), (138, ii r1.2.2), (144, ii (List.getD r4 (Int.toNat r2.1) 0)), (147, ii r1.1), (150, ii r1.1)] rfl (by kernel_rfl) ?_
                    refine XR.done (by kernel_rfl) ?_
                    refine ⟨rfl, ?_⟩
                    show XA _ _ _ _ _ _ _ _ _ _
                    exact xa45
                  have xa46 : XA E0 181 0 (opsOf (lft (rgt (rgt (rgt (rgt (rgt (rgt (rgt (rgt (rgt (rgt (rgt (rgt (rgt (rgt f14_C14)))))))))))))))) 8 #[true, false, true, true, false, false, true, true, true, true, false, true, false, false, true, true, false, false] [(3, pp 0 0), (10, s0 1 r6.1.length), (13, s0 2 r7.1.length), (15, ii (gR r1 r2 r4)), (135, .agg #[ii r1.1, ii r1.2.1, ii (w64 (r1.2.2 + 1))]), (138, ii r1.2.2), (144, ii (List.getD r4 (Int.toNat r2.1) 0)), (146, pp 0 0), (150, ii r1.1)] [(2, rc (encI .i64) r7.1 0 3 1), (1, rc (encI .i64) r6.1 0 3 1), (0, .cells [ii r1.1, ii r1.2.1, ii r1.2.2] 0 23 0)] 3 (fun e σ1 h1 c1 => e = .normal ∧ (σ1, h1, c1) = ([(3, pp 0 0), (10, s0 1 r6.1.length), (13, s0 2 r7.1.length), (15, ii (gR r1 r2 r4)), (16, ii (Int.tmod (w64 ((w64 ((List.getD r9 (Int.toNat r1.2.2) 0) - (List.getD r4 (Int.toNat r2.1) 0))) + r1.1)) r1.1))], [(2, rc (encI .i64) r7.1 0 3 1), (1, rc (encI .i64) r6.1 0 3 1), (0, .cells [ii r1.1, ii r1.2.1, ii r1.2.2] 0 23 0)], 3)) := by
                   refine XA.step E0_ok [1, 12] (by kernel_rfl) rfl (by kernel_rfl) ⟨?_, ?_, trivial⟩
                   ·refine XR.call E0_ok [3, 10, 13, 15, 136, 138, 144, 146, 150] rfl (K := 46) (args := [.agg #[ii r1.1, ii r1.2.1, ii (w64 (r1.2.2 + 1))]]) (d := (some (path 12 136))) (by kernel_rfl) (KC.lift (V2 := s0 3 r9.length) (H2 := [(3, rc (encI .i64) r9 0 3 1)]) [1, 2, 3, 0] (f46_ok m r1.1 r1.2.1 (w64 (r1.2.2 + 1)) r9 r9_h) rfl (by decide) (by decide) (by kernel_rfl) ⟨⟨_, _, rfl, rfl, .inl ⟨rfl, rowC_scal (encI_ok .i64) _⟩⟩, trivial⟩ (by rfl)) ?_
                    rintro _ _ _ ⟨rfl, rfl, rfl⟩
                    refine XR.conv (σ' := [(3, pp 0 0), (10, s0 1 r6.1.length), (13, s0 2 r7.1.length), (15, ii (gR r1 r2 r4)), (136, s0 3 r9.length), (138, ii r1.2.2), (144, ii (List.getD r4 (Int.toNat r2.1) 0)), (146, pp 0 0), (150, ii r1.1)]) (h' := [(3, rc (encI .i64) r9 0 3 1), (2, rc (encI .i64) r7.1 0 3 1), (1, rc (encI .i64) r6.1 0 3 1), (0, .cells [ii r1.1, ii r1.2.1, ii r1.2.2] 0 23 0)]) (c' := 4) ?_ (by kernel_rfl)
                    refine XR.done (by kernel_rfl) ?_
                    refine ⟨rfl, ?_⟩
                    show XA _ _ _ _ _ _ _ _ _ _
                    exact xa31
                   ·refine XR.runS E0_ok 1 1 [(3, pp 0 0), (10, s0 1 r6.1.length), (13, s0 2 r7.1.length), (15, ii (gR r1 r2 r4)), (135, .agg #[ii r1.1, ii r1.2.1, ii (w64 (r1.2.2 + 1))]), (138, ii r1.2.2), (144, ii (List.getD r4 (Int.toNat r2.1) 0)), (147, ii r1.1), (150, ii r1.1)] rfl (by kernel_rfl) ?_
                    refine XR.done (by kernel_rfl) ?_
                    refine ⟨rfl, ?_⟩
                    show XA _ _ _ _ _ _ _ _ _ _
                    exact xa45
                  have xa43 : XA E0 181 0 (opsOf (lft (rgt (rgt (rgt (rgt (rgt (rgt (rgt (rgt (rgt (rgt (rgt (rgt (rgt (rgt f14_C14)))))))))))))))) 9 #[true, false, true, true, false, false, true, true, true, true, false, true, false, false, true, false, false, false] [(3, pp 0 0), (10, s0 1 r6.1.length), (13, s0 2 r7.1.length), (15, ii (gR r1 r2 r4)), (135, .agg #[ii r1.1, ii r1.2.1, ii (w64 (r1.2.2 + 1))]), (138, ii r1.2.2), (144, ii (List.getD r4 (Int.toNat r2.1) 0)), (146, pp 0 0), (149, pp 0 0)] [(2, rc (encI .i64) r7.1 0 3 1), (1, rc (encI .i64) r6.1 0 3 1), (0, .cells [ii r1.1, ii r1.2.1, ii r1.2.2] 0 23 0)] 3 (fun e σ1 h1 c1 => e = .normal ∧ (σ1, h1, c1) = ([(3, pp 0 0), (10, s0 1 r6.1.length), (13, s0 2 r7.1.length), (15, ii (gR r1 r2 r4)), (16, ii (Int.tmod (w64 ((w64 ((List.getD r9 (Int.toNat r1.2.2) 0) - (List.getD r4 (Int.toNat r2.1) 0))) + r1.1)) r1.1))], [(2, rc (encI .i64) r7.1 0 3 1), (1, rc (encI .i64) r6.1 0 3 1), (0, .cells [ii r1.1, ii r1.2.1, ii r1.2.2] 0 23 0)], 3)) := by
                   refine XA.step E0_ok [1, 12, 15] (by kernel_rfl) rfl (by kernel_rfl) ⟨?_, ?_, ?_, trivial⟩
                   ·refine XR.call E0_ok [3, 10, 13, 15, 136, 138, 144, 146, 149] rfl (K := 46) (args := [.agg #[ii r1.1, ii r1.2.1, ii (w64 (r1.2.2 + 1))]]) (d := (some (path 12 136))) (by kernel_rfl) (KC.lift (V2 := s0 3 r9.length) (H2 := [(3, rc (encI .i64) r9 0 3 1)]) [1, 2, 3, 0] (f46_ok m r1.1 r1.2.1 (w64 (r1.2.2 + 1)) r9 r9_h) rfl (by decide) (by decide) (by kernel_rfl) ⟨⟨_, _, rfl, rfl, .inl ⟨rfl, rowC_scal (encI_ok .i64) _⟩⟩, trivial⟩ (by rfl)) ?_
                    rintro _ _ _ ⟨rfl, rfl, rfl⟩
                    refine XR.conv (σ' := [(3, pp 0 0), (10, s0 1 r6.1.length), (13, s0 2 r7.1.length), (15, ii (gR r1 r2 r4)), (136, s0 3 r9.length), (138, ii r1.2.2), (144, ii (List.getD r4 (Int.toNat r2.1) 0)), (146, pp 0 0), (149, pp 0 0)]) (h' := [(3, rc (encI .i64) r9 0 3 1), (2, rc (encI .i64) r7.1 0 3 1), (1, rc (encI .i64) r6.1 0 3 1), (0, .cells [ii r1.1, ii r1.2.1, ii r1.2.2] 0 23 0)]) (c' := 4) ?_ (by kernel_rfl)
                    refine XR.done (by kernel_rfl) ?_
                    refine ⟨rfl, ?_⟩
                    show XA _ _ _ _ _ _ _ _ _ _
                    exact xa28
                   ·refine XR.runS E0_ok 1 1 [(3, pp 0 0), (10, s0 1 r6.1.length), (13, s0 2 r7.1.length), (15, ii (gR r1 r2 r4)), (135, .agg #[ii r1.1, ii r1.2.1, ii (w64 (r1.2.2 + 1))]), (138, ii r1.2.2), (144, ii (List.getD r4 (Int.toNat r2.1) 0)), (147, ii r1.1), (149, pp 0 0)] rfl (by kernel_rfl) ?_
                    refine XR.done (by kernel_rfl) ?_
                    refine ⟨rfl, ?_⟩
                    show XA _ _ _ _ _ _ _ _ _ _
                    exact xa44
                   ·refine XR.runS E0_ok 1 1 [(3, pp 0 0), (10, s0 1 r6.1.length), (13, s0 2 r7.1.length), (15, ii (gR r1 r2 r4)), (135, .agg #[ii r1.1, ii r1.2.1, ii (w64 (r1.2.2 + 1))]), (138, ii r1.2.2), (144, ii (List.getD r4 (Int.toNat r2.1) 0)), (146, pp 0 0), (150, ii r1.1)] rfl (by kernel_rfl) ?_
                    refine XR.done (by kernel_rfl) ?_
                    refine ⟨rfl, ?_⟩
                    show XA _ _ _ _ _ _ _ _ _ _
                    exact xa46
                  have xa48 : XA E0 181 0 (opsOf (lft (rgt (rgt (rgt (rgt (rgt (rgt (rgt (rgt (rgt (rgt (rgt (rgt (rgt (rgt f14_C14)))))))))))))))) 8 #[true, false, true, true, false, false, true, true, true, false, false, true, true, false, true, true, false, false] [(3, pp 0 0), (10, s0 1 r6.1.length), (13, s0 2 r7.1.length), (15, ii (gR r1 r2 r4)), (135, .agg #[ii r1.1, ii r1.2.1, ii (w64 (r1.2.2 + 1))]), (138, ii r1.2.2), (143, pp 3 ((Int.toNat r2.1) * 1)), (147, ii r1.1), (150, ii r1.1)] [(3, rc (encI .i64) r4 0 3 1), (2, rc (encI .i64) r7.1 0 3 1), (1, rc (encI .i64) r6.1 0 3 1), (0, .cells [ii r1.1, ii r1.2.1, ii r1.2.2] 0 23 0)] 4 (fun e σ1 h1 c1 => e = .normal ∧ (σ1, h1, c1) = ([(3, pp 0 0), (10, s0 1 r6.1.length), (13, s0 2 r7.1.length), (15, ii (gR r1 r2 r4)), (16, ii (Int.tmod (w64 ((w64 ((List.getD r9 (Int.toNat r1.2.2) 0) - (List.getD r4 (Int.toNat r2.1) 0))) + r1.1)) r1.1))], [(2, rc (encI .i64) r7.1 0 3 1), (1, rc (encI .i64) r6.1 0 3 1), (0, .cells [ii r1.1, ii r1.2.1, ii r1.2.2] 0 23 0)], 3)) := by
                   refine XA.step E0_ok [1, 9] (by kernel_rfl) rfl (by kernel_rfl) ⟨?_, ?_, trivial⟩
                   ·refine XR.call E0_ok [3, 10, 13, 15, 136, 138, 143, 147, 150] rfl (K := 46) (args := [.agg #[ii r1.1, ii r1.2.1, ii (w64 (r1.2.2 + 1))]]) (d := (some (path 12 136))) (by kernel_rfl) (KC.lift (V2 := s0 4 r9.length) (H2 := [(4, rc (encI .i64) r9 0 3 1)]) [1, 2, 3, 4, 0] (f46_ok m r1.1 r1.2.1 (w64 (r1.2.2 + 1)) r9 r9_h) rfl (by decide) (by decide) (by kernel_rfl) ⟨⟨_, _, rfl, rfl, .inl ⟨rfl, rowC_scal (encI_ok .i64) _⟩⟩, trivial⟩ (by rfl)) ?_
                    rintro _ _ _ ⟨rfl, rfl, rfl⟩
                    refine XR.conv (σ' := [(3, pp 0 0), (10, s0 1 r6.1.length), (13, s0 2 r7.1.length), (15, ii (gR r1 r2 r4)), (136, s0 4 r9.length), (138, ii r1.2.2), (143, pp 3 ((Int.toNat r2.1) * 1)), (147, ii r1.1), (150, ii r1.1)]) (h' := [(4, rc (encI .i64) r9 0 3 1), (3, rc (encI .i64) r4 0 3 1), (2, rc (encI .i64) r7.1 0 3 1), (1, rc (encI .i64) r6.1 0 3 1), (0, .cells [ii r1.1, ii r1.2.1, ii r1.2.2] 0 23 0)]) (c' := 5) ?_ (by kernel_rfl)
                    refine XR.done (by kernel_rfl) ?_
                    refine ⟨rfl, ?_⟩
                    show XA _ _ _ _ _ _ _ _ _ _
                    refine XA.ren (σ' := [(3, pp 0 0), (10, s0 1 r6.1.length), (13, s0 2 r7.1.length), (15, ii (gR r1 r2 r4)), (136, s0 3 r9.length), (138, ii r1.2.2), (143, pp 4 ((Int.toNat r2.1) * 1)), (147, ii r1.1), (150, ii r1.1)]) (h' := [(4, rc (encI .i64) r4 0 3 1), (3, rc (encI .i64) r9 0 3 1), (2, rc (encI .i64) r7.1 0 3 1), (1, rc (encI .i64) r6.1 0 3 1), (0, .cells [ii r1.1, ii r1.2.1, ii r1.2.2] 0 23 0)]) (c' := 5) [0, 1, 2, 4, 3] (by decide) rfl ⟨by kernel_rfl, by kernel_rfl, by kernel_rfl, by kernel_rfl, by kernel_rfl, by kernel_rfl, by kernel_rfl, by kernel_rfl, by kernel_rfl, trivial⟩ ⟨⟨_, _, rfl, rfl, .inl ⟨rfl, rowC_scal (encI_ok .i64) _⟩⟩, ⟨_, _, rfl, rfl, .inl ⟨rfl, rowC_scal (encI_ok .i64) _⟩⟩, ⟨_, _, rfl, rfl, .inl ⟨rfl, rowC_scal (encI_ok .i64) _⟩⟩, ⟨_, _, rfl, rfl, .inl ⟨rfl, rowC_scal (encI_ok .i64) _⟩⟩, ⟨_, _, rfl, rfl, .inr ⟨_, _, _, _, rfl, rfl⟩⟩, trivial⟩ rfl ?_
                    exact xa33
                   ·refine XR.rd E0_ok [3, 10, 13, 15, 135, 138, 144, 147, 150] rfl (v := ii (List.getD r4 (Int.toNat r2.1) 0)) (v_load1 (encI_ok .i64) (x := (src 181 (.tmp 143))) (b := 3) (off := (Int.toNat r2.1) * 1) (xs := r4) (fz := 0) (e := 3) (es := 1) (d := (some (path 12 144))) (by kernel_rfl) (by kernel_rfl) (by kernel_rfl) (Int.toNat r2.1) 0 0 (by first | rfl | omega) (row_len (inRow_toNat b17) (by simp)) rfl rfl) (σ' := [(3, pp 0 0), (10, s0 1 r6.1.length), (13, s0 2 r7.1.length), (15, ii (gR r1 r2 r4)), (135, .agg #[ii r1.1, ii r1.2.1, ii (w64 (r1.2.2 + 1))]), (138, ii r1.2.2), (144, ii (List.getD r4 (Int.toNat r2.1) 0)), (147, ii r1.1), (150, ii r1.1)]) (by kernel_rfl) ?_
                    refine XR.done (by kernel_rfl) ?_
                    refine ⟨rfl, ?_⟩
                    show XA _ _ _ _ _ _ _ _ _ _
                    refine XA.ren (σ' := [(3, pp 0 0), (10, s0 1 r6.1.length), (13, s0 2 r7.1.length), (15, ii (gR r1 r2 r4)), (135, .agg #[ii r1.1, ii r1.2.1, ii (w64 (r1.2.2 + 1))]), (138, ii r1.2.2), (144, ii (List.getD r4 (Int.toNat r2.1) 0)), (147, ii r1.1), (150, ii r1.1)]) (h' := [(2, rc (encI .i64) r7.1 0 3 1), (1, rc (encI .i64) r6.1 0 3 1), (0, .cells [ii r1.1, ii r1.2.1, ii r1.2.2] 0 23 0)]) (c' := 3) [0, 1, 2] (by decide) rfl ⟨by kernel_rfl, by kernel_rfl, by kernel_rfl, by kernel_rfl, by kernel_rfl, by kernel_rfl, by kernel_rfl, by kernel_rfl, by kernel_rfl, trivial⟩ ⟨⟨_, _, rfl, rfl, .inl ⟨rfl, rowC_scal (encI_ok .i64) _⟩⟩, ⟨_, _, rfl, rfl, .inl ⟨rfl, rowC_scal (encI_ok .i64) _⟩⟩, ⟨_, _, rfl, rfl, .inr ⟨_, _, _, _, rfl, rfl⟩⟩, trivial⟩ rfl ?_
                    exact xa45
                  have xa47 : XA E0 181 0 (opsOf (lft (rgt (rgt (rgt (rgt (rgt (rgt (rgt (rgt (rgt (rgt (rgt (rgt (rgt (rgt f14_C14)))))))))))))))) 9 #[true, false, true, true, false, false, true, true, true, false, false, true, true, false, true, false, false, false] [(3, pp 0 0), (10, s0 1 r6.1.length), (13, s0 2 r7.1.length), (15, ii (gR r1 r2 r4)), (135, .agg #[ii r1.1, ii r1.2.1, ii (w64 (r1.2.2 + 1))]), (138, ii r1.2.2), (143, pp 3 ((Int.toNat r2.1) * 1)), (147, ii r1.1), (149, pp 0 0)] [(3, rc (encI .i64) r4 0 3 1), (2, rc (encI .i64) r7.1 0 3 1), (1, rc (encI .i64) r6.1 0 3 1), (0, .cells [ii r1.1, ii r1.2.1, ii r1.2.2] 0 23 0)] 4 (fun e σ1 h1 c1 => e = .normal ∧ (σ1, h1, c1) = ([(3, pp 0 0), (10, s0 1 r6.1.length), (13, s0 2 r7.1.length), (15, ii (gR r1 r2 r4)), (16, ii (Int.tmod (w64 ((w64 ((List.getD r9 (Int.toNat r1.2.2) 0) - (List.getD r4 (Int.toNat r2.1) 0))) + r1.1)) r1.1))], [(2, rc (encI .i64) r7.1 0 3 1), (1, rc (encI .i64) r6.1 0 3 1), (0, .cells [ii r1.1, ii r1.2.1, ii r1.2.2] 0 23 0)], 3)) := by
                   refine XA.step E0_ok [1, 9, 15] (by kernel_rfl) rfl (by kernel_rfl) ⟨?_, ?_, ?_, trivial⟩
                   ·refine XR.call E0_ok [3, 10, 13, 15, 136, 138, 143, 147, 149] rfl (K := 46) (args := [.agg #[ii r1.1, ii r1.2.1, ii (w64 (r1.2.2 + 1))]]) (d := (some (path 12 136))) (by kernel_rfl) (KC.lift (V2 := s0 4 r9.length) (H2 := [(4, rc (encI .i64) r9 0 3 1)]) [1, 2, 3, 4, 0] (f46_ok m r1.1 r1.2.1 (w64 (r1.2.2 + 1)) r9 r9_h) rfl (by decide) (by decide) (by kernel_rfl) ⟨⟨_, _, rfl, rfl, .inl ⟨rfl, rowC_scal (encI_ok .i64) _⟩⟩, trivial⟩ (by rfl)) ?_
                    rintro _ _ _ ⟨rfl, rfl, rfl⟩
                    refine XR.conv (σ' := [(3, pp 0 0), (10, s0 1 r6.1.length), (13, s0 2 r7.1.length), (15, ii (gR r1 r2 r4)), (136, s0 4 r9.length), (138, ii r1.2.2), (143, pp 3 ((Int.toNat r2.1) * 1)), (147, ii r1.1), (149, pp 0 0)]) (h' := [(4, rc (encI .i64) r9 0 3 1), (3, rc (encI .i64) r4 0 3 1), (2, rc (encI .i64) r7.1 0 3 1), (1, rc (encI .i64) r6.1 0 3 1), (0, .cells [ii r1.1, ii r1.2.1, ii r1.2.2] 0 23 0)]) (c' := 5) ?_ (by kernel_rfl)
                    refine XR.done (by kernel_rfl) ?_
                    refine ⟨rfl, ?_⟩
                    show XA _ _ _ _ _ _ _ _ _ _
                    refine XA.ren (σ' := [(3, pp 0 0), (10, s0 1 r6.1.length), (13, s0 2 r7.1.length), (15, ii (gR r1 r2 r4)), (136, s0 3 r9.length), (138, ii r1.2.2), (143, pp 4 ((Int.toNat r2.1) * 1)), (147, ii r1.1), (149, pp 0 0)]) (h' := [(4, rc (encI .i64) r4 0 3 1), (3, rc (encI .i64) r9 0 3 1), (2, rc (encI .i64) r7.1 0 3 1), (1, rc (encI .i64) r6.1 0 3 1), (0, .cells [ii r1.1, ii r1.2.1, ii r1.2.2] 0 23 0)]) (c' := 5) [0, 1, 2, 4, 3] (by decide) rfl ⟨by kernel_rfl, by kernel_rfl, by kernel_rfl, by kernel_rfl, by kernel_rfl, by kernel_rfl, by kernel_rfl, by kernel_rfl, by kernel_rfl, trivial⟩ ⟨⟨_, _, rfl, rfl, .inl ⟨rfl, rowC_scal (encI_ok .i64) _⟩⟩, ⟨_, _, rfl, rfl, .inl ⟨rfl, rowC_scal (encI_ok .i64) _⟩⟩, ⟨_, _, rfl, rfl, .inl ⟨rfl, rowC_scal (encI_ok .i64) _⟩⟩, ⟨_, _, rfl, rfl, .inl ⟨rfl, rowC_scal (encI_ok .i64) _⟩⟩, ⟨_, _, rfl, rfl, .inr ⟨_, _, _, _, rfl, rfl⟩⟩, trivial⟩ rfl ?_
                    exact xa32
                   ·refine XR.rd E0_ok [3, 10, 13, 15, 135, 138, 144, 147, 149] rfl (v := ii (List.getD r4 (Int.toNat r2.1) 0)) (v_load1 (encI_ok .i64) (x := (src 181 (.tmp 143))) (b := 3) (off := (Int.toNat r2.1) * 1) (xs := r4) (fz := 0) (e := 3) (es := 1) (d := (some (path 12 144))) (by kernel_rfl) (by kernel_rfl) (by kernel_rfl) (Int.toNat r2.1) 0 0 (by first | rfl | omega) (row_len (inRow_toNat b17) (by simp)) rfl rfl) (σ' := [(3, pp 0 0), (10, s0 1 r6.1.length), (13, s0 2 r7.1.length), (15, ii (gR r1 r2 r4)), (135, .agg #[ii r1.1, ii r1.2.1, ii (w64 (r1.2.2 + 1))]), (138, ii r1.2.2), (144, ii (List.getD r4 (Int.toNat r2.1) 0)), (147, ii r1.1), (149, pp 0 0)]) (by kernel_rfl) ?_
                    refine XR.done (by kernel_rfl) ?_
                    refine ⟨rfl, ?_⟩
                    show XA _ _ _ _ _ _ _ _ _ _
                    refine XA.ren (σ' := [(3, pp 0 0), (10, s0 1 r6.1.length), (13, s0 2 r7.1.length), (15, ii (gR r1 r2 r4)), (135, .agg #[ii r1.1, ii r1.2.1, ii (w64 (r1.2.2 + 1))]), (138, ii r1.2.2), (144, ii (List.getD r4 (Int.toNat r2.1) 0)), (147, ii r1.1), (149, pp 0 0)]) (h' := [(2, rc (encI .i64) r7.1 0 3 1), (1, rc (encI .i64) r6.1 0 3 1), (0, .cells [ii r1.1, ii r1.2.1, ii r1.2.2] 0 23 0)]) (c' := 3) [0, 1, 2] (by decide) rfl ⟨by kernel_rfl, by kernel_rfl, by kernel_rfl, by kernel_rfl, by kernel_rfl, by kernel_rfl, by kernel_rfl, by kernel_rfl, by kernel_rfl, trivial⟩ ⟨⟨_, _, rfl, rfl, .inl ⟨rfl, rowC_scal (encI_ok .i64) _⟩⟩, ⟨_, _, rfl, rfl, .inl ⟨rfl, rowC_scal (encI_ok .i64) _⟩⟩, ⟨_, _, rfl, rfl, .inr ⟨_, _, _, _, rfl, rfl⟩⟩, trivial⟩ rfl ?_
                    exact xa44
                   ·refine XR.runS E0_ok 1 1 [(3, pp 0 0), (10, s0 1 r6.1.length), (13, s0 2 r7.1.length), (15, ii (gR r1 r2 r4)), (135, .agg #[ii r1.1, ii r1.2.1, ii (w64 (r1.2.2 + 1))]), (138, ii r1.2.2), (143, pp 3 ((Int.toNat r2.1) * 1)), (147, ii r1.1), (150, ii r1.1)] rfl (by kernel_rfl) ?_
                    refine XR.done (by kernel_rfl) ?_
                    refine ⟨rfl, ?_⟩
                    show XA _ _ _ _ _ _ _ _ _ _
                    exact xa48
                  have xa49 : XA E0 181 0 (opsOf (lft (rgt (rgt (rgt (rgt (rgt (rgt (rgt (rgt (rgt (rgt (rgt (rgt (rgt (rgt f14_C14)))))))))))))))) 9 #[true, false, true, true, false, false, true, true, true, false, false, true, false, false, true, true, false, false] [(3, pp 0 0), (10, s0 1 r6.1.length), (13, s0 2 r7.1.length), (15, ii (gR r1 r2 r4)), (135, .agg #[ii r1.1, ii r1.2.1, ii (w64 (r1.2.2 + 1))]), (138, ii r1.2.2), (143, pp 3 ((Int.toNat r2.1) * 1)), (146, pp 0 0), (150, ii r1.1)] [(3, rc (encI .i64) r4 0 3 1), (2, rc (encI .i64) r7.1 0 3 1), (1, rc (encI .i64) r6.1 0 3 1), (0, .cells [ii r1.1, ii r1.2.1, ii r1.2.2] 0 23 0)] 4 (fun e σ1 h1 c1 => e = .normal ∧ (σ1, h1, c1) = ([(3, pp 0 0), (10, s0 1 r6.1.length), (13, s0 2 r7.1.length), (15, ii (gR r1 r2 r4)), (16, ii (Int.tmod (w64 ((w64 ((List.getD r9 (Int.toNat r1.2.2) 0) - (List.getD r4 (Int.toNat r2.1) 0))) + r1.1)) r1.1))], [(2, rc (encI .i64) r7.1 0 3 1), (1, rc (encI .i64) r6.1 0 3 1), (0, .cells [ii r1.1, ii r1.2.1, ii r1.2.2] 0 23 0)], 3)) := by
                   refine XA.step E0_ok [1, 9, 12] (by kernel_rfl) rfl (by kernel_rfl) ⟨?_, ?_, ?_, trivial⟩
                   ·refine XR.call E0_ok [3, 10, 13, 15, 136, 138, 143, 146, 150] rfl (K := 46) (args := [.agg #[ii r1.1, ii r1.2.1, ii (w64 (r1.2.2 + 1))]]) (d := (some (path 12 136))) (by kernel_rfl) (KC.lift (V2 := s0 4 r9.length) (H2 := [(4, rc (encI .i64) r9 0 3 1)]) [1, 2, 3, 4, 0] (f46_ok m r1.1 r1.2.1 (w64 (r1.2.2 + 1)) r9 r9_h) rfl (by decide) (by decide) (by kernel_rfl) ⟨⟨_, _, rfl, rfl, .inl ⟨rfl, rowC_scal (encI_ok .i64) _⟩⟩, trivial⟩ (by rfl)) ?_
                    rintro _ _ _ ⟨rfl, rfl, rfl⟩
                    refine XR.conv (σ' := [(3, pp 0 0), (10, s0 1 r6.1.length), (13, s0 2 r7.1.length), (15, ii (gR r1 r2 r4)), (136, s0 4 r9.length), (138, ii r1.2.2), (143, pp 3 ((Int.toNat r2.1) * 1)), (146, pp 0 0), (150, ii r1.1)]) (h' := [(4, rc (encI .i64) r9 0 3 1), (3, rc (encI .i64) r4 0 3 1), (2, rc (encI .i64) r7.1 0 3 1), (1, rc (encI .i64) r6.1 0 3 1), (0, .cells [ii r1.1, ii r1.2.1, ii r1.2.2] 0 23 0)]) (c' := 5) ?_ (by kernel_rfl)
                    refine XR.done (by kernel_rfl) ?_
                    refine ⟨rfl, ?_⟩
                    show XA _ _ _ _ _ _ _ _ _ _
                    refine XA.ren (σ' := [(3, pp 0 0), (10, s0 1 r6.1.length), (13, s0 2 r7.1.length), (15, ii (gR r1 r2 r4)), (136, s0 3 r9.length), (138, ii r1.2.2), (143, pp 4 ((Int.toNat r2.1) * 1)), (146, pp 0 0), (150, ii r1.1)]) (h' := [(4, rc (encI .i64) r4 0 3 1), (3, rc (encI .i64) r9 0 3 1), (2, rc (encI .i64) r7.1 0 3 1), (1, rc (encI .i64) r6.1 0 3 1), (0, .cells [ii r1.1, ii r1.2.1, ii r1.2.2] 0 23 0)]) (c' := 5) [0, 1, 2, 4, 3] (by decide) rfl ⟨by kernel_rfl, by kernel_rfl, by kernel_rfl, by kernel_rfl, by kernel_rfl, by kernel_rfl, by kernel_rfl, by kernel_rfl, by kernel_rfl, trivial⟩ ⟨⟨_, _, rfl, rfl, .inl ⟨rfl, rowC_scal (encI_ok .i64) _⟩⟩, ⟨_, _, rfl, rfl, .inl ⟨rfl, rowC_scal (encI_ok .i64) _⟩⟩, ⟨_, _, rfl, rfl, .inl ⟨rfl, rowC_scal (encI_ok .i64) _⟩⟩, ⟨_, _, rfl, rfl, .inl ⟨rfl, rowC_scal (encI_ok .i64) _⟩⟩, ⟨_, _, rfl, rfl, .inr ⟨_, _, _, _, rfl, rfl⟩⟩, trivial⟩ rfl ?_
                    exact xa34
                   ·refine XR.rd E0_ok [3, 10, 13, 15, 135, 138, 144, 146, 150] rfl (v := ii (List.getD r4 (Int.toNat r2.1) 0)) (v_load1 (encI_ok .i64) (x := (src 181 (.tmp 143))) (b := 3) (off := (Int.toNat r2.1) * 1) (xs := r4) (fz := 0) (e := 3) (es := 1) (d := (some (path 12 144))) (by kernel_rfl) (by kernel_rfl) (by kernel_rfl) (Int.toNat r2.1) 0 0 (by first | rfl | omega) (row_len (inRow_toNat b17) (by simp)) rfl rfl) (σ' := [(3, pp 0 0), (10, s0 1 r6.1.length), (13, s0 2 r7.1.length), (15, ii (gR r1 r2 r4)), (135, .agg #[ii r1.1, ii r1.2.1, ii (w64 (r1.2.2 + 1))]), (138, ii r1.2.2), (144, ii (List.getD r4 (Int.toNat r2.1) 0)), (146, pp 0 0), (150, ii r1.1)]) (by kernel_rfl) ?_
                    refine XR.done (by kernel_rfl) ?_
                    refine ⟨rfl, ?_⟩
                    show XA _ _ _ _ _ _ _ _ _ _
                    refine XA.ren (σ' := [(3, pp 0 0), (10, s0 1 r6.1.length), (13, s0 2 r7.1.length), (15, ii (gR r1 r2 r4)), (135, .agg #[ii r1.1, ii r1.2.1, ii (w64 (r1.2.2 + 1))]), (138, ii r1.2.2), (144, ii (List.getD r4 (Int.toNat r2.1) 0)), (146, pp 0 0), (150, ii r1.1)]) (h' := [(2, rc (encI .i64) r7.1 0 3 1), (1, rc (encI .i64) r6.1 0 3 1), (0, .cells [ii r1.1, ii r1.2.1, ii r1.2.2] 0 23 0)]) (c' := 3) [0, 1, 2] (by decide) rfl ⟨by kernel_rfl, by kernel_rfl, by kernel_rfl, by kernel_rfl, by kernel_rfl, by kernel_rfl, by kernel_rfl, by kernel_rfl, by kernel_rfl, trivial⟩ ⟨⟨_, _, rfl, rfl, .inl ⟨rfl, rowC_scal (encI_ok .i64) _⟩⟩, ⟨_, _, rfl, rfl, .inl ⟨rfl, rowC_scal (encI_ok .i64) _⟩⟩, ⟨_, _, rfl, rfl, .inr ⟨_, _, _, _, rfl, rfl⟩⟩, trivial⟩ rfl ?_
                    exact xa46
                   ·refine XR.runS E0_ok 1 1 [(3, pp 0 0), (10, s0 1 r6.1.length), (13, s0 2 r7.1.length), (15, ii (gR r1 r2 r4)), (135, .agg #[ii r1.1, ii r1.2.1, ii (w64 (r1.2.2 + 1))]), (138, ii r1.2.2), (143, pp 3 ((Int.toNat r2.1) * 1)), (147, ii r1.1), (150, ii r1.1)] rfl (by kernel_rfl) ?_
                    refine XR.done (by kernel_rfl) ?_
                    refine ⟨rfl, ?_⟩
                    show XA _ _ _ _ _ _ _ _ _ _
                    exact xa48
                  have xa42 : XA E0 181 0 (opsOf (lft (rgt (rgt (rgt (rgt (rgt (rgt (rgt (rgt (rgt (rgt (rgt (rgt (rgt (rgt f14_C14)))))))))))))))) 10 #[true, false, true, true, false, false, true, true, true, false, false, true, false, false, true, false, false, false] [(3, pp 0 0), (10, s0 1 r6.1.length), (13, s0 2 r7.1.length), (15, ii (gR r1 r2 r4)), (135, .agg #[ii r1.1, ii r1.2.1, ii (w64 (r1.2.2 + 1))]), (138, ii r1.2.2), (143, pp 3 ((Int.toNat r2.1) * 1)), (146, pp 0 0), (149, pp 0 0)] [(3, rc (encI .i64) r4 0 3 1), (2, rc (encI .i64) r7.1 0 3 1), (1, rc (encI .i64) r6.1 0 3 1), (0, .cells [ii r1.1, ii r1.2.1, ii r1.2.2] 0 23 0)] 4 (fun e σ1 h1 c1 => e = .normal ∧ (σ1, h1, c1) = ([(3, pp 0 0), (10, s0 1 r6.1.length), (13, s0 2 r7.1.length), (15, ii (gR r1 r2 r4)), (16, ii (Int.tmod (w64 ((w64 ((List.getD r9 (Int.toNat r1.2.2) 0) - (List.getD r4 (Int.toNat r2.1) 0))) + r1.1)) r1.1))], [(2, rc (encI .i64) r7.1 0 3 1), (1, rc (encI .i64) r6.1 0 3 1), (0, .cells [ii r1.1, ii r1.2.1, ii r1.2.2] 0 23 0)], 3)) := by
                   refine XA.step E0_ok [1, 9, 12, 15] (by kernel_rfl) rfl (by kernel_rfl) ⟨?_, ?_, ?_, ?_, trivial⟩
                   ·refine XR.call E0_ok [3, 10, 13, 15, 136, 138, 143, 146, 149] rfl (K := 46) (args := [.agg #[ii r1.1, ii r1.2.1, ii (w64 (r1.2.2 + 1))]]) (d := (some (path 12 136))) (by kernel_rfl) (KC.lift (V2 := s0 4 r9.length) (H2 := [(4, rc (encI .i64) r9 0 3 1)]) [1, 2, 3, 4, 0] (f46_ok m r1.1 r1.2.1 (w64 (r1.2.2 + 1)) r9 r9_h) rfl (by decide) (by decide) (by kernel_rfl) ⟨⟨_, _, rfl, rfl, .inl ⟨rfl, rowC_scal (encI_ok .i64) _⟩⟩, trivial⟩ (by rfl)) ?_
                    rintro _ _ _ ⟨rfl, rfl, rfl⟩
                    refine XR.conv (σ' := [(3, pp 0 0), (10, s0 1 r6.1.length), (13, s0 2 r7.1.length), (15, ii (gR r1 r2 r4)), (136, s0 4 r9.length), (138, ii r1.2.2), (143, pp 3 ((Int.toNat r2.1) * 1)), (146, pp 0 0), (149, pp 0 0)]) (h' := [(4, rc (encI .i64) r9 0 3 1), (3, rc (encI .i64) r4 0 3 1), (2, rc (encI .i64) r7.1 0 3 1), (1, rc (encI .i64) r6.1 0 3 1), (0, .cells [ii r1.1, ii r1.2.1, ii r1.2.2] 0 23 0)]) (c' := 5) ?_ (by kernel_rfl)
                    refine XR.done (by kernel_rfl) ?_
                    refine ⟨rfl, ?_⟩
                    show XA _ _ _ _ _ _ _ _ _ _
                    refine XA.ren (σ' := [(3, pp 0 0), (10, s0 1 r6.1.length), (13, s0 2 r7.1.length), (15, ii (gR r1 r2 r4)), (136, s0 3 r9.length), (138, ii r1.2.2), (143, pp 4 ((Int.toNat r2.1) * 1)), (146, pp 0 0), (149, pp 0 0)]) (h' := [(4, rc (encI .i64) r4 0 3 1), (3, rc (encI .i64) r9 0 3 1), (2, rc (encI .i64) r7.1 0 3 1), (1, rc (encI .i64) r6.1 0 3 1), (0, .cells [ii r1.1, ii r1.2.1, ii r1.2.2] 0 23 0)]) (c' := 5) [0, 1, 2, 4, 3] (by decide) rfl ⟨by kernel_rfl, by kernel_rfl, by kernel_rfl, by kernel_rfl, by kernel_rfl, by kernel_rfl, by kernel_rfl, by kernel_rfl, by kernel_rfl, trivial⟩ ⟨⟨_, _, rfl, rfl, .inl ⟨rfl, rowC_scal (encI_ok .i64) _⟩⟩, ⟨_, _, rfl, rfl, .inl ⟨rfl, rowC_scal (encI_ok .i64) _⟩⟩, ⟨_, _, rfl, rfl, .inl ⟨rfl, rowC_scal (encI_ok .i64) _⟩⟩, ⟨_, _, rfl, rfl, .inl ⟨rfl, rowC_scal (encI_ok .i64) _⟩⟩, ⟨_, _, rfl, rfl, .inr ⟨_, _, _, _, rfl, rfl⟩⟩, trivial⟩ rfl ?_
                    exact xa3
                   ·refine XR.rd E0_ok [3, 10, 13, 15, 135, 138, 144, 146, 149] rfl (v := ii (List.getD r4 (Int.toNat r2.1) 0)) (v_load1 (encI_ok .i64) (x := (src 181 (.tmp 143))) (b := 3) (off := (Int.toNat r2.1) * 1) (xs := r4) (fz := 0) (e := 3) (es := 1) (d := (some (path 12 144))) (by kernel_rfl) (by kernel_rfl) (by kernel_rfl) (Int.toNat r2.1) 0 0 (by first | rfl | omega) (row_len (inRow_toNat b17) (by simp)) rfl rfl) (σ' := [(3, pp 0 0), (10, s0 1 r6.1.length), (13, s0 2 r7.1.length), (15, ii (gR r1 r2 r4)), (135, .agg #[ii r1.1, ii r1.2.1, ii (w64 (r1.2.2 + 1))]), (138, ii r1.2.2), (144, ii (List.getD r4 (Int.toNat r2.1) 0)), (146, pp 0 0), (149, pp 0 0)]) (by kernel_rfl) ?_
                    refine XR.done (by kernel_rfl) ?_
                    refine ⟨rfl, ?_⟩
                    show XA _ _ _ _ _ _ _ _ _ _
                    refine XA.ren (σ' := [(3, pp 0 0), (10, s0 1 r6.1.length), (13, s0 2 r7.1.length), (15, ii (gR r1 r2 r4)), (135, .agg #[ii r1.1, ii r1.2.1, ii (w64 (r1.2.2 + 1))]), (138, ii r1.2.2), (144, ii (List.getD r4 (Int.toNat r2.1) 0)), (146, pp 0 0), (149, pp 0 0)]) (h' := [(2, rc (encI .i64) r7.1 0 3 1), (1, rc (encI .i64) r6.1 0 3 1), (0, .cells [ii r1.1, ii r1.2.1, ii r1.2.2] 0 23 0)]) (c' := 3) [0, 1, 2] (by decide) rfl ⟨by kernel_rfl, by kernel_rfl, by kernel_rfl, by kernel_rfl, by kernel_rfl, by kernel_rfl, by kernel_rfl, by kernel_rfl, by kernel_rfl, trivial⟩ ⟨⟨_, _, rfl, rfl, .inl ⟨rfl, rowC_scal (encI_ok .i64) _⟩⟩, ⟨_, _, rfl, rfl, .inl ⟨rfl, rowC_scal (encI_ok .i64) _⟩⟩, ⟨_, _, rfl, rfl, .inr ⟨_, _, _, _, rfl, rfl⟩⟩, trivial⟩ rfl ?_
                    exact xa43
                   ·refine XR.runS E0_ok 1 1 [(3, pp 0 0), (10, s0 1 r6.1.length), (13, s0 2 r7.1.length), (15, ii (gR r1 r2 r4)), (135, .agg #[ii r1.1, ii r1.2.1, ii (w64 (r1.2.2 + 1))]), (138, ii r1.2.2), (143, pp 3 ((Int.toNat r2.1) * 1)), (147, ii r1.1), (149, pp 0 0)] rfl (by kernel_rfl) ?_
                    refine XR.done (by kernel_rfl) ?_
                    refine ⟨rfl, ?_⟩
                    show XA _ _ _ _ _ _ _ _ _ _
                    exact xa47
                   ·refine XR.runS E0_ok 1 1 [(3, pp 0 0), (10, s0 1 r6.1.length), (13, s0 2 r7.1.length), (15, ii (gR r1 r2 r4)), (135, .agg #[ii r1.1, ii r1.2.1, ii (w64 (r1.2.2 + 1))]), (138, ii r1.2.2), (143, pp 3 ((Int.toNat r2.1) * 1)), (146, pp 0 0), (150, ii r1.1)] rfl (by kernel_rfl) ?_
                    refine XR.done (by kernel_rfl) ?_
                    refine ⟨rfl, ?_⟩
                    show XA _ _ _ _ _ _ _ _ _ _
                    exact xa49
                  have xa52 : XA E0 181 0 (opsOf (lft (rgt (rgt (rgt (rgt (rgt (rgt (rgt (rgt (rgt (rgt (rgt (rgt (rgt (rgt f14_C14)))))))))))))))) 8 #[true, false, true, false, false, false, true, true, true, true, false, true, true, false, true, true, false, false] [(3, pp 0 0), (10, s0 1 r6.1.length), (13, s0 2 r7.1.length), (15, ii (gR r1 r2 r4)), (135, .agg #[ii r1.1, ii r1.2.1, ii (w64 (r1.2.2 + 1))]), (137, pp 0 2), (144, ii (List.getD r4 (Int.toNat r2.1) 0)), (147, ii r1.1), (150, ii r1.1)] [(2, rc (encI .i64) r7.1 0 3 1), (1, rc (encI .i64) r6.1 0 3 1), (0, .cells [ii r1.1, ii r1.2.1, ii r1.2.2] 0 23 0)] 3 (fun e σ1 h1 c1 => e = .normal ∧ (σ1, h1, c1) = ([(3, pp 0 0), (10, s0 1 r6.1.length), (13, s0 2 r7.1.length), (15, ii (gR r1 r2 r4)), (16, ii (Int.tmod (w64 ((w64 ((List.getD r9 (Int.toNat r1.2.2) 0) - (List.getD r4 (Int.toNat r2.1) 0))) + r1.1)) r1.1))], [(2, rc (encI .i64) r7.1 0 3 1), (1, rc (encI .i64) r6.1 0 3 1), (0, .cells [ii r1.1, ii r1.2.1, ii r1.2.2] 0 23 0)], 3)) := by
                   refine XA.step E0_ok [1, 3] (by kernel_rfl) rfl (by kernel_rfl) ⟨?_, ?_, trivial⟩
                   ·refine XR.call E0_ok [3, 10, 13, 15, 136, 137, 144, 147, 150] rfl (K := 46) (args := [.agg #[ii r1.1, ii r1.2.1, ii (w64 (r1.2.2 + 1))]]) (d := (some (path 12 136))) (by kernel_rfl) (KC.lift (V2 := s0 3 r9.length) (H2 := [(3, rc (encI .i64) r9 0 3 1)]) [1, 2, 3, 0] (f46_ok m r1.1 r1.2.1 (w64 (r1.2.2 + 1)) r9 r9_h) rfl (by decide) (by decide) (by kernel_rfl) ⟨⟨_, _, rfl, rfl, .inl ⟨rfl, rowC_scal (encI_ok .i64) _⟩⟩, trivial⟩ (by rfl)) ?_
                    rintro _ _ _ ⟨rfl, rfl, rfl⟩
                    refine XR.conv (σ' := [(3, pp 0 0), (10, s0 1 r6.1.length), (13, s0 2 r7.1.length), (15, ii (gR r1 r2 r4)), (136, s0 3 r9.length), (137, pp 0 2), (144, ii (List.getD r4 (Int.toNat r2.1) 0)), (147, ii r1.1), (150, ii r1.1)]) (h' := [(3, rc (encI .i64) r9 0 3 1), (2, rc (encI .i64) r7.1 0 3 1), (1, rc (encI .i64) r6.1 0 3 1), (0, .cells [ii r1.1, ii r1.2.1, ii r1.2.2] 0 23 0)]) (c' := 4) ?_ (by kernel_rfl)
                    refine XR.done (by kernel_rfl) ?_
                    refine ⟨rfl, ?_⟩
                    show XA _ _ _ _ _ _ _ _ _ _
                    exact xa37
                   ·refine XR.runS E0_ok 1 1 [(3, pp 0 0), (10, s0 1 r6.1.length), (13, s0 2 r7.1.length), (15, ii (gR r1 r2 r4)), (135, .agg #[ii r1.1, ii r1.2.1, ii (w64 (r1.2.2 + 1))]), (138, ii r1.2.2), (144, ii (List.getD r4 (Int.toNat r2.1) 0)), (147, ii r1.1), (150, ii r1.1)] rfl (by kernel_rfl) ?_
                    refine XR.done (by kernel_rfl) ?_
                    refine ⟨rfl, ?_⟩
                    show XA _ _ _ _ _ _ _ _ _ _
                    exact xa45
                  have xa51 : XA E0 181 0 (opsOf (lft (rgt (rgt (rgt (rgt (rgt (rgt (rgt (rgt (rgt (rgt (rgt (rgt (rgt (rgt f14_C14)))))))))))))))) 9 #[true, false, true, false, false, false, true, true, true, true, false, true, true, false, true, false, false, false] [(3, pp 0 0), (10, s0 1 r6.1.length), (13, s0 2 r7.1.length), (15, ii (gR r1 r2 r4)), (135, .agg #[ii r1.1, ii r1.2.1, ii (w64 (r1.2.2 + 1))]), (137, pp 0 2), (144, ii (List.getD r4 (Int.toNat r2.1) 0)), (147, ii r1.1), (149, pp 0 0)] [(2, rc (encI .i64) r7.1 0 3 1), (1, rc (encI .i64) r6.1 0 3 1), (0, .cells [ii r1.1, ii r1.2.1, ii r1.2.2] 0 23 0)] 3 (fun e σ1 h1 c1 => e = .normal ∧ (σ1, h1, c1) = ([(3, pp 0 0), (10, s0 1 r6.1.length), (13, s0 2 r7.1.length), (15, ii (gR r1 r2 r4)), (16, ii (Int.tmod (w64 ((w64 ((List.getD r9 (Int.toNat r1.2.2) 0) - (List.getD r4 (Int.toNat r2.1) 0))) + r1.1)) r1.1))], [(2, rc (encI .i64) r7.1 0 3 1), (1, rc (encI .i64) r6.1 0 3 1), (0, .cells [ii r1.1, ii r1.2.1, ii r1.2.2] 0 23 0)], 3)) := by
                   refine XA.step E0_ok [1, 3, 15] (by kernel_rfl) rfl (by kernel_rfl) ⟨?_, ?_, ?_, trivial⟩
                   ·refine XR.call E0_ok [3, 10, 13, 15, 136, 137, 144, 147, 149] rfl (K := 46) (args := [.agg #[ii r1.1, ii r1.2.1, ii (w64 (r1.2.2 + 1))]]) (d := (some (path 12 136))) (by kernel_rfl) (KC.lift (V2 := s0 3 r9.length) (H2 := [(3, rc (encI .i64) r9 0 3 1)]) [1, 2, 3, 0] (f46_ok m r1.1 r1.2.1 (w64 (r1.2.2 + 1)) r9 r9_h) rfl (by decide) (by decide) (by kernel_rfl) ⟨⟨_, _, rfl, rfl, .inl ⟨rfl, rowC_scal (encI_ok .i64) _⟩⟩, trivial⟩ (by rfl)) ?_
                    rintro _ _ _ ⟨rfl, rfl, rfl⟩
                    refine XR.conv (σ' := [(3, pp 0 0), (10, s0 1 r6.1.length), (13, s0 2 r7.1.length), (15, ii (gR r1 r2 r4)), (136, s0 3 r9.length), (137, pp 0 2), (144, ii (List.getD r4 (Int.toNat r2.1) 0)), (147, ii r1.1), (149, pp 0 0)]) (h' := [(3, rc (encI .i64) r9 0 3 1), (2, rc (encI .i64) r7.1 0 3 1), (1, rc (encI .i64) r6.1 0 3 1), (0, .cells [ii r1.1, ii r1.2.1, ii r1.2.2] 0 23 0)]) (c' := 4) ?_ (by kernel_rfl)
                    refine XR.done (by kernel_rfl) ?_
                    refine ⟨rfl, ?_⟩
                    show XA _ _ _ _ _ _ _ _ _ _
                    exact xa36
                   ·refine XR.runS E0_ok 1 1 [(3, pp 0 0), (10, s0 1 r6.1.length), (13, s0 2 r7.1.length), (15, ii (gR r1 r2 r4)), (135, .agg #[ii r1.1, ii r1.2.1, ii (w64 (r1.2.2 + 1))]), (138, ii r1.2.2), (144, ii (List.getD r4 (Int.toNat r2.1) 0)), (147, ii r1.1), (149, pp 0 0)] rfl (by kernel_rfl) ?_
                    refine XR.done (by kernel_rfl) ?_
                    refine ⟨rfl, ?_⟩
                    show XA _ _ _ _ _ _ _ _ _ _
                    exact xa44
                   ·refine XR.runS E0_ok 1 1 [(3, pp 0 0), (10, s0 1 r6.1.length), (13, s0 2 r7.1.length), (15, ii (gR r1 r2 r4)), (135, .agg #[ii r1.1, ii r1.2.1, ii (w64 (r1.2.2 + 1))]), (137, pp 0 2), (144, ii (List.getD r4 (Int.toNat r2.1) 0)), (147, ii r1.1), (150, ii r1.1)] rfl (by kernel_rfl) ?_
                    refine XR.done (by kernel_rfl) ?_
                    refine ⟨rfl, ?_⟩
                    show XA _ _ _ _ _ _ _ _ _ _
                    exact xa52
                  have xa53 : XA E0 181 0 (opsOf (lft (rgt (rgt (rgt (rgt (rgt (rgt (rgt (rgt (rgt (rgt (rgt (rgt (rgt (rgt f14_C14)))))))))))))))) 9 #[true, false, true, false, false, false, true, true, true, true, false, true, false, false, true, true, false, false] [(3, pp 0 0), (10, s0 1 r6.1.length), (13, s0 2 r7.1.length), (15, ii (gR r1 r2 r4)), (135, .agg #[ii r1.1, ii r1.2.1, ii (w64 (r1.2.2 + 1))]), (137, pp 0 2), (144, ii (List.getD r4 (Int.toNat r2.1) 0)), (146, pp 0 0), (150, ii r1.1)] [(2, rc (encI .i64) r7.1 0 3 1), (1, rc (encI .i64) r6.1 0 3 1), (0, .cells [ii r1.1, ii r1.2.1, ii r1.2.2] 0 23 0)] 3 (fun e σ1 h1 c1 => e = .normal ∧ (σ1, h1, c1) = ([(3, pp 0 0), (10, s0 1 r6.1.length), (13, s0 2 r7.1.length), (15, ii (gR r1 r2 r4)), (16, ii (Int.tmod (w64 ((w64 ((List.getD r9 (Int.toNat r1.2.2) 0) - (List.getD r4 (Int.toNat r2.1) 0))) + r1.1)) r1.1))], [(2, rc (encI .i64) r7.1 0 3 1), (1, rc (encI .i64) r6.1 0 3 1), (0, .cells [ii r1.1, ii r1.2.1, ii r1.2.2] 0 23 0)], 3)) := by
                   refine XA.step E0_ok [1, 3, 12] (by kernel_rfl) rfl (by kernel_rfl) ⟨?_, ?_, ?_, trivial⟩
                   ·refine XR.call E0_ok [3, 10, 13, 15, 136, 137, 144, 146, 150] rfl (K := 46) (args := [.agg #[ii r1.1, ii r1.2.1, ii (w64 (r1.2.2 + 1))]]) (d := (some (path 12 136))) (by kernel_rfl) (KC.lift (V2 := s0 3 r9.length) (H2 := [(3, rc (encI .i64) r9 0 3 1)]) [1, 2, 3, 0] (f46_ok m r1.1 r1.2.1 (w64 (r1.2.2 + 1)) r9 r9_h) rfl (by decide) (by decide) (by kernel_rfl) ⟨⟨_, _, rfl, rfl, .inl ⟨rfl, rowC_scal (encI_ok .i64) _⟩⟩, trivial⟩ (by rfl)) ?_
                    rintro _ _ _ ⟨rfl, rfl, rfl⟩
                    refine XR.conv (σ' := [(3, pp 0 0), (10, s0 1 r6.1.length), (13, s0 2 r7.1.length), (15, ii (gR r1 r2 r4)), (136, s0 3 r9.length), (137, pp 0 2), (144, ii (List.getD r4 (Int.toNat r2.1) 0)), (146, pp 0 0), (150, ii r1.1)]) (h' := [(3, rc (encI .i64) r9 0 3 1), (2, rc (encI .i64) r7.1 0 3 1), (1, rc (encI .i64) r6.1 0 3 1), (0, .cells [ii r1.1, ii r1.2.1, ii r1.2.2] 0 23 0)]) (c' := 4) ?_ (by kernel_rfl)
                    refine XR.done (by kernel_rfl) ?_
                    refine ⟨rfl, ?_⟩
                    show XA _ _ _ _ _ _ _ _ _ _
                    exact xa38
                   ·refine XR.runS E0_ok 1 1 [(3, pp 0 0), (10, s0 1 r6.1.length), (13, s0 2 r7.1.length), (15, ii (gR r1 r2 r4)), (135, .agg #[ii r1.1, ii r1.2.1, ii (w64 (r1.2.2 + 1))]), (138, ii r1.2.2), (144, ii (List.getD r4 (Int.toNat r2.1) 0)), (146, pp 0 0), (150, ii r1.1)] rfl (by kernel_rfl) ?_
                    refine XR.done (by kernel_rfl) ?_
                    refine ⟨rfl, ?_⟩
                    show XA _ _ _ _ _ _ _ _ _ _
                    exact xa46
                   ·refine XR.runS E0_ok 1 1 [(3, pp 0 0), (10, s0 1 r6.1.length), (13, s0 2 r7.1.length), (15, ii (gR r1 r2 r4)), (135, .agg #[ii r1.1, ii r1.2.1, ii (w64 (r1.2.2 + 1))]), (137, pp 0 2), (144, ii (List.getD r4 (Int.toNat r2.1) 0)), (147, ii r1.1), (150, ii r1.1)] rfl (by kernel_rfl) ?_
                    refine XR.done (by kernel_rfl) ?_
                    refine ⟨rfl, ?_⟩
                    show XA _ _ _ _ _ _ _ _ _ _
                    exact xa52
                  have xa50 : XA E0 181 0 (opsOf (lft (rgt (rgt (rgt (rgt (rgt (rgt (rgt (rgt (rgt (rgt (rgt (rgt (rgt (rgt f14_C14)))))))))))))))) 10 #[true, false, true, false, false, false, true, true, true, true, false, true, false, false, true, false, false, false] [(3, pp 0 0), (10, s0 1 r6.1.length), (13, s0 2 r7.1.length), (15, ii (gR r1 r2 r4)), (135, .agg #[ii r1.1, ii r1.2.1, ii (w64 (r1.2.2 + 1))]), (137, pp 0 2), (144, ii (List.getD r4 (Int.toNat r2.1) 0)), (146, pp 0 0), (149, pp 0 0)] [(2, rc (encI .i64) r7.1 0 3 1), (1, rc (encI .i64) r6.1 0 3 1), (0, .cells [ii r1.1, ii r1.2.1, ii r1.2.2] 0 23 0)] 3 (fun e σ1 h1 c1 => e = .normal ∧ (σ1, h1, c1) = ([(3, pp 0 0), (10, s0 1 r6.1.length), (13, s0 2 r7.1.length), (15, ii (gR r1 r2 r4)), (16, ii (Int.tmod (w64 ((w64 ((List.getD r9 (Int.toNat r1.2.2) 0) - (List.getD r4 (Int.toNat r2.1) 0))) + r1.1)) r1.1))], [(2, rc (encI .i64) r7.1 0 3 1), (1, rc (encI .i64) r6.1 0 3 1), (0, .cells [ii r1.1, ii r1.2.1, ii r1.2.2] 0 23 0)], 3)) := by
                   refine XA.step E0_ok [1, 3, 12, 15] (by kernel_rfl) rfl (by kernel_rfl) ⟨?_, ?_, ?_, ?_, trivial⟩
                   ·refine XR.call E0_ok [3, 10, 13, 15, 136, 137, 144, 146, 149] rfl (K := 46) (args := [.agg #[ii r1.1, ii r1.2.1, ii (w64 (r1.2.2 + 1))]]) (d := (some (path 12 136))) (by kernel_rfl) (KC.lift (V2 := s0 3 r9.length) (H2 := [(3, rc (encI .i64) r9 0 3 1)]) [1, 2, 3, 0] (f46_ok m r1.1 r1.2.1 (w64 (r1.2.2 + 1)) r9 r9_h) rfl (by decide) (by decide) (by kernel_rfl) ⟨⟨_, _, rfl, rfl, .inl ⟨rfl, rowC_scal (encI_ok .i64) _⟩⟩, trivial⟩ (by rfl)) ?_
                    rintro _ _ _ ⟨rfl, rfl, rfl⟩
                    refine XR.conv (σ' := [(3, pp 0 0), (10, s0 1 r6.1.length), (13, s0 2 r7.1.length), (15, ii (gR r1 r2 r4)), (136, s0 3 r9.length), (137, pp 0 2), (144, ii (List.getD r4 (Int.toNat r2.1) 0)), (146, pp 0 0), (149, pp 0 0)]) (h' := [(3, rc (encI .i64) r9 0 3 1), (2, rc (encI .i64) r7.1 0 3 1), (1, rc (encI .i64) r6.1 0 3 1), (0, .cells [ii r1.1, ii r1.2.1, ii r1.2.2] 0 23 0)]) (c' := 4) ?_ (by kernel_rfl)
                    refine XR.done (by kernel_rfl) ?_
                    refine ⟨rfl, ?_⟩
                    show XA _ _ _ _ _ _ _ _ _ _
                    exact xa35
                   ·refine XR.runS E0_ok 1 1 [(3, pp 0 0), (10, s0 1 r6.1.length), (13, s0 2 r7.1.length), (15, ii (gR r1 r2 r4)), (135, .agg #[ii r1.1, ii r1.2.1, ii (w64 (r1.2.2 + 1))]), (138, ii r1.2.2), (144, ii (List.getD r4 (Int.toNat r2.1) 0)), (146, pp 0 0), (149, pp 0 0)] rfl (by kernel_rfl) ?_
                    refine XR.done (by kernel_rfl) ?_
                    refine ⟨rfl, ?_⟩
                    show XA _ _ _ _ _ _ _ _ _ _
                    exact xa43
                   ·refine XR.runS E0_ok 1 1 [(3, pp 0 0), (10, s0 1 r6.1.length), (13, s0 2 r7.1.length), (15, ii (gR r1 r2 r4)), (135, .agg #[ii r1.1, ii r1.2.1, ii (w64 (r1.2.2 + 1))]), (137, pp 0 2), (144, ii (List.getD r4 (Int.toNat r2.1) 0)), (147, ii r1.1), (149, pp 0 0)] rfl (by kernel_rfl) ?_
                    refine XR.done (by kernel_rfl) ?_
                    refine ⟨rfl, ?_⟩
                    show XA _ _ _ _ _ _ _ _ _ _
                    exact xa51
                   ·refine XR.runS E0_ok 1 1 [(3, pp 0 0), (10, s0 1 r6.1.length), (13, s0 2 r7.1.length), (15, ii (gR r1 r2 r4)), (135, .agg #[ii r1.1, ii r1.2.1, ii (w64 (r1.2.2 + 1))]), (137, pp 0 2), (144, ii (List.getD r4 (Int.toNat r2.1) 0)), (146, pp 0 0), (150, ii r1.1)] rfl (by kernel_rfl) ?_
                    refine XR.done (by kernel_rfl) ?_
                    refine ⟨rfl, ?_⟩
                    show XA _ _ _ _ _ _ _ _ _ _
                    exact xa53
                  have xa55 : XA E0 181 0 (opsOf (lft (rgt (rgt (rgt (rgt (rgt (rgt (rgt (rgt (rgt (rgt (rgt (rgt (rgt (rgt f14_C14)))))))))))))))) 9 #[true, false, true, false, false, false, true, true, true, false, false, true, true, false, true, true, false, false] [(3, pp 0 0), (10, s0 1 r6.1.length), (13, s0 2 r7.1.length), (15, ii (gR r1 r2 r4)), (135, .agg #[ii r1.1, ii r1.2.1, ii (w64 (r1.2.2 + 1))]), (137, pp 0 2), (143, pp 3 ((Int.toNat r2.1) * 1)), (147, ii r1.1), (150, ii r1.1)] [(3, rc (encI .i64) r4 0 3 1), (2, rc (encI .i64) r7.1 0 3 1), (1, rc (encI .i64) r6.1 0 3 1), (0, .cells [ii r1.1, ii r1.2.1, ii r1.2.2] 0 23 0)] 4 (fun e σ1 h1 c1 => e = .normal ∧ (σ1, h1, c1) = ([(3, pp 0 0), (10, s0 1 r6.1.length), (13, s0 2 r7.1.length), (15, ii (gR r1 r2 r4)), (16, ii (Int.tmod (w64 ((w64 ((List.getD r9 (Int.toNat r1.2.2) 0) - (List.getD r4 (Int.toNat r2.1) 0))) + r1.1)) r1.1))], [(2, rc (encI .i64) r7.1 0 3 1), (1, rc (encI .i64) r6.1 0 3 1), (0, .cells [ii r1.1, ii r1.2.1, ii r1.2.2] 0 23 0)], 3)) := by
                   refine XA.step E0_ok [1, 3, 9] (by kernel_rfl) rfl (by kernel_rfl) ⟨?_, ?_, ?_, trivial⟩
                   ·refine XR.call E0_ok [3, 10, 13, 15, 136, 137, 143, 147, 150] rfl (K := 46) (args := [.agg #[ii r1.1, ii r1.2.1, ii (w64 (r1.2.2 + 1))]]) (d := (some (path 12 136))) (by kernel_rfl) (KC.lift (V2 := s0 4 r9.length) (H2 := [(4, rc (encI .i64) r9 0 3 1)]) [1, 2, 3, 4, 0] (f46_ok m r1.1 r1.2.1 (w64 (r1.2.2 + 1)) r9 r9_h) rfl (by decide) (by decide) (by kernel_rfl) ⟨⟨_, _, rfl, rfl, .inl ⟨rfl, rowC_scal (encI_ok .i64) _⟩⟩, trivial⟩ (by rfl)) ?_
                    rintro _ _ _ ⟨rfl, rfl, rfl⟩
                    refine XR.conv (σ' := [(3, pp 0 0), (10, s0 1 r6.1.length), (13, s0 2 r7.1.length), (15, ii (gR r1 r2 r4)), (136, s0 4 r9.length), (137, pp 0 2), (143, pp 3 ((Int.toNat r2.1) * 1)), (147, ii r1.1), (150, ii r1.1)]) (h' := [(4, rc (encI .i64) r9 0 3 1), (3, rc (encI .i64) r4 0 3 1), (2, rc (encI .i64) r7.1 0 3 1), (1, rc (encI .i64) r6.1 0 3 1), (0, .cells [ii r1.1, ii r1.2.1, ii r1.2.2] 0 23 0)]) (c' := 5) ?_ (by kernel_rfl)
                    refine XR.done (by kernel_rfl) ?_
                    refine ⟨rfl, ?_⟩
                    show XA _ _ _ _ _ _ _ _ _ _
                    refine XA.ren (σ' := [(3, pp 0 0), (10, s0 1 r6.1.length), (13, s0 2 r7.1.length), (15, ii (gR r1 r2 r4)), (136, s0 3 r9.length), (137, pp 0 2), (143, pp 4 ((Int.toNat r2.1) * 1)), (147, ii r1.1), (150, ii r1.1)]) (h' := [(4, rc (encI .i64) r4 0 3 1), (3, rc (encI .i64) r9 0 3 1), (2, rc (encI .i64) r7.1 0 3 1), (1, rc (encI .i64) r6.1 0 3 1), (0, .cells [ii r1.1, ii r1.2.1, ii r1.2.2] 0 23 0)]) (c' := 5) [0, 1, 2, 4, 3] (by decide) rfl ⟨by kernel_rfl, by kernel_rfl, by kernel_rfl, by kernel_rfl, by kernel_rfl, by kernel_rfl, by kernel_rfl, by kernel_rfl, by kernel_rfl, trivial⟩ ⟨⟨_, _, rfl, rfl, .inl ⟨rfl, rowC_scal (encI_ok .i64) _⟩⟩, ⟨_, _, rfl, rfl, .inl ⟨rfl, rowC_scal (encI_ok .i64) _⟩⟩, ⟨_, _, rfl, rfl, .inl ⟨rfl, rowC_scal (encI_ok .i64) _⟩⟩, ⟨_, _, rfl, rfl, .inl ⟨rfl, rowC_scal (encI_ok .i64) _⟩⟩, ⟨_, _, rfl, rfl, .inr ⟨_, _, _, _, rfl, rfl⟩⟩, trivial⟩ rfl ?_
                    exact xa40
                   ·refine XR.runS E0_ok 1 1 [(3, pp 0 0), (10, s0 1 r6.1.length), (13, s0 2 r7.1.length), (15, ii (gR r1 r2 r4)), (135, .agg #[ii r1.1, ii r1.2.1, ii (w64 (r1.2.2 + 1))]), (138, ii r1.2.2), (143, pp 3 ((Int.toNat r2.1) * 1)), (147, ii r1.1), (150, ii r1.1)] rfl (by kernel_rfl) ?_
                    refine XR.done (by kernel_rfl) ?_
                    refine ⟨rfl, ?_⟩
                    show XA _ _ _ _ _ _ _ _ _ _
                    exact xa48
                   ·refine XR.rd E0_ok [3, 10, 13, 15, 135, 137, 144, 147, 150] rfl (v := ii (List.getD r4 (Int.toNat r2.1) 0)) (v_load1 (encI_ok .i64) (x := (src 181 (.tmp 143))) (b := 3) (off := (Int.toNat r2.1) * 1) (xs := r4) (fz := 0) (e := 3) (es := 1) (d := (some (path 12 144))) (by kernel_rfl) (by kernel_rfl) (by kernel_rfl) (Int.toNat r2.1) 0 0 (by first | rfl | omega) (row_len (inRow_toNat b17) (by simp)) rfl rfl) (σ' := [(3, pp 0 0), (10, s0 1 r6.1.length), (13, s0 2 r7.1.length), (15, ii (gR r1 r2 r4)), (135, .agg #[ii r1.1, ii r1.2.1, ii (w64 (r1.2.2 + 1))]), (137, pp 0 2), (144, ii (List.getD r4 (Int.toNat r2.1) 0)), (147, ii r1.1), (150, ii r1.1)]) (by kernel_rfl) ?_
                    refine XR.done (by kernel_rfl) ?_
                    refine ⟨rfl, ?_⟩
                    show XA _ _ _ _ _ _ _ _ _ _
                    refine XA.ren (σ' := [(3, pp 0 0), (10, s0 1 r6.1.length), (13, s0 2 r7.1.length), (15, ii (gR r1 r2 r4)), (135, .agg #[ii r1.1, ii r1.2.1, ii (w64 (r1.2.2 + 1))]), (137, pp 0 2), (144, ii (List.getD r4 (Int.toNat r2.1) 0)), (147, ii r1.1), (150, ii r1.1)]) (h' := [(2, rc (encI .i64) r7.1 0 3 1), (1, rc (encI .i64) r6.1 0 3 1), (0, .cells [ii r1.1, ii r1.2.1, ii r1.2.2] 0 23 0)]) (c' := 3) [0, 1, 2] (by decide) rfl ⟨by kernel_rfl, by kernel_rfl, by kernel_rfl, by kernel_rfl, by kernel_rfl, by kernel_rfl, by kernel_rfl, by kernel_rfl, by kernel_rfl, trivial⟩ ⟨⟨_, _, rfl, rfl, .inl ⟨rfl, rowC_scal (encI_ok .i64) _⟩⟩, ⟨_, _, rfl, rfl, .inl ⟨rfl, rowC_scal (encI_ok .i64) _⟩⟩, ⟨_, _, rfl, rfl, .inr ⟨_, _, _, _, rfl, rfl⟩⟩, trivial⟩ rfl ?_
                    exact xa52
                  have xa54 : XA E0 181 0 (opsOf (lft (rgt (rgt (rgt (rgt (rgt (rgt (rgt (rgt (rgt (rgt (rgt (rgt (rgt (rgt f14_C14)))))))))))))))) 10 #[true, false, true, false, false, false, true, true, true, false, false, true, true, false, true, false, false, false] [(3, pp 0 0), (10, s0 1 r6.1.length), (13, s0 2 r7.1.length), (15, ii (gR r1 r2 r4)), (135, .agg #[ii r1.1, ii r1.2.1, ii (w64 (r1.2.2 + 1))]), (137, pp 0 2), (143, pp 3 ((Int.toNat r2.1) * 1)), (147, ii r1.1), (149, pp 0 0)] [(3, rc (encI .i64) r4 0 3 1), (2, rc (encI .i64) r7.1 0 3 1), (1, rc (encI .i64) r6.1 0 3 1), (0, .cells [ii r1.1, ii r1.2.1, ii r1.2.2] 0 23 0)] 4 (fun e σ1 h1 c1 => e = .normal ∧ (σ1, h1, c1) = ([(3, pp 0 0), (10, s0 1 r6.1.length), (13, s0 2 r7.1.length), (15, ii (gR r1 r2 r4)), (16, ii (Int.tmod (w64 ((w64 ((List.getD r9 (Int.toNat r1.2.2) 0) - (List.getD r4 (Int.toNat r2.1) 0))) + r1.1)) r1.1))], [(2, rc (encI .i64) r7.1 0 3 1), (1, rc (encI .i64) r6.1 0 3 1), (0, .cells [ii r1.1, ii r1.2.1, ii r1.2.2] 0 23 0)], 3)) := by
                   refine XA.step E0_ok [1, 3, 9, 15] (by kernel_rfl) rfl (by kernel_rfl) ⟨?_, ?_, ?_, ?_, trivial⟩
                   ·refine XR.call E0_ok [3, 10, 13, 15, 136, 137, 143, 147, 149] rfl (K := 46) (args := [.agg #[ii r1.1, ii r1.2.1, ii (w64 (r1.2.2 + 1))]]) (d := (some (path 12 136))) (by kernel_rfl) (KC.lift (V2 := s0 4 r9.length) (H2 := [(4, rc (encI .i64) r9 0 3 1)]) [1, 2, 3, 4, 0] (f46_ok m r1.1 r1.2.1 (w64 (r1.2.2 + 1)) r9 r9_h) rfl (by decide) (by decide) (by kernel_rfl) ⟨⟨_, _, rfl, rfl, .inl ⟨rfl, rowC_scal (encI_ok .i64) _⟩⟩, trivial⟩ (by rfl)) ?_
                    rintro _ _ _ ⟨rfl, rfl, rfl⟩
                    refine XR.conv (σ' := [(3, pp 0 0), (10, s0 1 r6.1.length), (13, s0 2 r7.1.length), (15, ii (gR r1 r2 r4)), (136, s0 4 r9.length), (137, pp 0 2), (143, pp 3 ((Int.toNat r2.1) * 1)), (147, ii r1.1), (149, pp 0 0)]) (h' := [(4, rc (encI .i64) r9 0 3 1), (3, rc (encI .i64) r4 0 3 1), (2, rc (encI .i64) r7.1 0 3 1), (1, rc (encI .i64) r6.1 0 3 1), (0, .cells [ii r1.1, ii r1.2.1, ii r1.2.2] 0 23 0)]) (c' := 5) ?_ (by kernel_rfl)
                    refine XR.done (by kernel_rfl) ?_
                    refine ⟨rfl, ?_⟩
                    show XA _ _ _ _ _ _ _ _ _ _
                    refine XA.ren (σ' := [(3, pp 0 0), (10, s0 1 r6.1.length), (13, s0 2 r7.1.length), (15, ii (gR r1 r2 r4)), (136, s0 3 r9.length), (137, pp 0 2), (143, pp 4 ((Int.toNat r2.1) * 1)), (147, ii r1.1), (149, pp 0 0)]) (h' := [(4, rc (encI .i64) r4 0 3 1), (3, rc (encI .i64) r9 0 3 1), (2, rc (encI .i64) r7.1 0 3 1), (1, rc (encI .i64) r6.1 0 3 1), (0, .cells [ii r1.1, ii r1.2.1, ii r1.2.2] 0 23 0)]) (c' := 5) [0, 1, 2, 4, 3] (by decide) rfl ⟨by kernel_rfl, by kernel_rfl, by kernel_rfl, by kernel_rfl, by kernel_rfl, by kernel_rfl, by kernel_rfl, by kernel_rfl, by kernel_rfl, trivial⟩ ⟨⟨_, _, rfl, rfl, .inl ⟨rfl, rowC_scal (encI_ok .i64) _⟩⟩, ⟨_, _, rfl, rfl, .inl ⟨rfl, rowC_scal (encI_ok .i64) _⟩⟩, ⟨_, _, rfl, rfl, .inl ⟨rfl, rowC_scal (encI_ok .i64) _⟩⟩, ⟨_, _, rfl, rfl, .inl ⟨rfl, rowC_scal (encI_ok .i64) _⟩⟩, ⟨_, _, rfl, rfl, .inr ⟨_, _, _, _, rfl, rfl⟩⟩, trivial⟩ rfl ?_
                    exact xa39
                   ·refine XR.runS E0_ok 1 1 [(3, pp 0 0), (10, s0 1 r6.1.length), (13, s0 2 r7.1.length), (15, ii (gR r1 r2 r4)), (135, .agg #[ii r1.1, ii r1.2.1, ii (w64 (r1.2.2 + 1))]), (138, ii r1.2.2), (143, pp 3 ((Int.toNat r2.1) * 1)), (147, ii r1.1), (149, pp 0 0)] rfl (by kernel_rfl) ?_
                    refine XR.done (by kernel_rfl) ?_
                    refine ⟨rfl, ?_⟩
                    show XA _ _ _ _ _ _ _ _ _ _
                    exact xa47
                   ·refine XR.rd E0_ok [3, 10, 13, 15, 135, 137, 144, 147, 149] rfl (v := ii (List.getD r4 (Int.toNat r2.1) 0)) (v_load1 (encI_ok .i64) (x := (src 181 (.tmp 143))) (b := 3) (off := (Int.toNat r2.1) * 1) (xs := r4) (fz := 0) (e := 3) (es := 1) (d := (some (path 12 144))) (by kernel_rfl) (by kernel_rfl) (by kernel_rfl) (Int.toNat r2.1) 0 0 (by first | rfl | omega) (row_len (inRow_toNat b17) (by simp)) rfl rfl) (σ' := [(3, pp 0 0), (10, s0 1 r6.1.length), (13, s0 2 r7.1.length), (15, ii (gR r1 r2 r4)), (135, .agg #[ii r1.1, ii r1.2.1, ii (w64 (r1.2.2 + 1))]), (137, pp 0 2), (144, ii (List.getD r4 (Int.toNat r2.1) 0)), (147, ii r1.1), (149, pp 0 0)]) (by kernel_rfl) ?_
                    refine XR.done (by kernel_rfl) ?_
                    refine ⟨rfl, ?_⟩
                    show XA _ _ _ _ _ _ _ _ _ _
                    refine XA.ren (σ' := [(3, pp 0 0), (10, s0 1 r6.1.length), (13, s0 2 r7.1.length), (15, ii (gR r1 r2 r4)), (135, .agg #[ii r1.1, ii r1.2.1, ii (w64 (r1.2.2 + 1))]), (137, pp 0 2), (144, ii (List.getD r4 (Int.toNat r2.1) 0)), (147, ii r1.1), (149, pp 0 0)]) (h' := [(2, rc (encI .i64) r7.1 0 3 1), (1, rc (encI .i64) r6.1 0 3 1), (0, .cells [ii r1.1, ii r1.2.1, ii r1.2.2] 0 23 0)]) (c' := 3) [0, 1, 2] (by decide) rfl ⟨by kernel_rfl, by kernel_rfl, by kernel_rfl, by kernel_rfl, by kernel_rfl, by kernel_rfl, by kernel_rfl, by kernel_rfl, by kernel_rfl, trivial⟩ ⟨⟨_, _, rfl, rfl, .inl ⟨rfl, rowC_scal (encI_ok .i64) _⟩⟩, ⟨_, _, rfl, rfl, .inl ⟨rfl, rowC_scal (encI_ok .i64) _⟩⟩, ⟨_, _, rfl, rfl, .inr ⟨_, _, _, _, rfl, rfl⟩⟩, trivial⟩ rfl ?_
                    exact xa51
                   ·refine XR.runS E0_ok 1 1 [(3, pp 0 0), (10, s0 1 r6.1.length), (13, s0 2 r7.1.length), (15, ii (gR r1 r2 r4)), (135, .agg #[ii r1.1, ii r1.2.1, ii (w64 (r1.2.2 + 1))]), (137, pp 0 2), (143, pp 3 ((Int.toNat r2.1) * 1)), (147, ii r1.1), (150, ii r1.1)] rfl (by kernel_rfl) ?_
                    refine XR.done (by kernel_rfl) ?_
                    refine ⟨rfl, ?_⟩
                    show XA _ _ _ _ _ _ _ _ _ _
                    exact xa55
                  have xa56 : XA E0 181 0 (opsOf (lft (rgt (rgt (rgt (rgt (rgt (rgt (rgt (rgt (rgt (rgt (rgt (rgt (rgt (rgt f14_C14)))))))))))))))) 10 #[true, false, true, false, false, false, true, true, true, false, false, true, false, false, true, true, false, false] [(3, pp 0 0), (10, s0 1 r6.1.length), (13, s0 2 r7.1.length), (15, ii (gR r1 r2 r4)), (135, .agg #[ii r1.1, ii r1.2.1, ii (w64 (r1.2.2 + 1))]), (137, pp 0 2), (143, pp 3 ((Int.toNat r2.1) * 1)), (146, pp 0 0), (150, ii r1.1)] [(3, rc (encI .i64) r4 0 3 1), (2, rc (encI .i64) r7.1 0 3 1), (1, rc (encI .i64) r6.1 0 3 1), (0, .cells [ii r1.1, ii r1.2.1, ii r1.2.2] 0 23 0)] 4 (fun e σ1 h1 c1 => e = .normal ∧ (σ1, h1, c1) = ([(3, pp 0 0), (10, s0 1 r6.1.length), (13, s0 2 r7.1.length), (15, ii (gR r1 r2 r4)), (16, ii (Int.tmod (w64 ((w64 ((List.getD r9 (Int.toNat r1.2.2) 0) - (List.getD r4 (Int.toNat r2.1) 0))) + r1.1)) r1.1))], [(2, rc (encI .i64) r7.1 0 3 1), (1, rc (encI .i64) r6.1 0 3 1), (0, .cells [ii r1.1, ii r1.2.1, ii r1.2.2] 0 23 0)], 3)) := by
                   refine XA.step E0_ok [1, 3, 9, 12] (by kernel_rfl) rfl (by kernel_rfl) ⟨?_, ?_, ?_, ?_, trivial⟩
                   ·refine XR.call E0_ok [3, 10, 13, 15, 136, 137, 143, 146, 150] rfl (K := 46) (args := [.agg #[ii r1.1, ii r1.2.1, ii (w64 (r1.2.2 + 1))]]) (d := (some (path 12 136))) (by kernel_rfl) (KC.lift (V2 := s0 4 r9.length) (H2 := [(4, rc (encI .i64) r9 0 3 1)]) [1, 2, 3, 4, 0] (f46_ok m r1.1 r1.2.1 (w64 (r1.2.2 + 1)) r9 r9_h) rfl (by decide) (by decide) (by kernel_rfl) ⟨⟨_, _, rfl, rfl, .inl ⟨rfl, rowC_scal (encI_ok .i64) _⟩⟩, trivial⟩ (by rfl)) ?_
                    rintro _ _ _ ⟨rfl, rfl, rfl⟩
                    refine XR.conv (σ' := [(3, pp 0 0), (10, s0 1 r6.1.length), (13, s0 2 r7.1.length), (15, ii (gR r1 r2 r4)), (136, s0 4 r9.length), (137, pp 0 2), (143, pp 3 ((Int.toNat r2.1) * 1)), (146, pp 0 0), (150, ii r1.1)]) (h' := [(4, rc (encI .i64) r9 0 3 1), (3, rc (encI .i64) r4 0 3 1), (2, rc (encI .i64) r7.1 0 3 1), (1, rc (encI .i64) r6.1 0 3 1), (0, .cells [ii r1.1, ii r1.2.1, ii r1.2.2] 0 23 0)]) (c' := 5) ?_ (by kernel_rfl)
                    refine XR.done (by kernel_rfl) ?_
                    refine ⟨rfl, ?_⟩
                    show XA _ _ _ _ _ _ _ _ _ _
                    refine XA.ren (σ' := [(3, pp 0 0), (10, s0 1 r6.1.length), (13, s0 2 r7.1.length), (15, ii (gR r1 r2 r4)), (136, s0 3 r9.length), (137, pp 0 2), (143, pp 4 ((Int.toNat r2.1) * 1)), (146, pp 0 0), (150, ii r1.1)]) (h' := [(4, rc (encI .i64) r4 0 3 1), (3, rc (encI .i64) r9 0 3 1), (2, rc (encI .i64) r7.1 0 3 1), (1, rc (encI .i64) r6.1 0 3 1), (0, .cells [ii r1.1, ii r1.2.1, ii r1.2.2] 0 23 0)]) (c' := 5) [0, 1, 2, 4, 3] (by decide) rfl ⟨by kernel_rfl, by kernel_rfl, by kernel_rfl, by kernel_rfl, by kernel_rfl, by kernel_rfl, by kernel_rfl, by kernel_rfl, by kernel_rfl, trivial⟩ ⟨⟨_, _, rfl, rfl, .inl ⟨rfl, rowC_scal (encI_ok .i64) _⟩⟩, ⟨_, _, rfl, rfl, .inl ⟨rfl, rowC_scal (encI_ok .i64) _⟩⟩, ⟨_, _, rfl, rfl, .inl ⟨rfl, rowC_scal (encI_ok .i64) _⟩⟩, ⟨_, _, rfl, rfl, .inl ⟨rfl, rowC_scal (encI_ok .i64) _⟩⟩, ⟨_, _, rfl, rfl, .inr ⟨_, _, _, _, rfl, rfl⟩⟩, trivial⟩ rfl ?_
                    exact xa41
                   ·refine XR.runS E0_ok 1 1 [(3, pp 0 0), (10, s0 1 r6.1.length), (13, s0 2 r7.1.length), (15, ii (gR r1 r2 r4)), (135, .agg #[ii r1.1, ii r1.2.1, ii (w64 (r1.2.2 + 1))]), (138, ii r1.2.2), (143, pp 3 ((Int.toNat r2.1) * 1)), (146, pp 0 0), (150, ii r1.1)] rfl (by kernel_rfl) ?_
                    refine XR.done (by kernel_rfl) ?_
                    refine ⟨rfl, ?_⟩
                    show XA _ _ _ _ _ _ _ _ _ _
                    exact xa49
                   ·refine XR.rd E0_ok [3, 10, 13, 15, 135, 137, 144, 146, 150] rfl (v := ii (List.getD r4 (Int.toNat r2.1) 0)) (v_load1 (encI_ok .i64) (x := (src 181 (.tmp 143))) (b := 3) (off := (Int.toNat r2.1) * 1) (xs := r4) (fz := 0) (e := 3) (es := 1) (d := (some (path 12 144))) (by kernel_rfl) (by kernel_rfl) (by kernel_rfl) (Int.toNat r2.1) 0 0 (by first | rfl | omega) (row_len (inRow_toNat b17) (by simp)) rfl rfl) (σ' := [(3, pp 0 0), (10, s0 1 r6.1.length), (13, s0 2 r7.1.length), (15, ii (gR r1 r2 r4)), (135, .agg #[ii r1.1, ii r1.2.1, ii (w64 (r1.2.2 + 1))]), (137, pp 0 2), (144, ii (List.getD r4 (Int.toNat r2.1) 0)), (146, pp 0 0), (150, ii r1.1)]) (by kernel_rfl) ?_
                    refine XR.done (by kernel_rfl) ?_
                    refine ⟨rfl, ?_⟩
                    show XA _ _ _ _ _ _ _ _ _ _
                    refine XA.ren (σ' := [(3, pp 0 0), (10, s0 1 r6.1.length), (13, s0 2 r7.1.length), (15, ii (gR r1 r2 r4)), (135, .agg #[ii r1.1, ii r1.2.1, ii (w64 (r1.2.2 + 1))]), (137, pp 0 2), (144, ii (List.getD r4 (Int.toNat r2.1) 0)), (146, pp 0 0), (150, ii r1.1)]) (h' := [(2, rc (encI .i64) r7.1 0 3 1), (1, rc (encI .i64) r6.1 0 3 1), (0, .cells [ii r1.1, ii r1.2.1, ii r1.2.2] 0 23 0)]) (c' := 3) [0, 1, 2] (by decide) rfl ⟨by kernel_rfl, by kernel_rfl, by kernel_rfl, by kernel_rfl, by kernel_rfl, by kernel_rfl, by kernel_rfl, by kernel_rfl, by kernel_rfl, trivial⟩ ⟨⟨_, _, rfl, rfl, .inl ⟨rfl, rowC_scal (encI_ok .i64) _⟩⟩, ⟨_, _, rfl, rfl, .inl ⟨rfl, rowC_scal (encI_ok .i64) _⟩⟩, ⟨_, _, rfl, rfl, .inr ⟨_, _, _, _, rfl, rfl⟩⟩, trivial⟩ rfl ?_
                    exact xa53
                   ·refine XR.runS E0_ok 1 1 [(3, pp 0 0), (10, s0 1 r6.1.length), (13, s0 2 r7.1.length), (15, ii (gR r1 r2 r4)), (135, .agg #[ii r1.1, ii r1.2.1, ii (w64 (r1.2.2 + 1))]), (137, pp 0 2), (143, pp 3 ((Int.toNat r2.1) * 1)), (147, ii r1.1), (150, ii r1.1)] rfl (by kernel_rfl) ?_
                    refine XR.done (by kernel_rfl) ?_
                    refine ⟨rfl, ?_⟩
                    show XA _ _ _ _ _ _ _ _ _ _
                    exact xa55
                  have xa1 : XA E0 181 0 (opsOf (lft (rgt (rgt (rgt (rgt (rgt (rgt (rgt (rgt (rgt (rgt (rgt (rgt (rgt (rgt f14_C14)))))))))))))))) 11 #[true, false, true, false, false, false, true, true, true, false, false, true, false, false, true, false, false, false] [(3, pp 0 0), (10, s0 1 r6.1.length), (13, s0 2 r7.1.length), (15, ii (gR r1 r2 r4)), (135, .agg #[ii r1.1, ii r1.2.1, ii (w64 (r1.2.2 + 1))]), (137, pp 0 2), (143, pp 3 ((Int.toNat r2.1) * 1)), (146, pp 0 0), (149, pp 0 0)] [(3, rc (encI .i64) r4 0 3 1), (2, rc (encI .i64) r7.1 0 3 1), (1, rc (encI .i64) r6.1 0 3 1), (0, .cells [ii r1.1, ii r1.2.1, ii r1.2.2] 0 23 0)] 4 (fun e σ1 h1 c1 => e = .normal ∧ (σ1, h1, c1) = ([(3, pp 0 0), (10, s0 1 r6.1.length), (13, s0 2 r7.1.length), (15, ii (gR r1 r2 r4)), (16, ii (Int.tmod (w64 ((w64 ((List.getD r9 (Int.toNat r1.2.2) 0) - (List.getD r4 (Int.toNat r2.1) 0))) + r1.1)) r1.1))], [(2, rc (encI .i64) r7.1 0 3 1), (1, rc (encI .i64) r6.1 0 3 1), (0, .cells [ii r1.1, ii r1.2.1, ii r1.2.2] 0 23 0)], 3)) := by
                   refine XA.step E0_ok [1, 3, 9, 12, 15] (by kernel_rfl) rfl (by kernel_rfl) ⟨?_, ?_, ?_, ?_, ?_, trivial⟩
                   ·refine XR.call E0_ok [3, 10, 13, 15, 136, 137, 143, 146, 149] rfl (K := 46) (args := [.agg #[ii r1.1, ii r1.2.1, ii (w64 (r1.2.2 + 1))]]) (d := (some (path 12 136))) (by kernel_rfl) (KC.lift (V2 := s0 4 r9.length) (H2 := [(4, rc (encI .i64) r9 0 3 1)]) [1, 2, 3, 4, 0] (f46_ok m r1.1 r1.2.1 (w64 (r1.2.2 + 1)) r9 r9_h) rfl (by decide) (by decide) (by kernel_rfl) ⟨⟨_, _, rfl, rfl, .inl ⟨rfl, rowC_scal (encI_ok .i64) _⟩⟩, trivial⟩ (by rfl)) ?_
                    rintro _ _ _ ⟨rfl, rfl, rfl⟩
                    refine XR.conv (σ' := [(3, pp 0 0), (10, s0 1 r6.1.length), (13, s0 2 r7.1.length), (15, ii (gR r1 r2 r4)), (136, s0 4 r9.length), (137, pp 0 2), (143, pp 3 ((Int.toNat r2.1) * 1)), (146, pp 0 0), (149, pp 0 0)]) (h' := [(4, rc (encI .i64) r9 0 3 1), (3, rc (encI .i64) r4 0 3 1), (2, rc (encI .i64) r7.1 0 3 1), (1, rc (encI .i64) r6.1 0 3 1), (0, .cells [ii r1.1, ii r1.2.1, ii r1.2.2] 0 23 0)]) (c' := 5) ?_ (by kernel_rfl)
                    refine XR.done (by kernel_rfl) ?_
                    refine ⟨rfl, ?_⟩
                    show XA _ _ _ _ _ _ _ _ _ _
                    refine XA.ren (σ' := [(3, pp 0 0), (10, s0 1 r6.1.length), (13, s0 2 r7.1.length), (15, ii (gR r1 r2 r4)), (136, s0 3 r9.length), (137, pp 0 2), (143, pp 4 ((Int.toNat r2.1) * 1)), (146, pp 0 0), (149, pp 0 0)]) (h' := [(4, rc (encI .i64) r4 0 3 1), (3, rc (encI .i64) r9 0 3 1), (2, rc (encI .i64) r7.1 0 3 1), (1, rc (encI .i64) r6.1 0 3 1), (0, .cells [ii r1.1, ii r1.2.1, ii r1.2.2] 0 23 0)]) (c' := 5) [0, 1, 2, 4, 3] (by decide) rfl ⟨by kernel_rfl, by kernel_rfl, by kernel_rfl, by kernel_rfl, by kernel_rfl, by kernel_rfl, by kernel_rfl, by kernel_rfl, by kernel_rfl, trivial⟩ ⟨⟨_, _, rfl, rfl, .inl ⟨rfl, rowC_scal (encI_ok .i64) _⟩⟩, ⟨_, _, rfl, rfl, .inl ⟨rfl, rowC_scal (encI_ok .i64) _⟩⟩, ⟨_, _, rfl, rfl, .inl ⟨rfl, rowC_scal (encI_ok .i64) _⟩⟩, ⟨_, _, rfl, rfl, .inl ⟨rfl, rowC_scal (encI_ok .i64) _⟩⟩, ⟨_, _, rfl, rfl, .inr ⟨_, _, _, _, rfl, rfl⟩⟩, trivial⟩ rfl ?_
                    exact xa2
                   ·refine XR.runS E0_ok 1 1 [(3, pp 0 0), (10, s0 1 r6.1.length), (13, s0 2 r7.1.length), (15, ii (gR r1 r2 r4)), (135, .agg #[ii r1.1, ii r1.2.1, ii (w64 (r1.2.2 + 1))]), (138, ii r1.2.2), (143, pp 3 ((Int.toNat r2.1) * 1)), (146, pp 0 0), (149, pp 0 0)] rfl (by kernel_rfl) ?_
                    refine XR.done (by kernel_rfl) ?_
                    refine ⟨rfl, ?_⟩
                    show XA _ _ _ _ _ _ _ _ _ _
                    exact xa42
                   ·refine XR.rd E0_ok [3, 10, 13, 15, 135, 137, 144, 146, 149] rfl (v := ii (List.getD r4 (Int.toNat r2.1) 0)) (v_load1 (encI_ok .i64) (x := (src 181 (.tmp 143))) (b := 3) (off := (Int.toNat r2.1) * 1) (xs := r4) (fz := 0) (e := 3) (es := 1) (d := (some (path 12 144))) (by kernel_rfl) (by kernel_rfl) (by kernel_rfl) (Int.toNat r2.1) 0 0 (by first | rfl | omega) (row_len (inRow_toNat b17) (by simp)) rfl rfl) (σ' := [(3, pp 0 0), (10, s0 1 r6.1.length), (13, s0 2 r7.1.length), (15, ii (gR r1 r2 r4)), (135, .agg #[ii r1.1, ii r1.2.1, ii (w64 (r1.2.2 + 1))]), (137, pp 0 2), (144, ii (List.getD r4 (Int.toNat r2.1) 0)), (146, pp 0 0), (149, pp 0 0)]) (by kernel_rfl) ?_
                    refine XR.done (by kernel_rfl) ?_
                    refine ⟨rfl, ?_⟩
                    show XA _ _ _ _ _ _ _ _ _ _
                    refine XA.ren (σ' := [(3, pp 0 0), (10, s0 1 r6.1.length), (13, s0 2 r7.1.length), (15, ii (gR r1 r2 r4)), (135, .agg #[ii r1.1, ii r1.2.1, ii (w64 (r1.2.2 + 1))]), (137, pp 0 2), (144, ii (List.getD r4 (Int.toNat r2.1) 0)), (146, pp 0 0), (149, pp 0 0)]) (h' := [(2, rc (encI .i64) r7.1 0 3 1), (1, rc (encI .i64) r6.1 0 3 1), (0, .cells [ii r1.1, ii r1.2.1, ii r1.2.2] 0 23 0)]) (c' := 3) [0, 1, 2] (by decide) rfl ⟨by kernel_rfl, by kernel_rfl, by kernel_rfl, by kernel_rfl, by kernel_rfl, by kernel_rfl, by kernel_rfl, by kernel_rfl, by kernel_rfl, trivial⟩ ⟨⟨_, _, rfl, rfl, .inl ⟨rfl, rowC_scal (encI_ok .i64) _⟩⟩, ⟨_, _, rfl, rfl, .inl ⟨rfl, rowC_scal (encI_ok .i64) _⟩⟩, ⟨_, _, rfl, rfl, .inr ⟨_, _, _, _, rfl, rfl⟩⟩, trivial⟩ rfl ?_
                    exact xa50
                   ·refine XR.runS E0_ok 1 1 [(3, pp 0 0), (10, s0 1 r6.1.length), (13, s0 2 r7.1.length), (15, ii (gR r1 r2 r4)), (135, .agg #[ii r1.1, ii r1.2.1, ii (w64 (r1.2.2 + 1))]), (137, pp 0 2), (143, pp 3 ((Int.toNat r2.1) * 1)), (147, ii r1.1), (149, pp 0 0)] rfl (by kernel_rfl) ?_
                    refine XR.done (by kernel_rfl) ?_
                    refine ⟨rfl, ?_⟩
                    show XA _ _ _ _ _ _ _ _ _ _
                    exact xa54
                   ·refine XR.runS E0_ok 1 1 [(3, pp 0 0), (10, s0 1 r6.1.length), (13, s0 2 r7.1.length), (15, ii (gR r1 r2 r4)), (135, .agg #[ii r1.1, ii r1.2.1, ii (w64 (r1.2.2 + 1))]), (137, pp 0 2), (143, pp 3 ((Int.toNat r2.1) * 1)), (146, pp 0 0), (150, ii r1.1)] rfl (by kernel_rfl) ?_
                    refine XR.done (by kernel_rfl) ?_
                    refine ⟨rfl, ?_⟩
                    show XA _ _ _ _ _ _ _ _ _ _
                    exact xa56
                  have xa60 : XA E0 181 0 (opsOf (lft (rgt (rgt (rgt (rgt (rgt (rgt (rgt (rgt (rgt (rgt (rgt (rgt (rgt (rgt f14_C14)))))))))))))))) 8 #[false, false, true, true, false, false, true, true, true, true, false, true, true, false, true, true, false, false] [(3, pp 0 0), (10, s0 1 r6.1.length), (12, pp 2 0), (13, s0 3 r7.1.length), (15, ii (gR r1 r2 r4)), (138, ii r1.2.2), (144, ii (List.getD r4 (Int.toNat r2.1) 0)), (147, ii r1.1), (150, ii r1.1)] [(3, rc (encI .i64) r7.1 0 3 1), (2, .cells [ii r1.1, ii r1.2.1, ii (w64 (r1.2.2 + 1))] 0 23 0), (1, rc (encI .i64) r6.1 0 3 1), (0, .cells [ii r1.1, ii r1.2.1, ii r1.2.2] 0 23 0)] 4 (fun e σ1 h1 c1 => e = .normal ∧ (σ1, h1, c1) = ([(3, pp 0 0), (10, s0 1 r6.1.length), (13, s0 2 r7.1.length), (15, ii (gR r1 r2 r4)), (16, ii (Int.tmod (w64 ((w64 ((List.getD r9 (Int.toNat r1.2.2) 0) - (List.getD r4 (Int.toNat r2.1) 0))) + r1.1)) r1.1))], [(2, rc (encI .i64) r7.1 0 3 1), (1, rc (encI .i64) r6.1 0 3 1), (0, .cells [ii r1.1, ii r1.2.1, ii r1.2.2] 0 23 0)], 3)) := by
                   refine XA.step E0_ok [0] (by kernel_rfl) rfl (by kernel_rfl) ⟨?_, trivial⟩
                   ·refine XR.runS E0_ok 1 1 [(3, pp 0 0), (10, s0 1 r6.1.length), (13, s0 3 r7.1.length), (15, ii (gR r1 r2 r4)), (135, .agg #[ii r1.1, ii r1.2.1, ii (w64 (r1.2.2 + 1))]), (138, ii r1.2.2), (144, ii (List.getD r4 (Int.toNat r2.1) 0)), (147, ii r1.1), (150, ii r1.1)] rfl (by kernel_rfl) ?_
                    refine XR.done (by kernel_rfl) ?_
                    refine ⟨rfl, ?_⟩
                    show XA _ _ _ _ _ _ _ _ _ _
                    refine XA.ren (σ' := [(3, pp 0 0), (10, s0 1 r6.1.length), (13, s0 2 r7.1.length), (15, ii (gR r1 r2 r4)), (135, .agg #[ii r1.1, ii r1.2.1, ii (w64 (r1.2.2 + 1))]), (138, ii r1.2.2), (144, ii (List.getD r4 (Int.toNat r2.1) 0)), (147, ii r1.1), (150, ii r1.1)]) (h' := [(2, rc (encI .i64) r7.1 0 3 1), (1, rc (encI .i64) r6.1 0 3 1), (0, .cells [ii r1.1, ii r1.2.1, ii r1.2.2] 0 23 0)]) (c' := 3) [0, 1, 3] (by decide) rfl ⟨by kernel_rfl, by kernel_rfl, by kernel_rfl, by kernel_rfl, by kernel_rfl, by kernel_rfl, by kernel_rfl, by kernel_rfl, by kernel_rfl, trivial⟩ ⟨⟨_, _, rfl, rfl, .inl ⟨rfl, rowC_scal (encI_ok .i64) _⟩⟩, ⟨_, _, rfl, rfl, .inl ⟨rfl, rowC_scal (encI_ok .i64) _⟩⟩, ⟨_, _, rfl, rfl, .inr ⟨_, _, _, _, rfl, rfl⟩⟩, trivial⟩ rfl ?_
                    exact xa45
                  have xa59 : XA E0 181 0 (opsOf (lft (rgt (rgt (rgt (rgt (rgt (rgt (rgt (rgt (rgt (rgt (rgt (rgt (rgt (rgt f14_C14)))))))))))))))) 9 #[false, false, true, true, false, false, true, true, true, true, false, true, true, false, true, false, false, false] [(3, pp 0 0), (10, s0 1 r6.1.length), (12, pp 2 0), (13, s0 3 r7.1.length), (15, ii (gR r1 r2 r4)), (138, ii r1.2.2), (144, ii (List.getD r4 (Int.toNat r2.1) 0)), (147, ii r1.1), (149, pp 0 0)] [(3, rc (encI .i64) r7.1 0 3 1), (2, .cells [ii r1.1, ii r1.2.1, ii (w64 (r1.2.2 + 1))] 0 23 0), (1, rc (encI .i64) r6.1 0 3 1), (0, .cells [ii r1.1, ii r1.2.1, ii r1.2.2] 0 23 0)] 4 (fun e σ1 h1 c1 => e = .normal ∧ (σ1, h1, c1) = ([(3, pp 0 0), (10, s0 1 r6.1.length), (13, s0 2 r7.1.length), (15, ii (gR r1 r2 r4)), (16, ii (Int.tmod (w64 ((w64 ((List.getD r9 (Int.toNat r1.2.2) 0) - (List.getD r4 (Int.toNat r2.1) 0))) + r1.1)) r1.1))], [(2, rc (encI .i64) r7.1 0 3 1), (1, rc (encI .i64) r6.1 0 3 1), (0, .cells [ii r1.1, ii r1.2.1, ii r1.2.2] 0 23 0)], 3)) := by
                   refine XA.step E0_ok [0, 15] (by kernel_rfl) rfl (by kernel_rfl) ⟨?_, ?_, trivial⟩
                   ·refine XR.runS E0_ok 1 1 [(3, pp 0 0), (10, s0 1 r6.1.length), (13, s0 3 r7.1.length), (15, ii (gR r1 r2 r4)), (135, .agg #[ii r1.1, ii r1.2.1, ii (w64 (r1.2.2 + 1))]), (138, ii r1.2.2), (144, ii (List.getD r4 (Int.toNat r2.1) 0)), (147, ii r1.1), (149, pp 0 0)] rfl (by kernel_rfl) ?_
                    refine XR.done (by kernel_rfl) ?_
                    refine ⟨rfl, ?_⟩
                    show XA _ _ _ _ _ _ _ _ _ _
                    refine XA.ren (σ' := [(3, pp 0 0), (10, s0 1 r6.1.length), (13, s0 2 r7.1.length), (15, ii (gR r1 r2 r4)), (135, .agg #[ii r1.1, ii r1.2.1, ii (w64 (r1.2.2 + 1))]), (138, ii r1.2.2), (144, ii (List.getD r4 (Int.toNat r2.1) 0)), (147, ii r1.1), (149, pp 0 0)]) (h' := [(2, rc (encI .i64) r7.1 0 3 1), (1, rc (encI .i64) r6.1 0 3 1), (0, .cells [ii r1.1, ii r1.2.1, ii r1.2.2] 0 23 0)]) (c' := 3) [0, 1, 3] (by decide) rfl ⟨by kernel_rfl, by kernel_rfl, by kernel_rfl, by kernel_rfl, by kernel_rfl, by kernel_rfl, by kernel_rfl, by kernel_rfl, by kernel_rfl, trivial⟩ ⟨⟨_, _, rfl, rfl, .inl ⟨rfl, rowC_scal (encI_ok .i64) _⟩⟩, ⟨_, _, rfl, rfl, .inl ⟨rfl, rowC_scal (encI_ok .i64) _⟩⟩, ⟨_, _, rfl, rfl, .inr ⟨_, _, _, _, rfl, rfl⟩⟩, trivial⟩ rfl ?_
                    exact xa44
                   ·refine XR.runS E0_ok 1 1 [(3, pp 0 0), (10, s0 1 r6.1.length), (12, pp 2 0), (13, s0 3 r7.1.length), (15, ii (gR r1 r2 r4)), (138, ii r1.2.2), (144, ii (List.getD r4 (Int.toNat r2.1) 0)), (147, ii r1.1), (150, ii r1.1)] rfl (by kernel_rfl) ?_
                    refine XR.done (by kernel_rfl) ?_
                    refine ⟨rfl, ?_⟩
                    show XA _ _ _ _ _ _ _ _ _ _
                    exact xa60
                  have xa61 : XA E0 181 0 (opsOf (lft (rgt (rgt (rgt (rgt (rgt (rgt (rgt (rgt (rgt (rgt (rgt (rgt (rgt (rgt f14_C14)))))))))))))))) 9 #[false, false, true, true, false, false, true, true, true, true, false, true, false, false, true, true, false, false] [(3, pp 0 0), (10, s0 1 r6.1.length), (12, pp 2 0), (13, s0 3 r7.1.length), (15, ii (gR r1 r2 r4)), (138, ii r1.2.2), (144, ii (List.getD r4 (Int.toNat r2.1) 0)), (146, pp 0 0), (150, ii r1.1)] [(3, rc (encI .i64) r7.1 0 3 1), (2, .cells [ii r1.1, ii r1.2.1, ii (w64 (r1.2.2 + 1))] 0 23 0), (1, rc (encI .i64) r6.1 0 3 1), (0, .cells [ii r1.1, ii r1.2.1, ii r1.2.2] 0 23 0)] 4 (fun e σ1 h1 c1 => e = .normal ∧ (σ1, h1, c1) = ([(3, pp 0 0), (10, s0 1 r6.1.length), (13, s0 2 r7.1.length), (15, ii (gR r1 r2 r4)), (16, ii (Int.tmod (w64 ((w64 ((List.getD r9 (Int.toNat r1.2.2) 0) - (List.getD r4 (Int.toNat r2.1) 0))) + r1.1)) r1.1))], [(2, rc (encI .i64) r7.1 0 3 1), (1, rc (encI .i64) r6.1 0 3 1), (0, .cells [ii r1.1, ii r1.2.1, ii r1.2.2] 0 23 0)], 3)) := by
                   refine XA.step E0_ok [0, 12] (by kernel_rfl) rfl (by kernel_rfl) ⟨?_, ?_, trivial⟩
                   ·refine XR.runS E0_ok 1 1 [(3, pp 0 0), (10, s0 1 r6.1.length), (13, s0 3 r7.1.length), (15, ii (gR r1 r2 r4)), (135, .agg #[ii r1.1, ii r1.2.1, ii (w64 (r1.2.2 + 1))]), (138, ii r1.2.2), (144, ii (List.getD r4 (Int.toNat r2.1) 0)), (146, pp 0 0), (150, ii r1.1)] rfl (by kernel_rfl) ?_
                    refine XR.done (by kernel_rfl) ?_
                    refine ⟨rfl, ?_⟩
                    show XA _ _ _ _ _ _ _ _ _ _
                    refine XA.ren (σ' := [(3, pp 0 0), (10, s0 1 r6.1.length), (13, s0 2 r7.1.length), (15, ii (gR r1 r2 r4)), (135, .agg #[ii r1.1, ii r1.2.1, ii (w64 (r1.2.2 + 1))]), (138, ii r1.2.2), (144, ii (List.getD r4 (Int.toNat r2.1) 0)), (146, pp 0 0), (150, ii r1.1)]) (h' := [(2, rc (encI .i64) r7.1 0 3 1), (1, rc (encI .i64) r6.1 0 3 1), (0, .cells [ii r1.1, ii r1.2.1, ii r1.2.2] 0 23 0)]) (c' := 3) [0, 1, 3] (by decide) rfl ⟨by kernel_rfl, by kernel_rfl, by kernel_rfl, by kernel_rfl, by kernel_rfl, by kernel_rfl, by kernel_rfl, by kernel_rfl, by kernel_rfl, trivial⟩ ⟨⟨_, _, rfl, rfl, .inl ⟨rfl, rowC_scal (encI_ok .i64) _⟩⟩, ⟨_, _, rfl, rfl, .inl ⟨rfl, rowC_scal (encI_ok .i64) _⟩⟩, ⟨_, _, rfl, rfl, .inr ⟨_, _, _, _, rfl, rfl⟩⟩, trivial⟩ rfl ?_
                    exact xa46
                   ·refine XR.runS E0_ok 1 1 [(3, pp 0 0), (10, s0 1 r6.1.length), (12, pp 2 0), (13, s0 3 r7.1.length), (15, ii (gR r1 r2 r4)), (138, ii r1.2.2), (144, ii (List.getD r4 (Int.toNat r2.1) 0)), (147, ii r1.1), (150, ii r1.1)] rfl (by kernel_rfl) ?_
                    refine XR.done (by kernel_rfl) ?_
                    refine ⟨rfl, ?_⟩
                    show XA _ _ _ _ _ _ _ _ _ _
                    exact xa60
                  have xa58 : XA E0 181 0 (opsOf (lft (rgt (rgt (rgt (rgt (rgt (rgt (rgt (rgt (rgt (rgt (rgt (rgt (rgt (rgt f14_C14)))))))))))))))) 10 #[false, false, true, true, false, false, true, true, true, true, false, true, false, false, true, false, false, false] [(3, pp 0 0), (10, s0 1 r6.1.length), (12, pp 2 0), (13, s0 3 r7.1.length), (15, ii (gR r1 r2 r4)), (138, ii r1.2.2), (144, ii (List.getD r4 (Int.toNat r2.1) 0)), (146, pp 0 0), (149, pp 0 0)] [(3, rc (encI .i64) r7.1 0 3 1), (2, .cells [ii r1.1, ii r1.2.1, ii (w64 (r1.2.2 + 1))] 0 23 0), (1, rc (encI .i64) r6.1 0 3 1), (0, .cells [ii r1.1, ii r1.2.1, ii r1.2.2] 0 23 0)] 4 (fun e σ1 h1 c1 => e = .normal ∧ (σ1, h1, c1) = ([(3, pp 0 0), (10, s0 1 r6.1.length), (13, s0 2 r7.1.length), (15, ii (gR r1 r2 r4)), (16, ii (Int.tmod (w64 ((w64 ((List.getD r9 (Int.toNat r1.2.2) 0) - (List.getD r4 (Int.toNat r2.1) 0))) + r1.1)) r1.1))], [(2, rc (encI .i64) r7.1 0 3 1), (1, rc (encI .i64) r6.1 0 3 1), (0, .cells [ii r1.1, ii r1.2.1, ii r1.2.2] 0 23 0)], 3)) := by
                   refine XA.step E0_ok [0, 12, 15] (by kernel_rfl) rfl (by kernel_rfl) ⟨?_, ?_, ?_, trivial⟩
                   ·refine XR.runS E0_ok 1 1 [(3, pp 0 0), (10, s0 1 r6.1.length), (13, s0 3 r7.1.length), (15, ii (gR r1 r2 r4)), (135, .agg #[ii r1.1, ii r1.2.1, ii (w64 (r1.2.2 + 1))]), (138, ii r1.2.2), (144, ii (List.getD r4 (Int.toNat r2.1) 0)), (146, pp 0 0), (149, pp 0 0)] rfl (by kernel_rfl) ?_
                    refine XR.done (by kernel_rfl) ?_
                    refine ⟨rfl, ?_⟩
                    show XA _ _ _ _ _ _ _ _ _ _
                    refine XA.ren (σ' := [(3, pp 0 0), (10, s0 1 r6.1.length), (13, s0 2 r7.1.length), (15, ii (gR r1 r2 r4)), (135, .agg #[ii r1.1, ii r1.2.1, ii (w64 (r1.2.2 + 1))]), (138, ii r1.2.2), (144, ii (List.getD r4 (Int.toNat r2.1) 0)), (146, pp 0 0), (149, pp 0 0)]) (h' := [(2, rc (encI .i64) r7.1 0 3 1), (1, rc (encI .i64) r6.1 0 3 1), (0, .cells [ii r1.1, ii r1.2.1, ii r1.2.2] 0 23 0)]) (c' := 3) [0, 1, 3] (by decide) rfl ⟨by kernel_rfl, by kernel_rfl, by kernel_rfl, by kernel_rfl, by kernel_rfl, by kernel_rfl, by kernel_rfl, by kernel_rfl, by kernel_rfl, trivial⟩ ⟨⟨_, _, rfl, rfl, .inl ⟨rfl, rowC_scal (encI_ok .i64) _⟩⟩, ⟨_, _, rfl, rfl, .inl ⟨rfl, rowC_scal (encI_ok .i64) _⟩⟩, ⟨_, _, rfl, rfl, .inr ⟨_, _, _, _, rfl, rfl⟩⟩, trivial⟩ rfl ?_
                    exact xa43
                   ·refine XR.runS E0_ok 1 1 [(3, pp 0 0), (10, s0 1 r6.1.length), (12, pp 2 0), (13, s0 3 r7.1.length), (15, ii (gR r1 r2 r4)), (138, ii r1.2.2), (144, ii (List.getD r4 (Int.toNat r2.1) 0)), (147, ii r1.1), (149, pp 0 0)] rfl (by kernel_rfl) ?_
                    refine XR.done (by kernel_rfl) ?_
                    refine ⟨rfl, ?_⟩
                    show XA _ _ _ _ _ _ _ _ _ _
                    exact xa59
                   ·refine XR.runS E0_ok 1 1 [(3, pp 0 0), (10, s0 1 r6.1.length), (12, pp 2 0), (13, s0 3 r7.1.length), (15, ii (gR r1 r2 r4)), (138, ii r1.2.2), (144, ii (List.getD r4 (Int.toNat r2.1) 0)), (146, pp 0 0), (150, ii r1.1)] rfl (by kernel_rfl) ?_
                    refine XR.done (by kernel_rfl) ?_
                    refine ⟨rfl, ?_⟩
                    show XA _ _ _ _ _ _ _ _ _ _
                    exact xa61
                  have xa63 : XA E0 181 0 (opsOf (lft (rgt (rgt (rgt (rgt (rgt (rgt (rgt (rgt (rgt (rgt (rgt (rgt (rgt (rgt f14_C14)))))))))))))))) 9 #[false, false, true, true, false, false, true, true, true, false, false, true, true, false, true, true, false, false] [(3, pp 0 0), (10, s0 1 r6.1.length), (12, pp 2 0), (13, s0 3 r7.1.length), (15, ii (gR r1 r2 r4)), (138, ii r1.2.2), (143, pp 4 ((Int.toNat r2.1) * 1)), (147, ii r1.1), (150, ii r1.1)] [(4, rc (encI .i64) r4 0 3 1), (3, rc (encI .i64) r7.1 0 3 1), (2, .cells [ii r1.1, ii r1.2.1, ii (w64 (r1.2.2 + 1))] 0 23 0), (1, rc (encI .i64) r6.1 0 3 1), (0, .cells [ii r1.1, ii r1.2.1, ii r1.2.2] 0 23 0)] 5 (fun e σ1 h1 c1 => e = .normal ∧ (σ1, h1, c1) = ([(3, pp 0 0), (10, s0 1 r6.1.length), (13, s0 2 r7.1.length), (15, ii (gR r1 r2 r4)), (16, ii (Int.tmod (w64 ((w64 ((List.getD r9 (Int.toNat r1.2.2) 0) - (List.getD r4 (Int.toNat r2.1) 0))) + r1.1)) r1.1))], [(2, rc (encI .i64) r7.1 0 3 1), (1, rc (encI .i64) r6.1 0 3 1), (0, .cells [ii r1.1, ii r1.2.1, ii r1.2.2] 0 23 0)], 3)) := by
                   refine XA.step E0_ok [0, 9] (by kernel_rfl) rfl (by kernel_rfl) ⟨?_, ?_, trivial⟩
                   ·refine XR.runS E0_ok 1 1 [(3, pp 0 0), (10, s0 1 r6.1.length), (13, s0 3 r7.1.length), (15, ii (gR r1 r2 r4)), (135, .agg #[ii r1.1, ii r1.2.1, ii (w64 (r1.2.2 + 1))]), (138, ii r1.2.2), (143, pp 4 ((Int.toNat r2.1) * 1)), (147, ii r1.1), (150, ii r1.1)] rfl (by kernel_rfl) ?_
                    refine XR.done (by kernel_rfl) ?_
                    refine ⟨rfl, ?_⟩
                    show XA _ _ _ _ _ _ _ _ _ _
                    refine XA.ren (σ' := [(3, pp 0 0), (10, s0 1 r6.1.length), (13, s0 2 r7.1.length), (15, ii (gR r1 r2 r4)), (135, .agg #[ii r1.1, ii r1.2.1, ii (w64 (r1.2.2 + 1))]), (138, ii r1.2.2), (143, pp 3 ((Int.toNat r2.1) * 1)), (147, ii r1.1), (150, ii r1.1)]) (h' := [(3, rc (encI .i64) r4 0 3 1), (2, rc (encI .i64) r7.1 0 3 1), (1, rc (encI .i64) r6.1 0 3 1), (0, .cells [ii r1.1, ii r1.2.1, ii r1.2.2] 0 23 0)]) (c' := 4) [0, 1, 3, 4] (by decide) rfl ⟨by kernel_rfl, by kernel_rfl, by kernel_rfl, by kernel_rfl, by kernel_rfl, by kernel_rfl, by kernel_rfl, by kernel_rfl, by kernel_rfl, trivial⟩ ⟨⟨_, _, rfl, rfl, .inl ⟨rfl, rowC_scal (encI_ok .i64) _⟩⟩, ⟨_, _, rfl, rfl, .inl ⟨rfl, rowC_scal (encI_ok .i64) _⟩⟩, ⟨_, _, rfl, rfl, .inl ⟨rfl, rowC_scal (encI_ok .i64) _⟩⟩, ⟨_, _, rfl, rfl, .inr ⟨_, _, _, _, rfl, rfl⟩⟩, trivial⟩ rfl ?_
                    exact xa48
                   ·refine XR.rd E0_ok [3, 10, 12, 13, 15, 138, 144, 147, 150] rfl (v := ii (List.getD r4 (Int.toNat r2.1) 0)) (v_load1 (encI_ok .i64) (x := (src 181 (.tmp 143))) (b := 4) (off := (Int.toNat r2.1) * 1) (xs := r4) (fz := 0) (e := 3) (es := 1) (d := (some (path 12 144))) (by kernel_rfl) (by kernel_rfl) (by kernel_rfl) (Int.toNat r2.1) 0 0 (by first | rfl | omega) (row_len (inRow_toNat b17) (by simp)) rfl rfl) (σ' := [(3, pp 0 0), (10, s0 1 r6.1.length), (12, pp 2 0), (13, s0 3 r7.1.length), (15, ii (gR r1 r2 r4)), (138, ii r1.2.2), (144, ii (List.getD r4 (Int.toNat r2.1) 0)), (147, ii r1.1), (150, ii r1.1)]) (by kernel_rfl) ?_
                    refine XR.done (by kernel_rfl) ?_
                    refine ⟨rfl, ?_⟩
                    show XA _ _ _ _ _ _ _ _ _ _
                    refine XA.ren (σ' := [(3, pp 0 0), (10, s0 1 r6.1.length), (12, pp 2 0), (13, s0 3 r7.1.length), (15, ii (gR r1 r2 r4)), (138, ii r1.2.2), (144, ii (List.getD r4 (Int.toNat r2.1) 0)), (147, ii r1.1), (150, ii r1.1)]) (h' := [(3, rc (encI .i64) r7.1 0 3 1), (2, .cells [ii r1.1, ii r1.2.1, ii (w64 (r1.2.2 + 1))] 0 23 0), (1, rc (encI .i64) r6.1 0 3 1), (0, .cells [ii r1.1, ii r1.2.1, ii r1.2.2] 0 23 0)]) (c' := 4) [0, 1, 2, 3] (by decide) rfl ⟨by kernel_rfl, by kernel_rfl, by kernel_rfl, by kernel_rfl, by kernel_rfl, by kernel_rfl, by kernel_rfl, by kernel_rfl, by kernel_rfl, trivial⟩ ⟨⟨_, _, rfl, rfl, .inl ⟨rfl, rowC_scal (encI_ok .i64) _⟩⟩, ⟨_, _, rfl, rfl, .inr ⟨_, _, _, _, rfl, rfl⟩⟩, ⟨_, _, rfl, rfl, .inl ⟨rfl, rowC_scal (encI_ok .i64) _⟩⟩, ⟨_, _, rfl, rfl, .inr ⟨_, _, _, _, rfl, rfl⟩⟩, trivial⟩ rfl ?_
                    exact xa60
                  have xa62 : XA E0 181 0 (opsOf (lft (rgt (rgt (rgt (rgt (rgt (rgt (rgt (rgt (rgt (rgt (rgt (rgt (rgt (rgt f14_C14)))))))))))))))) 10 #[false, false, true, true, false, false, true, true, true, false, false, true, true, false, true, false, false, false] [(3, pp 0 0), (10, s0 1 r6.1.length), (12, pp 2 0), (13, s0 3 r7.1.length), (15, ii (gR r1 r2 r4)), (138, ii r1.2.2), (143, pp 4 ((Int.toNat r2.1) * 1)), (147, ii r1.1), (149, pp 0 0)] [(4, rc (encI .i64) r4 0 3 1), (3, rc (encI .i64) r7.1 0 3 1), (2, .cells [ii r1.1, ii r1.2.1, ii (w64 (r1.2.2 + 1))] 0 23 0), (1, rc (encI .i64) r6.1 0 3 1), (0, .cells [ii r1.1, ii r1.2.1, ii r1.2.2] 0 23 0)] 5 (fun e σ1 h1 c1 => e = .normal ∧ (σ1, h1, c1) = ([(3, pp 0 0), (10, s0 1 r6.1.length), (13, s0 2 r7.1.length), (15, ii (gR r1 r2 r4)), (16, ii (Int.tmod (w64 ((w64 ((List.getD r9 (Int.toNat r1.2.2) 0) - (List.getD r4 (Int.toNat r2.1) 0))) + r1.1)) r1.1))], [(2, rc (encI .i64) r7.1 0 3 1), (1, rc (encI .i64) r6.1 0 3 1), (0, .cells [ii r1.1, ii r1.2.1, ii r1.2.2] 0 23 0)], 3)) := by
                   refine XA.step E0_ok [0, 9, 15] (by kernel_rfl) rfl (by kernel_rfl) ⟨?_, ?_, ?_, trivial⟩
                   ·refine XR.runS E0_ok 1 1 [(3, pp 0 0), (10, s0 1 r6.1.length), (13, s0 3 r7.1.length), (15, ii (gR r1 r2 r4)), (135, .agg #[ii r1.1, ii r1.2.1, ii (w64 (r1.2.2 + 1))]), (138, ii r1.2.2), (143, pp 4 ((Int.toNat r2.1) * 1)), (147, ii r1.1), (149, pp 0 0)] rfl (by kernel_rfl) ?_
                    refine XR.done (by kernel_rfl) ?_
                    refine ⟨rfl, ?_⟩
                    show XA _ _ _ _ _ _ _ _ _ _
                    refine XA.ren (σ' := [(3, pp 0 0), (10, s0 1 r6.1.length), (13, s0 2 r7.1.length), (15, ii (gR r1 r2 r4)), (135, .agg #[ii r1.1, ii r1.2.1, ii (w64 (r1.2.2 + 1))]), (138, ii r1.2.2), (143, pp 3 ((Int.toNat r2.1) * 1)), (147, ii r1.1), (149, pp 0 0)]) (h' := [(3, rc (encI .i64) r4 0 3 1), (2, rc (encI .i64) r7.1 0 3 1), (1, rc (encI .i64) r6.1 0 3 1), (0, .cells [ii r1.1, ii r1.2.1, ii r1.2.2] 0 23 0)]) (c' := 4) [0, 1, 3, 4] (by decide) rfl ⟨by kernel_rfl, by kernel_rfl, by kernel_rfl, by kernel_rfl, by kernel_rfl, by kernel_rfl, by kernel_rfl, by kernel_rfl, by kernel_rfl, trivial⟩ ⟨⟨_, _, rfl, rfl, .inl ⟨rfl, rowC_scal (encI_ok .i64) _⟩⟩, ⟨_, _, rfl, rfl, .inl ⟨rfl, rowC_scal (encI_ok .i64) _⟩⟩, ⟨_, _, rfl, rfl, .inl ⟨rfl, rowC_scal (encI_ok .i64) _⟩⟩, ⟨_, _, rfl, rfl, .inr ⟨_, _, _, _, rfl, rfl⟩⟩, trivial⟩ rfl ?_
                    exact xa47
                   ·refine XR.rd E0_ok [3, 10, 12, 13, 15, 138, 144, 147, 149] rfl (v := ii (List.getD r4 (Int.toNat r2.1) 0)) (v_load1 (encI_ok .i64) (x := (src 181 (.tmp 143))) (b := 4) (off := (Int.toNat r2.1) * 1) (xs := r4) (fz := 0) (e := 3) (es := 1) (d := (some (path 12 144))) (by kernel_rfl) (by kernel_rfl) (by kernel_rfl) (Int.toNat r2.1) 0 0 (by first | rfl | omega) (row_len (inRow_toNat b17) (by simp)) rfl rfl) (σ' := [(3, pp 0 0), (10, s0 1 r6.1.length), (12, pp 2 0), (13, s0 3 r7.1.length), (15, ii (gR r1 r2 r4)), (138, ii r1.2.2), (144, ii (List.getD r4 (Int.toNat r2.1) 0)), (147, ii r1.1), (149, pp 0 0)]) (by kernel_rfl) ?_
                    refine XR.done (by kernel_rfl) ?_
                    refine ⟨rfl, ?_⟩
                    show XA _ _ _ _ _ _ _ _ _ _
                    refine XA.ren (σ' := [(3, pp 0 0), (10, s0 1 r6.1.length), (12, pp 2 0), (13, s0 3 r7.1.length), (15, ii (gR r1 r2 r4)), (138, ii r1.2.2), (144, ii (List.getD r4 (Int.toNat r2.1) 0)), (147, ii r1.1), (149, pp 0 0)]) (h' := [(3, rc (encI .i64) r7.1 0 3 1), (2, .cells [ii r1.1, ii r1.2.1, ii (w64 (r1.2.2 + 1))] 0 23 0), (1, rc (encI .i64) r6.1 0 3 1), (0, .cells [ii r1.1, ii r1.2.1, ii r1.2.2] 0 23 0)]) (c' := 4) [0, 1, 2, 3] (by decide) rfl ⟨by kernel_rfl, by kernel_rfl, by kernel_rfl, by kernel_rfl, by kernel_rfl, by kernel_rfl, by kernel_rfl, by kernel_rfl, by kernel_rfl, trivial⟩ ⟨⟨_, _, rfl, rfl, .inl ⟨rfl, rowC_scal (encI_ok .i64) _⟩⟩, ⟨_, _, rfl, rfl, .inr ⟨_, _, _, _, rfl, rfl⟩⟩, ⟨_, _, rfl, rfl, .inl ⟨rfl, rowC_scal (encI_ok .i64) _⟩⟩, ⟨_, _, rfl, rfl, .inr ⟨_, _, _, _, rfl, rfl⟩⟩, trivial⟩ rfl ?_
                    exact xa59
                   ·refine XR.runS E0_ok 1 1 [(3, pp 0 0), (10, s0 1 r6.1.length), (12, pp 2 0), (13, s0 3 r7.1.length), (15, ii (gR r1 r2 r4)), (138, ii r1.2.2), (143, pp 4 ((Int.toNat r2.1) * 1)), (147, ii r1.1), (150, ii r1.1)] rfl (by kernel_rfl) ?_
                    refine XR.done (by kernel_rfl) ?_
                    refine ⟨rfl, ?_⟩
                    show XA _ _ _ _ _ _ _ _ _ _
                    exact xa63
                  have xa64 : XA E0 181 0 (opsOf (lft (rgt (rgt (rgt (rgt (rgt (rgt (rgt (rgt (rgt (rgt (rgt (rgt (rgt (rgt f14_C14)))))))))))))))) 10 #[false, false, true, true, false, false, true, true, true, false, false, true, false, false, true, true, false, false] [(3, pp 0 0), (10, s0 1 r6.1.length), (12, pp 2 0), (13, s0 3 r7.1.length), (15, ii (gR r1 r2 r4)), (138, ii r1.2.2), (143, pp 4 ((Int.toNat r2.1) * 1)), (146, pp 0 0), (150, ii r1.1)] [(4, rc (encI .i64) r4 0 3 1), (3, rc (encI .i64) r7.1 0 3 1), (2, .cells [ii r1.1, ii r1.2.1, ii (w64 (r1.2.2 + 1))] 0 23 0), (1, rc (encI .i64) r6.1 0 3 1), (0, .cells [ii r1.1, ii r1.2.1, ii r1.2.2] 0 23 0)] 5 (fun e σ1 h1 c1 => e = .normal ∧ (σ1, h1, c1) = ([(3, pp 0 0), (10, s0 1 r6.1.length), (13, s0 2 r7.1.length), (15, ii (gR r1 r2 r4)), (16, ii (Int.tmod (w64 ((w64 ((List.getD r9 (Int.toNat r1.2.2) 0) - (List.getD r4 (Int.toNat r2.1) 0))) + r1.1)) r1.1))], [(2, rc (encI .i64) r7.1 0 3 1), (1, rc (encI .i64) r6.1 0 3 1), (0, .cells [ii r1.1, ii r1.2.1, ii r1.2.2] 0 23 0)], 3)) := by
                   refine XA.step E0_ok [0, 9, 12] (by kernel_rfl) rfl (by kernel_rfl) ⟨?_, ?_, ?_, trivial⟩
                   ·refine XR.runS E0_ok 1 1 [(3, pp 0 0), (10, s0 1 r6.1.length), (13, s0 3 r7.1.length), (15, ii (gR r1 r2 r4)), (135, .agg #[ii r1.1, ii r1.2.1, ii (w64 (r1.2.2 + 1))]), (138, ii r1.2.2), (143, pp 4 ((Int.toNat r2.1) * 1)), (146, pp 0 0), (150, ii r1.1)] rfl (by kernel_rfl) ?_
                    refine XR.done (by kernel_rfl) ?_
                    refine ⟨rfl, ?_⟩
                    show XA _ _ _ _ _ _ _ _ _ _
                    refine XA.ren (σ' := [(3, pp 0 0), (10, s0 1 r6.1.length), (13, s0 2 r7.1.length), (15, ii (gR r1 r2 r4)), (135, .agg #[ii r1.1, ii r1.2.1, ii (w64 (r1.2.2 + 1))]), (138, ii r1.2.2), (143, pp 3 ((Int.toNat r2.1) * 1)), (146, pp 0 0), (150, ii r1.1)]) (h' := [(3, rc (encI .i64) r4 0 3 1), (2, rc (encI .i64) r7.1 0 3 1), (1, rc (encI .i64) r6.1 0 3 1), (0, .cells [ii r1.1, ii r1.2.1, ii r1.2.2] 0 23 0)]) (c' := 4) [0, 1, 3, 4] (by decide) rfl ⟨by kernel_rfl, by kernel_rfl, by kernel_rfl, by kernel_rfl, by kernel_rfl, by kernel_rfl, by kernel_rfl, by kernel_rfl, by kernel_rfl, trivial⟩ ⟨⟨_, _, rfl, rfl, .inl ⟨rfl, rowC_scal (encI_ok .i64) _⟩⟩, ⟨_, _, rfl, rfl, .inl ⟨rfl, rowC_scal (encI_ok .i64) _⟩⟩, ⟨_, _, rfl, rfl, .inl ⟨rfl, rowC_scal (encI_ok .i64) _⟩⟩, ⟨_, _, rfl, rfl, .inr ⟨_, _, _, _, rfl, rfl⟩⟩, trivial⟩ rfl ?_
                    exact xa49
                   ·refine XR.rd E0_ok [3, 10, 12, 13, 15, 138, 144, 146, 150] rfl (v := ii (List.getD r4 (Int.toNat r2.1) 0)) (v_load1 (encI_ok .i64) (x := (src 181 (.tmp 143))) (b := 4) (off := (Int.toNat r2.1) * 1) (xs := r4) (fz := 0) (e := 3) (es := 1) (d := (some (path 12 144))) (by kernel_rfl) (by kernel_rfl) (by kernel_rfl) (Int.toNat r2.1) 0 0 (by first | rfl | omega) (row_len (inRow_toNat b17) (by simp)) rfl rfl) (σ' := [(3, pp 0 0), (10, s0 1 r6.1.length), (12, pp 2 0), (13, s0 3 r7.1.length), (15, ii (gR r1 r2 r4)), (138, ii r1.2.2), (144, ii (List.getD r4 (Int.toNat r2.1) 0)), (146, pp 0 0), (150, ii r1.1)]) (by kernel_rfl) ?_
                    refine XR.done (by kernel_rfl) ?_
                    refine ⟨rfl, ?_⟩
                    show XA _ _ _ _ _ _ _ _ _ _
                    refine XA.ren (σ' := [(3, pp 0 0), (10, s0 1 r6.1.length), (12, pp 2 0), (13, s0 3 r7.1.length), (15, ii (gR r1 r2 r4)), (138, ii r1.2.2), (144, ii (List.getD r4 (Int.toNat r2.1) 0)), (146, pp 0 0), (150, ii r1.1)]) (h' := [(3, rc (encI .i64) r7.1 0 3 1), (2, .cells [ii r1.1, ii r1.2.1, ii (w64 (r1.2.2 + 1))] 0 23 0), (1, rc (encI .i64) r6.1 0 3 1), (0, .cells [ii r1.1, ii r1.2.1, ii r1.2.2] 0 23 0)]) (c' := 4) [0, 1, 2, 3] (by decide) rfl ⟨by kernel_rfl, by kernel_rfl, by kernel_rfl, by kernel_rfl, by kernel_rfl, by kernel_rfl, by kernel_rfl, by kernel_rfl, by kernel_rfl, trivial⟩ ⟨⟨_, _, rfl, rfl, .inl ⟨rfl, rowC_scal (encI_ok .i64) _⟩⟩, ⟨_, _, rfl, rfl, .inr ⟨_, _, _, _, rfl, rfl⟩⟩, ⟨_, _, rfl, rfl, .inl ⟨rfl, rowC_scal (encI_ok .i64) _⟩⟩, ⟨_, _, rfl, rfl, .inr ⟨_, _, _, _, rfl, rfl⟩⟩, trivial⟩ rfl ?_
                    exact xa61
                   ·refine XR.runS E0_ok 1 1 [(3, pp 0 0), (10, s0 1 r6.1.length), (12, pp 2 0), (13, s0 3 r7.1.length), (15, ii (gR r1 r2 r4)), (138, ii r1.2.2), (143, pp 4 ((Int.toNat r2.1) * 1)), (147, ii r1.1), (150, ii r1.1)] rfl (by kernel_rfl) ?_
                    refine XR.done (by kernel_rfl) ?_
                    refine ⟨rfl, ?_⟩
                    show XA _ _ _ _ _ _ _ _ _ _
                    exact xa63
                  have xa57 : XA E0 181 0 (opsOf (lft (rgt (rgt (rgt (rgt (rgt (rgt (rgt (rgt (rgt (rgt (rgt (rgt (rgt (rgt f14_C14)))))))))))))))) 11 #[false, false, true, true, false, false, true, true, true, false, false, true, false, false, true, false, false, false] [(3, pp 0 0), (10, s0 1 r6.1.length), (12, pp 2 0), (13, s0 3 r7.1.length), (15, ii (gR r1 r2 r4)), (138, ii r1.2.2), (143, pp 4 ((Int.toNat r2.1) * 1)), (146, pp 0 0), (149, pp 0 0)] [(4, rc (encI .i64) r4 0 3 1), (3, rc (encI .i64) r7.1 0 3 1), (2, .cells [ii r1.1, ii r1.2.1, ii (w64 (r1.2.2 + 1))] 0 23 0), (1, rc (encI .i64) r6.1 0 3 1), (0, .cells [ii r1.1, ii r1.2.1, ii r1.2.2] 0 23 0)] 5 (fun e σ1 h1 c1 => e = .normal ∧ (σ1, h1, c1) = ([(3, pp 0 0), (10, s0 1 r6.1.length), (13, s0 2 r7.1.length), (15, ii (gR r1 r2 r4)), (16, ii (Int.tmod (w64 ((w64 ((List.getD r9 (Int.toNat r1.2.2) 0) - (List.getD r4 (Int.toNat r2.1) 0))) + r1.1)) r1.1))], [(2, rc (encI .i64) r7.1 0 3 1), (1, rc (encI .i64) r6.1 0 3 1), (0, .cells [ii r1.1, ii r1.2.1, ii r1.2.2] 0 23 0)], 3)) := by
                   refine XA.step E0_ok [0, 9, 12, 15] (by kernel_rfl) rfl (by kernel_rfl) ⟨?_, ?_, ?_, ?_, trivial⟩
                   ·refine XR.runS E0_ok 1 1 [(3, pp 0 0), (10, s0 1 r6.1.length), (13, s0 3 r7.1.length), (15, ii (gR r1 r2 r4)), (135, .agg #[ii r1.1, ii r1.2.1, ii (w64 (r1.2.2 + 1))]), (138, ii r1.2.2), (143, pp 4 ((Int.toNat r2.1) * 1)), (146, pp 0 0), (149, pp 0 0)] rfl (by kernel_rfl) ?_
                    refine XR.done (by kernel_rfl) ?_
                    refine ⟨rfl, ?_⟩
                    show XA _ _ _ _ _ _ _ _ _ _
                    refine XA.ren (σ' := [(3, pp 0 0), (10, s0 1 r6.1.length), (13, s0 2 r7.1.length), (15, ii (gR r1 r2 r4)), (135, .agg #[ii r1.1, ii r1.2.1, ii (w64 (r1.2.2 + 1))]), (138, ii r1.2.2), (143, pp 3 ((Int.toNat r2.1) * 1)), (146, pp 0 0), (149, pp 0 0)]) (h' := [(3, rc (encI .i64) r4 0 3 1), (2, rc (encI .i64) r7.1 0 3 1), (1, rc (encI .i64) r6.1 0 3 1), (0, .cells [ii r1.1, ii r1.2.1, ii r1.2.2] 0 23 0)]) (c' := 4) [0, 1, 3, 4] (by decide) rfl ⟨by kernel_rfl, by kernel_rfl, by kernel_rfl, by kernel_rfl, by kernel_rfl, by kernel_rfl, by kernel_rfl, by kernel_rfl, by kernel_rfl, trivial⟩ ⟨⟨_, _, rfl, rfl, .inl ⟨rfl, rowC_scal (encI_ok .i64) _⟩⟩, ⟨_, _, rfl, rfl, .inl ⟨rfl, rowC_scal (encI_ok .i64) _⟩⟩, ⟨_, _, rfl, rfl, .inl ⟨rfl, rowC_scal (encI_ok .i64) _⟩⟩, ⟨_, _, rfl, rfl, .inr ⟨_, _, _, _, rfl, rfl⟩⟩, trivial⟩ rfl ?_
                    exact xa42
                   ·refine XR.rd E0_ok [3, 10, 12, 13, 15, 138, 144, 146, 149] rfl (v := ii (List.getD r4 (Int.toNat r2.1) 0)) (v_load1 (encI_ok .i64) (x := (src 181 (.tmp 143))) (b := 4) (off := (Int.toNat r2.1) * 1) (xs := r4) (fz := 0) (e := 3) (es := 1) (d := (some (path 12 144))) (by kernel_rfl) (by kernel_rfl) (by kernel_rfl) (Int.toNat r2.1) 0 0 (by first | rfl | omega) (row_len (inRow_toNat b17) (by simp)) rfl rfl) (σ' := [(3, pp 0 0), (10, s0 1 r6.1.length), (12, pp 2 0), (13, s0 3 r7.1.length), (15, ii (gR r1 r2 r4)), (138, ii r1.2.2), (144, ii (List.getD r4 (Int.toNat r2.1) 0)), (146, pp 0 0), (149, pp 0 0)]) (by kernel_rfl) ?_
                    refine XR.done (by kernel_rfl) ?_
                    refine ⟨rfl, ?_⟩
                    show XA _ _ _ _ _ _ _ _ _ _
                    refine XA.ren (σ' := [(3, pp 0 0), (10, s0 1 r6.1.length), (12, pp 2 0), (13, s0 3 r7.1.length), (15, ii (gR r1 r2 r4)), (138, ii r1.2.2), (144, ii (List.getD r4 (Int.toNat r2.1) 0)), (146, pp 0 0), (149, pp 0 0)]) (h' := [(3, rc (encI .i64) r7.1 0 3 1), (2, .cells [ii r1.1, ii r1.2.1, ii (w64 (r1.2.2 + 1))] 0 23 0), (1, rc (encI .i64) r6.1 0 3 1), (0, .cells [ii r1.1, ii r1.2.1, ii r1.2.2] 0 23 0)]) (c' := 4) [0, 1, 2, 3] (by decide) rfl ⟨by kernel_rfl, by kernel_rfl, by kernel_rfl, by kernel_rfl, by kernel_rfl, by kernel_rfl, by kernel_rfl, by kernel_rfl, by kernel_rfl, trivial⟩ ⟨⟨_, _, rfl, rfl, .inl ⟨rfl, rowC_scal (encI_ok .i64) _⟩⟩, ⟨_, _, rfl, rfl, .inr ⟨_, _, _, _, rfl, rfl⟩⟩, ⟨_, _, rfl, rfl, .inl ⟨rfl, rowC_scal (encI_ok .i64) _⟩⟩, ⟨_, _, rfl, rfl, .inr ⟨_, _, _, _, rfl, rfl⟩⟩, trivial⟩ rfl ?_
                    exact xa58
                   ·refine XR.runS E0_ok 1 1 [(3, pp 0 0), (10, s0 1 r6.1.length), (12, pp 2 0), (13, s0 3 r7.1.length), (15, ii (gR r1 r2 r4)), (138, ii r1.2.2), (143, pp 4 ((Int.toNat r2.1) * 1)), (147, ii r1.1), (149, pp 0 0)] rfl (by kernel_rfl) ?_
                    refine XR.done (by kernel_rfl) ?_
                    refine ⟨rfl, ?_⟩
                    show XA _ _ _ _ _ _ _ _ _ _
                    exact xa62
                   ·refine XR.runS E0_ok 1 1 [(3, pp 0 0), (10, s0 1 r6.1.length), (12, pp 2 0), (13, s0 3 r7.1.length), (15, ii (gR r1 r2 r4)), (138, ii r1.2.2), (143, pp 4 ((Int.toNat r2.1) * 1)), (146, pp 0 0), (150, ii r1.1)] rfl (by kernel_rfl) ?_
                    refine XR.done (by kernel_rfl) ?_
                    refine ⟨rfl, ?_⟩
                    show XA _ _ _ _ _ _ _ _ _ _
                    exact xa64
                  have xa67 : XA E0 181 0 (opsOf (lft (rgt (rgt (rgt (rgt (rgt (rgt (rgt (rgt (rgt (rgt (rgt (rgt (rgt (rgt f14_C14)))))))))))))))) 9 #[false, false, true, false, false, false, true, true, true, true, false, true, true, false, true, true, false, false] [(3, pp 0 0), (10, s0 1 r6.1.length), (12, pp 2 0), (13, s0 3 r7.1.length), (15, ii (gR r1 r2 r4)), (137, pp 0 2), (144, ii (List.getD r4 (Int.toNat r2.1) 0)), (147, ii r1.1), (150, ii r1.1)] [(3, rc (encI .i64) r7.1 0 3 1), (2, .cells [ii r1.1, ii r1.2.1, ii (w64 (r1.2.2 + 1))] 0 23 0), (1, rc (encI .i64) r6.1 0 3 1), (0, .cells [ii r1.1, ii r1.2.1, ii r1.2.2] 0 23 0)] 4 (fun e σ1 h1 c1 => e = .normal ∧ (σ1, h1, c1) = ([(3, pp 0 0), (10, s0 1 r6.1.length), (13, s0 2 r7.1.length), (15, ii (gR r1 r2 r4)), (16, ii (Int.tmod (w64 ((w64 ((List.getD r9 (Int.toNat r1.2.2) 0) - (List.getD r4 (Int.toNat r2.1) 0))) + r1.1)) r1.1))], [(2, rc (encI .i64) r7.1 0 3 1), (1, rc (encI .i64) r6.1 0 3 1), (0, .cells [ii r1.1, ii r1.2.1, ii r1.2.2] 0 23 0)], 3)) := by
                   refine XA.step E0_ok [0, 3] (by kernel_rfl) rfl (by kernel_rfl) ⟨?_, ?_, trivial⟩
                   ·refine XR.runS E0_ok 1 1 [(3, pp 0 0), (10, s0 1 r6.1.length), (13, s0 3 r7.1.length), (15, ii (gR r1 r2 r4)), (135, .agg #[ii r1.1, ii r1.2.1, ii (w64 (r1.2.2 + 1))]), (137, pp 0 2), (144, ii (List.getD r4 (Int.toNat r2.1) 0)), (147, ii r1.1), (150, ii r1.1)] rfl (by kernel_rfl) ?_
                    refine XR.done (by kernel_rfl) ?_
                    refine ⟨rfl, ?_⟩
                    show XA _ _ _ _ _ _ _ _ _ _
                    refine XA.ren (σ' := [(3, pp 0 0), (10, s0 1 r6.1.length), (13, s0 2 r7.1.length), (15, ii (gR r1 r2 r4)), (135, .agg #[ii r1.1, ii r1.2.1, ii (w64 (r1.2.2 + 1))]), (137, pp 0 2), (144, ii (List.getD r4 (Int.toNat r2.1) 0)), (147, ii r1.1), (150, ii r1.1)]) (h' := [(2, rc (encI .i64) r7.1 0 3 1), (1, rc (encI .i64) r6.1 0 3 1), (0, .cells [ii r1.1, ii r1.2.1, ii r1.2.2] 0 23 0)]) (c' := 3) [0, 1, 3] (by decide) rfl ⟨by kernel_rfl, by kernel_rfl, by kernel_rfl, by kernel_rfl, by kernel_rfl, by kernel_rfl, by kernel_rfl, by kernel_rfl, by kernel_rfl, trivial⟩ ⟨⟨_, _, rfl, rfl, .inl ⟨rfl, rowC_scal (encI_ok .i64) _⟩⟩, ⟨_, _, rfl, rfl, .inl ⟨rfl, rowC_scal (encI_ok .i64) _⟩⟩, ⟨_, _, rfl, rfl, .inr ⟨_, _, _, _, rfl, rfl⟩⟩, trivial⟩ rfl ?_
                    exact xa52
                   ·refine XR.runS E0_ok 1 1 [(3, pp 0 0), (10, s0 1 r6.1.length), (12, pp 2 0), (13, s0 3 r7.1.length), (15, ii (gR r1 r2 r4)), (138, ii r1.2.2), (144, ii (List.getD r4 (Int.toNat r2.1) 0)), (147, ii r1.1), (150, ii r1.1)] rfl (by kernel_rfl) ?_
                    refine XR.done (by kernel_rfl) ?_
                    refine ⟨rfl, ?_⟩
                    show XA _ _ _ _ _ _ _ _ _ _
                    exact xa60
                  have xa66 : XA E0 181 0 (opsOf (lft (rgt (rgt (rgt (rgt (rgt (rgt (rgt (rgt (rgt (rgt (rgt (rgt (rgt (rgt f14_C14)))))))))))))))) 10 #[false, false, true, false, false, false, true, true, true, true, false, true, true, false, true, false, false, false] [(3, pp 0 0), (10, s0 1 r6.1.length), (12, pp 2 0), (13, s0 3 r7.1.length), (15, ii (gR r1 r2 r4)), (137, pp 0 2), (144, ii (List.getD r4 (Int.toNat r2.1) 0)), (147, ii r1.1), (149, pp 0 0)] [(3, rc (encI .i64) r7.1 0 3 1), (2, .cells [ii r1.1, ii r1.2.1, ii (w64 (r1.2.2 + 1))] 0 23 0), (1, rc (encI .i64) r6.1 0 3 1), (0, .cells [ii r1.1, ii r1.2.1, ii r1.2.2] 0 23 0)] 4 (fun e σ1 h1 c1 => e = .normal ∧ (σ1, h1, c1) = ([(3, pp 0 0), (10, s0 1 r6.1.length), (13, s0 2 r7.1.length), (15, ii (gR r1 r2 r4)), (16, ii (Int.tmod (w64 ((w64 ((List.getD r9 (Int.toNat r1.2.2) 0) - (List.getD r4 (Int.toNat r2.1) 0))) + r1.1)) r1.1))], [(2, rc (encI .i64) r7.1 0 3 1), (1, rc (encI .i64) r6.1 0 3 1), (0, .cells [ii r1.1, ii r1.2.1, ii r1.2.2] 0 23 0)], 3)) := by
                   refine XA.step E0_ok [0, 3, 15] (by kernel_rfl) rfl (by kernel_rfl) ⟨?_, ?_, ?_, trivial⟩
                   ·refine XR.runS E0_ok 1 1 [(3, pp 0 0), (10, s0 1 r6.1.length), (13, s0 3 r7.1.length), (15, ii (gR r1 r2 r4)), (135, .agg #[ii r1.1, ii r1.2.1, ii (w64 (r1.2.2 + 1))]), (137, pp 0 2), (144, ii (List.getD r4 (Int.toNat r2.1) 0)), (147, ii r1.1), (149, pp 0 0)] rfl (by kernel_rfl) ?_
                    refine XR.done (by kernel_rfl) ?_
                    refine ⟨rfl, ?_⟩
                    show XA _ _ _ _ _ _ _ _ _ _
                    refine XA.ren (σ' := [(3, pp 0 0), (10, s0 1 r6.1.length), (13, s0 2 r7.1.length), (15, ii (gR r1 r2 r4)), (135, .agg #[ii r1.1, ii r1.2.1, ii (w64 (r1.2.2 + 1))]), (137, pp 0 2), (144, ii (List.getD r4 (Int.toNat r2.1) 0)), (147, ii r1.1), (149, pp 0 0)]) (h' := [(2, rc (encI .i64) r7.1 0 3 1), (1, rc (encI .i64) r6.1 0 3 1), (0, .cells [ii r1.1, ii r1.2.1, ii r1.2.2] 0 23 0)]) (c' := 3) [0, 1, 3] (by decide) rfl ⟨by kernel_rfl, by kernel_rfl, by kernel_rfl, by kernel_rfl, by kernel_rfl, by kernel_rfl, by kernel_rfl, by kernel_rfl, by kernel_rfl, trivial⟩ ⟨⟨_, _, rfl, rfl, .inl ⟨rfl, rowC_scal (encI_ok .i64) _⟩⟩, ⟨_, _, rfl, rfl, .inl ⟨rfl, rowC_scal (encI_ok .i64) _⟩⟩, ⟨_, _, rfl, rfl, .inr ⟨_, _, _, _, rfl, rfl⟩⟩, trivial⟩ rfl ?_
                    exact xa51
                   ·refine XR.runS E0_ok 1 1 [(3, pp 0 0), (10, s0 1 r6.1.length), (12, pp 2 0), (13, s0 3 r7.1.length), (15, ii (gR r1 r2 r4)), (138, ii r1.2.2), (144, ii (List.getD r4 (Int.toNat r2.1) 0)), (147, ii r1.1), (149, pp 0 0)] rfl (by kernel_rfl) ?_
                    refine XR.done (by kernel_rfl) ?_
                    refine ⟨rfl, ?_⟩
                    show XA _ _ _ _ _ _ _ _ _ _
                    exact xa59
                   ·refine XR.runS E0_ok 1 1 [(3, pp 0 0), (10, s0 1 r6.1.length), (12, pp 2 0), (13, s0 3 r7.1.length), (15, ii (gR r1 r2 r4)), (137, pp 0 2), (144, ii (List.getD r4 (Int.toNat r2.1) 0)), (147, ii r1.1), (150, ii r1.1)] rfl (by kernel_rfl) ?_
                    refine XR.done (by kernel_rfl) ?_
                    refine ⟨rfl, ?_⟩
                    show XA _ _ _ _ _ _ _ _ _ _
                    exact xa67
                  have xa68 : XA E0 181 0 (opsOf (lft (rgt (rgt (rgt (rgt (rgt (rgt (rgt (rgt (rgt (rgt (rgt (rgt (rgt (rgt f14_C14)))))))))))))))) 10 #[false, false, true, false, false, false, true, true, true, true, false, true, false, false, true, true, false, false] [(3, pp 0 0), (10, s0 1 r6.1.length), (12, pp 2 0), (13, s0 3 r7.1.length), (15, ii (gR r1 r2 r4)), (137, pp 0 2), (144, ii (List.getD r4 (Int.toNat r2.1) 0)), (146, pp 0 0), (150, ii r1.1)] [(3, rc (encI .i64) r7.1 0 3 1), (2, .cells [ii r1.1, ii r1.2.1, ii (w64 (r1.2.2 + 1))] 0 23 0), (1, rc (encI .i64) r6.1 0 3 1), (0, .cells [ii r1.1, ii r1.2.1, ii r1.2.2] 0 23 0)] 4 (fun e σ1 h1 c1 => e = .normal ∧ (σ1, h1, c1) = ([(3, pp 0 0), (10, s0 1 r6.1.length), (13, s0 2 r7.1.length), (15, ii (gR r1 r2 r4)), (16, ii (Int.tmod (w64 ((w64 ((List.getD r9 (Int.toNat r1.2.2) 0) - (List.getD r4 (Int.toNat r2.1) 0))) + r1.1)) r1.1))], [(2, rc (encI .i64) r7.1 0 3 1), (1, rc (encI .i64) r6.1 0 3 1), (0, .cells [ii r1.1, ii r1.2.1, ii r1.2.2] 0 23 0)], 3)) := by
                   refine XA.step E0_ok [0, 3, 12] (by kernel_rfl) rfl (by kernel_rfl) ⟨?_, ?_, ?_, trivial⟩
                   ·refine XR.runS E0_ok 1 1 [(3, pp 0 0), (10, s0 1 r6.1.length), (13, s0 3 r7.1.length), (15, ii (gR r1 r2 r4)), (135, .agg #[ii r1.1, ii r1.2.1, ii (w64 (r1.2.2 + 1))]), (137, pp 0 2), (144, ii (List.getD r4 (Int.toNat r2.1) 0)), (146, pp 0 0), (150, ii r1.1)] rfl (by kernel_rfl) ?_
                    refine XR.done (by kernel_rfl) ?_
                    refine ⟨rfl, ?_⟩
                    show XA _ _ _ _ _ _ _ _ _ _
                    refine XA.ren (σ' := [(3, pp 0 0), (10, s0 1 r6.1.length), (13, s0 2 r7.1.length), (15, ii (gR r1 r2 r4)), (135, .agg #[ii r1.1, ii r1.2.1, ii (w64 (r1.2.2 + 1))]), (137, pp 0 2), (144, ii (List.getD r4 (Int.toNat r2.1) 0)), (146, pp 0 0), (150, ii r1.1)]) (h' := [(2, rc (encI .i64) r7.1 0 3 1), (1, rc (encI .i64) r6.1 0 3 1), (0, .cells [ii r1.1, ii r1.2.1, ii r1.2.2] 0 23 0)]) (c' := 3) [0, 1, 3] (by decide) rfl ⟨by kernel_rfl, by kernel_rfl, by kernel_rfl, by kernel_rfl, by kernel_rfl, by kernel_rfl, by kernel_rfl, by kernel_rfl, by kernel_rfl, trivial⟩ ⟨⟨_, _, rfl, rfl, .inl ⟨rfl, rowC_scal (encI_ok .i64) _⟩⟩, ⟨_, _, rfl, rfl, .inl ⟨rfl, rowC_scal (encI_ok .i64) _⟩⟩, ⟨_, _, rfl, rfl, .inr ⟨_, _, _, _, rfl, rfl⟩⟩, trivial⟩ rfl ?_
                    exact xa53
                   ·refine XR.runS E0_ok 1 1 [(3, pp 0 0), (10, s0 1 r6.1.length), (12, pp 2 0), (13, s0 3 r7.1.length), (15, ii (gR r1 r2 r4)), (138, ii r1.2.2), (144, ii (List.getD r4 (Int.toNat r2.1) 0)), (146, pp 0 0), (150, ii r1.1)] rfl (by kernel_rfl) ?_
                    refine XR.done (by kernel_rfl) ?_
                    refine ⟨rfl, ?_⟩
                    show XA _ _ _ _ _ _ _ _ _ _
                    exact xa61
                   ·refine XR.runS E0_ok 1 1 [(3, pp 0 0), (10, s0 1 r6.1.length), (12, pp 2 0), (13, s0 3 r7.1.length), (15, ii (gR r1 r2 r4)), (137, pp 0 2), (144, ii (List.getD r4 (Int.toNat r2.1) 0)), (147, ii r1.1), (150, ii r1.1)] rfl (by kernel_rfl) ?_
                    refine XR.done (by kernel_rfl) ?_
                    refine ⟨rfl, ?_⟩
                    show XA _ _ _ _ _ _ _ _ _ _
                    exact xa67
                  have xa65 : XA E0 181 0 (opsOf (lft (rgt (rgt (rgt (rgt (rgt (rgt (rgt (rgt (rgt (rgt (rgt (rgt (rgt (rgt f14_C14)))))))))))))))) 11 #[false, false, true, false, false, false, true, true, true, true, false, true, false, false, true, false, false, false] [(3, pp 0 0), (10, s0 1 r6.1.length), (12, pp 2 0), (13, s0 3 r7.1.length), (15, ii (gR r1 r2 r4)), (137, pp 0 2), (144, ii (List.getD r4 (Int.toNat r2.1) 0)), (146, pp 0 0), (149, pp 0 0)] [(3, rc (encI .i64) r7.1 0 3 1), (2, .cells [ii r1.1, ii r1.2.1, ii (w64 (r1.2.2 + 1))] 0 23 0), (1, rc (encI .i64) r6.1 0 3 1), (0, .cells [ii r1.1, ii r1.2.1, ii r1.2.2] 0 23 0)] 4 (fun e σ1 h1 c1 => e = .normal ∧ (σ1, h1, c1) = ([(3, pp 0 0), (10, s0 1 r6.1.length), (13, s0 2 r7.1.length), (15, ii (gR r1 r2 r4)), (16, ii (Int.tmod (w64 ((w64 ((List.getD r9 (Int.toNat r1.2.2) 0) - (List.getD r4 (Int.toNat r2.1) 0))) + r1.1)) r1.1))], [(2, rc (encI .i64) r7.1 0 3 1), (1, rc (encI .i64) r6.1 0 3 1), (0, .cells [ii r1.1, ii r1.2.1, ii r1.2.2] 0 23 0)], 3)) := by
                   refine XA.step E0_ok [0, 3, 12, 15] (by kernel_rfl) rfl (by kernel_rfl) ⟨?_, ?_, ?_, ?_, trivial⟩
                   ·refine XR.runS E0_ok 1 1 [(3, pp 0 0), (10, s0 1 r6.1.length), (13, s0 3 r7.1.length), (15, ii (gR r1 r2 r4)), (135, .agg #[ii r1.1, ii r1.2.1, ii (w64 (r1.2.2 + 1))]), (137, pp 0 2), (144, ii (List.getD r4 (Int.toNat r2.1) 0)), (146, pp 0 0), (149, pp 0 0)] rfl (by kernel_rfl) ?_
                    refine XR.done (by kernel_rfl) ?_
                    refine ⟨rfl, ?_⟩
                    show XA _ _ _ _ _ _ _ _ _ _
                    refine XA.ren (σ' := [(3, pp 0 0), (10, s0 1 r6.1.length), (13, s0 2 r7.1.length), (15, ii (gR r1 r2 r4)), (135, .agg #[ii r1.1, ii r1.2.1, ii (w64 (r1.2.2 + 1))]), (137, pp 0 2), (144, ii (List.getD r4 (Int.toNat r2.1) 0)), (146, pp 0 0), (149, pp 0 0)]) (h' := [(2, rc (encI .i64) r7.1 0 3 1), (1, rc (encI .i64) r6.1 0 3 1), (0, .cells [ii r1.1, ii r1.2.1, ii r1.2.2] 0 23 0)]) (c' := 3) [0, 1, 3] (by decide) rfl ⟨by kernel_rfl, by kernel_rfl, by kernel_rfl, by kernel_rfl, by kernel_rfl, by kernel_rfl, by kernel_rfl, by kernel_rfl, by kernel_rfl, trivial⟩ ⟨⟨_, _, rfl, rfl, .inl ⟨rfl, rowC_scal (encI_ok .i64) _⟩⟩, ⟨_, _, rfl, rfl, .inl ⟨rfl, rowC_scal (encI_ok .i64) _⟩⟩, ⟨_, _, rfl, rfl, .inr ⟨_, _, _, _, rfl, rfl⟩⟩, trivial⟩ rfl ?_
                    exact xa50
                   ·refine XR.runS E0_ok 1 1 [(3, pp 0 0), (10, s0 1 r6.1.length), (12, pp 2 0), (13, s0 3 r7.1.length), (15, ii (gR r1 r2 r4)), (138, ii r1.2.2), (144, ii (List.getD r4 (Int.toNat r2.1) 0)), (146, pp 0 0), (149, pp 0 0)] rfl (by kernel_rfl) ?_
                    refine XR.done (by kernel_rfl) ?_
                    refine ⟨rfl, ?_⟩
                    show XA _ _ _ _ _ _ _ _ _ _
                    exact xa58
                   ·refine XR.runS E0_ok 1 1 [(3, pp 0 0), (10, s0 1 r6.1.length), (12, pp 2 0), (13, s0 3 r7.1.length), (15, ii (gR r1 r2 r4)), (137, pp 0 2), (144, ii (List.getD r4 (Int.toNat r2.1) 0)), (147, ii r1.1), (149, pp 0 0)] rfl (by kernel_rfl) ?_
                    refine XR.done (by kernel_rfl) ?_
                    refine ⟨rfl, ?_⟩
                    show XA _ _ _ _ _ _ _ _ _ _
                    exact xa66
                   ·refine XR.runS E0_ok 1 1 [(3, pp 0 0), (10, s0 1 r6.1.length), (12, pp 2 0), (13, s0 3 r7.1.length), (15, ii (gR r1 r2 r4)), (137, pp 0 2), (144, ii (List.getD r4 (Int.toNat r2.1) 0)), (146, pp 0 0), (150, ii r1.1)] rfl (by kernel_rfl) ?_
                    refine XR.done (by kernel_rfl) ?_
                    refine ⟨rfl, ?_⟩
                    show XA _ _ _ _ _ _ _ _ _ _
                    exact xa68
                  have xa70 : XA E0 181 0 (opsOf (lft (rgt (rgt (rgt (rgt (rgt (rgt (rgt (rgt (rgt (rgt (rgt (rgt (rgt (rgt f14_C14)))))))))))))))) 10 #[false, false, true, false, false, false, true, true, true, false, false, true, true, false, true, true, false, false] [(3, pp 0 0), (10, s0 1 r6.1.length), (12, pp 2 0), (13, s0 3 r7.1.length), (15, ii (gR r1 r2 r4)), (137, pp 0 2), (143, pp 4 ((Int.toNat r2.1) * 1)), (147, ii r1.1), (150, ii r1.1)] [(4, rc (encI .i64) r4 0 3 1), (3, rc (encI .i64) r7.1 0 3 1), (2, .cells [ii r1.1, ii r1.2.1, ii (w64 (r1.2.2 + 1))] 0 23 0), (1, rc (encI .i64) r6.1 0 3 1), (0, .cells [ii r1.1, ii r1.2.1, ii r1.2.2] 0 23 0)] 5 (fun e σ1 h1 c1 => e = .normal ∧ (σ1, h1, c1) = ([(3, pp 0 0), (10, s0 1 r6.1.length), (13, s0 2 r7.1.length), (15, ii (gR r1 r2 r4)), (16, ii (Int.tmod (w64 ((w64 ((List.getD r9 (Int.toNat r1.2.2) 0) - (List.getD r4 (Int.toNat r2.1) 0))) + r1.1)) r1.1))], [(2, rc (encI .i64) r7.1 0 3 1), (1, rc (encI .i64) r6.1 0 3 1), (0, .cells [ii r1.1, ii r1.2.1, ii r1.2.2] 0 23 0)], 3)) := by
                   refine XA.step E0_ok [0, 3, 9] (by kernel_rfl) rfl (by kernel_rfl) ⟨?_, ?_, ?_, trivial⟩
                   ·refine XR.runS E0_ok 1 1 [(3, pp 0 0), (10, s0 1 r6.1.length), (13, s0 3 r7.1.length), (15, ii (gR r1 r2 r4)), (135, .agg #[ii r1.1, ii r1.2.1, ii (w64 (r1.2.2 + 1))]), (137, pp 0 2), (143, pp 4 ((Int.toNat r2.1) * 1)), (147, ii r1.1), (150, ii r1.1)] rfl (by kernel_rfl) ?_
                    refine XR.done (by kernel_rfl) ?_
                    refine ⟨rfl, ?_⟩
                    show XA _ _ _ _ _ _ _ _ _ _
                    refine XA.ren (σ' := [(3, pp 0 0), (10, s0 1 r6.1.length), (13, s0 2 r7.1.length), (15, ii (gR r1 r2 r4)), (135, .agg #[ii r1.1, ii r1.2.1, ii (w64 (r1.2.2 + 1))]), (137, pp 0 2), (143, pp 3 ((Int.toNat r2.1) * 1)), (147, ii r1.1), (150, ii r1.1)]) (h' := [(3, rc (encI .i64) r4 0 3 1), (2, rc (encI .i64) r7.1 0 3 1), (1, rc (encI .i64) r6.1 0 3 1), (0, .cells [ii r1.1, ii r1.2.1, ii r1.2.2] 0 23 0)]) (c' := 4) [0, 1, 3, 4] (by decide) rfl ⟨by kernel_rfl, by kernel_rfl, by kernel_rfl, by kernel_rfl, by kernel_rfl, by kernel_rfl, by kernel_rfl, by kernel_rfl, by kernel_rfl, trivial⟩ ⟨⟨_, _, rfl, rfl, .inl ⟨rfl, rowC_scal (encI_ok .i64) _⟩⟩, ⟨_, _, rfl, rfl, .inl ⟨rfl, rowC_scal (encI_ok .i64) _⟩⟩, ⟨_, _, rfl, rfl, .inl ⟨rfl, rowC_scal (encI_ok .i64) _⟩⟩, ⟨_, _, rfl, rfl, .inr ⟨_, _, _, _, rfl, rfl⟩⟩, trivial⟩ rfl ?_
                    exact xa55
                   ·refine XR.runS E0_ok 1 1 [(3, pp 0 0), (10, s0 1 r6.1.length), (12, pp 2 0), (13, s0 3 r7.1.length), (15, ii (gR r1 r2 r4)), (138, ii r1.2.2), (143, pp 4 ((Int.toNat r2.1) * 1)), (147, ii r1.1), (150, ii r1.1)] rfl (by kernel_rfl) ?_
                    refine XR.done (by kernel_rfl) ?_
                    refine ⟨rfl, ?_⟩
                    show XA _ _ _ _ _ _ _ _ _ _
                    exact xa63
                   ·refine XR.rd E0_ok [3, 10, 12, 13, 15, 137, 144, 147, 150] rfl (v := ii (List.getD r4 (Int.toNat r2.1) 0)) (v_load1 (encI_ok .i64) (x := (src 181 (.tmp 143))) (b := 4) (off := (Int.toNat r2.1) * 1) (xs := r4) (fz := 0) (e := 3) (es := 1) (d := (some (path 12 144))) (by kernel_rfl) (by kernel_rfl) (by kernel_rfl) (Int.toNat r2.1) 0 0 (by first | rfl | omega) (row_len (inRow_toNat b17) (by simp)) rfl rfl) (σ' := [(3, pp 0 0), (10, s0 1 r6.1.length), (12, pp 2 0), (13, s0 3 r7.1.length), (15, ii (gR r1 r2 r4)), (137, pp 0 2), (144, ii (List.getD r4 (Int.toNat r2.1) 0)), (147, ii r1.1), (150, ii r1.1)]) (by kernel_rfl) ?_
                    refine XR.done (by kernel_rfl) ?_
                    refine ⟨rfl, ?_⟩
                    show XA _ _ _ _ _ _ _ _ _ _
                    refine XA.ren (σ' := [(3, pp 0 0), (10, s0 1 r6.1.length), (12, pp 2 0), (13, s0 3 r7.1.length), (15, ii (gR r1 r2 r4)), (137, pp 0 2), (144, ii (List.getD r4 (Int.toNat r2.1) 0)), (147, ii r1.1), (150, ii r1.1)]) (h' := [(3, rc (encI .i64) r7.1 0 3 1), (2, .cells [ii r1.1, ii r1.2.1, ii (w64 (r1.2.2 + 1))] 0 23 0), (1, rc (encI .i64) r6.1 0 3 1), (0, .cells [ii r1.1, ii r1.2.1, ii r1.2.2] 0 23 0)]) (c' := 4) [0, 1, 2, 3] (by decide) rfl ⟨by kernel_rfl, by kernel_rfl, by kernel_rfl, by kernel_rfl, by kernel_rfl, by kernel_rfl, by kernel_rfl, by kernel_rfl, by kernel_rfl, trivial⟩ ⟨⟨_, _, rfl, rfl, .inl ⟨rfl, rowC_scal (encI_ok .i64) _⟩⟩, ⟨_, _, rfl, rfl, .inr ⟨_, _, _, _, rfl, rfl⟩⟩, ⟨_, _, rfl, rfl, .inl ⟨rfl, rowC_scal (encI_ok .i64) _⟩⟩, ⟨_, _, rfl, rfl, .inr ⟨_, _, _, _, rfl, rfl⟩⟩, trivial⟩ rfl ?_
                    exact xa67
                  have xa69 : XA E0 181 0 (opsOf (lft (rgt (rgt (rgt (rgt (rgt (rgt (rgt (rgt (rgt (rgt (rgt (rgt (rgt (rgt f14_C14)))))))))))))))) 11 #[false, false, true, false, false, false, true, true, true, false, false, true, true, false, true, false, false, false] [(3, pp 0 0), (10, s0 1 r6.1.length), (12, pp 2 0), (13, s0 3 r7.1.length), (15, ii (gR r1 r2 r4)), (137, pp 0 2), (143, pp 4 ((Int.toNat r2.1) * 1)), (147, ii r1.1), (149, pp 0 0)] [(4, rc (encI .i64) r4 0 3 1), (3, rc (encI .i64) r7.1 0 3 1), (2, .cells [ii r1.1, ii r1.2.1, ii (w64 (r1.2.2 + 1))] 0 23 0), (1, rc (encI .i64) r6.1 0 3 1), (0, .cells [ii r1.1, ii r1.2.1, ii r1.2.2] 0 23 0)] 5 (fun e σ1 h1 c1 => e = .normal ∧ (σ1, h1, c1) = ([(3, pp 0 0), (10, s0 1 r6.1.length), (13, s0 2 r7.1.length), (15, ii (gR r1 r2 r4)), (16, ii (Int.tmod (w64 ((w64 ((List.getD r9 (Int.toNat r1.2.2) 0) - (List.getD r4 (Int.toNat r2.1) 0))) + r1.1)) r1.1))], [(2, rc (encI .i64) r7.1 0 3 1), (1, rc (encI .i64) r6.1 0 3 1), (0, .cells [ii r1.1, ii r1.2.1, ii r1.2.2] 0 23 0)], 3)) := by
                   refine XA.step E0_ok [0, 3, 9, 15] (by kernel_rfl) rfl (by kernel_rfl) ⟨?_, ?_, ?_, ?_, trivial⟩
                   ·refine XR.runS E0_ok 1 1 [(3, pp 0 0), (10, s0 1 r6.1.length), (13, s0 3 r7.1.length), (15, ii (gR r1 r2 r4)), (135, .agg #[ii r1.1, ii r1.2.1, ii (w64 (r1.2.2 + 1))]), (137, pp 0 2), (143, pp 4 ((Int.toNat r2.1) * 1)), (147, ii r1.1), (149, pp 0 0)] rfl (by kernel_rfl) ?_
                    refine XR.done (by kernel_rfl) ?_
                    refine ⟨rfl, ?_⟩
                    show XA _ _ _ _ _ _ _ _ _ _
                    refine XA.ren (σ' := [(3, pp 0 0), (10, s0 1 r6.1.length), (13, s0 2 r7.1.length), (15, ii (gR r1 r2 r4)), (135, .agg #[ii r1.1, ii r1.2.1, ii (w64 (r1.2.2 + 1))]), (137, pp 0 2), (143, pp 3 ((Int.toNat r2.1) * 1)), (147, ii r1.1), (149, pp 0 0)]) (h' := [(3, rc (encI .i64) r4 0 3 1), (2, rc (encI .i64) r7.1 0 3 1), (1, rc (encI .i64) r6.1 0 3 1), (0, .cells [ii r1.1, ii r1.2.1, ii r1.2.2] 0 23 0)]) (c' := 4) [0, 1, 3, 4] (by decide) rfl ⟨by kernel_rfl, by kernel_rfl, by kernel_rfl, by kernel_rfl, by kernel_rfl, by kernel_rfl, by kernel_rfl, by kernel_rfl, by kernel_rfl, trivial⟩ ⟨⟨_, _, rfl, rfl, .inl ⟨rfl, rowC_scal (encI_ok .i64) _⟩⟩, ⟨_, _, rfl, rfl, .inl ⟨rfl, rowC_scal (encI_ok .i64) _⟩⟩, ⟨_, _, rfl, rfl, .inl ⟨rfl, rowC_scal (encI_ok .i64) _⟩⟩, ⟨_, _, rfl, rfl, .inr ⟨_, _, _, _, rfl, rfl⟩⟩, trivial⟩ rfl ?_
                    exact xa54
                   ·refine XR.runS E0_ok 1 1 [(3, pp 0 0), (10, s0 1 r6.1.length), (12, pp 2 0), (13, s0 3 r7.1.length), (15, ii (gR r1 r2 r4)), (138, ii r1.2.2), (143, pp 4 ((Int.toNat r2.1) * 1)), (147, ii r1.1), (149, pp 0 0)] rfl (by kernel_rfl) ?_
                    refine XR.done (by kernel_rfl) ?_
                    refine ⟨rfl, ?_⟩
                    show XA _ _ _ _ _ _ _ _ _ _
                    exact xa62
                   ·refine XR.rd E0_ok [3, 10, 12, 13, 15, 137, 144, 147, 149] rfl (v := ii (List.getD r4 (Int.toNat r2.1) 0)) (v_load1 (encI_ok .i64) (x := (src 181 (.tmp 143))) (b := 4) (off := (Int.toNat r2.1) * 1) (xs := r4) (fz := 0) (e := 3) (es := 1) (d := (some (path 12 144))) (by kernel_rfl) (by kernel_rfl) (by kernel_rfl) (Int.toNat r2.1) 0 0 (by first | rfl | omega) (row_len (inRow_toNat b17) (by simp)) rfl rfl) (σ' := [(3, pp 0 0), (10, s0 1 r6.1.length), (12, pp 2 0), (13, s0 3 r7.1.length), (15, ii (gR r1 r2 r4)), (137, pp 0 2), (144, ii (List.getD r4 (Int.toNat r2.1) 0)), (147, ii r1.1), (149, pp 0 0)]) (by kernel_rfl) ?_
                    refine XR.done (by kernel_rfl) ?_
                    refine ⟨rfl, ?_⟩
                    show XA _ _ _ _ _ _ _ _ _ _
                    refine XA.ren (σ' := [(3, pp 0 0), (10, s0 1 r6.1.length), (12, pp 2 0), (13, s0 3 r7.1.length), (15, ii (gR r1 r2 r4)), (137, pp 0 2), (144, ii (List.getD r4 (Int.toNat r2.1) 0)), (147, ii r1.1), (149, pp 0 0)]) (h' := [(3, rc (encI .i64) r7.1 0 3 1), (2, .cells [ii r1.1, ii r1.2.1, ii (w64 (r1.2.2 + 1))] 0 23 0), (1, rc (encI .i64) r6.1 0 3 1), (0, .cells [ii r1.1, ii r1.2.1, ii r1.2.2] 0 23 0)]) (c' := 4) [0, 1, 2, 3] (by decide) rfl ⟨by kernel_rfl, by kernel_rfl, by kernel_rfl, by kernel_rfl, by kernel_rfl, by kernel_rfl, by kernel_rfl, by kernel_rfl, by kernel_rfl, trivial⟩ ⟨⟨_, _, rfl, rfl, .inl ⟨rfl, rowC_scal (encI_ok .i64) _⟩⟩, ⟨_, _, rfl, rfl, .inr ⟨_, _, _, _, rfl, rfl⟩⟩, ⟨_, _, rfl, rfl, .inl ⟨rfl, rowC_scal (encI_ok .i64) _⟩⟩, ⟨_, _, rfl, rfl, .inr ⟨_, _, _, _, rfl, rfl⟩⟩, trivial⟩ rfl ?_
                    exact xa66
                   ·refine XR.runS E0_ok 1 1 [(3, pp 0 0), (10, s0 1 r6.1.length), (12, pp 2 0), (13, s0 3 r7.1.length), (15, ii (gR r1 r2 r4)), (137, pp 0 2), (143, pp 4 ((Int.toNat r2.1) * 1)), (147, ii r1.1), (150, ii r1.1)] rfl (by kernel_rfl) ?_
                    refine XR.done (by kernel_rfl) ?_
                    refine ⟨rfl, ?_⟩
                    show XA _ _ _ _ _ _ _ _ _ _
                    exact xa70
                  have xa71 : XA E0 181 0 (opsOf (lft (rgt (rgt (rgt (rgt (rgt (rgt (rgt (rgt (rgt (rgt (rgt (rgt (rgt (rgt f14_C14)))))))))))))))) 11 #[false, false, true, false, false, false, true, true, true, false, false, true, false, false, true, true, false, false] [(3, pp 0 0), (10, s0 1 r6.1.length), (12, pp 2 0), (13, s0 3 r7.1.length), (15, ii (gR r1 r2 r4)), (137, pp 0 2), (143, pp 4 ((Int.toNat r2.1) * 1)), (146, pp 0 0), (150, ii r1.1)] [(4, rc (encI .i64) r4 0 3 1), (3, rc (encI .i64) r7.1 0 3 1), (2, .cells [ii r1.1, ii r1.2.1, ii (w64 (r1.2.2 + 1))] 0 23 0), (1, rc (encI .i64) r6.1 0 3 1), (0, .cells [ii r1.1, ii r1.2.1, ii r1.2.2] 0 23 0)] 5 (fun e σ1 h1 c1 => e = .normal ∧ (σ1, h1, c1) = ([(3, pp 0 0), (10, s0 1 r6.1.length), (13, s0 2 r7.1.length), (15, ii (gR r1 r2 r4)), (16, ii (Int.tmod (w64 ((w64 ((List.getD r9 (Int.toNat r1.2.2) 0) - (List.getD r4 (Int.toNat r2.1) 0))) + r1.1)) r1.1))], [(2, rc (encI .i64) r7.1 0 3 1), (1, rc (encI .i64) r6.1 0 3 1), (0, .cells [ii r1.1, ii r1.2.1, ii r1.2.2] 0 23 0)], 3)) := by
                   refine XA.step E0_ok [0, 3, 9, 12] (by kernel_rfl) rfl (by kernel_rfl) ⟨?_, ?_, ?_, ?_, trivial⟩
                   ·refine XR.runS E0_ok 1 1 [(3, pp 0 0), (10, s0 1 r6.1.length), (13, s0 3 r7.1.length), (15, ii (gR r1 r2 r4)), (135, .agg #[ii r1.1, ii r1.2.1, ii (w64 (r1.2.2 + 1))]), (137, pp 0 2), (143, pp 4 ((Int.toNat r2.1) * 1)), (146, pp 0 0), (150, ii r1.1)] rfl (by kernel_rfl) ?_
                    refine XR.done (by kernel_rfl) ?_
                    refine ⟨rfl, ?_⟩
                    show XA _ _ _ _ _ _ _ _ _ _
                    refine XA.ren (σ' := [(3, pp 0 0), (10, s0 1 r6.1.length), (13, s0 2 r7.1.length), (15, ii (gR r1 r2 r4)), (135, .agg #[ii r1.1, ii r1.2.1, ii (w64 (r1.2.2 + 1))]), (137, pp 0 2), (143, pp 3 ((Int.toNat r2.1) * 1)), (146, pp 0 0), (150, ii r1.1)]) (h' := [(3, rc (encI .i64) r4 0 3 1), (2, rc (encI .i64) r7.1 0 3 1), (1, rc (encI .i64) r6.1 0 3 1), (0, .cells [ii r1.1, ii r1.2.1, ii r1.2.2] 0 23 0)]) (c' := 4) [0, 1, 3, 4] (by decide) rfl ⟨by kernel_rfl, by kernel_rfl, by kernel_rfl, by kernel_rfl, by kernel_rfl, by kernel_rfl, by kernel_rfl, by kernel_rfl, by kernel_rfl, trivial⟩ ⟨⟨_, _, rfl, rfl, .inl ⟨rfl, rowC_scal (encI_ok .i64) _⟩⟩, ⟨_, _, rfl, rfl, .inl ⟨rfl, rowC_scal (encI_ok .i64) _⟩⟩, ⟨_, _, rfl, rfl, .inl ⟨rfl, rowC_scal (encI_ok .i64) _⟩⟩, ⟨_, _, rfl, rfl, .inr ⟨_, _, _, _, rfl, rfl⟩⟩, trivial⟩ rfl ?_
                    exact xa56
                   ·refine XR.runS E0_ok 1 1 [(3, pp 0 0), (10, s0 1 r6.1.length), (12, pp 2 0), (13, s0 3 r7.1.length), (15, ii (gR r1 r2 r4)), (138, ii r1.2.2), (143, pp 4 ((Int.toNat r2.1) * 1)), (146, pp 0 0), (150, ii r1.1)] rfl (by kernel_rfl) ?_
                    refine XR.done (by kernel_rfl) ?_
                    refine ⟨rfl, ?_⟩
                    show XA _ _ _ _ _ _ _ _ _ _
                    exact xa64
                   ·refine XR.rd E0_ok [3, 10, 12, 13, 15, 137, 144, 146, 150] rfl (v := ii (List.getD r4 (Int.toNat r2.1) 0)) (v_load1 (encI_ok .i64) (x := (src 181 (.tmp 143))) (b := 4) (off := (Int.toNat r2.1) * 1) (xs := r4) (fz := 0) (e := 3) (es := 1) (d := (some (path 12 144))) (by kernel_rfl) (by kernel_rfl) (by kernel_rfl) (Int.toNat r2.1) 0 0 (by first | rfl | omega) (row_len (inRow_toNat b17) (by simp)) rfl rfl) (σ' := [(3, pp 0 0), (10, s0 1 r6.1.length), (12, pp 2 0), (13, s0 3 r7.1.length), (15, ii (gR r1 r2 r4)), (137, pp 0 2), (144, ii (List.getD r4 (Int.toNat r2.1) 0)), (146, pp 0 0), (150, ii r1.1)]) (by kernel_rfl) ?_
                    refine XR.done (by kernel_rfl) ?_
                    refine ⟨rfl, ?_⟩
                    show XA _ _ _ _ _ _ _ _ _ _
                    refine XA.ren (σ' := [(3, pp 0 0), (10, s0 1 r6.1.length), (12, pp 2 0), (13, s0 3 r7.1.length), (15, ii (gR r1 r2 r4)), (137, pp 0 2), (144, ii (List.getD r4 (Int.toNat r2.1) 0)), (146, pp 0 0), (150, ii r1.1)]) (h' := [(3, rc (encI .i64) r7.1 0 3 1), (2, .cells [ii r1.1, ii r1.2.1, ii (w64 (r1.2.2 + 1))] 0 23 0), (1, rc (encI .i64) r6.1 0 3 1), (0, .cells [ii r1.1, ii r1.2.1, ii r1.2.2] 0 23 0)]) (c' := 4) [0, 1, 2, 3] (by decide) rfl ⟨by kernel_rfl, by kernel_rfl, by kernel_rfl, by kernel_rfl, by kernel_rfl, by kernel_rfl, by kernel_rfl, by kernel_rfl, by kernel_rfl, trivial⟩ ⟨⟨_, _, rfl, rfl, .inl ⟨rfl, rowC_scal (encI_ok .i64) _⟩⟩, ⟨_, _, rfl, rfl, .inr ⟨_, _, _, _, rfl, rfl⟩⟩, ⟨_, _, rfl, rfl, .inl ⟨rfl, rowC_scal (encI_ok .i64) _⟩⟩, ⟨_, _, rfl, rfl, .inr ⟨_, _, _, _, rfl, rfl⟩⟩, trivial⟩ rfl ?_
                    exact xa68
                   ·refine XR.runS E0_ok 1 1 [(3, pp 0 0), (10, s0 1 r6.1.length), (12, pp 2 0), (13, s0 3 r7.1.length), (15, ii (gR r1 r2 r4)), (137, pp 0 2), (143, pp 4 ((Int.toNat r2.1) * 1)), (147, ii r1.1), (150, ii r1.1)] rfl (by kernel_rfl) ?_
                    refine XR.done (by kernel_rfl) ?_
                    refine ⟨rfl, ?_⟩
                    show XA _ _ _ _ _ _ _ _ _ _
                    exact xa70
                  have xa0 : XA E0 181 0 (opsOf (lft (rgt (rgt (rgt (rgt (rgt (rgt (rgt (rgt (rgt (rgt (rgt (rgt (rgt (rgt f14_C14)))))))))))))))) 12 #[false, false, true, false, false, false, true, true, true, false, false, true, false, false, true, false, false, false] [(3, pp 0 0), (10, s0 1 r6.1.length), (12, pp 2 0), (13, s0 3 r7.1.length), (15, ii (gR r1 r2 r4)), (137, pp 0 2), (143, pp 4 ((Int.toNat r2.1) * 1)), (146, pp 0 0), (149, pp 0 0)] [(4, rc (encI .i64) r4 0 3 1), (3, rc (encI .i64) r7.1 0 3 1), (2, .cells [ii r1.1, ii r1.2.1, ii (w64 (r1.2.2 + 1))] 0 23 0), (1, rc (encI .i64) r6.1 0 3 1), (0, .cells [ii r1.1, ii r1.2.1, ii r1.2.2] 0 23 0)] 5 (fun e σ1 h1 c1 => e = .normal ∧ (σ1, h1, c1) = ([(3, pp 0 0), (10, s0 1 r6.1.length), (13, s0 2 r7.1.length), (15, ii (gR r1 r2 r4)), (16, ii (Int.tmod (w64 ((w64 ((List.getD r9 (Int.toNat r1.2.2) 0) - (List.getD r4 (Int.toNat r2.1) 0))) + r1.1)) r1.1))], [(2, rc (encI .i64) r7.1 0 3 1), (1, rc (encI .i64) r6.1 0 3 1), (0, .cells [ii r1.1, ii r1.2.1, ii r1.2.2] 0 23 0)], 3)) := by
                   refine XA.step E0_ok [0, 3, 9, 12, 15] (by kernel_rfl) rfl (by kernel_rfl) ⟨?_, ?_, ?_, ?_, ?_, trivial⟩
                   ·refine XR.runS E0_ok 1 1 [(3, pp 0 0), (10, s0 1 r6.1.length), (13, s0 3 r7.1.length), (15, ii (gR r1 r2 r4)), (135, .agg #[ii r1.1, ii r1.2.1, ii (w64 (r1.2.2 + 1))]), (137, pp 0 2), (143, pp 4 ((Int.toNat r2.1) * 1)), (146, pp 0 0), (149, pp 0 0)] rfl (by kernel_rfl) ?_
                    refine XR.done (by kernel_rfl) ?_
                    refine ⟨rfl, ?_⟩
                    show XA _ _ _ _ _ _ _ _ _ _
                    refine XA.ren (σ' := [(3, pp 0 0), (10, s0 1 r6.1.length), (13, s0 2 r7.1.length), (15, ii (gR r1 r2 r4)), (135, .agg #[ii r1.1, ii r1.2.1, ii (w64 (r1.2.2 + 1))]), (137, pp 0 2), (143, pp 3 ((Int.toNat r2.1) * 1)), (146, pp 0 0), (149, pp 0 0)]) (h' := [(3, rc (encI .i64) r4 0 3 1), (2, rc (encI .i64) r7.1 0 3 1), (1, rc (encI .i64) r6.1 0 3 1), (0, .cells [ii r1.1, ii r1.2.1, ii r1.2.2] 0 23 0)]) (c' := 4) [0, 1, 3, 4] (by decide) rfl ⟨by kernel_rfl, by kernel_rfl, by kernel_rfl, by kernel_rfl, by kernel_rfl, by kernel_rfl, by kernel_rfl, by kernel_rfl, by kernel_rfl, trivial⟩ ⟨⟨_, _, rfl, rfl, .inl ⟨rfl, rowC_scal (encI_ok .i64) _⟩⟩, ⟨_, _, rfl, rfl, .inl ⟨rfl, rowC_scal (encI_ok .i64) _⟩⟩, ⟨_, _, rfl, rfl, .inl ⟨rfl, rowC_scal (encI_ok .i64) _⟩⟩, ⟨_, _, rfl, rfl, .inr ⟨_, _, _, _, rfl, rfl⟩⟩, trivial⟩ rfl ?_
                    exact xa1
                   ·refine XR.runS E0_ok 1 1 [(3, pp 0 0), (10, s0 1 r6.1.length), (12, pp 2 0), (13, s0 3 r7.1.length), (15, ii (gR r1 r2 r4)), (138, ii r1.2.2), (143, pp 4 ((Int.toNat r2.1) * 1)), (146, pp 0 0), (149, pp 0 0)] rfl (by kernel_rfl) ?_
                    refine XR.done (by kernel_rfl) ?_
                    refine ⟨rfl, ?_⟩
                    show XA _ _ _ _ _ _ _ _ _ _
                    exact xa57
                   ·refine XR.rd E0_ok [3, 10, 12, 13, 15, 137, 144, 146, 149] rfl (v := ii (List.getD r4 (Int.toNat r2.1) 0)) (v_load1 (encI_ok .i64) (x := (src 181 (.tmp 143))) (b := 4) (off := (Int.toNat r2.1) * 1) (xs := r4) (fz := 0) (e := 3) (es := 1) (d := (some (path 12 144))) (by kernel_rfl) (by kernel_rfl) (by kernel_rfl) (Int.toNat r2.1) 0 0 (by first | rfl | omega) (row_len (inRow_toNat b17) (by simp)) rfl rfl) (σ' := [(3, pp 0 0), (10, s0 1 r6.1.length), (12, pp 2 0), (13, s0 3 r7.1.length), (15, ii (gR r1 r2 r4)), (137, pp 0 2), (144, ii (List.getD r4 (Int.toNat r2.1) 0)), (146, pp 0 0), (149, pp 0 0)]) (by kernel_rfl) ?_
                    refine XR.done (by kernel_rfl) ?_
                    refine ⟨rfl, ?_⟩
                    show XA _ _ _ _ _ _ _ _ _ _
                    refine XA.ren (σ' := [(3, pp 0 0), (10, s0 1 r6.1.length), (12, pp 2 0), (13, s0 3 r7.1.length), (15, ii (gR r1 r2 r4)), (137, pp 0 2), (144, ii (List.getD r4 (Int.toNat r2.1) 0)), (146, pp 0 0), (149, pp 0 0)]) (h' := [(3, rc (encI .i64) r7.1 0 3 1), (2, .cells [ii r1.1, ii r1.2.1, ii (w64 (r1.2.2 + 1))] 0 23 0), (1, rc (encI .i64) r6.1 0 3 1), (0, .cells [ii r1.1, ii r1.2.1, ii r1.2.2] 0 23 0)]) (c' := 4) [0, 1, 2, 3] (by decide) rfl ⟨by kernel_rfl, by kernel_rfl, by kernel_rfl, by kernel_rfl, by kernel_rfl, by kernel_rfl, by kernel_rfl, by kernel_rfl, by kernel_rfl, trivial⟩ ⟨⟨_, _, rfl, rfl, .inl ⟨rfl, rowC_scal (encI_ok .i64) _⟩⟩, ⟨_, _, rfl, rfl, .inr ⟨_, _, _, _, rfl, rfl⟩⟩, ⟨_, _, rfl, rfl, .inl ⟨rfl, rowC_scal (encI_ok .i64) _⟩⟩, ⟨_, _, rfl, rfl, .inr ⟨_, _, _, _, rfl, rfl⟩⟩, trivial⟩ rfl ?_
                    exact xa65
                   ·refine XR.runS E0_ok 1 1 [(3, pp 0 0), (10, s0 1 r6.1.length), (12, pp 2 0), (13, s0 3 r7.1.length), (15, ii (gR r1 r2 r4)), (137, pp 0 2), (143, pp 4 ((Int.toNat r2.1) * 1)), (147, ii r1.1), (149, pp 0 0)] rfl (by kernel_rfl) ?_
                    refine XR.done (by kernel_rfl) ?_
                    refine ⟨rfl, ?_⟩
                    show XA _ _ _ _ _ _ _ _ _ _
                    exact xa69
                   ·refine XR.runS E0_ok 1 1 [(3, pp 0 0), (10, s0 1 r6.1.length), (12, pp 2 0), (13, s0 3 r7.1.length), (15, ii (gR r1 r2 r4)), (137, pp 0 2), (143, pp 4 ((Int.toNat r2.1) * 1)), (146, pp 0 0), (150, ii r1.1)] rfl (by kernel_rfl) ?_
                    refine XR.done (by kernel_rfl) ?_
                    refine ⟨rfl, ?_⟩
                    show XA _ _ _ _ _ _ _ _ _ _
                    exact xa71
                  refine XP.step E0_ok 3 [3, 10, 12, 13, 15, 137, 141, 142] rfl (σ' := [(3, pp 1 0), (10, s0 3 r6.1.length), (12, pp 4 0), (13, s0 5 r7.1.length), (15, ii (gR r1 r2 r4)), (137, pp 1 2), (141, s0 2 r4.length), (142, ii r2.1)]) (by kernel_rfl) ?_
                  refine XP.rd E0_ok (by kernel_rfl) [3, 10, 12, 13, 15, 137, 143] rfl rfl (v := pp 2 ((Int.toNat r2.1) * 1)) (v_idx (s := 1) (x := (src 181 (.tmp 141))) (y := (src 181 (.tmp 142))) (b := 2) (o := 0) (len := r4.length) (cap := r4.length) (ik := .i64) (i := r2.1) (off := (Int.toNat r2.1) * 1) (d := (some (path 12 143))) (by kernel_rfl) (by kernel_rfl) (by kernel_rfl) b17 (by omega)) (σ' := [(3, pp 1 0), (10, s0 3 r6.1.length), (12, pp 4 0), (13, s0 5 r7.1.length), (15, ii (gR r1 r2 r4)), (137, pp 1 2), (143, pp 2 ((Int.toNat r2.1) * 1))]) (by kernel_rfl) ?_
                  refine XP.step E0_ok 2 [3, 10, 12, 13, 15, 137, 143, 146, 149] rfl (σ' := [(3, pp 1 0), (10, s0 3 r6.1.length), (12, pp 4 0), (13, s0 5 r7.1.length), (15, ii (gR r1 r2 r4)), (137, pp 1 2), (143, pp 2 ((Int.toNat r2.1) * 1)), (146, pp 1 0), (149, pp 1 0)]) (by kernel_rfl) ?_
                  refine XP.done (by kernel_rfl) ?_
                  show XA _ _ _ _ _ _ _ _ _ _
                  refine XA.ren (σ' := [(3, pp 0 0), (10, s0 1 r6.1.length), (12, pp 2 0), (13, s0 3 r7.1.length), (15, ii (gR r1 r2 r4)), (137, pp 0 2), (143, pp 4 ((Int.toNat r2.1) * 1)), (146, pp 0 0), (149, pp 0 0)]) (h' := [(4, rc (encI .i64) r4 0 3 1), (3, rc (encI .i64) r7.1 0 3 1), (2, .cells [ii r1.1, ii r1.2.1, ii (w64 (r1.2.2 + 1))] 0 23 0), (1, rc (encI .i64) r6.1 0 3 1), (0, .cells [ii r1.1, ii r1.2.1, ii r1.2.2] 0 23 0)]) (c' := 5) [1, 3, 4, 5, 2] (by decide) rfl ⟨by kernel_rfl, by kernel_rfl, by kernel_rfl, by kernel_rfl, by kernel_rfl, by kernel_rfl, by kernel_rfl, by kernel_rfl, by kernel_rfl, trivial⟩ ⟨⟨_, _, rfl, rfl, .inl ⟨rfl, rowC_scal (encI_ok .i64) _⟩⟩, ⟨_, _, rfl, rfl, .inl ⟨rfl, rowC_scal (encI_ok .i64) _⟩⟩, ⟨_, _, rfl, rfl, .inr ⟨_, _, _, _, rfl, rfl⟩⟩, ⟨_, _, rfl, rfl, .inl ⟨rfl, rowC_scal (encI_ok .i64) _⟩⟩, ⟨_, _, rfl, rfl, .inr ⟨_, _, _, _, rfl, rfl⟩⟩, trivial⟩ rfl ?_
                  exact xa0

end Go.Xm
