/- What these functions of the program compute, as functions in Lean, and the proofs that they do: vitolalaw02.HeapHours. Conditions: none. -/
import Derived.Test.YtfdeihnkoaihfaaBt
import Derived.Test.YtfdeihnkoaihfaaBu
import Derived.Test.YtfdeihnkoaihfaaBv
import Derived.Test.YtfdeihnkoaihfaaBx
import Derived.Test.YtfdeihnkoaihfaaBy
namespace Go.Xm
open Go.RowKit
set_option linter.unusedVariables false
set_option linter.unusedSimpArgs false
set_option maxRecDepth 20000

/-! vitola/vitolalaw02.HeapHours -/
noncomputable def f6_C6 : Code := Proofs.Try.f6.body.getD .skip

def f6 (m : Nat) (a : List (Int × Int)) (b : List Int) : Option (Bool) :=
  (f15 m a b).bind fun r1 =>
    cond (r1) (
      some (true)
    ) (
      (f17 m a).bind fun r2 =>
        (f35 m a).bind fun r3 =>
          (f36 m r2).bind fun r4 =>
            (f37 m a).bind fun r5 =>
              (f38 m r2).bind fun r6 =>
                (f20 m r3.1 r4.1).bind fun r7 =>
                  cond (r7) (
                    cond (r3.2 == r4.2) (
                      (f20 m r5.1 r6.1).bind fun r8 =>
                        cond (r8) (
                          cond (r5.2 == r6.2) (
                            (f39 m a b).bind fun r9 =>
                              (f40 m r2 b).bind fun r10 =>
                                cond (r9 == r10) (
                                  some (true)
                                ) (
                                  some (false)
                                )
                          ) (
                            some (false)
                          )
                        ) (
                          some (false)
                        )
                    ) (
                      some (false)
                    )
                  ) (
                    some (false)
                  )
    )

theorem f6_ok (m : Nat) (z0 : Nat) (y0 : Nat) (z1 : Nat) (y1 : Nat) (a : List (Int × Int)) (b : List Int) (o : Bool) (h : f6 m a b = some o) : KC E0 6 [s0 0 a.length, s0 1 b.length] [(1, rc (encI .i64) b z1 y1 1), (0, rc encP a z0 y0 2)] 2 (fun v _ _ => v = .bool o) := by
  refine KC.bodyN E0_ok (F := Proofs.Try.f6) (by kernel_rfl) (code := f6_C6) (by kernel_rfl) (nt := 70) (by kernel_rfl) (rs := [.tmp 4]) (by kernel_rfl) (by kernel_rfl) (σ := [(0, s0 0 a.length), (1, s0 1 b.length)]) (by kernel_rfl) ?_
  unfold f6 at h
  refine XQ.seq E0_ok (by kernel_rfl) ?_
  refine XQ.region (by kernel_rfl) ?_
  refine XR.runS E0_ok 1 1 [(0, s0 0 a.length), (1, s0 1 b.length)] rfl (by kernel_rfl) ?_
  refine XR.done (by kernel_rfl) ?_
  show XQ _ _ _ _ _ _ _ _
  refine XQ.seq E0_ok (by kernel_rfl) ?_
  refine XQ.seq E0_ok (by kernel_rfl) ?_
  refine XQ.region (by kernel_rfl) ?_
  refine XR.runS E0_ok 1 2 [(0, s0 0 a.length), (1, s0 1 b.length), (14, s0 0 a.length), (15, s0 1 b.length)] rfl (by kernel_rfl) ?_
  obtain ⟨r1, r1_h, h⟩ := bS h
  refine XR.call E0_ok [0, 1, 16] rfl (K := 15) (args := [s0 0 a.length, s0 1 b.length]) (d := (some (path 12 16))) (by kernel_rfl) (KQ.call (KC.quiet E0_ok (args0 := [s0 0 a.length, s0 1 b.length]) (h0 := [(1, rc (encI .i64) b (z1 + ((rowC (encI .i64) b).length + 1)) y1 1), (0, rc encP a (z0 + ((rowC encP a).length + 1)) y0 2)]) (n := 2) (V := .bool r1) [0, 1] (f15_ok m (z0 + ((rowC encP a).length + 1)) y0 (z1 + ((rowC (encI .i64) b).length + 1)) y1 a b r1 r1_h) rfl (by rfl) (by decide) rfl (by kernel_rfl) ⟨⟨_, _, rfl, rfl, .inl ⟨rfl, rowC_scal (encI_ok .i64) _⟩⟩, ⟨_, _, rfl, rfl, .inl ⟨rfl, rowC_scal encP_ok _⟩⟩, trivial⟩) rfl) ?_
  rintro _ _ _ ⟨rfl, rfl, rfl⟩
  refine XR.conv (σ' := [(0, s0 0 a.length), (1, s0 1 b.length), (16, .bool r1)]) (h' := [(1, rc (encI .i64) b z1 y1 1), (0, rc encP a z0 y0 2)]) (c' := 2) ?_ (by kernel_rfl)
  refine XR.done (by kernel_rfl) ?_
  show XQ _ _ _ _ _ _ _ _
  cases b1 : (r1 : Bool) with
  | true =>
    have h := cT b1 h
    refine XQ.cond (s := (.tmp 16)) (b := true) (by kernel_rfl) (by kernel_rfl) (fun _ => ?_) (fun q => by cases q)
    refine XQ.seq E0_ok (by kernel_rfl) ?_
    refine XQ.region (by kernel_rfl) ?_
    refine XR.call E0_ok [17] rfl (K := 16) (args := []) (d := (some (path 12 17))) (by kernel_rfl) (KC.of_calls E0_ok (F := Proofs.Try.f16) (v := .bool true) (by kernel_rfl) rfl rfl (works_ok)) ?_
    rintro _ _ _ ⟨rfl, rfl, rfl⟩
    refine XR.conv (σ' := [(17, .bool true)]) (h' := [(1, rc (encI .i64) b z1 y1 1), (0, rc encP a z0 y0 2)]) (c' := 2) ?_ (by kernel_rfl)
    refine XR.runS E0_ok 1 1 [(4, .bool true)] rfl (by kernel_rfl) ?_
    refine XR.done (by kernel_rfl) ?_
    show XQ _ _ _ _ _ _ _ _
    refine XQ.ret (by kernel_rfl) ?_
    have h := Option.some.inj h
    subst h
    exact ⟨fun i q => (by cases q), .bool true, (by kernel_rfl), rfl⟩
  | false =>
    have h := cF b1 h
    refine XQ.cond (s := (.tmp 16)) (b := false) (by kernel_rfl) (by kernel_rfl) (fun q => by cases q) (fun _ => ?_)
    refine XQ.skip (by kernel_rfl) ?_
    show XQ _ _ _ _ _ _ _ _
    refine XQ.seq E0_ok (by kernel_rfl) ?_
    refine XQ.region (by kernel_rfl) ?_
    refine XR.runS E0_ok 1 1 [(0, s0 0 a.length), (1, s0 1 b.length), (18, s0 0 a.length)] rfl (by kernel_rfl) ?_
    obtain ⟨r2, r2_h, h⟩ := bS h
    refine XR.call E0_ok [0, 1, 19] rfl (K := 17) (args := [s0 0 a.length]) (d := (some (path 12 19))) (by kernel_rfl) (KC.liftH (n0 := 1) (m := 1) (args0 := [s0 0 a.length]) (h0 := [(0, rc encP a (z0 + ((rowC encP a).length + 1)) y0 2)]) (V := s0 1 r2.length) (V2 := s0 2 r2.length) (H := [(1, rc encP r2 0 83 2)]) (H2 := [(2, rc encP r2 0 83 2)]) [0] [2, 3, 1] (f17_ok m (z0 + ((rowC encP a).length + 1)) y0 a r2 r2_h) (by rfl) (by decide) rfl (by kernel_rfl) ⟨⟨_, _, rfl, rfl, .inl ⟨rfl, rowC_scal encP_ok _⟩⟩, trivial⟩ (by decide) (by decide) (by kernel_rfl) ⟨⟨_, _, rfl, rfl, .inl ⟨rfl, rowC_scal encP_ok _⟩⟩, trivial⟩ (by rfl)) ?_
    rintro _ _ _ ⟨rfl, rfl, rfl⟩
    refine XR.conv (σ' := [(0, s0 0 a.length), (1, s0 1 b.length), (19, s0 2 r2.length)]) (h' := [(2, rc encP r2 0 83 2), (1, rc (encI .i64) b z1 y1 1), (0, rc encP a z0 y0 2)]) (c' := 3) ?_ (by kernel_rfl)
    refine XR.runS E0_ok 1 1 [(0, s0 0 a.length), (1, s0 1 b.length), (5, s0 2 r2.length)] rfl (by kernel_rfl) ?_
    refine XR.done (by kernel_rfl) ?_
    show XQ _ _ _ _ _ _ _ _
    refine XQ.seq E0_ok (by kernel_rfl) ?_
    refine XQ.region (by kernel_rfl) ?_
    refine XR.runS E0_ok 1 1 [(0, s0 0 a.length), (1, s0 1 b.length), (5, s0 2 r2.length), (21, s0 0 a.length)] rfl (by kernel_rfl) ?_
    obtain ⟨r3, r3_h, h⟩ := bS h
    refine XR.call E0_ok [0, 1, 5, 22] rfl (K := 35) (args := [s0 0 a.length]) (d := (some (path 12 22))) (by kernel_rfl) (KC.liftH (n0 := 1) (m := 1) (args0 := [s0 0 a.length]) (h0 := [(0, rc encP a (z0 + ((rowC encP a).length + 1)) y0 2)]) (V := .tuple #[s0 1 r3.1.length, ii r3.2]) (V2 := .tuple #[s0 3 r3.1.length, ii r3.2]) (H := [(1, rc (encI .i64) r3.1 0 3 1)]) (H2 := [(3, rc (encI .i64) r3.1 0 3 1)]) [0] [2, 3, 4, 1] (f35_ok m (z0 + ((rowC encP a).length + 1)) y0 a r3 r3_h) (by rfl) (by decide) rfl (by kernel_rfl) ⟨⟨_, _, rfl, rfl, .inl ⟨rfl, rowC_scal encP_ok _⟩⟩, trivial⟩ (by decide) (by decide) (by kernel_rfl) ⟨⟨_, _, rfl, rfl, .inl ⟨rfl, rowC_scal (encI_ok .i64) _⟩⟩, trivial⟩ (by rfl)) ?_
    rintro _ _ _ ⟨rfl, rfl, rfl⟩
    refine XR.conv (σ' := [(0, s0 0 a.length), (1, s0 1 b.length), (5, s0 2 r2.length), (22, .tuple #[s0 3 r3.1.length, ii r3.2])]) (h' := [(3, rc (encI .i64) r3.1 0 3 1), (2, rc encP r2 0 83 2), (1, rc (encI .i64) b z1 y1 1), (0, rc encP a z0 y0 2)]) (c' := 4) ?_ (by kernel_rfl)
    refine XR.runS E0_ok 1 5 [(0, s0 0 a.length), (1, s0 1 b.length), (5, s0 2 r2.length), (6, s0 3 r3.1.length), (7, ii r3.2)] rfl (by kernel_rfl) ?_
    refine XR.done (by kernel_rfl) ?_
    show XQ _ _ _ _ _ _ _ _
    refine XQ.seq E0_ok (by kernel_rfl) ?_
    refine XQ.region (by kernel_rfl) ?_
    refine XR.runS E0_ok 1 1 [(0, s0 0 a.length), (1, s0 1 b.length), (5, s0 2 r2.length), (6, s0 3 r3.1.length), (7, ii r3.2), (26, s0 2 r2.length)] rfl (by kernel_rfl) ?_
    obtain ⟨r4, r4_h, h⟩ := bS h
    refine XR.call E0_ok [0, 1, 5, 6, 7, 27] rfl (K := 36) (args := [s0 2 r2.length]) (d := (some (path 12 27))) (by kernel_rfl) (KC.liftH (n0 := 1) (m := 1) (args0 := [s0 0 r2.length]) (h0 := [(0, rc encP r2 (0 + ((rowC encP r2).length + 1)) 83 2)]) (V := .tuple #[s0 1 r4.1.length, ii r4.2]) (V2 := .tuple #[s0 4 r4.1.length, ii r4.2]) (H := [(1, rc (encI .i64) r4.1 0 3 1)]) (H2 := [(4, rc (encI .i64) r4.1 0 3 1)]) [2] [2, 3, 4, 5, 1] (f36_ok m (0 + ((rowC encP r2).length + 1)) 83 r2 r4 r4_h) (by rfl) (by decide) rfl (by kernel_rfl) ⟨⟨_, _, rfl, rfl, .inl ⟨rfl, rowC_scal encP_ok _⟩⟩, trivial⟩ (by decide) (by decide) (by kernel_rfl) ⟨⟨_, _, rfl, rfl, .inl ⟨rfl, rowC_scal (encI_ok .i64) _⟩⟩, trivial⟩ (by rfl)) ?_
    rintro _ _ _ ⟨rfl, rfl, rfl⟩
    refine XR.conv (σ' := [(0, s0 0 a.length), (1, s0 1 b.length), (5, s0 2 r2.length), (6, s0 3 r3.1.length), (7, ii r3.2), (27, .tuple #[s0 4 r4.1.length, ii r4.2])]) (h' := [(4, rc (encI .i64) r4.1 0 3 1), (3, rc (encI .i64) r3.1 0 3 1), (2, rc encP r2 0 83 2), (1, rc (encI .i64) b z1 y1 1), (0, rc encP a z0 y0 2)]) (c' := 5) ?_ (by kernel_rfl)
    refine XR.runS E0_ok 1 5 [(0, s0 0 a.length), (1, s0 1 b.length), (5, s0 2 r2.length), (6, s0 3 r3.1.length), (7, ii r3.2), (8, s0 4 r4.1.length), (9, ii r4.2)] rfl (by kernel_rfl) ?_
    refine XR.done (by kernel_rfl) ?_
    show XQ _ _ _ _ _ _ _ _
    refine XQ.seq E0_ok (by kernel_rfl) ?_
    refine XQ.region (by kernel_rfl) ?_
    refine XR.runS E0_ok 1 1 [(0, s0 0 a.length), (1, s0 1 b.length), (5, s0 2 r2.length), (6, s0 3 r3.1.length), (7, ii r3.2), (8, s0 4 r4.1.length), (9, ii r4.2), (31, s0 0 a.length)] rfl (by kernel_rfl) ?_
    obtain ⟨r5, r5_h, h⟩ := bS h
    refine XR.call E0_ok [0, 1, 5, 6, 7, 8, 9, 32] rfl (K := 37) (args := [s0 0 a.length]) (d := (some (path 12 32))) (by kernel_rfl) (KC.liftH (n0 := 1) (m := 1) (args0 := [s0 0 a.length]) (h0 := [(0, rc encP a (z0 + ((rowC encP a).length + 1)) y0 2)]) (V := .tuple #[s0 1 r5.1.length, ii r5.2]) (V2 := .tuple #[s0 5 r5.1.length, ii r5.2]) (H := [(1, rc (encI .i64) r5.1 0 3 1)]) (H2 := [(5, rc (encI .i64) r5.1 0 3 1)]) [0] [2, 3, 4, 5, 6, 1] (f37_ok m (z0 + ((rowC encP a).length + 1)) y0 a r5 r5_h) (by rfl) (by decide) rfl (by kernel_rfl) ⟨⟨_, _, rfl, rfl, .inl ⟨rfl, rowC_scal encP_ok _⟩⟩, trivial⟩ (by decide) (by decide) (by kernel_rfl) ⟨⟨_, _, rfl, rfl, .inl ⟨rfl, rowC_scal (encI_ok .i64) _⟩⟩, trivial⟩ (by rfl)) ?_
    rintro _ _ _ ⟨rfl, rfl, rfl⟩
    refine XR.conv (σ' := [(0, s0 0 a.length), (1, s0 1 b.length), (5, s0 2 r2.length), (6, s0 3 r3.1.length), (7, ii r3.2), (8, s0 4 r4.1.length), (9, ii r4.2), (32, .tuple #[s0 5 r5.1.length, ii r5.2])]) (h' := [(5, rc (encI .i64) r5.1 0 3 1), (4, rc (encI .i64) r4.1 0 3 1), (3, rc (encI .i64) r3.1 0 3 1), (2, rc encP r2 0 83 2), (1, rc (encI .i64) b z1 y1 1), (0, rc encP a z0 y0 2)]) (c' := 6) ?_ (by kernel_rfl)
    refine XR.runS E0_ok 1 5 [(0, s0 0 a.length), (1, s0 1 b.length), (5, s0 2 r2.length), (6, s0 3 r3.1.length), (7, ii r3.2), (8, s0 4 r4.1.length), (9, ii r4.2), (10, s0 5 r5.1.length), (11, ii r5.2)] rfl (by kernel_rfl) ?_
    refine XR.done (by kernel_rfl) ?_
    show XQ _ _ _ _ _ _ _ _
    refine XQ.seq E0_ok (by kernel_rfl) ?_
    refine XQ.region (by kernel_rfl) ?_
    refine XR.runS E0_ok 1 1 [(0, s0 0 a.length), (1, s0 1 b.length), (5, s0 2 r2.length), (6, s0 3 r3.1.length), (7, ii r3.2), (8, s0 4 r4.1.length), (9, ii r4.2), (10, s0 5 r5.1.length), (11, ii r5.2), (36, s0 2 r2.length)] rfl (by kernel_rfl) ?_
    obtain ⟨r6, r6_h, h⟩ := bS h
    refine XR.call E0_ok [0, 1, 5, 6, 7, 8, 9, 10, 11, 37] rfl (K := 38) (args := [s0 2 r2.length]) (d := (some (path 12 37))) (by kernel_rfl) (KC.liftH (n0 := 1) (m := 1) (args0 := [s0 0 r2.length]) (h0 := [(0, rc encP r2 (0 + ((rowC encP r2).length + 1)) 83 2)]) (V := .tuple #[s0 1 r6.1.length, ii r6.2]) (V2 := .tuple #[s0 6 r6.1.length, ii r6.2]) (H := [(1, rc (encI .i64) r6.1 0 3 1)]) (H2 := [(6, rc (encI .i64) r6.1 0 3 1)]) [2] [2, 3, 4, 5, 6, 7, 1] (f38_ok m (0 + ((rowC encP r2).length + 1)) 83 r2 r6 r6_h) (by rfl) (by decide) rfl (by kernel_rfl) ⟨⟨_, _, rfl, rfl, .inl ⟨rfl, rowC_scal encP_ok _⟩⟩, trivial⟩ (by decide) (by decide) (by kernel_rfl) ⟨⟨_, _, rfl, rfl, .inl ⟨rfl, rowC_scal (encI_ok .i64) _⟩⟩, trivial⟩ (by rfl)) ?_
    rintro _ _ _ ⟨rfl, rfl, rfl⟩
    refine XR.conv (σ' := [(0, s0 0 a.length), (1, s0 1 b.length), (5, s0 2 r2.length), (6, s0 3 r3.1.length), (7, ii r3.2), (8, s0 4 r4.1.length), (9, ii r4.2), (10, s0 5 r5.1.length), (11, ii r5.2), (37, .tuple #[s0 6 r6.1.length, ii r6.2])]) (h' := [(6, rc (encI .i64) r6.1 0 3 1), (5, rc (encI .i64) r5.1 0 3 1), (4, rc (encI .i64) r4.1 0 3 1), (3, rc (encI .i64) r3.1 0 3 1), (2, rc encP r2 0 83 2), (1, rc (encI .i64) b z1 y1 1), (0, rc encP a z0 y0 2)]) (c' := 7) ?_ (by kernel_rfl)
    refine XR.runS E0_ok 1 5 [(0, s0 0 a.length), (1, s0 1 b.length), (5, s0 2 r2.length), (6, s0 3 r3.1.length), (7, ii r3.2), (8, s0 4 r4.1.length), (9, ii r4.2), (10, s0 5 r5.1.length), (11, ii r5.2), (12, s0 6 r6.1.length), (13, ii r6.2)] rfl (by kernel_rfl) ?_
    refine XR.done (by kernel_rfl) ?_
    show XQ _ _ _ _ _ _ _ _
    refine XQ.seq E0_ok (by kernel_rfl) ?_
    refine XQ.region (by kernel_rfl) ?_
    refine XR.runS E0_ok 1 2 [(0, s0 0 a.length), (1, s0 1 b.length), (5, s0 2 r2.length), (7, ii r3.2), (9, ii r4.2), (10, s0 5 r5.1.length), (11, ii r5.2), (12, s0 6 r6.1.length), (13, ii r6.2), (40, s0 3 r3.1.length), (41, s0 4 r4.1.length)] rfl (by kernel_rfl) ?_
    obtain ⟨r7, r7_h, h⟩ := bS h
    refine XR.call E0_ok [0, 1, 5, 7, 9, 10, 11, 12, 13, 42] rfl (K := 20) (args := [s0 3 r3.1.length, s0 4 r4.1.length]) (d := (some (path 12 42))) (by kernel_rfl) (KQ.call (KC.quiet E0_ok (args0 := [s0 0 r3.1.length, s0 1 r4.1.length]) (h0 := [(1, rc (encI .i64) r4.1 (0 + ((rowC (encI .i64) r4.1).length + 1)) 3 1), (0, rc (encI .i64) r3.1 (0 + ((rowC (encI .i64) r3.1).length + 1)) 3 1)]) (n := 2) (V := .bool r7) [3, 4] (f20_ok m (0 + ((rowC (encI .i64) r3.1).length + 1)) 3 (0 + ((rowC (encI .i64) r4.1).length + 1)) 3 r3.1 r4.1 r7 r7_h) rfl (by rfl) (by decide) rfl (by kernel_rfl) ⟨⟨_, _, rfl, rfl, .inl ⟨rfl, rowC_scal (encI_ok .i64) _⟩⟩, ⟨_, _, rfl, rfl, .inl ⟨rfl, rowC_scal (encI_ok .i64) _⟩⟩, trivial⟩) rfl) ?_
    rintro _ _ _ ⟨rfl, rfl, rfl⟩
    refine XR.conv (σ' := [(0, s0 0 a.length), (1, s0 1 b.length), (5, s0 2 r2.length), (7, ii r3.2), (9, ii r4.2), (10, s0 5 r5.1.length), (11, ii r5.2), (12, s0 6 r6.1.length), (13, ii r6.2), (42, .bool r7)]) (h' := [(6, rc (encI .i64) r6.1 0 3 1), (5, rc (encI .i64) r5.1 0 3 1), (4, rc (encI .i64) r4.1 0 3 1), (3, rc (encI .i64) r3.1 0 3 1), (2, rc encP r2 0 83 2), (1, rc (encI .i64) b z1 y1 1), (0, rc encP a z0 y0 2)]) (c' := 7) ?_ (by kernel_rfl)
    refine XR.runS E0_ok 1 1 [(0, s0 0 a.length), (1, s0 1 b.length), (5, s0 2 r2.length), (7, ii r3.2), (9, ii r4.2), (10, s0 5 r5.1.length), (11, ii r5.2), (12, s0 6 r6.1.length), (13, ii r6.2), (43, .bool r7)] rfl (by kernel_rfl) ?_
    cases b2 : (r7 : Bool) with
    | true =>
      have h := cT b2 h
      refine XR.runS E0_ok 1 5 [(0, s0 0 a.length), (1, s0 1 b.length), (5, s0 2 r2.length), (10, s0 5 r5.1.length), (11, ii r5.2), (12, s0 6 r6.1.length), (13, ii r6.2), (48, .bool (r3.2 == r4.2))] rfl (by kernel_rfl) ?_
      cases b3 : (r3.2 == r4.2 : Bool) with
      | true =>
        have h := cT b3 h
        refine XR.runS E0_ok 1 2 [(0, s0 0 a.length), (1, s0 1 b.length), (5, s0 2 r2.length), (11, ii r5.2), (13, ii r6.2), (48, .bool true), (49, s0 5 r5.1.length), (50, s0 6 r6.1.length)] rfl (by kernel_rfl) ?_
        obtain ⟨r8, r8_h, h⟩ := bS h
        refine XR.call E0_ok [0, 1, 5, 11, 13, 48, 51] rfl (K := 20) (args := [s0 5 r5.1.length, s0 6 r6.1.length]) (d := (some (path 12 51))) (by kernel_rfl) (KQ.call (KC.quiet E0_ok (args0 := [s0 0 r5.1.length, s0 1 r6.1.length]) (h0 := [(1, rc (encI .i64) r6.1 (0 + ((rowC (encI .i64) r6.1).length + 1)) 3 1), (0, rc (encI .i64) r5.1 (0 + ((rowC (encI .i64) r5.1).length + 1)) 3 1)]) (n := 2) (V := .bool r8) [5, 6] (f20_ok m (0 + ((rowC (encI .i64) r5.1).length + 1)) 3 (0 + ((rowC (encI .i64) r6.1).length + 1)) 3 r5.1 r6.1 r8 r8_h) rfl (by rfl) (by decide) rfl (by kernel_rfl) ⟨⟨_, _, rfl, rfl, .inl ⟨rfl, rowC_scal (encI_ok .i64) _⟩⟩, ⟨_, _, rfl, rfl, .inl ⟨rfl, rowC_scal (encI_ok .i64) _⟩⟩, trivial⟩) rfl) ?_
        rintro _ _ _ ⟨rfl, rfl, rfl⟩
        refine XR.conv (σ' := [(0, s0 0 a.length), (1, s0 1 b.length), (5, s0 2 r2.length), (11, ii r5.2), (13, ii r6.2), (48, .bool true), (51, .bool r8)]) (h' := [(6, rc (encI .i64) r6.1 0 3 1), (5, rc (encI .i64) r5.1 0 3 1), (4, rc (encI .i64) r4.1 0 3 1), (3, rc (encI .i64) r3.1 0 3 1), (2, rc encP r2 0 83 2), (1, rc (encI .i64) b z1 y1 1), (0, rc encP a z0 y0 2)]) (c' := 7) ?_ (by kernel_rfl)
        refine XR.runS E0_ok 1 2 [(0, s0 0 a.length), (1, s0 1 b.length), (5, s0 2 r2.length), (11, ii r5.2), (13, ii r6.2), (53, .bool r8)] rfl (by kernel_rfl) ?_
        cases b4 : (r8 : Bool) with
        | true =>
          have h := cT b4 h
          refine XR.runS E0_ok 1 5 [(0, s0 0 a.length), (1, s0 1 b.length), (5, s0 2 r2.length), (58, .bool (r5.2 == r6.2))] rfl (by kernel_rfl) ?_
          cases b5 : (r5.2 == r6.2 : Bool) with
          | true =>
            have h := cT b5 h
            refine XR.runS E0_ok 1 2 [(1, s0 1 b.length), (5, s0 2 r2.length), (58, .bool true), (59, s0 0 a.length), (60, s0 1 b.length)] rfl (by kernel_rfl) ?_
            obtain ⟨r9, r9_h, h⟩ := bS h
            refine XR.call E0_ok [1, 5, 58, 61] rfl (K := 39) (args := [s0 0 a.length, s0 1 b.length]) (d := (some (path 12 61))) (by kernel_rfl) (KQ.call (KC.quiet E0_ok (args0 := [s0 0 a.length, s0 1 b.length]) (h0 := [(1, rc (encI .i64) b (z1 + ((rowC (encI .i64) b).length + 1)) y1 1), (0, rc encP a (z0 + ((rowC encP a).length + 1)) y0 2)]) (n := 2) (V := ii r9) [0, 1] (f39_ok m (z0 + ((rowC encP a).length + 1)) y0 (z1 + ((rowC (encI .i64) b).length + 1)) y1 a b r9 r9_h) rfl (by rfl) (by decide) rfl (by kernel_rfl) ⟨⟨_, _, rfl, rfl, .inl ⟨rfl, rowC_scal (encI_ok .i64) _⟩⟩, ⟨_, _, rfl, rfl, .inl ⟨rfl, rowC_scal encP_ok _⟩⟩, trivial⟩) rfl) ?_
            rintro _ _ _ ⟨rfl, rfl, rfl⟩
            refine XR.conv (σ' := [(1, s0 1 b.length), (5, s0 2 r2.length), (58, .bool true), (61, ii r9)]) (h' := [(6, rc (encI .i64) r6.1 0 3 1), (5, rc (encI .i64) r5.1 0 3 1), (4, rc (encI .i64) r4.1 0 3 1), (3, rc (encI .i64) r3.1 0 3 1), (2, rc encP r2 0 83 2), (1, rc (encI .i64) b z1 y1 1), (0, rc encP a z0 y0 2)]) (c' := 7) ?_ (by kernel_rfl)
            refine XR.runS E0_ok 1 2 [(58, .bool true), (61, ii r9), (62, s0 2 r2.length), (63, s0 1 b.length)] rfl (by kernel_rfl) ?_
            obtain ⟨r10, r10_h, h⟩ := bS h
            refine XR.call E0_ok [58, 61, 64] rfl (K := 40) (args := [s0 2 r2.length, s0 1 b.length]) (d := (some (path 12 64))) (by kernel_rfl) (KQ.call (KC.quiet E0_ok (args0 := [s0 0 r2.length, s0 1 b.length]) (h0 := [(1, rc (encI .i64) b (z1 + ((rowC (encI .i64) b).length + 1)) y1 1), (0, rc encP r2 (0 + ((rowC encP r2).length + 1)) 83 2)]) (n := 2) (V := ii r10) [2, 1] (f40_ok m (0 + ((rowC encP r2).length + 1)) 83 (z1 + ((rowC (encI .i64) b).length + 1)) y1 r2 b r10 r10_h) rfl (by rfl) (by decide) rfl (by kernel_rfl) ⟨⟨_, _, rfl, rfl, .inl ⟨rfl, rowC_scal (encI_ok .i64) _⟩⟩, ⟨_, _, rfl, rfl, .inl ⟨rfl, rowC_scal encP_ok _⟩⟩, trivial⟩) rfl) ?_
            rintro _ _ _ ⟨rfl, rfl, rfl⟩
            refine XR.conv (σ' := [(58, .bool true), (61, ii r9), (64, ii r10)]) (h' := [(6, rc (encI .i64) r6.1 0 3 1), (5, rc (encI .i64) r5.1 0 3 1), (4, rc (encI .i64) r4.1 0 3 1), (3, rc (encI .i64) r3.1 0 3 1), (2, rc encP r2 0 83 2), (1, rc (encI .i64) b z1 y1 1), (0, rc encP a z0 y0 2)]) (c' := 7) ?_ (by kernel_rfl)
            refine XR.runS E0_ok 1 3 [(67, .bool (r9 == r10))] rfl (by kernel_rfl) ?_
            cases b6 : (r9 == r10 : Bool) with
            | true =>
              have h := cT b6 h
              refine XR.call E0_ok [67, 68] rfl (K := 16) (args := []) (d := (some (path 12 68))) (by kernel_rfl) (KC.of_calls E0_ok (F := Proofs.Try.f16) (v := .bool true) (by kernel_rfl) rfl rfl (works_ok)) ?_
              rintro _ _ _ ⟨rfl, rfl, rfl⟩
              refine XR.conv (σ' := [(67, .bool true), (68, .bool true)]) (h' := [(6, rc (encI .i64) r6.1 0 3 1), (5, rc (encI .i64) r5.1 0 3 1), (4, rc (encI .i64) r4.1 0 3 1), (3, rc (encI .i64) r3.1 0 3 1), (2, rc encP r2 0 83 2), (1, rc (encI .i64) b z1 y1 1), (0, rc encP a z0 y0 2)]) (c' := 7) ?_ (by kernel_rfl)
              refine XR.runS E0_ok 1 2 [(4, .bool true)] rfl (by kernel_rfl) ?_
              refine XR.done (by kernel_rfl) ?_
              show XQ _ _ _ _ _ _ _ _
              refine XQ.ret (by kernel_rfl) ?_
              have h := Option.some.inj h
              subst h
              exact ⟨fun i q => (by cases q), .bool true, (by kernel_rfl), rfl⟩
            | false =>
              have h := cF b6 h
              refine XR.runS E0_ok 1 3 [(4, .bool false)] rfl (by kernel_rfl) ?_
              refine XR.done (by kernel_rfl) ?_
              show XQ _ _ _ _ _ _ _ _
              refine XQ.ret (by kernel_rfl) ?_
              have h := Option.some.inj h
              subst h
              exact ⟨fun i q => (by cases q), .bool false, (by kernel_rfl), rfl⟩
          | false =>
            have h := cF b5 h
            refine XR.runS E0_ok 1 12 [(4, .bool false)] rfl (by kernel_rfl) ?_
            refine XR.done (by kernel_rfl) ?_
            show XQ _ _ _ _ _ _ _ _
            refine XQ.ret (by kernel_rfl) ?_
            have h := Option.some.inj h
            subst h
            exact ⟨fun i q => (by cases q), .bool false, (by kernel_rfl), rfl⟩
        | false =>
          have h := cF b4 h
          refine XR.runS E0_ok 1 17 [(4, .bool false)] rfl (by kernel_rfl) ?_
          refine XR.done (by kernel_rfl) ?_
          show XQ _ _ _ _ _ _ _ _
          refine XQ.ret (by kernel_rfl) ?_
          have h := Option.some.inj h
          subst h
          exact ⟨fun i q => (by cases q), .bool false, (by kernel_rfl), rfl⟩
      | false =>
        have h := cF b3 h
        refine XR.runS E0_ok 1 22 [(4, .bool false)] rfl (by kernel_rfl) ?_
        refine XR.done (by kernel_rfl) ?_
        show XQ _ _ _ _ _ _ _ _
        refine XQ.ret (by kernel_rfl) ?_
        have h := Option.some.inj h
        subst h
        exact ⟨fun i q => (by cases q), .bool false, (by kernel_rfl), rfl⟩
    | false =>
      have h := cF b2 h
      refine XR.runS E0_ok 1 27 [(4, .bool false)] rfl (by kernel_rfl) ?_
      refine XR.done (by kernel_rfl) ?_
      show XQ _ _ _ _ _ _ _ _
      refine XQ.ret (by kernel_rfl) ?_
      have h := Option.some.inj h
      subst h
      exact ⟨fun i q => (by cases q), .bool false, (by kernel_rfl), rfl⟩

end Go.Xm
