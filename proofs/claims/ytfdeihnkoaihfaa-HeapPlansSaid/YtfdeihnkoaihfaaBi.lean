/- What these functions of the program compute, as functions in Lean, and the proofs that they do: vitolalaw02.HeapPlans. Conditions: none. -/
import Derived.Test.YtfdeihnkoaihfaaBf
import Derived.Test.YtfdeihnkoaihfaaBg
namespace Go.Xm
open Go.RowKit
set_option linter.unusedVariables false
set_option linter.unusedSimpArgs false
set_option maxRecDepth 20000

/-! vitola/vitolalaw02.HeapPlans -/
noncomputable def f3_C3 : Code := Proofs.Try.f3.body.getD .skip

def f3 (m : Nat) (a : List (Int × Int)) (b : Int) (c : List Int) : Option (Bool) :=
  (f15 m a c).bind fun r1 =>
    cond (r1) (
      some (true)
    ) (
      (f17 m a).bind fun r2 =>
        (f18 m a b).bind fun r3 =>
          (f19 m r2 b).bind fun r4 =>
            (f20 m r3.1 r4.1).bind fun r5 =>
              cond (r5) (
                cond (r3.2 == r4.2) (
                  (f21 m a b c).bind fun r6 =>
                    (f22 m r2 b c).bind fun r7 =>
                      cond (r6 == r7) (
                        (f23 m a).bind fun r8 =>
                          (f24 m r2).bind fun r9 =>
                            cond (r8 == r9) (
                              some (true)
                            ) (
                              some (false)
                            )
                      ) (
                        some (false)
                      )
                ) (
                  some (false)
                )
              ) (
                some (false)
              )
    )

theorem f3_ok (m : Nat) (z0 : Nat) (y0 : Nat) (z1 : Nat) (y1 : Nat) (a : List (Int × Int)) (b : Int) (c : List Int) (o : Bool) (h : f3 m a b c = some o) : KC E0 3 [.slice (some ⟨0, 0, none⟩) a.length a.length, .int .i64 b, .slice (some ⟨1, 0, none⟩) c.length c.length] [(1, .cells (rowC (encI .i64) c) z1 y1 1), (0, .cells (rowC encP a) z0 y0 2)] 2 (fun v _ _ => v = .bool o) := by
  refine KC.bodyN E0_ok (F := Proofs.Try.f3) (by kernel_rfl) (code := f3_C3) (by kernel_rfl) (nt := 59) (by kernel_rfl) (rs := [.tmp 6]) (by kernel_rfl) (by kernel_rfl) (σ := [(0, .slice (some ⟨0, 0, none⟩) a.length a.length), (1, .int .i64 b), (2, .slice (some ⟨1, 0, none⟩) c.length c.length)]) (by kernel_rfl) ?_
  unfold f3 at h
  refine XQ.seq E0_ok (by kernel_rfl) ?_
  refine XQ.region (by kernel_rfl) ?_
  refine XR.run E0_ok 1 1 [0, 1, 2] rfl (σ' := [(0, .slice (some ⟨0, 0, none⟩) a.length a.length), (1, .int .i64 b), (2, .slice (some ⟨1, 0, none⟩) c.length c.length)]) (h' := [(1, .cells (rowC (encI .i64) c) z1 y1 1), (0, .cells (rowC encP a) z0 y0 2)]) (c' := 2) (by kernel_rfl) ?_
  refine XR.done (by kernel_rfl) ?_
  show XQ _ _ _ _ _ _ _ _
  refine XQ.seq E0_ok (by kernel_rfl) ?_
  refine XQ.seq E0_ok (by kernel_rfl) ?_
  refine XQ.region (by kernel_rfl) ?_
  refine XR.run E0_ok 1 2 [0, 1, 2, 12, 13] rfl (σ' := [(0, .slice (some ⟨0, 0, none⟩) a.length a.length), (1, .int .i64 b), (2, .slice (some ⟨1, 0, none⟩) c.length c.length), (12, .slice (some ⟨0, 0, none⟩) a.length a.length), (13, .slice (some ⟨1, 0, none⟩) c.length c.length)]) (h' := [(1, .cells (rowC (encI .i64) c) z1 y1 1), (0, .cells (rowC encP a) z0 y0 2)]) (c' := 2) (by kernel_rfl) ?_
  obtain ⟨r1, r1_h, h⟩ := bS h
  refine XR.call E0_ok [0, 1, 2, 14] rfl (K := 15) (args := [.slice (some ⟨0, 0, none⟩) a.length a.length, .slice (some ⟨1, 0, none⟩) c.length c.length]) (d := (some (path 12 14))) (by kernel_rfl) (KQ.call (KC.quiet E0_ok (args0 := [.slice (some ⟨0, 0, none⟩) a.length a.length, .slice (some ⟨1, 0, none⟩) c.length c.length]) (h0 := [(1, .cells (rowC (encI .i64) c) (z1 + ((rowC (encI .i64) c).length + 1)) y1 1), (0, .cells (rowC encP a) (z0 + ((rowC encP a).length + 1)) y0 2)]) (n := 2) (V := .bool r1) [0, 1] (f15_ok m (z0 + ((rowC encP a).length + 1)) y0 (z1 + ((rowC (encI .i64) c).length + 1)) y1 a c r1 r1_h) rfl (by rfl) (by decide) rfl (by kernel_rfl) ⟨⟨_, _, rfl, rfl, .inl ⟨rfl, rowC_scal (encI_ok .i64) _⟩⟩, ⟨_, _, rfl, rfl, .inl ⟨rfl, rowC_scal encP_ok _⟩⟩, trivial⟩) rfl) ?_
  rintro _ _ _ ⟨rfl, rfl, rfl⟩
  refine XR.conv (σ' := [(0, .slice (some ⟨0, 0, none⟩) a.length a.length), (1, .int .i64 b), (2, .slice (some ⟨1, 0, none⟩) c.length c.length), (14, .bool r1)]) (h' := [(1, .cells (rowC (encI .i64) c) z1 y1 1), (0, .cells (rowC encP a) z0 y0 2)]) (c' := 2) ?_ (by kernel_rfl)
  refine XR.done (by kernel_rfl) ?_
  show XQ _ _ _ _ _ _ _ _
  cases b1 : (r1 : Bool) with
  | true =>
    have h := cT b1 h
    refine XQ.cond (s := (.tmp 14)) (b := true) (by kernel_rfl) (by kernel_rfl) (fun _ => ?_) (fun q => by cases q)
    refine XQ.seq E0_ok (by kernel_rfl) ?_
    refine XQ.region (by kernel_rfl) ?_
    refine XR.call E0_ok [15] rfl (K := 16) (args := []) (d := (some (path 12 15))) (by kernel_rfl) (KC.of_calls E0_ok (F := Proofs.Try.f16) (v := .bool true) (by kernel_rfl) rfl rfl (works_ok)) ?_
    rintro _ _ _ ⟨rfl, rfl, rfl⟩
    refine XR.conv (σ' := [(15, .bool true)]) (h' := [(1, .cells (rowC (encI .i64) c) z1 y1 1), (0, .cells (rowC encP a) z0 y0 2)]) (c' := 2) ?_ (by kernel_rfl)
    refine XR.run E0_ok 1 1 [6] rfl (σ' := [(6, .bool true)]) (h' := [(1, .cells (rowC (encI .i64) c) z1 y1 1), (0, .cells (rowC encP a) z0 y0 2)]) (c' := 2) (by kernel_rfl) ?_
    refine XR.done (by kernel_rfl) ?_
    show XQ _ _ _ _ _ _ _ _
    refine XQ.ret (by kernel_rfl) ?_
    have h := Option.some.inj h
    subst h
    exact ⟨fun i q => (by cases q), .bool true, (by kernel_rfl), rfl⟩
  | false =>
    have h := cF b1 h
    refine XQ.cond (s := (.tmp 14)) (b := false) (by kernel_rfl) (by kernel_rfl) (fun q => by cases q) (fun _ => ?_)
    refine XQ.skip (by kernel_rfl) ?_
    show XQ _ _ _ _ _ _ _ _
    refine XQ.seq E0_ok (by kernel_rfl) ?_
    refine XQ.region (by kernel_rfl) ?_
    refine XR.run E0_ok 1 1 [0, 1, 2, 16] rfl (σ' := [(0, .slice (some ⟨0, 0, none⟩) a.length a.length), (1, .int .i64 b), (2, .slice (some ⟨1, 0, none⟩) c.length c.length), (16, .slice (some ⟨0, 0, none⟩) a.length a.length)]) (h' := [(1, .cells (rowC (encI .i64) c) z1 y1 1), (0, .cells (rowC encP a) z0 y0 2)]) (c' := 2) (by kernel_rfl) ?_
    obtain ⟨r2, r2_h, h⟩ := bS h
    refine XR.call E0_ok [0, 1, 2, 17] rfl (K := 17) (args := [.slice (some ⟨0, 0, none⟩) a.length a.length]) (d := (some (path 12 17))) (by kernel_rfl) (KC.liftH (n0 := 1) (m := 1) (args0 := [.slice (some ⟨0, 0, none⟩) a.length a.length]) (h0 := [(0, .cells (rowC encP a) (z0 + ((rowC encP a).length + 1)) y0 2)]) (V := .slice (some ⟨1, 0, none⟩) r2.length r2.length) (V2 := .slice (some ⟨2, 0, none⟩) r2.length r2.length) (H := [(1, .cells (rowC encP r2) 0 83 2)]) (H2 := [(2, .cells (rowC encP r2) 0 83 2)]) [0] [2, 3, 1] (f17_ok m (z0 + ((rowC encP a).length + 1)) y0 a r2 r2_h) (by rfl) (by decide) rfl (by kernel_rfl) ⟨⟨_, _, rfl, rfl, .inl ⟨rfl, rowC_scal encP_ok _⟩⟩, trivial⟩ (by decide) (by decide) (by kernel_rfl) ⟨⟨_, _, rfl, rfl, .inl ⟨rfl, rowC_scal encP_ok _⟩⟩, trivial⟩ (by rfl)) ?_
    rintro _ _ _ ⟨rfl, rfl, rfl⟩
    refine XR.conv (σ' := [(0, .slice (some ⟨0, 0, none⟩) a.length a.length), (1, .int .i64 b), (2, .slice (some ⟨1, 0, none⟩) c.length c.length), (17, .slice (some ⟨2, 0, none⟩) r2.length r2.length)]) (h' := [(2, .cells (rowC encP r2) 0 83 2), (1, .cells (rowC (encI .i64) c) z1 y1 1), (0, .cells (rowC encP a) z0 y0 2)]) (c' := 3) ?_ (by kernel_rfl)
    refine XR.run E0_ok 1 1 [0, 1, 2, 7] rfl (σ' := [(0, .slice (some ⟨0, 0, none⟩) a.length a.length), (1, .int .i64 b), (2, .slice (some ⟨1, 0, none⟩) c.length c.length), (7, .slice (some ⟨2, 0, none⟩) r2.length r2.length)]) (h' := [(2, .cells (rowC encP r2) 0 83 2), (1, .cells (rowC (encI .i64) c) z1 y1 1), (0, .cells (rowC encP a) z0 y0 2)]) (c' := 3) (by kernel_rfl) ?_
    refine XR.done (by kernel_rfl) ?_
    show XQ _ _ _ _ _ _ _ _
    refine XQ.seq E0_ok (by kernel_rfl) ?_
    refine XQ.region (by kernel_rfl) ?_
    refine XR.run E0_ok 1 2 [0, 1, 2, 7, 19, 20] rfl (σ' := [(0, .slice (some ⟨0, 0, none⟩) a.length a.length), (1, .int .i64 b), (2, .slice (some ⟨1, 0, none⟩) c.length c.length), (7, .slice (some ⟨2, 0, none⟩) r2.length r2.length), (19, .slice (some ⟨0, 0, none⟩) a.length a.length), (20, .int .i64 b)]) (h' := [(2, .cells (rowC encP r2) 0 83 2), (1, .cells (rowC (encI .i64) c) z1 y1 1), (0, .cells (rowC encP a) z0 y0 2)]) (c' := 3) (by kernel_rfl) ?_
    obtain ⟨r3, r3_h, h⟩ := bS h
    refine XR.call E0_ok [0, 1, 2, 7, 21] rfl (K := 18) (args := [.slice (some ⟨0, 0, none⟩) a.length a.length, .int .i64 b]) (d := (some (path 12 21))) (by kernel_rfl) (KC.liftH (n0 := 1) (m := 1) (args0 := [.slice (some ⟨0, 0, none⟩) a.length a.length, .int .i64 b]) (h0 := [(0, .cells (rowC encP a) (z0 + ((rowC encP a).length + 1)) y0 2)]) (V := .tuple #[.slice (some ⟨1, 0, none⟩) r3.1.length r3.1.length, .int .i64 r3.2]) (V2 := .tuple #[.slice (some ⟨3, 0, none⟩) r3.1.length r3.1.length, .int .i64 r3.2]) (H := [(1, .cells (rowC (encI .i64) r3.1) 0 3 1)]) (H2 := [(3, .cells (rowC (encI .i64) r3.1) 0 3 1)]) [0] [2, 3, 4, 1] (f18_ok m (z0 + ((rowC encP a).length + 1)) y0 a b r3 r3_h) (by rfl) (by decide) rfl (by kernel_rfl) ⟨⟨_, _, rfl, rfl, .inl ⟨rfl, rowC_scal encP_ok _⟩⟩, trivial⟩ (by decide) (by decide) (by kernel_rfl) ⟨⟨_, _, rfl, rfl, .inl ⟨rfl, rowC_scal (encI_ok .i64) _⟩⟩, trivial⟩ (by rfl)) ?_
    rintro _ _ _ ⟨rfl, rfl, rfl⟩
    refine XR.conv (σ' := [(0, .slice (some ⟨0, 0, none⟩) a.length a.length), (1, .int .i64 b), (2, .slice (some ⟨1, 0, none⟩) c.length c.length), (7, .slice (some ⟨2, 0, none⟩) r2.length r2.length), (21, .tuple #[.slice (some ⟨3, 0, none⟩) r3.1.length r3.1.length, .int .i64 r3.2])]) (h' := [(3, .cells (rowC (encI .i64) r3.1) 0 3 1), (2, .cells (rowC encP r2) 0 83 2), (1, .cells (rowC (encI .i64) c) z1 y1 1), (0, .cells (rowC encP a) z0 y0 2)]) (c' := 4) ?_ (by kernel_rfl)
    refine XR.run E0_ok 1 5 [0, 1, 2, 7, 8, 9] rfl (σ' := [(0, .slice (some ⟨0, 0, none⟩) a.length a.length), (1, .int .i64 b), (2, .slice (some ⟨1, 0, none⟩) c.length c.length), (7, .slice (some ⟨2, 0, none⟩) r2.length r2.length), (8, .slice (some ⟨3, 0, none⟩) r3.1.length r3.1.length), (9, .int .i64 r3.2)]) (h' := [(3, .cells (rowC (encI .i64) r3.1) 0 3 1), (2, .cells (rowC encP r2) 0 83 2), (1, .cells (rowC (encI .i64) c) z1 y1 1), (0, .cells (rowC encP a) z0 y0 2)]) (c' := 4) (by kernel_rfl) ?_
    refine XR.done (by kernel_rfl) ?_
    show XQ _ _ _ _ _ _ _ _
    refine XQ.seq E0_ok (by kernel_rfl) ?_
    refine XQ.region (by kernel_rfl) ?_
    refine XR.run E0_ok 1 2 [0, 1, 2, 7, 8, 9, 25, 26] rfl (σ' := [(0, .slice (some ⟨0, 0, none⟩) a.length a.length), (1, .int .i64 b), (2, .slice (some ⟨1, 0, none⟩) c.length c.length), (7, .slice (some ⟨2, 0, none⟩) r2.length r2.length), (8, .slice (some ⟨3, 0, none⟩) r3.1.length r3.1.length), (9, .int .i64 r3.2), (25, .slice (some ⟨2, 0, none⟩) r2.length r2.length), (26, .int .i64 b)]) (h' := [(3, .cells (rowC (encI .i64) r3.1) 0 3 1), (2, .cells (rowC encP r2) 0 83 2), (1, .cells (rowC (encI .i64) c) z1 y1 1), (0, .cells (rowC encP a) z0 y0 2)]) (c' := 4) (by kernel_rfl) ?_
    obtain ⟨r4, r4_h, h⟩ := bS h
    refine XR.call E0_ok [0, 1, 2, 7, 8, 9, 27] rfl (K := 19) (args := [.slice (some ⟨2, 0, none⟩) r2.length r2.length, .int .i64 b]) (d := (some (path 12 27))) (by kernel_rfl) (KC.liftH (n0 := 1) (m := 1) (args0 := [.slice (some ⟨0, 0, none⟩) r2.length r2.length, .int .i64 b]) (h0 := [(0, .cells (rowC encP r2) (0 + ((rowC encP r2).length + 1)) 83 2)]) (V := .tuple #[.slice (some ⟨1, 0, none⟩) r4.1.length r4.1.length, .int .i64 r4.2]) (V2 := .tuple #[.slice (some ⟨4, 0, none⟩) r4.1.length r4.1.length, .int .i64 r4.2]) (H := [(1, .cells (rowC (encI .i64) r4.1) 0 3 1)]) (H2 := [(4, .cells (rowC (encI .i64) r4.1) 0 3 1)]) [2] [2, 3, 4, 5, 1] (f19_ok m (0 + ((rowC encP r2).length + 1)) 83 r2 b r4 r4_h) (by rfl) (by decide) rfl (by kernel_rfl) ⟨⟨_, _, rfl, rfl, .inl ⟨rfl, rowC_scal encP_ok _⟩⟩, trivial⟩ (by decide) (by decide) (by kernel_rfl) ⟨⟨_, _, rfl, rfl, .inl ⟨rfl, rowC_scal (encI_ok .i64) _⟩⟩, trivial⟩ (by rfl)) ?_
    rintro _ _ _ ⟨rfl, rfl, rfl⟩
    refine XR.conv (σ' := [(0, .slice (some ⟨0, 0, none⟩) a.length a.length), (1, .int .i64 b), (2, .slice (some ⟨1, 0, none⟩) c.length c.length), (7, .slice (some ⟨2, 0, none⟩) r2.length r2.length), (8, .slice (some ⟨3, 0, none⟩) r3.1.length r3.1.length), (9, .int .i64 r3.2), (27, .tuple #[.slice (some ⟨4, 0, none⟩) r4.1.length r4.1.length, .int .i64 r4.2])]) (h' := [(4, .cells (rowC (encI .i64) r4.1) 0 3 1), (3, .cells (rowC (encI .i64) r3.1) 0 3 1), (2, .cells (rowC encP r2) 0 83 2), (1, .cells (rowC (encI .i64) c) z1 y1 1), (0, .cells (rowC encP a) z0 y0 2)]) (c' := 5) ?_ (by kernel_rfl)
    refine XR.run E0_ok 1 5 [0, 1, 2, 7, 8, 9, 10, 11] rfl (σ' := [(0, .slice (some ⟨0, 0, none⟩) a.length a.length), (1, .int .i64 b), (2, .slice (some ⟨1, 0, none⟩) c.length c.length), (7, .slice (some ⟨2, 0, none⟩) r2.length r2.length), (8, .slice (some ⟨3, 0, none⟩) r3.1.length r3.1.length), (9, .int .i64 r3.2), (10, .slice (some ⟨4, 0, none⟩) r4.1.length r4.1.length), (11, .int .i64 r4.2)]) (h' := [(4, .cells (rowC (encI .i64) r4.1) 0 3 1), (3, .cells (rowC (encI .i64) r3.1) 0 3 1), (2, .cells (rowC encP r2) 0 83 2), (1, .cells (rowC (encI .i64) c) z1 y1 1), (0, .cells (rowC encP a) z0 y0 2)]) (c' := 5) (by kernel_rfl) ?_
    refine XR.done (by kernel_rfl) ?_
    show XQ _ _ _ _ _ _ _ _
    refine XQ.seq E0_ok (by kernel_rfl) ?_
    refine XQ.region (by kernel_rfl) ?_
    refine XR.run E0_ok 1 2 [0, 1, 2, 7, 9, 11, 30, 31] rfl (σ' := [(0, .slice (some ⟨0, 0, none⟩) a.length a.length), (1, .int .i64 b), (2, .slice (some ⟨1, 0, none⟩) c.length c.length), (7, .slice (some ⟨2, 0, none⟩) r2.length r2.length), (9, .int .i64 r3.2), (11, .int .i64 r4.2), (30, .slice (some ⟨3, 0, none⟩) r3.1.length r3.1.length), (31, .slice (some ⟨4, 0, none⟩) r4.1.length r4.1.length)]) (h' := [(4, .cells (rowC (encI .i64) r4.1) 0 3 1), (3, .cells (rowC (encI .i64) r3.1) 0 3 1), (2, .cells (rowC encP r2) 0 83 2), (1, .cells (rowC (encI .i64) c) z1 y1 1), (0, .cells (rowC encP a) z0 y0 2)]) (c' := 5) (by kernel_rfl) ?_
    obtain ⟨r5, r5_h, h⟩ := bS h
    refine XR.call E0_ok [0, 1, 2, 7, 9, 11, 32] rfl (K := 20) (args := [.slice (some ⟨3, 0, none⟩) r3.1.length r3.1.length, .slice (some ⟨4, 0, none⟩) r4.1.length r4.1.length]) (d := (some (path 12 32))) (by kernel_rfl) (KQ.call (KC.quiet E0_ok (args0 := [.slice (some ⟨0, 0, none⟩) r3.1.length r3.1.length, .slice (some ⟨1, 0, none⟩) r4.1.length r4.1.length]) (h0 := [(1, .cells (rowC (encI .i64) r4.1) (0 + ((rowC (encI .i64) r4.1).length + 1)) 3 1), (0, .cells (rowC (encI .i64) r3.1) (0 + ((rowC (encI .i64) r3.1).length + 1)) 3 1)]) (n := 2) (V := .bool r5) [3, 4] (f20_ok m (0 + ((rowC (encI .i64) r3.1).length + 1)) 3 (0 + ((rowC (encI .i64) r4.1).length + 1)) 3 r3.1 r4.1 r5 r5_h) rfl (by rfl) (by decide) rfl (by kernel_rfl) ⟨⟨_, _, rfl, rfl, .inl ⟨rfl, rowC_scal (encI_ok .i64) _⟩⟩, ⟨_, _, rfl, rfl, .inl ⟨rfl, rowC_scal (encI_ok .i64) _⟩⟩, trivial⟩) rfl) ?_
    rintro _ _ _ ⟨rfl, rfl, rfl⟩
    refine XR.conv (σ' := [(0, .slice (some ⟨0, 0, none⟩) a.length a.length), (1, .int .i64 b), (2, .slice (some ⟨1, 0, none⟩) c.length c.length), (7, .slice (some ⟨2, 0, none⟩) r2.length r2.length), (9, .int .i64 r3.2), (11, .int .i64 r4.2), (32, .bool r5)]) (h' := [(4, .cells (rowC (encI .i64) r4.1) 0 3 1), (3, .cells (rowC (encI .i64) r3.1) 0 3 1), (2, .cells (rowC encP r2) 0 83 2), (1, .cells (rowC (encI .i64) c) z1 y1 1), (0, .cells (rowC encP a) z0 y0 2)]) (c' := 5) ?_ (by kernel_rfl)
    refine XR.run E0_ok 1 1 [0, 1, 2, 7, 9, 11, 33] rfl (σ' := [(0, .slice (some ⟨0, 0, none⟩) a.length a.length), (1, .int .i64 b), (2, .slice (some ⟨1, 0, none⟩) c.length c.length), (7, .slice (some ⟨2, 0, none⟩) r2.length r2.length), (9, .int .i64 r3.2), (11, .int .i64 r4.2), (33, .bool r5)]) (h' := [(4, .cells (rowC (encI .i64) r4.1) 0 3 1), (3, .cells (rowC (encI .i64) r3.1) 0 3 1), (2, .cells (rowC encP r2) 0 83 2), (1, .cells (rowC (encI .i64) c) z1 y1 1), (0, .cells (rowC encP a) z0 y0 2)]) (c' := 5) (by kernel_rfl) ?_
    cases b2 : (r5 : Bool) with
    | true =>
      have h := cT b2 h
      refine XR.run E0_ok 1 5 [0, 1, 2, 7, 38] rfl (σ' := [(0, .slice (some ⟨0, 0, none⟩) a.length a.length), (1, .int .i64 b), (2, .slice (some ⟨1, 0, none⟩) c.length c.length), (7, .slice (some ⟨2, 0, none⟩) r2.length r2.length), (38, .bool (r3.2 == r4.2))]) (h' := [(4, .cells (rowC (encI .i64) r4.1) 0 3 1), (3, .cells (rowC (encI .i64) r3.1) 0 3 1), (2, .cells (rowC encP r2) 0 83 2), (1, .cells (rowC (encI .i64) c) z1 y1 1), (0, .cells (rowC encP a) z0 y0 2)]) (c' := 5) (by kernel_rfl) ?_
      cases b3 : (r3.2 == r4.2 : Bool) with
      | true =>
        have h := cT b3 h
        refine XR.run E0_ok 1 3 [0, 1, 2, 7, 38, 39, 40, 41] rfl (σ' := [(0, .slice (some ⟨0, 0, none⟩) a.length a.length), (1, .int .i64 b), (2, .slice (some ⟨1, 0, none⟩) c.length c.length), (7, .slice (some ⟨2, 0, none⟩) r2.length r2.length), (38, .bool true), (39, .slice (some ⟨0, 0, none⟩) a.length a.length), (40, .int .i64 b), (41, .slice (some ⟨1, 0, none⟩) c.length c.length)]) (h' := [(4, .cells (rowC (encI .i64) r4.1) 0 3 1), (3, .cells (rowC (encI .i64) r3.1) 0 3 1), (2, .cells (rowC encP r2) 0 83 2), (1, .cells (rowC (encI .i64) c) z1 y1 1), (0, .cells (rowC encP a) z0 y0 2)]) (c' := 5) (by kernel_rfl) ?_
        obtain ⟨r6, r6_h, h⟩ := bS h
        refine XR.call E0_ok [0, 1, 2, 7, 38, 42] rfl (K := 21) (args := [.slice (some ⟨0, 0, none⟩) a.length a.length, .int .i64 b, .slice (some ⟨1, 0, none⟩) c.length c.length]) (d := (some (path 12 42))) (by kernel_rfl) (KQ.call (KC.quiet E0_ok (args0 := [.slice (some ⟨0, 0, none⟩) a.length a.length, .int .i64 b, .slice (some ⟨1, 0, none⟩) c.length c.length]) (h0 := [(1, .cells (rowC (encI .i64) c) (z1 + ((rowC (encI .i64) c).length + 1)) y1 1), (0, .cells (rowC encP a) (z0 + ((rowC encP a).length + 1)) y0 2)]) (n := 2) (V := .int .i64 r6) [0, 1] (f21_ok m (z0 + ((rowC encP a).length + 1)) y0 (z1 + ((rowC (encI .i64) c).length + 1)) y1 a b c r6 r6_h) rfl (by rfl) (by decide) rfl (by kernel_rfl) ⟨⟨_, _, rfl, rfl, .inl ⟨rfl, rowC_scal (encI_ok .i64) _⟩⟩, ⟨_, _, rfl, rfl, .inl ⟨rfl, rowC_scal encP_ok _⟩⟩, trivial⟩) rfl) ?_
        rintro _ _ _ ⟨rfl, rfl, rfl⟩
        refine XR.conv (σ' := [(0, .slice (some ⟨0, 0, none⟩) a.length a.length), (1, .int .i64 b), (2, .slice (some ⟨1, 0, none⟩) c.length c.length), (7, .slice (some ⟨2, 0, none⟩) r2.length r2.length), (38, .bool true), (42, .int .i64 r6)]) (h' := [(4, .cells (rowC (encI .i64) r4.1) 0 3 1), (3, .cells (rowC (encI .i64) r3.1) 0 3 1), (2, .cells (rowC encP r2) 0 83 2), (1, .cells (rowC (encI .i64) c) z1 y1 1), (0, .cells (rowC encP a) z0 y0 2)]) (c' := 5) ?_ (by kernel_rfl)
        refine XR.run E0_ok 1 3 [0, 7, 38, 42, 43, 44, 45] rfl (σ' := [(0, .slice (some ⟨0, 0, none⟩) a.length a.length), (7, .slice (some ⟨2, 0, none⟩) r2.length r2.length), (38, .bool true), (42, .int .i64 r6), (43, .slice (some ⟨2, 0, none⟩) r2.length r2.length), (44, .int .i64 b), (45, .slice (some ⟨1, 0, none⟩) c.length c.length)]) (h' := [(4, .cells (rowC (encI .i64) r4.1) 0 3 1), (3, .cells (rowC (encI .i64) r3.1) 0 3 1), (2, .cells (rowC encP r2) 0 83 2), (1, .cells (rowC (encI .i64) c) z1 y1 1), (0, .cells (rowC encP a) z0 y0 2)]) (c' := 5) (by kernel_rfl) ?_
        obtain ⟨r7, r7_h, h⟩ := bS h
        refine XR.call E0_ok [0, 7, 38, 42, 46] rfl (K := 22) (args := [.slice (some ⟨2, 0, none⟩) r2.length r2.length, .int .i64 b, .slice (some ⟨1, 0, none⟩) c.length c.length]) (d := (some (path 12 46))) (by kernel_rfl) (KQ.call (KC.quiet E0_ok (args0 := [.slice (some ⟨0, 0, none⟩) r2.length r2.length, .int .i64 b, .slice (some ⟨1, 0, none⟩) c.length c.length]) (h0 := [(1, .cells (rowC (encI .i64) c) (z1 + ((rowC (encI .i64) c).length + 1)) y1 1), (0, .cells (rowC encP r2) (0 + ((rowC encP r2).length + 1)) 83 2)]) (n := 2) (V := .int .i64 r7) [2, 1] (f22_ok m (0 + ((rowC encP r2).length + 1)) 83 (z1 + ((rowC (encI .i64) c).length + 1)) y1 r2 b c r7 r7_h) rfl (by rfl) (by decide) rfl (by kernel_rfl) ⟨⟨_, _, rfl, rfl, .inl ⟨rfl, rowC_scal (encI_ok .i64) _⟩⟩, ⟨_, _, rfl, rfl, .inl ⟨rfl, rowC_scal encP_ok _⟩⟩, trivial⟩) rfl) ?_
        rintro _ _ _ ⟨rfl, rfl, rfl⟩
        refine XR.conv (σ' := [(0, .slice (some ⟨0, 0, none⟩) a.length a.length), (7, .slice (some ⟨2, 0, none⟩) r2.length r2.length), (38, .bool true), (42, .int .i64 r6), (46, .int .i64 r7)]) (h' := [(4, .cells (rowC (encI .i64) r4.1) 0 3 1), (3, .cells (rowC (encI .i64) r3.1) 0 3 1), (2, .cells (rowC encP r2) 0 83 2), (1, .cells (rowC (encI .i64) c) z1 y1 1), (0, .cells (rowC encP a) z0 y0 2)]) (c' := 5) ?_ (by kernel_rfl)
        refine XR.run E0_ok 1 3 [0, 7, 49] rfl (σ' := [(0, .slice (some ⟨0, 0, none⟩) a.length a.length), (7, .slice (some ⟨2, 0, none⟩) r2.length r2.length), (49, .bool (r6 == r7))]) (h' := [(4, .cells (rowC (encI .i64) r4.1) 0 3 1), (3, .cells (rowC (encI .i64) r3.1) 0 3 1), (2, .cells (rowC encP r2) 0 83 2), (1, .cells (rowC (encI .i64) c) z1 y1 1), (0, .cells (rowC encP a) z0 y0 2)]) (c' := 5) (by kernel_rfl) ?_
        cases b4 : (r6 == r7 : Bool) with
        | true =>
          have h := cT b4 h
          refine XR.run E0_ok 1 1 [7, 49, 50] rfl (σ' := [(7, .slice (some ⟨2, 0, none⟩) r2.length r2.length), (49, .bool true), (50, .slice (some ⟨0, 0, none⟩) a.length a.length)]) (h' := [(4, .cells (rowC (encI .i64) r4.1) 0 3 1), (3, .cells (rowC (encI .i64) r3.1) 0 3 1), (2, .cells (rowC encP r2) 0 83 2), (1, .cells (rowC (encI .i64) c) z1 y1 1), (0, .cells (rowC encP a) z0 y0 2)]) (c' := 5) (by kernel_rfl) ?_
          obtain ⟨r8, r8_h, h⟩ := bS h
          refine XR.call E0_ok [7, 49, 51] rfl (K := 23) (args := [.slice (some ⟨0, 0, none⟩) a.length a.length]) (d := (some (path 12 51))) (by kernel_rfl) (KQ.call (KC.quiet E0_ok (args0 := [.slice (some ⟨0, 0, none⟩) a.length a.length]) (h0 := [(0, .cells (rowC encP a) (z0 + ((rowC encP a).length + 1)) y0 2)]) (n := 1) (V := .int .i64 r8) [0] (f23_ok m (z0 + ((rowC encP a).length + 1)) y0 a r8 r8_h) rfl (by rfl) (by decide) rfl (by kernel_rfl) ⟨⟨_, _, rfl, rfl, .inl ⟨rfl, rowC_scal encP_ok _⟩⟩, trivial⟩) rfl) ?_
          rintro _ _ _ ⟨rfl, rfl, rfl⟩
          refine XR.conv (σ' := [(7, .slice (some ⟨2, 0, none⟩) r2.length r2.length), (49, .bool true), (51, .int .i64 r8)]) (h' := [(4, .cells (rowC (encI .i64) r4.1) 0 3 1), (3, .cells (rowC (encI .i64) r3.1) 0 3 1), (2, .cells (rowC encP r2) 0 83 2), (1, .cells (rowC (encI .i64) c) z1 y1 1), (0, .cells (rowC encP a) z0 y0 2)]) (c' := 5) ?_ (by kernel_rfl)
          refine XR.run E0_ok 1 1 [49, 51, 52] rfl (σ' := [(49, .bool true), (51, .int .i64 r8), (52, .slice (some ⟨2, 0, none⟩) r2.length r2.length)]) (h' := [(4, .cells (rowC (encI .i64) r4.1) 0 3 1), (3, .cells (rowC (encI .i64) r3.1) 0 3 1), (2, .cells (rowC encP r2) 0 83 2), (1, .cells (rowC (encI .i64) c) z1 y1 1), (0, .cells (rowC encP a) z0 y0 2)]) (c' := 5) (by kernel_rfl) ?_
          obtain ⟨r9, r9_h, h⟩ := bS h
          refine XR.call E0_ok [49, 51, 53] rfl (K := 24) (args := [.slice (some ⟨2, 0, none⟩) r2.length r2.length]) (d := (some (path 12 53))) (by kernel_rfl) (KQ.call (KC.quiet E0_ok (args0 := [.slice (some ⟨0, 0, none⟩) r2.length r2.length]) (h0 := [(0, .cells (rowC encP r2) (0 + ((rowC encP r2).length + 1)) 83 2)]) (n := 1) (V := .int .i64 r9) [2] (f24_ok m (0 + ((rowC encP r2).length + 1)) 83 r2 r9 r9_h) rfl (by rfl) (by decide) rfl (by kernel_rfl) ⟨⟨_, _, rfl, rfl, .inl ⟨rfl, rowC_scal encP_ok _⟩⟩, trivial⟩) rfl) ?_
          rintro _ _ _ ⟨rfl, rfl, rfl⟩
          refine XR.conv (σ' := [(49, .bool true), (51, .int .i64 r8), (53, .int .i64 r9)]) (h' := [(4, .cells (rowC (encI .i64) r4.1) 0 3 1), (3, .cells (rowC (encI .i64) r3.1) 0 3 1), (2, .cells (rowC encP r2) 0 83 2), (1, .cells (rowC (encI .i64) c) z1 y1 1), (0, .cells (rowC encP a) z0 y0 2)]) (c' := 5) ?_ (by kernel_rfl)
          refine XR.run E0_ok 1 3 [56] rfl (σ' := [(56, .bool (r8 == r9))]) (h' := [(4, .cells (rowC (encI .i64) r4.1) 0 3 1), (3, .cells (rowC (encI .i64) r3.1) 0 3 1), (2, .cells (rowC encP r2) 0 83 2), (1, .cells (rowC (encI .i64) c) z1 y1 1), (0, .cells (rowC encP a) z0 y0 2)]) (c' := 5) (by kernel_rfl) ?_
          cases b5 : (r8 == r9 : Bool) with
          | true =>
            have h := cT b5 h
            refine XR.call E0_ok [56, 57] rfl (K := 16) (args := []) (d := (some (path 12 57))) (by kernel_rfl) (KC.of_calls E0_ok (F := Proofs.Try.f16) (v := .bool true) (by kernel_rfl) rfl rfl (works_ok)) ?_
            rintro _ _ _ ⟨rfl, rfl, rfl⟩
            refine XR.conv (σ' := [(56, .bool true), (57, .bool true)]) (h' := [(4, .cells (rowC (encI .i64) r4.1) 0 3 1), (3, .cells (rowC (encI .i64) r3.1) 0 3 1), (2, .cells (rowC encP r2) 0 83 2), (1, .cells (rowC (encI .i64) c) z1 y1 1), (0, .cells (rowC encP a) z0 y0 2)]) (c' := 5) ?_ (by kernel_rfl)
            refine XR.run E0_ok 1 2 [6] rfl (σ' := [(6, .bool true)]) (h' := [(4, .cells (rowC (encI .i64) r4.1) 0 3 1), (3, .cells (rowC (encI .i64) r3.1) 0 3 1), (2, .cells (rowC encP r2) 0 83 2), (1, .cells (rowC (encI .i64) c) z1 y1 1), (0, .cells (rowC encP a) z0 y0 2)]) (c' := 5) (by kernel_rfl) ?_
            refine XR.done (by kernel_rfl) ?_
            show XQ _ _ _ _ _ _ _ _
            refine XQ.ret (by kernel_rfl) ?_
            have h := Option.some.inj h
            subst h
            exact ⟨fun i q => (by cases q), .bool true, (by kernel_rfl), rfl⟩
          | false =>
            have h := cF b5 h
            refine XR.run E0_ok 1 3 [6] rfl (σ' := [(6, .bool false)]) (h' := [(4, .cells (rowC (encI .i64) r4.1) 0 3 1), (3, .cells (rowC (encI .i64) r3.1) 0 3 1), (2, .cells (rowC encP r2) 0 83 2), (1, .cells (rowC (encI .i64) c) z1 y1 1), (0, .cells (rowC encP a) z0 y0 2)]) (c' := 5) (by kernel_rfl) ?_
            refine XR.done (by kernel_rfl) ?_
            show XQ _ _ _ _ _ _ _ _
            refine XQ.ret (by kernel_rfl) ?_
            have h := Option.some.inj h
            subst h
            exact ⟨fun i q => (by cases q), .bool false, (by kernel_rfl), rfl⟩
        | false =>
          have h := cF b4 h
          refine XR.run E0_ok 1 10 [6] rfl (σ' := [(6, .bool false)]) (h' := [(4, .cells (rowC (encI .i64) r4.1) 0 3 1), (3, .cells (rowC (encI .i64) r3.1) 0 3 1), (2, .cells (rowC encP r2) 0 83 2), (1, .cells (rowC (encI .i64) c) z1 y1 1), (0, .cells (rowC encP a) z0 y0 2)]) (c' := 5) (by kernel_rfl) ?_
          refine XR.done (by kernel_rfl) ?_
          show XQ _ _ _ _ _ _ _ _
          refine XQ.ret (by kernel_rfl) ?_
          have h := Option.some.inj h
          subst h
          exact ⟨fun i q => (by cases q), .bool false, (by kernel_rfl), rfl⟩
      | false =>
        have h := cF b3 h
        refine XR.run E0_ok 1 21 [6] rfl (σ' := [(6, .bool false)]) (h' := [(4, .cells (rowC (encI .i64) r4.1) 0 3 1), (3, .cells (rowC (encI .i64) r3.1) 0 3 1), (2, .cells (rowC encP r2) 0 83 2), (1, .cells (rowC (encI .i64) c) z1 y1 1), (0, .cells (rowC encP a) z0 y0 2)]) (c' := 5) (by kernel_rfl) ?_
        refine XR.done (by kernel_rfl) ?_
        show XQ _ _ _ _ _ _ _ _
        refine XQ.ret (by kernel_rfl) ?_
        have h := Option.some.inj h
        subst h
        exact ⟨fun i q => (by cases q), .bool false, (by kernel_rfl), rfl⟩
    | false =>
      have h := cF b2 h
      refine XR.run E0_ok 1 26 [6] rfl (σ' := [(6, .bool false)]) (h' := [(4, .cells (rowC (encI .i64) r4.1) 0 3 1), (3, .cells (rowC (encI .i64) r3.1) 0 3 1), (2, .cells (rowC encP r2) 0 83 2), (1, .cells (rowC (encI .i64) c) z1 y1 1), (0, .cells (rowC encP a) z0 y0 2)]) (c' := 5) (by kernel_rfl) ?_
      refine XR.done (by kernel_rfl) ?_
      show XQ _ _ _ _ _ _ _ _
      refine XQ.ret (by kernel_rfl) ?_
      have h := Option.some.inj h
      subst h
      exact ⟨fun i q => (by cases q), .bool false, (by kernel_rfl), rfl⟩

end Go.Xm
