/- What these functions of the program compute, as functions in Lean, and the proofs that they do: vitolalaw02.HeapWhys. Conditions: none. -/
import Derived.Test.YtfdeihnkoaihfaaBj
import Derived.Test.YtfdeihnkoaihfaaBk
import Derived.Test.YtfdeihnkoaihfaaBl
namespace Go.Xm
open Go.RowKit
set_option linter.unusedVariables false
set_option linter.unusedSimpArgs false
set_option maxRecDepth 20000

/-! vitola/vitolalaw02.HeapWhys -/
noncomputable def f4_C4 : Code := Proofs.Try.f4.body.getD .skip
noncomputable def f4_C15 : Code := Proofs.Try.f15.body.getD .skip

def f4 (m : Nat) (a : List (Int × Int)) (b : Int) (c : Int) (d : Int) : Option (Bool) :=
  cond (decide (((a.length : Nat) : Int) > 60)) (
    some (true)
  ) (
    (f17 m a).bind fun r2 =>
      (f25 m a c d).bind fun r3 =>
        (f26 m r2 c d).bind fun r4 =>
          (f27 m a b).bind fun r5 =>
            (f28 m r2 b).bind fun r6 =>
              cond (r3.1 != r4.1) (
                some (false)
              ) (
                cond (r3.2 != r4.2) (
                  some (false)
                ) (
                  cond (r5.1 != r6.1) (
                    some (false)
                  ) (
                    cond (r5.2.1 != r6.2.1) (
                      some (false)
                    ) (
                      cond (r5.2.2 != r6.2.2) (
                        some (false)
                      ) (
                        (f29 m a).bind fun r7 =>
                          (f30 m r2).bind fun r8 =>
                            (f31 m a b).bind fun r9 =>
                              (f32 m r2 b).bind fun r10 =>
                                cond (r7.1 == r8.1) (
                                  cond (r7.2 == r8.2) (
                                    cond (r9.1 == r10.1) (
                                      cond (r9.2 == r10.2) (
                                        some (true)
                                      ) (
                                        some (false)
                                      )
                                    ) (
                                      some (false)
                                    )
                                  ) (
                                    some (false)
                                  )
                                ) (
                                  some (false)
                                )
                      )
                    )
                  )
                )
              )
  )

theorem f4_ok (m : Nat) (z0 : Nat) (y0 : Nat) (a : List (Int × Int)) (b : Int) (c : Int) (d : Int) (o : Bool) (h : f4 m a b c d = some o) : KC E0 4 [.slice (some ⟨0, 0, none⟩) a.length a.length, .int .i64 b, .int .i64 c, .int .i64 d] [(0, .cells (rowC encP a) z0 y0 2)] 1 (fun v _ _ => v = .bool o) := by
  refine KC.bodyN E0_ok (F := Proofs.Try.f4) (by kernel_rfl) (code := f4_C4) (by kernel_rfl) (nt := 119) (by kernel_rfl) (rs := [.tmp 8]) (by kernel_rfl) (by kernel_rfl) (σ := [(0, .slice (some ⟨0, 0, none⟩) a.length a.length), (1, .int .i64 b), (2, .int .i64 c), (3, .int .i64 d)]) (by kernel_rfl) ?_
  unfold f4 at h
  refine XQ.seq E0_ok (by kernel_rfl) ?_
  refine XQ.region (by kernel_rfl) ?_
  refine XR.run E0_ok 1 1 [0, 1, 2, 3] rfl (σ' := [(0, .slice (some ⟨0, 0, none⟩) a.length a.length), (1, .int .i64 b), (2, .int .i64 c), (3, .int .i64 d)]) (h' := [(0, .cells (rowC encP a) z0 y0 2)]) (c' := 1) (by kernel_rfl) ?_
  refine XR.done (by kernel_rfl) ?_
  show XQ _ _ _ _ _ _ _ _
  refine XQ.seq E0_ok (by kernel_rfl) ?_
  refine XQ.seq E0_ok (by kernel_rfl) ?_
  refine XQ.region (by kernel_rfl) ?_
  refine XR.run E0_ok 1 1 [0, 1, 2, 3, 20] rfl (σ' := [(0, .slice (some ⟨0, 0, none⟩) a.length a.length), (1, .int .i64 b), (2, .int .i64 c), (3, .int .i64 d), (20, .slice (some ⟨0, 0, none⟩) a.length a.length)]) (h' := [(0, .cells (rowC encP a) z0 y0 2)]) (c' := 1) (by kernel_rfl) ?_
  refine XR.callK E0_ok [0, 1, 2, 3, 21] rfl (K := 15) (args := [.slice (some ⟨0, 0, none⟩) a.length a.length, .slice none 0 0]) (d := (some (path 12 21))) (by kernel_rfl) ?_
  refine KC.bodyN E0_ok (F := Proofs.Try.f15) (by kernel_rfl) (code := f4_C15) (by kernel_rfl) (nt := 13) (by kernel_rfl) (rs := [.tmp 4]) (by kernel_rfl) (by kernel_rfl) (σ := [(0, .slice (some ⟨0, 0, none⟩) a.length a.length), (1, .slice none 0 0)]) (by kernel_rfl) ?_
  refine XQ.ghost 3 1 rfl (σ' := [(0, .slice (some ⟨0, 0, none⟩) a.length a.length), (1, .slice (some ⟨1, 0, none⟩) 0 0)]) (h' := [(0, .cells (rowC encP a) z0 y0 2)]) ⟨by kernel_rfl, by kernel_rfl, trivial⟩ ⟨⟨_, rfl, .inl rfl⟩, trivial⟩ ?_
  refine XQ.conv (σ' := [(0, .slice (some ⟨0, 0, none⟩) a.length a.length), (1, .slice (some ⟨1, 0, none⟩) 0 0)]) (h' := [(1, .cells (rowC (encI .i64) []) 0 3 1), (0, .cells (rowC encP a) z0 y0 2)]) (c' := 2) ?_ (by kernel_rfl)
  refine XQ.seq E0_ok (by kernel_rfl) ?_
  refine XQ.region (by kernel_rfl) ?_
  refine XR.run E0_ok 1 1 [0, 1] rfl (σ' := [(0, .slice (some ⟨0, 0, none⟩) a.length a.length), (1, .slice (some ⟨1, 0, none⟩) 0 0)]) (h' := [(1, .cells (rowC (encI .i64) []) 0 3 1), (0, .cells (rowC encP a) z0 y0 2)]) (c' := 2) (by kernel_rfl) ?_
  refine XR.done (by kernel_rfl) ?_
  show XQ _ _ _ _ _ _ _ _
  refine XQ.seq E0_ok (by kernel_rfl) ?_
  refine XQ.region (by kernel_rfl) ?_
  refine XR.run E0_ok 1 4 [1, 8] rfl (σ' := [(1, .slice (some ⟨1, 0, none⟩) 0 0), (8, .bool (decide (((a.length : Nat) : Int) > 60)))]) (h' := [(1, .cells (rowC (encI .i64) []) 0 3 1), (0, .cells (rowC encP a) z0 y0 2)]) (c' := 2) (by kernel_rfl) ?_
  cases b1 : (decide (((a.length : Nat) : Int) > 60) : Bool) with
  | true =>
    have h := cT b1 h
    refine XR.run E0_ok 1 5 [4] rfl (σ' := [(4, .bool true)]) (h' := [(1, .cells (rowC (encI .i64) []) 0 3 1), (0, .cells (rowC encP a) z0 y0 2)]) (c' := 2) (by kernel_rfl) ?_
    refine XR.done (by kernel_rfl) ?_
    show XQ _ _ _ _ _ _ _ _
    refine XQ.ret (by kernel_rfl) ?_
    refine ⟨fun i q => (by cases q), .bool true, (by kernel_rfl), ?_⟩
    refine XR.conv (σ' := [(0, .slice (some ⟨0, 0, none⟩) a.length a.length), (1, .int .i64 b), (2, .int .i64 c), (3, .int .i64 d), (21, .bool true)]) (h' := [(1, .cells (rowC (encI .i64) []) 0 3 1), (0, .cells (rowC encP a) z0 y0 2)]) (c' := 2) ?_ (by kernel_rfl)
    refine XR.done (by kernel_rfl) ?_
    show XQ _ _ _ _ _ _ _ _
    refine XQ.cond (s := (.tmp 21)) (b := true) (by kernel_rfl) (by kernel_rfl) (fun _ => ?_) (fun q => by cases q)
    refine XQ.seq E0_ok (by kernel_rfl) ?_
    refine XQ.region (by kernel_rfl) ?_
    refine XR.call E0_ok [22] rfl (K := 16) (args := []) (d := (some (path 12 22))) (by kernel_rfl) (KC.of_calls E0_ok (F := Proofs.Try.f16) (v := .bool true) (by kernel_rfl) rfl rfl (works_ok)) ?_
    rintro _ _ _ ⟨rfl, rfl, rfl⟩
    refine XR.conv (σ' := [(22, .bool true)]) (h' := [(1, .cells (rowC (encI .i64) []) 0 3 1), (0, .cells (rowC encP a) z0 y0 2)]) (c' := 2) ?_ (by kernel_rfl)
    refine XR.run E0_ok 1 1 [8] rfl (σ' := [(8, .bool true)]) (h' := [(1, .cells (rowC (encI .i64) []) 0 3 1), (0, .cells (rowC encP a) z0 y0 2)]) (c' := 2) (by kernel_rfl) ?_
    refine XR.done (by kernel_rfl) ?_
    show XQ _ _ _ _ _ _ _ _
    refine XQ.ret (by kernel_rfl) ?_
    have h := Option.some.inj h
    subst h
    exact ⟨fun i q => (by cases q), .bool true, (by kernel_rfl), rfl⟩
  | false =>
    have h := cF b1 h
    refine XR.run E0_ok 1 5 [4] rfl (σ' := [(4, .bool false)]) (h' := [(1, .cells (rowC (encI .i64) []) 0 3 1), (0, .cells (rowC encP a) z0 y0 2)]) (c' := 2) (by kernel_rfl) ?_
    refine XR.done (by kernel_rfl) ?_
    show XQ _ _ _ _ _ _ _ _
    refine XQ.ret (by kernel_rfl) ?_
    refine ⟨fun i q => (by cases q), .bool false, (by kernel_rfl), ?_⟩
    refine XR.conv (σ' := [(0, .slice (some ⟨0, 0, none⟩) a.length a.length), (1, .int .i64 b), (2, .int .i64 c), (3, .int .i64 d), (21, .bool false)]) (h' := [(1, .cells (rowC (encI .i64) []) 0 3 1), (0, .cells (rowC encP a) z0 y0 2)]) (c' := 2) ?_ (by kernel_rfl)
    refine XR.done (by kernel_rfl) ?_
    show XQ _ _ _ _ _ _ _ _
    refine XQ.cond (s := (.tmp 21)) (b := false) (by kernel_rfl) (by kernel_rfl) (fun q => by cases q) (fun _ => ?_)
    refine XQ.skip (by kernel_rfl) ?_
    show XQ _ _ _ _ _ _ _ _
    refine XQ.seq E0_ok (by kernel_rfl) ?_
    refine XQ.region (by kernel_rfl) ?_
    refine XR.run E0_ok 1 1 [0, 1, 2, 3, 23] rfl (σ' := [(0, .slice (some ⟨0, 0, none⟩) a.length a.length), (1, .int .i64 b), (2, .int .i64 c), (3, .int .i64 d), (23, .slice (some ⟨0, 0, none⟩) a.length a.length)]) (h' := [(1, .cells (rowC (encI .i64) []) 0 3 1), (0, .cells (rowC encP a) z0 y0 2)]) (c' := 2) (by kernel_rfl) ?_
    obtain ⟨r2, r2_h, h⟩ := bS h
    refine XR.call E0_ok [0, 1, 2, 3, 24] rfl (K := 17) (args := [.slice (some ⟨0, 0, none⟩) a.length a.length]) (d := (some (path 12 24))) (by kernel_rfl) (KC.liftH (n0 := 1) (m := 1) (args0 := [.slice (some ⟨0, 0, none⟩) a.length a.length]) (h0 := [(0, .cells (rowC encP a) (z0 + ((rowC encP a).length + 1)) y0 2)]) (V := .slice (some ⟨1, 0, none⟩) r2.length r2.length) (V2 := .slice (some ⟨2, 0, none⟩) r2.length r2.length) (H := [(1, .cells (rowC encP r2) 0 83 2)]) (H2 := [(2, .cells (rowC encP r2) 0 83 2)]) [0] [2, 3, 1] (f17_ok m (z0 + ((rowC encP a).length + 1)) y0 a r2 r2_h) (by rfl) (by decide) rfl (by kernel_rfl) ⟨⟨_, _, rfl, rfl, .inl ⟨rfl, rowC_scal encP_ok _⟩⟩, trivial⟩ (by decide) (by decide) (by kernel_rfl) ⟨⟨_, _, rfl, rfl, .inl ⟨rfl, rowC_scal encP_ok _⟩⟩, trivial⟩ (by rfl)) ?_
    rintro _ _ _ ⟨rfl, rfl, rfl⟩
    refine XR.conv (σ' := [(0, .slice (some ⟨0, 0, none⟩) a.length a.length), (1, .int .i64 b), (2, .int .i64 c), (3, .int .i64 d), (24, .slice (some ⟨2, 0, none⟩) r2.length r2.length)]) (h' := [(2, .cells (rowC encP r2) 0 83 2), (1, .cells (rowC (encI .i64) []) 0 3 1), (0, .cells (rowC encP a) z0 y0 2)]) (c' := 3) ?_ (by kernel_rfl)
    refine XR.run E0_ok 1 1 [0, 1, 2, 3, 9] rfl (σ' := [(0, .slice (some ⟨0, 0, none⟩) a.length a.length), (1, .int .i64 b), (2, .int .i64 c), (3, .int .i64 d), (9, .slice (some ⟨2, 0, none⟩) r2.length r2.length)]) (h' := [(2, .cells (rowC encP r2) 0 83 2), (1, .cells (rowC (encI .i64) []) 0 3 1), (0, .cells (rowC encP a) z0 y0 2)]) (c' := 3) (by kernel_rfl) ?_
    refine XR.done (by kernel_rfl) ?_
    show XQ _ _ _ _ _ _ _ _
    refine XQ.seq E0_ok (by kernel_rfl) ?_
    refine XQ.region (by kernel_rfl) ?_
    refine XR.run E0_ok 1 3 [0, 1, 2, 3, 9, 26, 27, 28] rfl (σ' := [(0, .slice (some ⟨0, 0, none⟩) a.length a.length), (1, .int .i64 b), (2, .int .i64 c), (3, .int .i64 d), (9, .slice (some ⟨2, 0, none⟩) r2.length r2.length), (26, .slice (some ⟨0, 0, none⟩) a.length a.length), (27, .int .i64 c), (28, .int .i64 d)]) (h' := [(2, .cells (rowC encP r2) 0 83 2), (1, .cells (rowC (encI .i64) []) 0 3 1), (0, .cells (rowC encP a) z0 y0 2)]) (c' := 3) (by kernel_rfl) ?_
    obtain ⟨r3, r3_h, h⟩ := bS h
    refine XR.call E0_ok [0, 1, 2, 3, 9, 29] rfl (K := 25) (args := [.slice (some ⟨0, 0, none⟩) a.length a.length, .int .i64 c, .int .i64 d]) (d := (some (path 12 29))) (by kernel_rfl) (KQ.call (KC.quiet E0_ok (args0 := [.slice (some ⟨0, 0, none⟩) a.length a.length, .int .i64 c, .int .i64 d]) (h0 := [(0, .cells (rowC encP a) (z0 + ((rowC encP a).length + 1)) y0 2)]) (n := 1) (V := .tuple #[.int .i64 r3.1, .int .i64 r3.2]) [0] (f25_ok m (z0 + ((rowC encP a).length + 1)) y0 a c d r3 r3_h) rfl (by rfl) (by decide) rfl (by kernel_rfl) ⟨⟨_, _, rfl, rfl, .inl ⟨rfl, rowC_scal encP_ok _⟩⟩, trivial⟩) rfl) ?_
    rintro _ _ _ ⟨rfl, rfl, rfl⟩
    refine XR.conv (σ' := [(0, .slice (some ⟨0, 0, none⟩) a.length a.length), (1, .int .i64 b), (2, .int .i64 c), (3, .int .i64 d), (9, .slice (some ⟨2, 0, none⟩) r2.length r2.length), (29, .tuple #[.int .i64 r3.1, .int .i64 r3.2])]) (h' := [(2, .cells (rowC encP r2) 0 83 2), (1, .cells (rowC (encI .i64) []) 0 3 1), (0, .cells (rowC encP a) z0 y0 2)]) (c' := 3) ?_ (by kernel_rfl)
    refine XR.run E0_ok 1 5 [0, 1, 2, 3, 9, 10, 11] rfl (σ' := [(0, .slice (some ⟨0, 0, none⟩) a.length a.length), (1, .int .i64 b), (2, .int .i64 c), (3, .int .i64 d), (9, .slice (some ⟨2, 0, none⟩) r2.length r2.length), (10, .int .i64 r3.1), (11, .int .i64 r3.2)]) (h' := [(2, .cells (rowC encP r2) 0 83 2), (1, .cells (rowC (encI .i64) []) 0 3 1), (0, .cells (rowC encP a) z0 y0 2)]) (c' := 3) (by kernel_rfl) ?_
    refine XR.done (by kernel_rfl) ?_
    show XQ _ _ _ _ _ _ _ _
    refine XQ.seq E0_ok (by kernel_rfl) ?_
    refine XQ.region (by kernel_rfl) ?_
    refine XR.run E0_ok 1 3 [0, 1, 9, 10, 11, 33, 34, 35] rfl (σ' := [(0, .slice (some ⟨0, 0, none⟩) a.length a.length), (1, .int .i64 b), (9, .slice (some ⟨2, 0, none⟩) r2.length r2.length), (10, .int .i64 r3.1), (11, .int .i64 r3.2), (33, .slice (some ⟨2, 0, none⟩) r2.length r2.length), (34, .int .i64 c), (35, .int .i64 d)]) (h' := [(2, .cells (rowC encP r2) 0 83 2), (1, .cells (rowC (encI .i64) []) 0 3 1), (0, .cells (rowC encP a) z0 y0 2)]) (c' := 3) (by kernel_rfl) ?_
    obtain ⟨r4, r4_h, h⟩ := bS h
    refine XR.call E0_ok [0, 1, 9, 10, 11, 36] rfl (K := 26) (args := [.slice (some ⟨2, 0, none⟩) r2.length r2.length, .int .i64 c, .int .i64 d]) (d := (some (path 12 36))) (by kernel_rfl) (KQ.call (KC.quiet E0_ok (args0 := [.slice (some ⟨0, 0, none⟩) r2.length r2.length, .int .i64 c, .int .i64 d]) (h0 := [(0, .cells (rowC encP r2) (0 + ((rowC encP r2).length + 1)) 83 2)]) (n := 1) (V := .tuple #[.int .i64 r4.1, .int .i64 r4.2]) [2] (f26_ok m (0 + ((rowC encP r2).length + 1)) 83 r2 c d r4 r4_h) rfl (by rfl) (by decide) rfl (by kernel_rfl) ⟨⟨_, _, rfl, rfl, .inl ⟨rfl, rowC_scal encP_ok _⟩⟩, trivial⟩) rfl) ?_
    rintro _ _ _ ⟨rfl, rfl, rfl⟩
    refine XR.conv (σ' := [(0, .slice (some ⟨0, 0, none⟩) a.length a.length), (1, .int .i64 b), (9, .slice (some ⟨2, 0, none⟩) r2.length r2.length), (10, .int .i64 r3.1), (11, .int .i64 r3.2), (36, .tuple #[.int .i64 r4.1, .int .i64 r4.2])]) (h' := [(2, .cells (rowC encP r2) 0 83 2), (1, .cells (rowC (encI .i64) []) 0 3 1), (0, .cells (rowC encP a) z0 y0 2)]) (c' := 3) ?_ (by kernel_rfl)
    refine XR.run E0_ok 1 5 [0, 1, 9, 10, 11, 12, 13] rfl (σ' := [(0, .slice (some ⟨0, 0, none⟩) a.length a.length), (1, .int .i64 b), (9, .slice (some ⟨2, 0, none⟩) r2.length r2.length), (10, .int .i64 r3.1), (11, .int .i64 r3.2), (12, .int .i64 r4.1), (13, .int .i64 r4.2)]) (h' := [(2, .cells (rowC encP r2) 0 83 2), (1, .cells (rowC (encI .i64) []) 0 3 1), (0, .cells (rowC encP a) z0 y0 2)]) (c' := 3) (by kernel_rfl) ?_
    refine XR.done (by kernel_rfl) ?_
    show XQ _ _ _ _ _ _ _ _
    refine XQ.seq E0_ok (by kernel_rfl) ?_
    refine XQ.region (by kernel_rfl) ?_
    refine XR.run E0_ok 1 2 [0, 1, 9, 10, 11, 12, 13, 40, 41] rfl (σ' := [(0, .slice (some ⟨0, 0, none⟩) a.length a.length), (1, .int .i64 b), (9, .slice (some ⟨2, 0, none⟩) r2.length r2.length), (10, .int .i64 r3.1), (11, .int .i64 r3.2), (12, .int .i64 r4.1), (13, .int .i64 r4.2), (40, .slice (some ⟨0, 0, none⟩) a.length a.length), (41, .int .i64 b)]) (h' := [(2, .cells (rowC encP r2) 0 83 2), (1, .cells (rowC (encI .i64) []) 0 3 1), (0, .cells (rowC encP a) z0 y0 2)]) (c' := 3) (by kernel_rfl) ?_
    obtain ⟨r5, r5_h, h⟩ := bS h
    refine XR.call E0_ok [0, 1, 9, 10, 11, 12, 13, 42] rfl (K := 27) (args := [.slice (some ⟨0, 0, none⟩) a.length a.length, .int .i64 b]) (d := (some (path 12 42))) (by kernel_rfl) (KQ.call (KC.quiet E0_ok (args0 := [.slice (some ⟨0, 0, none⟩) a.length a.length, .int .i64 b]) (h0 := [(0, .cells (rowC encP a) (z0 + ((rowC encP a).length + 1)) y0 2)]) (n := 1) (V := .tuple #[.int .i64 r5.1, .int .i64 r5.2.1, .int .i64 r5.2.2]) [0] (f27_ok m (z0 + ((rowC encP a).length + 1)) y0 a b r5 r5_h) rfl (by rfl) (by decide) rfl (by kernel_rfl) ⟨⟨_, _, rfl, rfl, .inl ⟨rfl, rowC_scal encP_ok _⟩⟩, trivial⟩) rfl) ?_
    rintro _ _ _ ⟨rfl, rfl, rfl⟩
    refine XR.conv (σ' := [(0, .slice (some ⟨0, 0, none⟩) a.length a.length), (1, .int .i64 b), (9, .slice (some ⟨2, 0, none⟩) r2.length r2.length), (10, .int .i64 r3.1), (11, .int .i64 r3.2), (12, .int .i64 r4.1), (13, .int .i64 r4.2), (42, .tuple #[.int .i64 r5.1, .int .i64 r5.2.1, .int .i64 r5.2.2])]) (h' := [(2, .cells (rowC encP r2) 0 83 2), (1, .cells (rowC (encI .i64) []) 0 3 1), (0, .cells (rowC encP a) z0 y0 2)]) (c' := 3) ?_ (by kernel_rfl)
    refine XR.run E0_ok 1 7 [0, 1, 9, 10, 11, 12, 13, 14, 15, 16] rfl (σ' := [(0, .slice (some ⟨0, 0, none⟩) a.length a.length), (1, .int .i64 b), (9, .slice (some ⟨2, 0, none⟩) r2.length r2.length), (10, .int .i64 r3.1), (11, .int .i64 r3.2), (12, .int .i64 r4.1), (13, .int .i64 r4.2), (14, .int .i64 r5.1), (15, .int .i64 r5.2.1), (16, .int .i64 r5.2.2)]) (h' := [(2, .cells (rowC encP r2) 0 83 2), (1, .cells (rowC (encI .i64) []) 0 3 1), (0, .cells (rowC encP a) z0 y0 2)]) (c' := 3) (by kernel_rfl) ?_
    refine XR.done (by kernel_rfl) ?_
    show XQ _ _ _ _ _ _ _ _
    refine XQ.seq E0_ok (by kernel_rfl) ?_
    refine XQ.region (by kernel_rfl) ?_
    refine XR.run E0_ok 1 2 [0, 1, 9, 10, 11, 12, 13, 14, 15, 16, 47, 48] rfl (σ' := [(0, .slice (some ⟨0, 0, none⟩) a.length a.length), (1, .int .i64 b), (9, .slice (some ⟨2, 0, none⟩) r2.length r2.length), (10, .int .i64 r3.1), (11, .int .i64 r3.2), (12, .int .i64 r4.1), (13, .int .i64 r4.2), (14, .int .i64 r5.1), (15, .int .i64 r5.2.1), (16, .int .i64 r5.2.2), (47, .slice (some ⟨2, 0, none⟩) r2.length r2.length), (48, .int .i64 b)]) (h' := [(2, .cells (rowC encP r2) 0 83 2), (1, .cells (rowC (encI .i64) []) 0 3 1), (0, .cells (rowC encP a) z0 y0 2)]) (c' := 3) (by kernel_rfl) ?_
    obtain ⟨r6, r6_h, h⟩ := bS h
    refine XR.call E0_ok [0, 1, 9, 10, 11, 12, 13, 14, 15, 16, 49] rfl (K := 28) (args := [.slice (some ⟨2, 0, none⟩) r2.length r2.length, .int .i64 b]) (d := (some (path 12 49))) (by kernel_rfl) (KQ.call (KC.quiet E0_ok (args0 := [.slice (some ⟨0, 0, none⟩) r2.length r2.length, .int .i64 b]) (h0 := [(0, .cells (rowC encP r2) (0 + ((rowC encP r2).length + 1)) 83 2)]) (n := 1) (V := .tuple #[.int .i64 r6.1, .int .i64 r6.2.1, .int .i64 r6.2.2]) [2] (f28_ok m (0 + ((rowC encP r2).length + 1)) 83 r2 b r6 r6_h) rfl (by rfl) (by decide) rfl (by kernel_rfl) ⟨⟨_, _, rfl, rfl, .inl ⟨rfl, rowC_scal encP_ok _⟩⟩, trivial⟩) rfl) ?_
    rintro _ _ _ ⟨rfl, rfl, rfl⟩
    refine XR.conv (σ' := [(0, .slice (some ⟨0, 0, none⟩) a.length a.length), (1, .int .i64 b), (9, .slice (some ⟨2, 0, none⟩) r2.length r2.length), (10, .int .i64 r3.1), (11, .int .i64 r3.2), (12, .int .i64 r4.1), (13, .int .i64 r4.2), (14, .int .i64 r5.1), (15, .int .i64 r5.2.1), (16, .int .i64 r5.2.2), (49, .tuple #[.int .i64 r6.1, .int .i64 r6.2.1, .int .i64 r6.2.2])]) (h' := [(2, .cells (rowC encP r2) 0 83 2), (1, .cells (rowC (encI .i64) []) 0 3 1), (0, .cells (rowC encP a) z0 y0 2)]) (c' := 3) ?_ (by kernel_rfl)
    refine XR.run E0_ok 1 7 [0, 1, 9, 10, 11, 12, 13, 14, 15, 16, 17, 18, 19] rfl (σ' := [(0, .slice (some ⟨0, 0, none⟩) a.length a.length), (1, .int .i64 b), (9, .slice (some ⟨2, 0, none⟩) r2.length r2.length), (10, .int .i64 r3.1), (11, .int .i64 r3.2), (12, .int .i64 r4.1), (13, .int .i64 r4.2), (14, .int .i64 r5.1), (15, .int .i64 r5.2.1), (16, .int .i64 r5.2.2), (17, .int .i64 r6.1), (18, .int .i64 r6.2.1), (19, .int .i64 r6.2.2)]) (h' := [(2, .cells (rowC encP r2) 0 83 2), (1, .cells (rowC (encI .i64) []) 0 3 1), (0, .cells (rowC encP a) z0 y0 2)]) (c' := 3) (by kernel_rfl) ?_
    refine XR.done (by kernel_rfl) ?_
    show XQ _ _ _ _ _ _ _ _
    refine XQ.seq E0_ok (by kernel_rfl) ?_
    refine XQ.seq E0_ok (by kernel_rfl) ?_
    refine XQ.region (by kernel_rfl) ?_
    refine XR.run E0_ok 1 4 [0, 1, 9, 11, 13, 14, 15, 16, 17, 18, 19, 56] rfl (σ' := [(0, .slice (some ⟨0, 0, none⟩) a.length a.length), (1, .int .i64 b), (9, .slice (some ⟨2, 0, none⟩) r2.length r2.length), (11, .int .i64 r3.2), (13, .int .i64 r4.2), (14, .int .i64 r5.1), (15, .int .i64 r5.2.1), (16, .int .i64 r5.2.2), (17, .int .i64 r6.1), (18, .int .i64 r6.2.1), (19, .int .i64 r6.2.2), (56, .bool (r3.1 != r4.1))]) (h' := [(2, .cells (rowC encP r2) 0 83 2), (1, .cells (rowC (encI .i64) []) 0 3 1), (0, .cells (rowC encP a) z0 y0 2)]) (c' := 3) (by kernel_rfl) ?_
    cases b2 : (r3.1 != r4.1 : Bool) with
    | true =>
      have h := cT b2 h
      refine XR.run E0_ok 1 19 [0, 1, 9, 75] rfl (σ' := [(0, .slice (some ⟨0, 0, none⟩) a.length a.length), (1, .int .i64 b), (9, .slice (some ⟨2, 0, none⟩) r2.length r2.length), (75, .bool true)]) (h' := [(2, .cells (rowC encP r2) 0 83 2), (1, .cells (rowC (encI .i64) []) 0 3 1), (0, .cells (rowC encP a) z0 y0 2)]) (c' := 3) (by kernel_rfl) ?_
      refine XR.done (by kernel_rfl) ?_
      show XQ _ _ _ _ _ _ _ _
      refine XQ.cond (s := (.tmp 75)) (b := true) (by kernel_rfl) (by kernel_rfl) (fun _ => ?_) (fun q => by cases q)
      refine XQ.seq E0_ok (by kernel_rfl) ?_
      refine XQ.region (by kernel_rfl) ?_
      refine XR.run E0_ok 1 1 [8] rfl (σ' := [(8, .bool false)]) (h' := [(2, .cells (rowC encP r2) 0 83 2), (1, .cells (rowC (encI .i64) []) 0 3 1), (0, .cells (rowC encP a) z0 y0 2)]) (c' := 3) (by kernel_rfl) ?_
      refine XR.done (by kernel_rfl) ?_
      show XQ _ _ _ _ _ _ _ _
      refine XQ.ret (by kernel_rfl) ?_
      have h := Option.some.inj h
      subst h
      exact ⟨fun i q => (by cases q), .bool false, (by kernel_rfl), rfl⟩
    | false =>
      have h := cF b2 h
      refine XR.run E0_ok 1 5 [0, 1, 9, 14, 15, 16, 17, 18, 19, 61] rfl (σ' := [(0, .slice (some ⟨0, 0, none⟩) a.length a.length), (1, .int .i64 b), (9, .slice (some ⟨2, 0, none⟩) r2.length r2.length), (14, .int .i64 r5.1), (15, .int .i64 r5.2.1), (16, .int .i64 r5.2.2), (17, .int .i64 r6.1), (18, .int .i64 r6.2.1), (19, .int .i64 r6.2.2), (61, .bool (r3.2 != r4.2))]) (h' := [(2, .cells (rowC encP r2) 0 83 2), (1, .cells (rowC (encI .i64) []) 0 3 1), (0, .cells (rowC encP a) z0 y0 2)]) (c' := 3) (by kernel_rfl) ?_
      cases b3 : (r3.2 != r4.2 : Bool) with
      | true =>
        have h := cT b3 h
        refine XR.run E0_ok 1 14 [0, 1, 9, 75] rfl (σ' := [(0, .slice (some ⟨0, 0, none⟩) a.length a.length), (1, .int .i64 b), (9, .slice (some ⟨2, 0, none⟩) r2.length r2.length), (75, .bool true)]) (h' := [(2, .cells (rowC encP r2) 0 83 2), (1, .cells (rowC (encI .i64) []) 0 3 1), (0, .cells (rowC encP a) z0 y0 2)]) (c' := 3) (by kernel_rfl) ?_
        refine XR.done (by kernel_rfl) ?_
        show XQ _ _ _ _ _ _ _ _
        refine XQ.cond (s := (.tmp 75)) (b := true) (by kernel_rfl) (by kernel_rfl) (fun _ => ?_) (fun q => by cases q)
        refine XQ.seq E0_ok (by kernel_rfl) ?_
        refine XQ.region (by kernel_rfl) ?_
        refine XR.run E0_ok 1 1 [8] rfl (σ' := [(8, .bool false)]) (h' := [(2, .cells (rowC encP r2) 0 83 2), (1, .cells (rowC (encI .i64) []) 0 3 1), (0, .cells (rowC encP a) z0 y0 2)]) (c' := 3) (by kernel_rfl) ?_
        refine XR.done (by kernel_rfl) ?_
        show XQ _ _ _ _ _ _ _ _
        refine XQ.ret (by kernel_rfl) ?_
        have h := Option.some.inj h
        subst h
        exact ⟨fun i q => (by cases q), .bool false, (by kernel_rfl), rfl⟩
      | false =>
        have h := cF b3 h
        refine XR.run E0_ok 1 5 [0, 1, 9, 15, 16, 18, 19, 66] rfl (σ' := [(0, .slice (some ⟨0, 0, none⟩) a.length a.length), (1, .int .i64 b), (9, .slice (some ⟨2, 0, none⟩) r2.length r2.length), (15, .int .i64 r5.2.1), (16, .int .i64 r5.2.2), (18, .int .i64 r6.2.1), (19, .int .i64 r6.2.2), (66, .bool (r5.1 != r6.1))]) (h' := [(2, .cells (rowC encP r2) 0 83 2), (1, .cells (rowC (encI .i64) []) 0 3 1), (0, .cells (rowC encP a) z0 y0 2)]) (c' := 3) (by kernel_rfl) ?_
        cases b4 : (r5.1 != r6.1 : Bool) with
        | true =>
          have h := cT b4 h
          refine XR.run E0_ok 1 9 [0, 1, 9, 75] rfl (σ' := [(0, .slice (some ⟨0, 0, none⟩) a.length a.length), (1, .int .i64 b), (9, .slice (some ⟨2, 0, none⟩) r2.length r2.length), (75, .bool true)]) (h' := [(2, .cells (rowC encP r2) 0 83 2), (1, .cells (rowC (encI .i64) []) 0 3 1), (0, .cells (rowC encP a) z0 y0 2)]) (c' := 3) (by kernel_rfl) ?_
          refine XR.done (by kernel_rfl) ?_
          show XQ _ _ _ _ _ _ _ _
          refine XQ.cond (s := (.tmp 75)) (b := true) (by kernel_rfl) (by kernel_rfl) (fun _ => ?_) (fun q => by cases q)
          refine XQ.seq E0_ok (by kernel_rfl) ?_
          refine XQ.region (by kernel_rfl) ?_
          refine XR.run E0_ok 1 1 [8] rfl (σ' := [(8, .bool false)]) (h' := [(2, .cells (rowC encP r2) 0 83 2), (1, .cells (rowC (encI .i64) []) 0 3 1), (0, .cells (rowC encP a) z0 y0 2)]) (c' := 3) (by kernel_rfl) ?_
          refine XR.done (by kernel_rfl) ?_
          show XQ _ _ _ _ _ _ _ _
          refine XQ.ret (by kernel_rfl) ?_
          have h := Option.some.inj h
          subst h
          exact ⟨fun i q => (by cases q), .bool false, (by kernel_rfl), rfl⟩
        | false =>
          have h := cF b4 h
          refine XR.run E0_ok 1 5 [0, 1, 9, 16, 19, 71] rfl (σ' := [(0, .slice (some ⟨0, 0, none⟩) a.length a.length), (1, .int .i64 b), (9, .slice (some ⟨2, 0, none⟩) r2.length r2.length), (16, .int .i64 r5.2.2), (19, .int .i64 r6.2.2), (71, .bool (r5.2.1 != r6.2.1))]) (h' := [(2, .cells (rowC encP r2) 0 83 2), (1, .cells (rowC (encI .i64) []) 0 3 1), (0, .cells (rowC encP a) z0 y0 2)]) (c' := 3) (by kernel_rfl) ?_
          cases b5 : (r5.2.1 != r6.2.1 : Bool) with
          | true =>
            have h := cT b5 h
            refine XR.run E0_ok 1 4 [0, 1, 9, 75] rfl (σ' := [(0, .slice (some ⟨0, 0, none⟩) a.length a.length), (1, .int .i64 b), (9, .slice (some ⟨2, 0, none⟩) r2.length r2.length), (75, .bool true)]) (h' := [(2, .cells (rowC encP r2) 0 83 2), (1, .cells (rowC (encI .i64) []) 0 3 1), (0, .cells (rowC encP a) z0 y0 2)]) (c' := 3) (by kernel_rfl) ?_
            refine XR.done (by kernel_rfl) ?_
            show XQ _ _ _ _ _ _ _ _
            refine XQ.cond (s := (.tmp 75)) (b := true) (by kernel_rfl) (by kernel_rfl) (fun _ => ?_) (fun q => by cases q)
            refine XQ.seq E0_ok (by kernel_rfl) ?_
            refine XQ.region (by kernel_rfl) ?_
            refine XR.run E0_ok 1 1 [8] rfl (σ' := [(8, .bool false)]) (h' := [(2, .cells (rowC encP r2) 0 83 2), (1, .cells (rowC (encI .i64) []) 0 3 1), (0, .cells (rowC encP a) z0 y0 2)]) (c' := 3) (by kernel_rfl) ?_
            refine XR.done (by kernel_rfl) ?_
            show XQ _ _ _ _ _ _ _ _
            refine XQ.ret (by kernel_rfl) ?_
            have h := Option.some.inj h
            subst h
            exact ⟨fun i q => (by cases q), .bool false, (by kernel_rfl), rfl⟩
          | false =>
            have h := cF b5 h
            refine XR.run E0_ok 1 4 [0, 1, 9, 75] rfl (σ' := [(0, .slice (some ⟨0, 0, none⟩) a.length a.length), (1, .int .i64 b), (9, .slice (some ⟨2, 0, none⟩) r2.length r2.length), (75, .bool (r5.2.2 != r6.2.2))]) (h' := [(2, .cells (rowC encP r2) 0 83 2), (1, .cells (rowC (encI .i64) []) 0 3 1), (0, .cells (rowC encP a) z0 y0 2)]) (c' := 3) (by kernel_rfl) ?_
            refine XR.done (by kernel_rfl) ?_
            show XQ _ _ _ _ _ _ _ _
            cases b6 : (r5.2.2 != r6.2.2 : Bool) with
            | true =>
              have h := cT b6 h
              refine XQ.cond (s := (.tmp 75)) (b := true) (by kernel_rfl) (by kernel_rfl) (fun _ => ?_) (fun q => by cases q)
              refine XQ.seq E0_ok (by kernel_rfl) ?_
              refine XQ.region (by kernel_rfl) ?_
              refine XR.run E0_ok 1 1 [8] rfl (σ' := [(8, .bool false)]) (h' := [(2, .cells (rowC encP r2) 0 83 2), (1, .cells (rowC (encI .i64) []) 0 3 1), (0, .cells (rowC encP a) z0 y0 2)]) (c' := 3) (by kernel_rfl) ?_
              refine XR.done (by kernel_rfl) ?_
              show XQ _ _ _ _ _ _ _ _
              refine XQ.ret (by kernel_rfl) ?_
              have h := Option.some.inj h
              subst h
              exact ⟨fun i q => (by cases q), .bool false, (by kernel_rfl), rfl⟩
            | false =>
              have h := cF b6 h
              refine XQ.cond (s := (.tmp 75)) (b := false) (by kernel_rfl) (by kernel_rfl) (fun q => by cases q) (fun _ => ?_)
              refine XQ.skip (by kernel_rfl) ?_
              show XQ _ _ _ _ _ _ _ _
              refine XQ.seq E0_ok (by kernel_rfl) ?_
              refine XQ.region (by kernel_rfl) ?_
              refine XR.run E0_ok 1 1 [0, 1, 9, 77] rfl (σ' := [(0, .slice (some ⟨0, 0, none⟩) a.length a.length), (1, .int .i64 b), (9, .slice (some ⟨2, 0, none⟩) r2.length r2.length), (77, .slice (some ⟨0, 0, none⟩) a.length a.length)]) (h' := [(2, .cells (rowC encP r2) 0 83 2), (1, .cells (rowC (encI .i64) []) 0 3 1), (0, .cells (rowC encP a) z0 y0 2)]) (c' := 3) (by kernel_rfl) ?_
              obtain ⟨r7, r7_h, h⟩ := bS h
              refine XR.call E0_ok [0, 1, 9, 78] rfl (K := 29) (args := [.slice (some ⟨0, 0, none⟩) a.length a.length]) (d := (some (path 12 78))) (by kernel_rfl) (KQ.call (KC.quiet E0_ok (args0 := [.slice (some ⟨0, 0, none⟩) a.length a.length]) (h0 := [(0, .cells (rowC encP a) (z0 + ((rowC encP a).length + 1)) y0 2)]) (n := 1) (V := .tuple #[.int .i64 r7.1, .int .i64 r7.2]) [0] (f29_ok m (z0 + ((rowC encP a).length + 1)) y0 a r7 r7_h) rfl (by rfl) (by decide) rfl (by kernel_rfl) ⟨⟨_, _, rfl, rfl, .inl ⟨rfl, rowC_scal encP_ok _⟩⟩, trivial⟩) rfl) ?_
              rintro _ _ _ ⟨rfl, rfl, rfl⟩
              refine XR.conv (σ' := [(0, .slice (some ⟨0, 0, none⟩) a.length a.length), (1, .int .i64 b), (9, .slice (some ⟨2, 0, none⟩) r2.length r2.length), (78, .tuple #[.int .i64 r7.1, .int .i64 r7.2])]) (h' := [(2, .cells (rowC encP r2) 0 83 2), (1, .cells (rowC (encI .i64) []) 0 3 1), (0, .cells (rowC encP a) z0 y0 2)]) (c' := 3) ?_ (by kernel_rfl)
              refine XR.run E0_ok 1 5 [0, 1, 9, 10, 11] rfl (σ' := [(0, .slice (some ⟨0, 0, none⟩) a.length a.length), (1, .int .i64 b), (9, .slice (some ⟨2, 0, none⟩) r2.length r2.length), (10, .int .i64 r7.1), (11, .int .i64 r7.2)]) (h' := [(2, .cells (rowC encP r2) 0 83 2), (1, .cells (rowC (encI .i64) []) 0 3 1), (0, .cells (rowC encP a) z0 y0 2)]) (c' := 3) (by kernel_rfl) ?_
              refine XR.done (by kernel_rfl) ?_
              show XQ _ _ _ _ _ _ _ _
              refine XQ.seq E0_ok (by kernel_rfl) ?_
              refine XQ.region (by kernel_rfl) ?_
              refine XR.run E0_ok 1 1 [0, 1, 9, 10, 11, 82] rfl (σ' := [(0, .slice (some ⟨0, 0, none⟩) a.length a.length), (1, .int .i64 b), (9, .slice (some ⟨2, 0, none⟩) r2.length r2.length), (10, .int .i64 r7.1), (11, .int .i64 r7.2), (82, .slice (some ⟨2, 0, none⟩) r2.length r2.length)]) (h' := [(2, .cells (rowC encP r2) 0 83 2), (1, .cells (rowC (encI .i64) []) 0 3 1), (0, .cells (rowC encP a) z0 y0 2)]) (c' := 3) (by kernel_rfl) ?_
              obtain ⟨r8, r8_h, h⟩ := bS h
              refine XR.call E0_ok [0, 1, 9, 10, 11, 83] rfl (K := 30) (args := [.slice (some ⟨2, 0, none⟩) r2.length r2.length]) (d := (some (path 12 83))) (by kernel_rfl) (KQ.call (KC.quiet E0_ok (args0 := [.slice (some ⟨0, 0, none⟩) r2.length r2.length]) (h0 := [(0, .cells (rowC encP r2) (0 + ((rowC encP r2).length + 1)) 83 2)]) (n := 1) (V := .tuple #[.int .i64 r8.1, .int .i64 r8.2]) [2] (f30_ok m (0 + ((rowC encP r2).length + 1)) 83 r2 r8 r8_h) rfl (by rfl) (by decide) rfl (by kernel_rfl) ⟨⟨_, _, rfl, rfl, .inl ⟨rfl, rowC_scal encP_ok _⟩⟩, trivial⟩) rfl) ?_
              rintro _ _ _ ⟨rfl, rfl, rfl⟩
              refine XR.conv (σ' := [(0, .slice (some ⟨0, 0, none⟩) a.length a.length), (1, .int .i64 b), (9, .slice (some ⟨2, 0, none⟩) r2.length r2.length), (10, .int .i64 r7.1), (11, .int .i64 r7.2), (83, .tuple #[.int .i64 r8.1, .int .i64 r8.2])]) (h' := [(2, .cells (rowC encP r2) 0 83 2), (1, .cells (rowC (encI .i64) []) 0 3 1), (0, .cells (rowC encP a) z0 y0 2)]) (c' := 3) ?_ (by kernel_rfl)
              refine XR.run E0_ok 1 5 [0, 1, 9, 10, 11, 12, 13] rfl (σ' := [(0, .slice (some ⟨0, 0, none⟩) a.length a.length), (1, .int .i64 b), (9, .slice (some ⟨2, 0, none⟩) r2.length r2.length), (10, .int .i64 r7.1), (11, .int .i64 r7.2), (12, .int .i64 r8.1), (13, .int .i64 r8.2)]) (h' := [(2, .cells (rowC encP r2) 0 83 2), (1, .cells (rowC (encI .i64) []) 0 3 1), (0, .cells (rowC encP a) z0 y0 2)]) (c' := 3) (by kernel_rfl) ?_
              refine XR.done (by kernel_rfl) ?_
              show XQ _ _ _ _ _ _ _ _
              refine XQ.seq E0_ok (by kernel_rfl) ?_
              refine XQ.region (by kernel_rfl) ?_
              refine XR.run E0_ok 1 2 [1, 9, 10, 11, 12, 13, 87, 88] rfl (σ' := [(1, .int .i64 b), (9, .slice (some ⟨2, 0, none⟩) r2.length r2.length), (10, .int .i64 r7.1), (11, .int .i64 r7.2), (12, .int .i64 r8.1), (13, .int .i64 r8.2), (87, .slice (some ⟨0, 0, none⟩) a.length a.length), (88, .int .i64 b)]) (h' := [(2, .cells (rowC encP r2) 0 83 2), (1, .cells (rowC (encI .i64) []) 0 3 1), (0, .cells (rowC encP a) z0 y0 2)]) (c' := 3) (by kernel_rfl) ?_
              obtain ⟨r9, r9_h, h⟩ := bS h
              refine XR.call E0_ok [1, 9, 10, 11, 12, 13, 89] rfl (K := 31) (args := [.slice (some ⟨0, 0, none⟩) a.length a.length, .int .i64 b]) (d := (some (path 12 89))) (by kernel_rfl) (KQ.call (KC.quiet E0_ok (args0 := [.slice (some ⟨0, 0, none⟩) a.length a.length, .int .i64 b]) (h0 := [(0, .cells (rowC encP a) (z0 + ((rowC encP a).length + 1)) y0 2)]) (n := 1) (V := .tuple #[.int .i64 r9.1, .int .i64 r9.2]) [0] (f31_ok m (z0 + ((rowC encP a).length + 1)) y0 a b r9 r9_h) rfl (by rfl) (by decide) rfl (by kernel_rfl) ⟨⟨_, _, rfl, rfl, .inl ⟨rfl, rowC_scal encP_ok _⟩⟩, trivial⟩) rfl) ?_
              rintro _ _ _ ⟨rfl, rfl, rfl⟩
              refine XR.conv (σ' := [(1, .int .i64 b), (9, .slice (some ⟨2, 0, none⟩) r2.length r2.length), (10, .int .i64 r7.1), (11, .int .i64 r7.2), (12, .int .i64 r8.1), (13, .int .i64 r8.2), (89, .tuple #[.int .i64 r9.1, .int .i64 r9.2])]) (h' := [(2, .cells (rowC encP r2) 0 83 2), (1, .cells (rowC (encI .i64) []) 0 3 1), (0, .cells (rowC encP a) z0 y0 2)]) (c' := 3) ?_ (by kernel_rfl)
              refine XR.run E0_ok 1 5 [1, 9, 10, 11, 12, 13, 14, 16] rfl (σ' := [(1, .int .i64 b), (9, .slice (some ⟨2, 0, none⟩) r2.length r2.length), (10, .int .i64 r7.1), (11, .int .i64 r7.2), (12, .int .i64 r8.1), (13, .int .i64 r8.2), (14, .int .i64 r9.1), (16, .int .i64 r9.2)]) (h' := [(2, .cells (rowC encP r2) 0 83 2), (1, .cells (rowC (encI .i64) []) 0 3 1), (0, .cells (rowC encP a) z0 y0 2)]) (c' := 3) (by kernel_rfl) ?_
              refine XR.done (by kernel_rfl) ?_
              show XQ _ _ _ _ _ _ _ _
              refine XQ.seq E0_ok (by kernel_rfl) ?_
              refine XQ.region (by kernel_rfl) ?_
              refine XR.run E0_ok 1 2 [10, 11, 12, 13, 14, 16, 93, 94] rfl (σ' := [(10, .int .i64 r7.1), (11, .int .i64 r7.2), (12, .int .i64 r8.1), (13, .int .i64 r8.2), (14, .int .i64 r9.1), (16, .int .i64 r9.2), (93, .slice (some ⟨2, 0, none⟩) r2.length r2.length), (94, .int .i64 b)]) (h' := [(2, .cells (rowC encP r2) 0 83 2), (1, .cells (rowC (encI .i64) []) 0 3 1), (0, .cells (rowC encP a) z0 y0 2)]) (c' := 3) (by kernel_rfl) ?_
              obtain ⟨r10, r10_h, h⟩ := bS h
              refine XR.call E0_ok [10, 11, 12, 13, 14, 16, 95] rfl (K := 32) (args := [.slice (some ⟨2, 0, none⟩) r2.length r2.length, .int .i64 b]) (d := (some (path 12 95))) (by kernel_rfl) (KQ.call (KC.quiet E0_ok (args0 := [.slice (some ⟨0, 0, none⟩) r2.length r2.length, .int .i64 b]) (h0 := [(0, .cells (rowC encP r2) (0 + ((rowC encP r2).length + 1)) 83 2)]) (n := 1) (V := .tuple #[.int .i64 r10.1, .int .i64 r10.2]) [2] (f32_ok m (0 + ((rowC encP r2).length + 1)) 83 r2 b r10 r10_h) rfl (by rfl) (by decide) rfl (by kernel_rfl) ⟨⟨_, _, rfl, rfl, .inl ⟨rfl, rowC_scal encP_ok _⟩⟩, trivial⟩) rfl) ?_
              rintro _ _ _ ⟨rfl, rfl, rfl⟩
              refine XR.conv (σ' := [(10, .int .i64 r7.1), (11, .int .i64 r7.2), (12, .int .i64 r8.1), (13, .int .i64 r8.2), (14, .int .i64 r9.1), (16, .int .i64 r9.2), (95, .tuple #[.int .i64 r10.1, .int .i64 r10.2])]) (h' := [(2, .cells (rowC encP r2) 0 83 2), (1, .cells (rowC (encI .i64) []) 0 3 1), (0, .cells (rowC encP a) z0 y0 2)]) (c' := 3) ?_ (by kernel_rfl)
              refine XR.run E0_ok 1 5 [10, 11, 12, 13, 14, 15, 16, 19] rfl (σ' := [(10, .int .i64 r7.1), (11, .int .i64 r7.2), (12, .int .i64 r8.1), (13, .int .i64 r8.2), (14, .int .i64 r9.1), (15, .int .i64 r10.1), (16, .int .i64 r9.2), (19, .int .i64 r10.2)]) (h' := [(2, .cells (rowC encP r2) 0 83 2), (1, .cells (rowC (encI .i64) []) 0 3 1), (0, .cells (rowC encP a) z0 y0 2)]) (c' := 3) (by kernel_rfl) ?_
              refine XR.done (by kernel_rfl) ?_
              show XQ _ _ _ _ _ _ _ _
              refine XQ.seq E0_ok (by kernel_rfl) ?_
              refine XQ.region (by kernel_rfl) ?_
              refine XR.run E0_ok 1 4 [11, 13, 14, 15, 16, 19, 101] rfl (σ' := [(11, .int .i64 r7.2), (13, .int .i64 r8.2), (14, .int .i64 r9.1), (15, .int .i64 r10.1), (16, .int .i64 r9.2), (19, .int .i64 r10.2), (101, .bool (r7.1 == r8.1))]) (h' := [(2, .cells (rowC encP r2) 0 83 2), (1, .cells (rowC (encI .i64) []) 0 3 1), (0, .cells (rowC encP a) z0 y0 2)]) (c' := 3) (by kernel_rfl) ?_
              cases b7 : (r7.1 == r8.1 : Bool) with
              | true =>
                have h := cT b7 h
                refine XR.run E0_ok 1 5 [14, 15, 16, 19, 106] rfl (σ' := [(14, .int .i64 r9.1), (15, .int .i64 r10.1), (16, .int .i64 r9.2), (19, .int .i64 r10.2), (106, .bool (r7.2 == r8.2))]) (h' := [(2, .cells (rowC encP r2) 0 83 2), (1, .cells (rowC (encI .i64) []) 0 3 1), (0, .cells (rowC encP a) z0 y0 2)]) (c' := 3) (by kernel_rfl) ?_
                cases b8 : (r7.2 == r8.2 : Bool) with
                | true =>
                  have h := cT b8 h
                  refine XR.run E0_ok 1 5 [16, 19, 111] rfl (σ' := [(16, .int .i64 r9.2), (19, .int .i64 r10.2), (111, .bool (r9.1 == r10.1))]) (h' := [(2, .cells (rowC encP r2) 0 83 2), (1, .cells (rowC (encI .i64) []) 0 3 1), (0, .cells (rowC encP a) z0 y0 2)]) (c' := 3) (by kernel_rfl) ?_
                  cases b9 : (r9.1 == r10.1 : Bool) with
                  | true =>
                    have h := cT b9 h
                    refine XR.run E0_ok 1 5 [116] rfl (σ' := [(116, .bool (r9.2 == r10.2))]) (h' := [(2, .cells (rowC encP r2) 0 83 2), (1, .cells (rowC (encI .i64) []) 0 3 1), (0, .cells (rowC encP a) z0 y0 2)]) (c' := 3) (by kernel_rfl) ?_
                    cases b10 : (r9.2 == r10.2 : Bool) with
                    | true =>
                      have h := cT b10 h
                      refine XR.call E0_ok [116, 117] rfl (K := 16) (args := []) (d := (some (path 12 117))) (by kernel_rfl) (KC.of_calls E0_ok (F := Proofs.Try.f16) (v := .bool true) (by kernel_rfl) rfl rfl (works_ok)) ?_
                      rintro _ _ _ ⟨rfl, rfl, rfl⟩
                      refine XR.conv (σ' := [(116, .bool true), (117, .bool true)]) (h' := [(2, .cells (rowC encP r2) 0 83 2), (1, .cells (rowC (encI .i64) []) 0 3 1), (0, .cells (rowC encP a) z0 y0 2)]) (c' := 3) ?_ (by kernel_rfl)
                      refine XR.run E0_ok 1 2 [8] rfl (σ' := [(8, .bool true)]) (h' := [(2, .cells (rowC encP r2) 0 83 2), (1, .cells (rowC (encI .i64) []) 0 3 1), (0, .cells (rowC encP a) z0 y0 2)]) (c' := 3) (by kernel_rfl) ?_
                      refine XR.done (by kernel_rfl) ?_
                      show XQ _ _ _ _ _ _ _ _
                      refine XQ.ret (by kernel_rfl) ?_
                      have h := Option.some.inj h
                      subst h
                      exact ⟨fun i q => (by cases q), .bool true, (by kernel_rfl), rfl⟩
                    | false =>
                      have h := cF b10 h
                      refine XR.run E0_ok 1 3 [8] rfl (σ' := [(8, .bool false)]) (h' := [(2, .cells (rowC encP r2) 0 83 2), (1, .cells (rowC (encI .i64) []) 0 3 1), (0, .cells (rowC encP a) z0 y0 2)]) (c' := 3) (by kernel_rfl) ?_
                      refine XR.done (by kernel_rfl) ?_
                      show XQ _ _ _ _ _ _ _ _
                      refine XQ.ret (by kernel_rfl) ?_
                      have h := Option.some.inj h
                      subst h
                      exact ⟨fun i q => (by cases q), .bool false, (by kernel_rfl), rfl⟩
                  | false =>
                    have h := cF b9 h
                    refine XR.run E0_ok 1 8 [8] rfl (σ' := [(8, .bool false)]) (h' := [(2, .cells (rowC encP r2) 0 83 2), (1, .cells (rowC (encI .i64) []) 0 3 1), (0, .cells (rowC encP a) z0 y0 2)]) (c' := 3) (by kernel_rfl) ?_
                    refine XR.done (by kernel_rfl) ?_
                    show XQ _ _ _ _ _ _ _ _
                    refine XQ.ret (by kernel_rfl) ?_
                    have h := Option.some.inj h
                    subst h
                    exact ⟨fun i q => (by cases q), .bool false, (by kernel_rfl), rfl⟩
                | false =>
                  have h := cF b8 h
                  refine XR.run E0_ok 1 13 [8] rfl (σ' := [(8, .bool false)]) (h' := [(2, .cells (rowC encP r2) 0 83 2), (1, .cells (rowC (encI .i64) []) 0 3 1), (0, .cells (rowC encP a) z0 y0 2)]) (c' := 3) (by kernel_rfl) ?_
                  refine XR.done (by kernel_rfl) ?_
                  show XQ _ _ _ _ _ _ _ _
                  refine XQ.ret (by kernel_rfl) ?_
                  have h := Option.some.inj h
                  subst h
                  exact ⟨fun i q => (by cases q), .bool false, (by kernel_rfl), rfl⟩
              | false =>
                have h := cF b7 h
                refine XR.run E0_ok 1 18 [8] rfl (σ' := [(8, .bool false)]) (h' := [(2, .cells (rowC encP r2) 0 83 2), (1, .cells (rowC (encI .i64) []) 0 3 1), (0, .cells (rowC encP a) z0 y0 2)]) (c' := 3) (by kernel_rfl) ?_
                refine XR.done (by kernel_rfl) ?_
                show XQ _ _ _ _ _ _ _ _
                refine XQ.ret (by kernel_rfl) ?_
                have h := Option.some.inj h
                subst h
                exact ⟨fun i q => (by cases q), .bool false, (by kernel_rfl), rfl⟩

end Go.Xm
