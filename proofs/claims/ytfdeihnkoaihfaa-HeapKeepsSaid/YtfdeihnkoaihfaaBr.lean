/- What these functions of the program compute, as functions in Lean, and the proofs that they do: vitolalaw02.HeapKeeps. Conditions: none. -/
import Derived.Test.YtfdeihnkoaihfaaBp
import Derived.Test.YtfdeihnkoaihfaaBq
namespace Go.Xm
open Go.RowKit
set_option linter.unusedVariables false
set_option linter.unusedSimpArgs false
set_option maxRecDepth 20000

/-! vitola/vitolalaw02.HeapKeeps -/
noncomputable def f5_C5 : Code := Proofs.Try.f5.body.getD .skip
noncomputable def f5_C15 : Code := Proofs.Try.f15.body.getD .skip

def f5 (m : Nat) (a : List (Int × Int)) (b : Int) : Option (Bool) :=
  cond (decide (((a.length : Nat) : Int) > 60)) (
    some (true)
  ) (
    (f33 m a b).bind fun r2 =>
      (f17 m a).bind fun r3 =>
        (f34 m r3 b).bind fun r4 =>
          (f20 m r2.1 r4.1).bind fun r5 =>
            cond (r5) (
              cond (r2.2 == r4.2) (
                some (true)
              ) (
                some (false)
              )
            ) (
              some (false)
            )
  )

theorem f5_ok (m : Nat) (z0 : Nat) (y0 : Nat) (a : List (Int × Int)) (b : Int) (o : Bool) (h : f5 m a b = some o) : KC E0 5 [.slice (some ⟨0, 0, none⟩) a.length a.length, .int .i64 b] [(0, .cells (rowC encP a) z0 y0 2)] 1 (fun v _ _ => v = .bool o) := by
  refine KC.bodyN E0_ok (F := Proofs.Try.f5) (by kernel_rfl) (code := f5_C5) (by kernel_rfl) (nt := 36) (by kernel_rfl) (rs := [.tmp 4]) (by kernel_rfl) (by kernel_rfl) (σ := [(0, .slice (some ⟨0, 0, none⟩) a.length a.length), (1, .int .i64 b)]) (by kernel_rfl) ?_
  unfold f5 at h
  refine XQ.seq E0_ok (by kernel_rfl) ?_
  refine XQ.region (by kernel_rfl) ?_
  refine XR.run E0_ok 1 1 [0, 1] rfl (σ' := [(0, .slice (some ⟨0, 0, none⟩) a.length a.length), (1, .int .i64 b)]) (h' := [(0, .cells (rowC encP a) z0 y0 2)]) (c' := 1) (by kernel_rfl) ?_
  refine XR.done (by kernel_rfl) ?_
  show XQ _ _ _ _ _ _ _ _
  refine XQ.seq E0_ok (by kernel_rfl) ?_
  refine XQ.seq E0_ok (by kernel_rfl) ?_
  refine XQ.region (by kernel_rfl) ?_
  refine XR.run E0_ok 1 1 [0, 1, 9] rfl (σ' := [(0, .slice (some ⟨0, 0, none⟩) a.length a.length), (1, .int .i64 b), (9, .slice (some ⟨0, 0, none⟩) a.length a.length)]) (h' := [(0, .cells (rowC encP a) z0 y0 2)]) (c' := 1) (by kernel_rfl) ?_
  refine XR.callK E0_ok [0, 1, 10] rfl (K := 15) (args := [.slice (some ⟨0, 0, none⟩) a.length a.length, .slice none 0 0]) (d := (some (path 12 10))) (by kernel_rfl) ?_
  refine KC.bodyN E0_ok (F := Proofs.Try.f15) (by kernel_rfl) (code := f5_C15) (by kernel_rfl) (nt := 13) (by kernel_rfl) (rs := [.tmp 4]) (by kernel_rfl) (by kernel_rfl) (σ := [(0, .slice (some ⟨0, 0, none⟩) a.length a.length), (1, .slice none 0 0)]) (by kernel_rfl) ?_
  refine XQ.ghost 3 1 rfl (σ' := [(0, .slice (some ⟨0, 0, none⟩) a.length a.length), (1, .slice (some ⟨1, 0, none⟩) 0 0)]) (h' := [(0, .cells (rowC encP a) z0 y0 2)]) ⟨by kernel_rfl, by kernel_rfl, trivial⟩ ⟨⟨_, rfl, .inl rfl⟩, trivial⟩ ?_
  refine XQ.conv (σ' := [(0, .slice (some ⟨0, 0, none⟩) a.length a.length), (1, .slice (some ⟨1, 0, none⟩) 0 0)]) (h' := [(1, .cells (rowC (encI .i64) []) 0 3 1), (0, .cells (rowC encP a) z0 y0 2)]) (c' := 2) ?_ (by kernel_rfl)
  refine XQ.seq E0_ok (by kernel_rfl) ?_
  refine XQ.region (by kernel_rfl) ?_
  refine XR.run E0_ok 1 1 [0, 1] rfl (σ' := [(0, .slice (some ⟨0, 0, none⟩) a.length a.length), (1, .slice (some ⟨1, 0, none⟩) 0 0)]) (h' := [(1, .cells (rowC (encI .i64) []) 0 3 1), (0, .cells (rowC encP a) z0 y0 2)]) (c' := 2) (by kernel_rfl) ?_
  refine XR.done (by kernel_rfl) ?_
  show XQ _ _ _ _ _ _ _ _
  refine XQ.seq E0_ok (by kernel_rfl) ?_
  refine XQ.region (by kernel_rfl) ?_
  refine XR.run E0_ok 1 4 [1, 8] rfl (σ' := [(1, .slice (some ⟨1, 0, none⟩) 0 0), (8, .bool (decide (((a.length : Nat) : Int) > 60)))]) (h' := [(1, .cells (rowC (encI .i64) []) 0 3 1), (0, .cells (rowC encP a) z0 y0 2)]) (c' := 2) (by kernel_rfl) ?_
  cases b1 : (decide (((a.length : Nat) : Int) > 60) : Bool) with
  | true =>
    have h := cT b1 h
    refine XR.run E0_ok 1 5 [4] rfl (σ' := [(4, .bool true)]) (h' := [(1, .cells (rowC (encI .i64) []) 0 3 1), (0, .cells (rowC encP a) z0 y0 2)]) (c' := 2) (by kernel_rfl) ?_
    refine XR.done (by kernel_rfl) ?_
    show XQ _ _ _ _ _ _ _ _
    refine XQ.ret (by kernel_rfl) ?_
    refine ⟨fun i q => (by cases q), .bool true, (by kernel_rfl), ?_⟩
    refine XR.conv (σ' := [(0, .slice (some ⟨0, 0, none⟩) a.length a.length), (1, .int .i64 b), (10, .bool true)]) (h' := [(1, .cells (rowC (encI .i64) []) 0 3 1), (0, .cells (rowC encP a) z0 y0 2)]) (c' := 2) ?_ (by kernel_rfl)
    refine XR.done (by kernel_rfl) ?_
    show XQ _ _ _ _ _ _ _ _
    refine XQ.cond (s := (.tmp 10)) (b := true) (by kernel_rfl) (by kernel_rfl) (fun _ => ?_) (fun q => by cases q)
    refine XQ.seq E0_ok (by kernel_rfl) ?_
    refine XQ.region (by kernel_rfl) ?_
    refine XR.call E0_ok [11] rfl (K := 16) (args := []) (d := (some (path 12 11))) (by kernel_rfl) (KC.of_calls E0_ok (F := Proofs.Try.f16) (v := .bool true) (by kernel_rfl) rfl rfl (works_ok)) ?_
    rintro _ _ _ ⟨rfl, rfl, rfl⟩
    refine XR.conv (σ' := [(11, .bool true)]) (h' := [(1, .cells (rowC (encI .i64) []) 0 3 1), (0, .cells (rowC encP a) z0 y0 2)]) (c' := 2) ?_ (by kernel_rfl)
    refine XR.run E0_ok 1 1 [4] rfl (σ' := [(4, .bool true)]) (h' := [(1, .cells (rowC (encI .i64) []) 0 3 1), (0, .cells (rowC encP a) z0 y0 2)]) (c' := 2) (by kernel_rfl) ?_
    refine XR.done (by kernel_rfl) ?_
    show XQ _ _ _ _ _ _ _ _
    refine XQ.ret (by kernel_rfl) ?_
    have h := Option.some.inj h
    subst h
    exact ⟨fun i q => (by cases q), .bool true, (by kernel_rfl), rfl⟩
  | false =>
    have h := cF b1 h
    refine XR.run E0_ok 1 5 [4] rfl (σ' := [(4, .bool false)]) (h' := [(1, .cells (rowC (encI .i64) []) 0 3 1), (0, .cells (rowC encP a) z0 y0 2)]) (c' := 2) (by kernel_rfl) ?_
    refine XR.done (by kernel_rfl) ?_
    show XQ _ _ _ _ _ _ _ _
    refine XQ.ret (by kernel_rfl) ?_
    refine ⟨fun i q => (by cases q), .bool false, (by kernel_rfl), ?_⟩
    refine XR.conv (σ' := [(0, .slice (some ⟨0, 0, none⟩) a.length a.length), (1, .int .i64 b), (10, .bool false)]) (h' := [(1, .cells (rowC (encI .i64) []) 0 3 1), (0, .cells (rowC encP a) z0 y0 2)]) (c' := 2) ?_ (by kernel_rfl)
    refine XR.done (by kernel_rfl) ?_
    show XQ _ _ _ _ _ _ _ _
    refine XQ.cond (s := (.tmp 10)) (b := false) (by kernel_rfl) (by kernel_rfl) (fun q => by cases q) (fun _ => ?_)
    refine XQ.skip (by kernel_rfl) ?_
    show XQ _ _ _ _ _ _ _ _
    refine XQ.seq E0_ok (by kernel_rfl) ?_
    refine XQ.region (by kernel_rfl) ?_
    refine XR.run E0_ok 1 2 [0, 1, 13, 14] rfl (σ' := [(0, .slice (some ⟨0, 0, none⟩) a.length a.length), (1, .int .i64 b), (13, .slice (some ⟨0, 0, none⟩) a.length a.length), (14, .int .i64 b)]) (h' := [(1, .cells (rowC (encI .i64) []) 0 3 1), (0, .cells (rowC encP a) z0 y0 2)]) (c' := 2) (by kernel_rfl) ?_
    obtain ⟨r2, r2_h, h⟩ := bS h
    refine XR.call E0_ok [0, 1, 15] rfl (K := 33) (args := [.slice (some ⟨0, 0, none⟩) a.length a.length, .int .i64 b]) (d := (some (path 12 15))) (by kernel_rfl) (KC.liftH (n0 := 1) (m := 1) (args0 := [.slice (some ⟨0, 0, none⟩) a.length a.length, .int .i64 b]) (h0 := [(0, .cells (rowC encP a) (z0 + ((rowC encP a).length + 1)) y0 2)]) (V := .tuple #[.slice (some ⟨1, 0, none⟩) r2.1.length r2.1.length, .int .i64 r2.2]) (V2 := .tuple #[.slice (some ⟨2, 0, none⟩) r2.1.length r2.1.length, .int .i64 r2.2]) (H := [(1, .cells (rowC (encI .i64) r2.1) 0 3 1)]) (H2 := [(2, .cells (rowC (encI .i64) r2.1) 0 3 1)]) [0] [2, 3, 1] (f33_ok m (z0 + ((rowC encP a).length + 1)) y0 a b r2 r2_h) (by rfl) (by decide) rfl (by kernel_rfl) ⟨⟨_, _, rfl, rfl, .inl ⟨rfl, rowC_scal encP_ok _⟩⟩, trivial⟩ (by decide) (by decide) (by kernel_rfl) ⟨⟨_, _, rfl, rfl, .inl ⟨rfl, rowC_scal (encI_ok .i64) _⟩⟩, trivial⟩ (by rfl)) ?_
    rintro _ _ _ ⟨rfl, rfl, rfl⟩
    refine XR.conv (σ' := [(0, .slice (some ⟨0, 0, none⟩) a.length a.length), (1, .int .i64 b), (15, .tuple #[.slice (some ⟨2, 0, none⟩) r2.1.length r2.1.length, .int .i64 r2.2])]) (h' := [(2, .cells (rowC (encI .i64) r2.1) 0 3 1), (1, .cells (rowC (encI .i64) []) 0 3 1), (0, .cells (rowC encP a) z0 y0 2)]) (c' := 3) ?_ (by kernel_rfl)
    refine XR.run E0_ok 1 5 [0, 1, 5, 6] rfl (σ' := [(0, .slice (some ⟨0, 0, none⟩) a.length a.length), (1, .int .i64 b), (5, .slice (some ⟨2, 0, none⟩) r2.1.length r2.1.length), (6, .int .i64 r2.2)]) (h' := [(2, .cells (rowC (encI .i64) r2.1) 0 3 1), (1, .cells (rowC (encI .i64) []) 0 3 1), (0, .cells (rowC encP a) z0 y0 2)]) (c' := 3) (by kernel_rfl) ?_
    refine XR.done (by kernel_rfl) ?_
    show XQ _ _ _ _ _ _ _ _
    refine XQ.seq E0_ok (by kernel_rfl) ?_
    refine XQ.region (by kernel_rfl) ?_
    refine XR.run E0_ok 1 1 [1, 5, 6, 19] rfl (σ' := [(1, .int .i64 b), (5, .slice (some ⟨2, 0, none⟩) r2.1.length r2.1.length), (6, .int .i64 r2.2), (19, .slice (some ⟨0, 0, none⟩) a.length a.length)]) (h' := [(2, .cells (rowC (encI .i64) r2.1) 0 3 1), (1, .cells (rowC (encI .i64) []) 0 3 1), (0, .cells (rowC encP a) z0 y0 2)]) (c' := 3) (by kernel_rfl) ?_
    obtain ⟨r3, r3_h, h⟩ := bS h
    refine XR.call E0_ok [1, 5, 6, 20] rfl (K := 17) (args := [.slice (some ⟨0, 0, none⟩) a.length a.length]) (d := (some (path 12 20))) (by kernel_rfl) (KC.liftH (n0 := 1) (m := 1) (args0 := [.slice (some ⟨0, 0, none⟩) a.length a.length]) (h0 := [(0, .cells (rowC encP a) (z0 + ((rowC encP a).length + 1)) y0 2)]) (V := .slice (some ⟨1, 0, none⟩) r3.length r3.length) (V2 := .slice (some ⟨3, 0, none⟩) r3.length r3.length) (H := [(1, .cells (rowC encP r3) 0 83 2)]) (H2 := [(3, .cells (rowC encP r3) 0 83 2)]) [0] [2, 3, 4, 1] (f17_ok m (z0 + ((rowC encP a).length + 1)) y0 a r3 r3_h) (by rfl) (by decide) rfl (by kernel_rfl) ⟨⟨_, _, rfl, rfl, .inl ⟨rfl, rowC_scal encP_ok _⟩⟩, trivial⟩ (by decide) (by decide) (by kernel_rfl) ⟨⟨_, _, rfl, rfl, .inl ⟨rfl, rowC_scal encP_ok _⟩⟩, trivial⟩ (by rfl)) ?_
    rintro _ _ _ ⟨rfl, rfl, rfl⟩
    refine XR.conv (σ' := [(1, .int .i64 b), (5, .slice (some ⟨2, 0, none⟩) r2.1.length r2.1.length), (6, .int .i64 r2.2), (20, .slice (some ⟨3, 0, none⟩) r3.length r3.length)]) (h' := [(3, .cells (rowC encP r3) 0 83 2), (2, .cells (rowC (encI .i64) r2.1) 0 3 1), (1, .cells (rowC (encI .i64) []) 0 3 1), (0, .cells (rowC encP a) z0 y0 2)]) (c' := 4) ?_ (by kernel_rfl)
    refine XR.run E0_ok 1 1 [5, 6, 20, 21] rfl (σ' := [(5, .slice (some ⟨2, 0, none⟩) r2.1.length r2.1.length), (6, .int .i64 r2.2), (20, .slice (some ⟨3, 0, none⟩) r3.length r3.length), (21, .int .i64 b)]) (h' := [(3, .cells (rowC encP r3) 0 83 2), (2, .cells (rowC (encI .i64) r2.1) 0 3 1), (1, .cells (rowC (encI .i64) []) 0 3 1), (0, .cells (rowC encP a) z0 y0 2)]) (c' := 4) (by kernel_rfl) ?_
    obtain ⟨r4, r4_h, h⟩ := bS h
    refine XR.call E0_ok [5, 6, 22] rfl (K := 34) (args := [.slice (some ⟨3, 0, none⟩) r3.length r3.length, .int .i64 b]) (d := (some (path 12 22))) (by kernel_rfl) (KC.liftH (n0 := 1) (m := 1) (args0 := [.slice (some ⟨0, 0, none⟩) r3.length r3.length, .int .i64 b]) (h0 := [(0, .cells (rowC encP r3) (0 + ((rowC encP r3).length + 1)) 83 2)]) (V := .tuple #[.slice (some ⟨1, 0, none⟩) r4.1.length r4.1.length, .int .i64 r4.2]) (V2 := .tuple #[.slice (some ⟨4, 0, none⟩) r4.1.length r4.1.length, .int .i64 r4.2]) (H := [(1, .cells (rowC (encI .i64) r4.1) 0 3 1)]) (H2 := [(4, .cells (rowC (encI .i64) r4.1) 0 3 1)]) [3] [2, 3, 4, 5, 1] (f34_ok m (0 + ((rowC encP r3).length + 1)) 83 r3 b r4 r4_h) (by rfl) (by decide) rfl (by kernel_rfl) ⟨⟨_, _, rfl, rfl, .inl ⟨rfl, rowC_scal encP_ok _⟩⟩, trivial⟩ (by decide) (by decide) (by kernel_rfl) ⟨⟨_, _, rfl, rfl, .inl ⟨rfl, rowC_scal (encI_ok .i64) _⟩⟩, trivial⟩ (by rfl)) ?_
    rintro _ _ _ ⟨rfl, rfl, rfl⟩
    refine XR.conv (σ' := [(5, .slice (some ⟨2, 0, none⟩) r2.1.length r2.1.length), (6, .int .i64 r2.2), (22, .tuple #[.slice (some ⟨4, 0, none⟩) r4.1.length r4.1.length, .int .i64 r4.2])]) (h' := [(4, .cells (rowC (encI .i64) r4.1) 0 3 1), (3, .cells (rowC encP r3) 0 83 2), (2, .cells (rowC (encI .i64) r2.1) 0 3 1), (1, .cells (rowC (encI .i64) []) 0 3 1), (0, .cells (rowC encP a) z0 y0 2)]) (c' := 5) ?_ (by kernel_rfl)
    refine XR.run E0_ok 1 5 [5, 6, 7, 8] rfl (σ' := [(5, .slice (some ⟨2, 0, none⟩) r2.1.length r2.1.length), (6, .int .i64 r2.2), (7, .slice (some ⟨4, 0, none⟩) r4.1.length r4.1.length), (8, .int .i64 r4.2)]) (h' := [(4, .cells (rowC (encI .i64) r4.1) 0 3 1), (3, .cells (rowC encP r3) 0 83 2), (2, .cells (rowC (encI .i64) r2.1) 0 3 1), (1, .cells (rowC (encI .i64) []) 0 3 1), (0, .cells (rowC encP a) z0 y0 2)]) (c' := 5) (by kernel_rfl) ?_
    refine XR.done (by kernel_rfl) ?_
    show XQ _ _ _ _ _ _ _ _
    refine XQ.seq E0_ok (by kernel_rfl) ?_
    refine XQ.region (by kernel_rfl) ?_
    refine XR.run E0_ok 1 2 [6, 8, 25, 26] rfl (σ' := [(6, .int .i64 r2.2), (8, .int .i64 r4.2), (25, .slice (some ⟨2, 0, none⟩) r2.1.length r2.1.length), (26, .slice (some ⟨4, 0, none⟩) r4.1.length r4.1.length)]) (h' := [(4, .cells (rowC (encI .i64) r4.1) 0 3 1), (3, .cells (rowC encP r3) 0 83 2), (2, .cells (rowC (encI .i64) r2.1) 0 3 1), (1, .cells (rowC (encI .i64) []) 0 3 1), (0, .cells (rowC encP a) z0 y0 2)]) (c' := 5) (by kernel_rfl) ?_
    obtain ⟨r5, r5_h, h⟩ := bS h
    refine XR.call E0_ok [6, 8, 27] rfl (K := 20) (args := [.slice (some ⟨2, 0, none⟩) r2.1.length r2.1.length, .slice (some ⟨4, 0, none⟩) r4.1.length r4.1.length]) (d := (some (path 12 27))) (by kernel_rfl) (KQ.call (KC.quiet E0_ok (args0 := [.slice (some ⟨0, 0, none⟩) r2.1.length r2.1.length, .slice (some ⟨1, 0, none⟩) r4.1.length r4.1.length]) (h0 := [(1, .cells (rowC (encI .i64) r4.1) (0 + ((rowC (encI .i64) r4.1).length + 1)) 3 1), (0, .cells (rowC (encI .i64) r2.1) (0 + ((rowC (encI .i64) r2.1).length + 1)) 3 1)]) (n := 2) (V := .bool r5) [2, 4] (f20_ok m (0 + ((rowC (encI .i64) r2.1).length + 1)) 3 (0 + ((rowC (encI .i64) r4.1).length + 1)) 3 r2.1 r4.1 r5 r5_h) rfl (by rfl) (by decide) rfl (by kernel_rfl) ⟨⟨_, _, rfl, rfl, .inl ⟨rfl, rowC_scal (encI_ok .i64) _⟩⟩, ⟨_, _, rfl, rfl, .inl ⟨rfl, rowC_scal (encI_ok .i64) _⟩⟩, trivial⟩) rfl) ?_
    rintro _ _ _ ⟨rfl, rfl, rfl⟩
    refine XR.conv (σ' := [(6, .int .i64 r2.2), (8, .int .i64 r4.2), (27, .bool r5)]) (h' := [(4, .cells (rowC (encI .i64) r4.1) 0 3 1), (3, .cells (rowC encP r3) 0 83 2), (2, .cells (rowC (encI .i64) r2.1) 0 3 1), (1, .cells (rowC (encI .i64) []) 0 3 1), (0, .cells (rowC encP a) z0 y0 2)]) (c' := 5) ?_ (by kernel_rfl)
    refine XR.run E0_ok 1 1 [6, 8, 28] rfl (σ' := [(6, .int .i64 r2.2), (8, .int .i64 r4.2), (28, .bool r5)]) (h' := [(4, .cells (rowC (encI .i64) r4.1) 0 3 1), (3, .cells (rowC encP r3) 0 83 2), (2, .cells (rowC (encI .i64) r2.1) 0 3 1), (1, .cells (rowC (encI .i64) []) 0 3 1), (0, .cells (rowC encP a) z0 y0 2)]) (c' := 5) (by kernel_rfl) ?_
    cases b2 : (r5 : Bool) with
    | true =>
      have h := cT b2 h
      refine XR.run E0_ok 1 5 [33] rfl (σ' := [(33, .bool (r2.2 == r4.2))]) (h' := [(4, .cells (rowC (encI .i64) r4.1) 0 3 1), (3, .cells (rowC encP r3) 0 83 2), (2, .cells (rowC (encI .i64) r2.1) 0 3 1), (1, .cells (rowC (encI .i64) []) 0 3 1), (0, .cells (rowC encP a) z0 y0 2)]) (c' := 5) (by kernel_rfl) ?_
      cases b3 : (r2.2 == r4.2 : Bool) with
      | true =>
        have h := cT b3 h
        refine XR.call E0_ok [33, 34] rfl (K := 16) (args := []) (d := (some (path 12 34))) (by kernel_rfl) (KC.of_calls E0_ok (F := Proofs.Try.f16) (v := .bool true) (by kernel_rfl) rfl rfl (works_ok)) ?_
        rintro _ _ _ ⟨rfl, rfl, rfl⟩
        refine XR.conv (σ' := [(33, .bool true), (34, .bool true)]) (h' := [(4, .cells (rowC (encI .i64) r4.1) 0 3 1), (3, .cells (rowC encP r3) 0 83 2), (2, .cells (rowC (encI .i64) r2.1) 0 3 1), (1, .cells (rowC (encI .i64) []) 0 3 1), (0, .cells (rowC encP a) z0 y0 2)]) (c' := 5) ?_ (by kernel_rfl)
        refine XR.run E0_ok 1 2 [4] rfl (σ' := [(4, .bool true)]) (h' := [(4, .cells (rowC (encI .i64) r4.1) 0 3 1), (3, .cells (rowC encP r3) 0 83 2), (2, .cells (rowC (encI .i64) r2.1) 0 3 1), (1, .cells (rowC (encI .i64) []) 0 3 1), (0, .cells (rowC encP a) z0 y0 2)]) (c' := 5) (by kernel_rfl) ?_
        refine XR.done (by kernel_rfl) ?_
        show XQ _ _ _ _ _ _ _ _
        refine XQ.ret (by kernel_rfl) ?_
        have h := Option.some.inj h
        subst h
        exact ⟨fun i q => (by cases q), .bool true, (by kernel_rfl), rfl⟩
      | false =>
        have h := cF b3 h
        refine XR.run E0_ok 1 3 [4] rfl (σ' := [(4, .bool false)]) (h' := [(4, .cells (rowC (encI .i64) r4.1) 0 3 1), (3, .cells (rowC encP r3) 0 83 2), (2, .cells (rowC (encI .i64) r2.1) 0 3 1), (1, .cells (rowC (encI .i64) []) 0 3 1), (0, .cells (rowC encP a) z0 y0 2)]) (c' := 5) (by kernel_rfl) ?_
        refine XR.done (by kernel_rfl) ?_
        show XQ _ _ _ _ _ _ _ _
        refine XQ.ret (by kernel_rfl) ?_
        have h := Option.some.inj h
        subst h
        exact ⟨fun i q => (by cases q), .bool false, (by kernel_rfl), rfl⟩
    | false =>
      have h := cF b2 h
      refine XR.run E0_ok 1 8 [4] rfl (σ' := [(4, .bool false)]) (h' := [(4, .cells (rowC (encI .i64) r4.1) 0 3 1), (3, .cells (rowC encP r3) 0 83 2), (2, .cells (rowC (encI .i64) r2.1) 0 3 1), (1, .cells (rowC (encI .i64) []) 0 3 1), (0, .cells (rowC encP a) z0 y0 2)]) (c' := 5) (by kernel_rfl) ?_
      refine XR.done (by kernel_rfl) ?_
      show XQ _ _ _ _ _ _ _ _
      refine XQ.ret (by kernel_rfl) ?_
      have h := Option.some.inj h
      subst h
      exact ⟨fun i q => (by cases q), .bool false, (by kernel_rfl), rfl⟩

end Go.Xm
