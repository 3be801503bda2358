/- What these functions of the program compute, as functions in Lean, and the proofs that they do: vitolalaw05.WrapEvens. Conditions: none. -/
import Derived.Test.YtagagpkjlkoieaaPn
import Derived.Test.YtagagpkjlkoieaaPp
import Derived.Test.YtagagpkjlkoieaaPf
import Derived.Test.YtagagpkjlkoieaaPg
import Derived.Test.YtagagpkjlkoieaaPd
namespace Go.Xm
open Go.RowKit
set_option linter.unusedVariables false
set_option linter.unusedSimpArgs false
set_option maxRecDepth 20000

/-! vitola/vitolalaw05.WrapEvens -/
noncomputable def f5_C5 : Code := Proofs.Try.f5.body.getD .skip

def f5 (m : Nat) (a : Int) (b : Int) : Option (Bool) :=
  (f37 m a b).bind fun r1 =>
    (f38 m a b).bind fun r2 =>
      (f39 m a b).bind fun r3 =>
        (f40 m a b).bind fun r4 =>
          (f41 m a b).bind fun r5 =>
            (f42 m a b).bind fun r6 =>
              (f35 m r1.1 r2.1).bind fun r7 =>
                cond (r7) (
                  cond (r1.2 == r2.2) (
                    (f35 m r3.1 r4.1).bind fun r8 =>
                      cond (r8) (
                        cond (r3.2 == r4.2) (
                          (f35 m r5.1 r6.1).bind fun r9 =>
                            cond (r9) (
                              cond (r5.2 == r6.2) (
                                some (true)
                              ) (
                                some (false)
                              )
                            ) (
                              some (false)
                            )
                        ) (
                          some (false)
                        )
                      ) (
                        some (false)
                      )
                  ) (
                    some (false)
                  )
                ) (
                  some (false)
                )

theorem f5_ok (m : Nat) (a : Int) (b : Int) (o : Bool) (h : f5 m a b = some o) (w : World) (hI : anyInv w) : Calls Proofs.Try.prog 5 #[.int .i64 a, .int .i64 b] w fun e w' => e = .returned (.bool o) ∧ Below w.heap.size w w' := by
  refine KC.calls (E := E0) (args := [.int .i64 a, .int .i64 b]) (v := .bool o) rfl rfl (KC.bodyN E0_ok (F := Proofs.Try.f5) (by kernel_rfl) (code := f5_C5) (by kernel_rfl) (nt := 84) (by kernel_rfl) (rs := [.tmp 4]) (by kernel_rfl) (by kernel_rfl) (σ := [(0, .int .i64 a), (1, .int .i64 b)]) (by kernel_rfl) ?_) w (anyInv_size hI) hI
  unfold f5 at h
  refine XQ.seq E0_ok (by kernel_rfl) ?_
  refine XQ.region (by kernel_rfl) ?_
  refine XR.run E0_ok 1 1 [0, 1] rfl (σ' := [(0, .int .i64 a), (1, .int .i64 b)]) (h' := []) (c' := 0) (by kernel_rfl) ?_
  refine XR.done (by kernel_rfl) ?_
  show XQ _ _ _ _ _ _ _ _
  refine XQ.seq E0_ok (by kernel_rfl) ?_
  refine XQ.region (by kernel_rfl) ?_
  refine XR.run E0_ok 1 2 [0, 1, 18, 19] rfl (σ' := [(0, .int .i64 a), (1, .int .i64 b), (18, .int .i64 a), (19, .int .i64 b)]) (h' := []) (c' := 0) (by kernel_rfl) ?_
  obtain ⟨r1, r1_h, h⟩ := bS h
  refine XR.call E0_ok [0, 1, 20] rfl (K := 37) (args := [.int .i64 a, .int .i64 b]) (d := (some (path 12 20))) (by kernel_rfl) (KC.lift (V2 := .tuple #[.slice (some ⟨0, 0, none⟩) r1.1.length r1.1.length, .int .i64 r1.2]) (H2 := [(0, .cells (rowC (encI .i64) r1.1) 0 3 1)]) [0] (f37_ok m a b r1 r1_h) rfl (by decide) (by decide) (by kernel_rfl) ⟨⟨_, _, rfl, rfl, .inl ⟨rfl, rowC_scal (encI_ok .i64) _⟩⟩, trivial⟩ (by rfl)) ?_
  rintro _ _ _ ⟨rfl, rfl, rfl⟩
  refine XR.conv (σ' := [(0, .int .i64 a), (1, .int .i64 b), (20, .tuple #[.slice (some ⟨0, 0, none⟩) r1.1.length r1.1.length, .int .i64 r1.2])]) (h' := [(0, .cells (rowC (encI .i64) r1.1) 0 3 1)]) (c' := 1) ?_ (by kernel_rfl)
  refine XR.run E0_ok 1 5 [0, 1, 5, 6] rfl (σ' := [(0, .int .i64 a), (1, .int .i64 b), (5, .slice (some ⟨0, 0, none⟩) r1.1.length r1.1.length), (6, .int .i64 r1.2)]) (h' := [(0, .cells (rowC (encI .i64) r1.1) 0 3 1)]) (c' := 1) (by kernel_rfl) ?_
  refine XR.done (by kernel_rfl) ?_
  show XQ _ _ _ _ _ _ _ _
  refine XQ.seq E0_ok (by kernel_rfl) ?_
  refine XQ.region (by kernel_rfl) ?_
  refine XR.run E0_ok 1 2 [0, 1, 5, 6, 24, 25] rfl (σ' := [(0, .int .i64 a), (1, .int .i64 b), (5, .slice (some ⟨0, 0, none⟩) r1.1.length r1.1.length), (6, .int .i64 r1.2), (24, .int .i64 a), (25, .int .i64 b)]) (h' := [(0, .cells (rowC (encI .i64) r1.1) 0 3 1)]) (c' := 1) (by kernel_rfl) ?_
  obtain ⟨r2, r2_h, h⟩ := bS h
  refine XR.call E0_ok [0, 1, 5, 6, 26] rfl (K := 38) (args := [.int .i64 a, .int .i64 b]) (d := (some (path 12 26))) (by kernel_rfl) (KC.lift (V2 := .tuple #[.slice (some ⟨1, 0, none⟩) r2.1.length r2.1.length, .int .i64 r2.2]) (H2 := [(1, .cells (rowC (encI .i64) r2.1) 0 3 1)]) [1, 0] (f38_ok m a b r2 r2_h) rfl (by decide) (by decide) (by kernel_rfl) ⟨⟨_, _, rfl, rfl, .inl ⟨rfl, rowC_scal (encI_ok .i64) _⟩⟩, trivial⟩ (by rfl)) ?_
  rintro _ _ _ ⟨rfl, rfl, rfl⟩
  refine XR.conv (σ' := [(0, .int .i64 a), (1, .int .i64 b), (5, .slice (some ⟨0, 0, none⟩) r1.1.length r1.1.length), (6, .int .i64 r1.2), (26, .tuple #[.slice (some ⟨1, 0, none⟩) r2.1.length r2.1.length, .int .i64 r2.2])]) (h' := [(1, .cells (rowC (encI .i64) r2.1) 0 3 1), (0, .cells (rowC (encI .i64) r1.1) 0 3 1)]) (c' := 2) ?_ (by kernel_rfl)
  refine XR.run E0_ok 1 5 [0, 1, 5, 6, 7, 8] rfl (σ' := [(0, .int .i64 a), (1, .int .i64 b), (5, .slice (some ⟨0, 0, none⟩) r1.1.length r1.1.length), (6, .int .i64 r1.2), (7, .slice (some ⟨1, 0, none⟩) r2.1.length r2.1.length), (8, .int .i64 r2.2)]) (h' := [(1, .cells (rowC (encI .i64) r2.1) 0 3 1), (0, .cells (rowC (encI .i64) r1.1) 0 3 1)]) (c' := 2) (by kernel_rfl) ?_
  refine XR.done (by kernel_rfl) ?_
  show XQ _ _ _ _ _ _ _ _
  refine XQ.seq E0_ok (by kernel_rfl) ?_
  refine XQ.region (by kernel_rfl) ?_
  refine XR.run E0_ok 1 2 [0, 1, 5, 6, 7, 8, 30, 31] rfl (σ' := [(0, .int .i64 a), (1, .int .i64 b), (5, .slice (some ⟨0, 0, none⟩) r1.1.length r1.1.length), (6, .int .i64 r1.2), (7, .slice (some ⟨1, 0, none⟩) r2.1.length r2.1.length), (8, .int .i64 r2.2), (30, .int .i64 a), (31, .int .i64 b)]) (h' := [(1, .cells (rowC (encI .i64) r2.1) 0 3 1), (0, .cells (rowC (encI .i64) r1.1) 0 3 1)]) (c' := 2) (by kernel_rfl) ?_
  obtain ⟨r3, r3_h, h⟩ := bS h
  refine XR.call E0_ok [0, 1, 5, 6, 7, 8, 32] rfl (K := 39) (args := [.int .i64 a, .int .i64 b]) (d := (some (path 12 32))) (by kernel_rfl) (KC.lift (V2 := .tuple #[.slice (some ⟨2, 0, none⟩) r3.1.length r3.1.length, .int .i64 r3.2]) (H2 := [(2, .cells (rowC (encI .i64) r3.1) 0 3 1)]) [1, 2, 0] (f39_ok m a b r3 r3_h) rfl (by decide) (by decide) (by kernel_rfl) ⟨⟨_, _, rfl, rfl, .inl ⟨rfl, rowC_scal (encI_ok .i64) _⟩⟩, trivial⟩ (by rfl)) ?_
  rintro _ _ _ ⟨rfl, rfl, rfl⟩
  refine XR.conv (σ' := [(0, .int .i64 a), (1, .int .i64 b), (5, .slice (some ⟨0, 0, none⟩) r1.1.length r1.1.length), (6, .int .i64 r1.2), (7, .slice (some ⟨1, 0, none⟩) r2.1.length r2.1.length), (8, .int .i64 r2.2), (32, .tuple #[.slice (some ⟨2, 0, none⟩) r3.1.length r3.1.length, .int .i64 r3.2])]) (h' := [(2, .cells (rowC (encI .i64) r3.1) 0 3 1), (1, .cells (rowC (encI .i64) r2.1) 0 3 1), (0, .cells (rowC (encI .i64) r1.1) 0 3 1)]) (c' := 3) ?_ (by kernel_rfl)
  refine XR.run E0_ok 1 5 [0, 1, 5, 6, 7, 8, 9, 10] rfl (σ' := [(0, .int .i64 a), (1, .int .i64 b), (5, .slice (some ⟨0, 0, none⟩) r1.1.length r1.1.length), (6, .int .i64 r1.2), (7, .slice (some ⟨1, 0, none⟩) r2.1.length r2.1.length), (8, .int .i64 r2.2), (9, .slice (some ⟨2, 0, none⟩) r3.1.length r3.1.length), (10, .int .i64 r3.2)]) (h' := [(2, .cells (rowC (encI .i64) r3.1) 0 3 1), (1, .cells (rowC (encI .i64) r2.1) 0 3 1), (0, .cells (rowC (encI .i64) r1.1) 0 3 1)]) (c' := 3) (by kernel_rfl) ?_
  refine XR.done (by kernel_rfl) ?_
  show XQ _ _ _ _ _ _ _ _
  refine XQ.seq E0_ok (by kernel_rfl) ?_
  refine XQ.region (by kernel_rfl) ?_
  refine XR.run E0_ok 1 2 [0, 1, 5, 6, 7, 8, 9, 10, 36, 37] rfl (σ' := [(0, .int .i64 a), (1, .int .i64 b), (5, .slice (some ⟨0, 0, none⟩) r1.1.length r1.1.length), (6, .int .i64 r1.2), (7, .slice (some ⟨1, 0, none⟩) r2.1.length r2.1.length), (8, .int .i64 r2.2), (9, .slice (some ⟨2, 0, none⟩) r3.1.length r3.1.length), (10, .int .i64 r3.2), (36, .int .i64 a), (37, .int .i64 b)]) (h' := [(2, .cells (rowC (encI .i64) r3.1) 0 3 1), (1, .cells (rowC (encI .i64) r2.1) 0 3 1), (0, .cells (rowC (encI .i64) r1.1) 0 3 1)]) (c' := 3) (by kernel_rfl) ?_
  obtain ⟨r4, r4_h, h⟩ := bS h
  refine XR.call E0_ok [0, 1, 5, 6, 7, 8, 9, 10, 38] rfl (K := 40) (args := [.int .i64 a, .int .i64 b]) (d := (some (path 12 38))) (by kernel_rfl) (KC.lift (V2 := .tuple #[.slice (some ⟨3, 0, none⟩) r4.1.length r4.1.length, .int .i64 r4.2]) (H2 := [(3, .cells (rowC (encI .i64) r4.1) 0 3 1)]) [1, 2, 3, 0] (f40_ok m a b r4 r4_h) rfl (by decide) (by decide) (by kernel_rfl) ⟨⟨_, _, rfl, rfl, .inl ⟨rfl, rowC_scal (encI_ok .i64) _⟩⟩, trivial⟩ (by rfl)) ?_
  rintro _ _ _ ⟨rfl, rfl, rfl⟩
  refine XR.conv (σ' := [(0, .int .i64 a), (1, .int .i64 b), (5, .slice (some ⟨0, 0, none⟩) r1.1.length r1.1.length), (6, .int .i64 r1.2), (7, .slice (some ⟨1, 0, none⟩) r2.1.length r2.1.length), (8, .int .i64 r2.2), (9, .slice (some ⟨2, 0, none⟩) r3.1.length r3.1.length), (10, .int .i64 r3.2), (38, .tuple #[.slice (some ⟨3, 0, none⟩) r4.1.length r4.1.length, .int .i64 r4.2])]) (h' := [(3, .cells (rowC (encI .i64) r4.1) 0 3 1), (2, .cells (rowC (encI .i64) r3.1) 0 3 1), (1, .cells (rowC (encI .i64) r2.1) 0 3 1), (0, .cells (rowC (encI .i64) r1.1) 0 3 1)]) (c' := 4) ?_ (by kernel_rfl)
  refine XR.run E0_ok 1 5 [0, 1, 5, 6, 7, 8, 9, 10, 11, 12] rfl (σ' := [(0, .int .i64 a), (1, .int .i64 b), (5, .slice (some ⟨0, 0, none⟩) r1.1.length r1.1.length), (6, .int .i64 r1.2), (7, .slice (some ⟨1, 0, none⟩) r2.1.length r2.1.length), (8, .int .i64 r2.2), (9, .slice (some ⟨2, 0, none⟩) r3.1.length r3.1.length), (10, .int .i64 r3.2), (11, .slice (some ⟨3, 0, none⟩) r4.1.length r4.1.length), (12, .int .i64 r4.2)]) (h' := [(3, .cells (rowC (encI .i64) r4.1) 0 3 1), (2, .cells (rowC (encI .i64) r3.1) 0 3 1), (1, .cells (rowC (encI .i64) r2.1) 0 3 1), (0, .cells (rowC (encI .i64) r1.1) 0 3 1)]) (c' := 4) (by kernel_rfl) ?_
  refine XR.done (by kernel_rfl) ?_
  show XQ _ _ _ _ _ _ _ _
  refine XQ.seq E0_ok (by kernel_rfl) ?_
  refine XQ.region (by kernel_rfl) ?_
  refine XR.run E0_ok 1 2 [0, 1, 5, 6, 7, 8, 9, 10, 11, 12, 42, 43] rfl (σ' := [(0, .int .i64 a), (1, .int .i64 b), (5, .slice (some ⟨0, 0, none⟩) r1.1.length r1.1.length), (6, .int .i64 r1.2), (7, .slice (some ⟨1, 0, none⟩) r2.1.length r2.1.length), (8, .int .i64 r2.2), (9, .slice (some ⟨2, 0, none⟩) r3.1.length r3.1.length), (10, .int .i64 r3.2), (11, .slice (some ⟨3, 0, none⟩) r4.1.length r4.1.length), (12, .int .i64 r4.2), (42, .int .i64 a), (43, .int .i64 b)]) (h' := [(3, .cells (rowC (encI .i64) r4.1) 0 3 1), (2, .cells (rowC (encI .i64) r3.1) 0 3 1), (1, .cells (rowC (encI .i64) r2.1) 0 3 1), (0, .cells (rowC (encI .i64) r1.1) 0 3 1)]) (c' := 4) (by kernel_rfl) ?_
  obtain ⟨r5, r5_h, h⟩ := bS h
  refine XR.call E0_ok [0, 1, 5, 6, 7, 8, 9, 10, 11, 12, 44] rfl (K := 41) (args := [.int .i64 a, .int .i64 b]) (d := (some (path 12 44))) (by kernel_rfl) (KC.lift (V2 := .tuple #[.slice (some ⟨4, 0, none⟩) r5.1.length r5.1.length, .int .i64 r5.2]) (H2 := [(4, .cells (rowC (encI .i64) r5.1) 0 3 1)]) [1, 2, 3, 4, 0] (f41_ok m a b r5 r5_h) rfl (by decide) (by decide) (by kernel_rfl) ⟨⟨_, _, rfl, rfl, .inl ⟨rfl, rowC_scal (encI_ok .i64) _⟩⟩, trivial⟩ (by rfl)) ?_
  rintro _ _ _ ⟨rfl, rfl, rfl⟩
  refine XR.conv (σ' := [(0, .int .i64 a), (1, .int .i64 b), (5, .slice (some ⟨0, 0, none⟩) r1.1.length r1.1.length), (6, .int .i64 r1.2), (7, .slice (some ⟨1, 0, none⟩) r2.1.length r2.1.length), (8, .int .i64 r2.2), (9, .slice (some ⟨2, 0, none⟩) r3.1.length r3.1.length), (10, .int .i64 r3.2), (11, .slice (some ⟨3, 0, none⟩) r4.1.length r4.1.length), (12, .int .i64 r4.2), (44, .tuple #[.slice (some ⟨4, 0, none⟩) r5.1.length r5.1.length, .int .i64 r5.2])]) (h' := [(4, .cells (rowC (encI .i64) r5.1) 0 3 1), (3, .cells (rowC (encI .i64) r4.1) 0 3 1), (2, .cells (rowC (encI .i64) r3.1) 0 3 1), (1, .cells (rowC (encI .i64) r2.1) 0 3 1), (0, .cells (rowC (encI .i64) r1.1) 0 3 1)]) (c' := 5) ?_ (by kernel_rfl)
  refine XR.run E0_ok 1 5 [0, 1, 5, 6, 7, 8, 9, 10, 11, 12, 13, 14] rfl (σ' := [(0, .int .i64 a), (1, .int .i64 b), (5, .slice (some ⟨0, 0, none⟩) r1.1.length r1.1.length), (6, .int .i64 r1.2), (7, .slice (some ⟨1, 0, none⟩) r2.1.length r2.1.length), (8, .int .i64 r2.2), (9, .slice (some ⟨2, 0, none⟩) r3.1.length r3.1.length), (10, .int .i64 r3.2), (11, .slice (some ⟨3, 0, none⟩) r4.1.length r4.1.length), (12, .int .i64 r4.2), (13, .slice (some ⟨4, 0, none⟩) r5.1.length r5.1.length), (14, .int .i64 r5.2)]) (h' := [(4, .cells (rowC (encI .i64) r5.1) 0 3 1), (3, .cells (rowC (encI .i64) r4.1) 0 3 1), (2, .cells (rowC (encI .i64) r3.1) 0 3 1), (1, .cells (rowC (encI .i64) r2.1) 0 3 1), (0, .cells (rowC (encI .i64) r1.1) 0 3 1)]) (c' := 5) (by kernel_rfl) ?_
  refine XR.done (by kernel_rfl) ?_
  show XQ _ _ _ _ _ _ _ _
  refine XQ.seq E0_ok (by kernel_rfl) ?_
  refine XQ.region (by kernel_rfl) ?_
  refine XR.run E0_ok 1 2 [5, 6, 7, 8, 9, 10, 11, 12, 13, 14, 48, 49] rfl (σ' := [(5, .slice (some ⟨0, 0, none⟩) r1.1.length r1.1.length), (6, .int .i64 r1.2), (7, .slice (some ⟨1, 0, none⟩) r2.1.length r2.1.length), (8, .int .i64 r2.2), (9, .slice (some ⟨2, 0, none⟩) r3.1.length r3.1.length), (10, .int .i64 r3.2), (11, .slice (some ⟨3, 0, none⟩) r4.1.length r4.1.length), (12, .int .i64 r4.2), (13, .slice (some ⟨4, 0, none⟩) r5.1.length r5.1.length), (14, .int .i64 r5.2), (48, .int .i64 a), (49, .int .i64 b)]) (h' := [(4, .cells (rowC (encI .i64) r5.1) 0 3 1), (3, .cells (rowC (encI .i64) r4.1) 0 3 1), (2, .cells (rowC (encI .i64) r3.1) 0 3 1), (1, .cells (rowC (encI .i64) r2.1) 0 3 1), (0, .cells (rowC (encI .i64) r1.1) 0 3 1)]) (c' := 5) (by kernel_rfl) ?_
  obtain ⟨r6, r6_h, h⟩ := bS h
  refine XR.call E0_ok [5, 6, 7, 8, 9, 10, 11, 12, 13, 14, 50] rfl (K := 42) (args := [.int .i64 a, .int .i64 b]) (d := (some (path 12 50))) (by kernel_rfl) (KC.lift (V2 := .tuple #[.slice (some ⟨5, 0, none⟩) r6.1.length r6.1.length, .int .i64 r6.2]) (H2 := [(5, .cells (rowC (encI .i64) r6.1) 0 3 1)]) [1, 2, 3, 4, 5, 0] (f42_ok m a b r6 r6_h) rfl (by decide) (by decide) (by kernel_rfl) ⟨⟨_, _, rfl, rfl, .inl ⟨rfl, rowC_scal (encI_ok .i64) _⟩⟩, trivial⟩ (by rfl)) ?_
  rintro _ _ _ ⟨rfl, rfl, rfl⟩
  refine XR.conv (σ' := [(5, .slice (some ⟨0, 0, none⟩) r1.1.length r1.1.length), (6, .int .i64 r1.2), (7, .slice (some ⟨1, 0, none⟩) r2.1.length r2.1.length), (8, .int .i64 r2.2), (9, .slice (some ⟨2, 0, none⟩) r3.1.length r3.1.length), (10, .int .i64 r3.2), (11, .slice (some ⟨3, 0, none⟩) r4.1.length r4.1.length), (12, .int .i64 r4.2), (13, .slice (some ⟨4, 0, none⟩) r5.1.length r5.1.length), (14, .int .i64 r5.2), (50, .tuple #[.slice (some ⟨5, 0, none⟩) r6.1.length r6.1.length, .int .i64 r6.2])]) (h' := [(5, .cells (rowC (encI .i64) r6.1) 0 3 1), (4, .cells (rowC (encI .i64) r5.1) 0 3 1), (3, .cells (rowC (encI .i64) r4.1) 0 3 1), (2, .cells (rowC (encI .i64) r3.1) 0 3 1), (1, .cells (rowC (encI .i64) r2.1) 0 3 1), (0, .cells (rowC (encI .i64) r1.1) 0 3 1)]) (c' := 6) ?_ (by kernel_rfl)
  refine XR.run E0_ok 1 5 [5, 6, 7, 8, 9, 10, 11, 12, 13, 14, 15, 16] rfl (σ' := [(5, .slice (some ⟨0, 0, none⟩) r1.1.length r1.1.length), (6, .int .i64 r1.2), (7, .slice (some ⟨1, 0, none⟩) r2.1.length r2.1.length), (8, .int .i64 r2.2), (9, .slice (some ⟨2, 0, none⟩) r3.1.length r3.1.length), (10, .int .i64 r3.2), (11, .slice (some ⟨3, 0, none⟩) r4.1.length r4.1.length), (12, .int .i64 r4.2), (13, .slice (some ⟨4, 0, none⟩) r5.1.length r5.1.length), (14, .int .i64 r5.2), (15, .slice (some ⟨5, 0, none⟩) r6.1.length r6.1.length), (16, .int .i64 r6.2)]) (h' := [(5, .cells (rowC (encI .i64) r6.1) 0 3 1), (4, .cells (rowC (encI .i64) r5.1) 0 3 1), (3, .cells (rowC (encI .i64) r4.1) 0 3 1), (2, .cells (rowC (encI .i64) r3.1) 0 3 1), (1, .cells (rowC (encI .i64) r2.1) 0 3 1), (0, .cells (rowC (encI .i64) r1.1) 0 3 1)]) (c' := 6) (by kernel_rfl) ?_
  refine XR.done (by kernel_rfl) ?_
  show XQ _ _ _ _ _ _ _ _
  refine XQ.seq E0_ok (by kernel_rfl) ?_
  refine XQ.region (by kernel_rfl) ?_
  refine XR.run E0_ok 1 2 [6, 8, 9, 10, 11, 12, 13, 14, 15, 16, 53, 54] rfl (σ' := [(6, .int .i64 r1.2), (8, .int .i64 r2.2), (9, .slice (some ⟨2, 0, none⟩) r3.1.length r3.1.length), (10, .int .i64 r3.2), (11, .slice (some ⟨3, 0, none⟩) r4.1.length r4.1.length), (12, .int .i64 r4.2), (13, .slice (some ⟨4, 0, none⟩) r5.1.length r5.1.length), (14, .int .i64 r5.2), (15, .slice (some ⟨5, 0, none⟩) r6.1.length r6.1.length), (16, .int .i64 r6.2), (53, .slice (some ⟨0, 0, none⟩) r1.1.length r1.1.length), (54, .slice (some ⟨1, 0, none⟩) r2.1.length r2.1.length)]) (h' := [(5, .cells (rowC (encI .i64) r6.1) 0 3 1), (4, .cells (rowC (encI .i64) r5.1) 0 3 1), (3, .cells (rowC (encI .i64) r4.1) 0 3 1), (2, .cells (rowC (encI .i64) r3.1) 0 3 1), (1, .cells (rowC (encI .i64) r2.1) 0 3 1), (0, .cells (rowC (encI .i64) r1.1) 0 3 1)]) (c' := 6) (by kernel_rfl) ?_
  obtain ⟨r7, r7_h, h⟩ := bS h
  refine XR.call E0_ok [6, 8, 9, 10, 11, 12, 13, 14, 15, 16, 55] rfl (K := 35) (args := [.slice (some ⟨0, 0, none⟩) r1.1.length r1.1.length, .slice (some ⟨1, 0, none⟩) r2.1.length r2.1.length]) (d := (some (path 12 55))) (by kernel_rfl) (KQ.call (KC.quiet E0_ok (args0 := [.slice (some ⟨0, 0, none⟩) r1.1.length r1.1.length, .slice (some ⟨1, 0, none⟩) r2.1.length r2.1.length]) (h0 := [(1, .cells (rowC (encI .i64) r2.1) (0 + ((rowC (encI .i64) r2.1).length + 1)) 3 1), (0, .cells (rowC (encI .i64) r1.1) (0 + ((rowC (encI .i64) r1.1).length + 1)) 3 1)]) (n := 2) (V := .bool r7) [0, 1] (f35_ok m (0 + ((rowC (encI .i64) r1.1).length + 1)) (0 + ((rowC (encI .i64) r2.1).length + 1)) r1.1 r2.1 r7 r7_h) rfl (by rfl) (by decide) rfl (by kernel_rfl) ⟨⟨_, _, rfl, rfl, .inl ⟨rfl, rowC_scal (encI_ok .i64) _⟩⟩, ⟨_, _, rfl, rfl, .inl ⟨rfl, rowC_scal (encI_ok .i64) _⟩⟩, trivial⟩) rfl) ?_
  rintro _ _ _ ⟨rfl, rfl, rfl⟩
  refine XR.conv (σ' := [(6, .int .i64 r1.2), (8, .int .i64 r2.2), (9, .slice (some ⟨2, 0, none⟩) r3.1.length r3.1.length), (10, .int .i64 r3.2), (11, .slice (some ⟨3, 0, none⟩) r4.1.length r4.1.length), (12, .int .i64 r4.2), (13, .slice (some ⟨4, 0, none⟩) r5.1.length r5.1.length), (14, .int .i64 r5.2), (15, .slice (some ⟨5, 0, none⟩) r6.1.length r6.1.length), (16, .int .i64 r6.2), (55, .bool r7)]) (h' := [(5, .cells (rowC (encI .i64) r6.1) 0 3 1), (4, .cells (rowC (encI .i64) r5.1) 0 3 1), (3, .cells (rowC (encI .i64) r4.1) 0 3 1), (2, .cells (rowC (encI .i64) r3.1) 0 3 1), (1, .cells (rowC (encI .i64) r2.1) 0 3 1), (0, .cells (rowC (encI .i64) r1.1) 0 3 1)]) (c' := 6) ?_ (by kernel_rfl)
  refine XR.run E0_ok 1 1 [6, 8, 9, 10, 11, 12, 13, 14, 15, 16, 56] rfl (σ' := [(6, .int .i64 r1.2), (8, .int .i64 r2.2), (9, .slice (some ⟨2, 0, none⟩) r3.1.length r3.1.length), (10, .int .i64 r3.2), (11, .slice (some ⟨3, 0, none⟩) r4.1.length r4.1.length), (12, .int .i64 r4.2), (13, .slice (some ⟨4, 0, none⟩) r5.1.length r5.1.length), (14, .int .i64 r5.2), (15, .slice (some ⟨5, 0, none⟩) r6.1.length r6.1.length), (16, .int .i64 r6.2), (56, .bool r7)]) (h' := [(5, .cells (rowC (encI .i64) r6.1) 0 3 1), (4, .cells (rowC (encI .i64) r5.1) 0 3 1), (3, .cells (rowC (encI .i64) r4.1) 0 3 1), (2, .cells (rowC (encI .i64) r3.1) 0 3 1), (1, .cells (rowC (encI .i64) r2.1) 0 3 1), (0, .cells (rowC (encI .i64) r1.1) 0 3 1)]) (c' := 6) (by kernel_rfl) ?_
  cases b1 : (r7 : Bool) with
  | true =>
    have h := cT b1 h
    refine XR.run E0_ok 1 5 [9, 10, 11, 12, 13, 14, 15, 16, 61] rfl (σ' := [(9, .slice (some ⟨2, 0, none⟩) r3.1.length r3.1.length), (10, .int .i64 r3.2), (11, .slice (some ⟨3, 0, none⟩) r4.1.length r4.1.length), (12, .int .i64 r4.2), (13, .slice (some ⟨4, 0, none⟩) r5.1.length r5.1.length), (14, .int .i64 r5.2), (15, .slice (some ⟨5, 0, none⟩) r6.1.length r6.1.length), (16, .int .i64 r6.2), (61, .bool (r1.2 == r2.2))]) (h' := [(5, .cells (rowC (encI .i64) r6.1) 0 3 1), (4, .cells (rowC (encI .i64) r5.1) 0 3 1), (3, .cells (rowC (encI .i64) r4.1) 0 3 1), (2, .cells (rowC (encI .i64) r3.1) 0 3 1), (1, .cells (rowC (encI .i64) r2.1) 0 3 1), (0, .cells (rowC (encI .i64) r1.1) 0 3 1)]) (c' := 6) (by kernel_rfl) ?_
    cases b2 : (r1.2 == r2.2 : Bool) with
    | true =>
      have h := cT b2 h
      refine XR.run E0_ok 1 2 [10, 12, 13, 14, 15, 16, 61, 62, 63] rfl (σ' := [(10, .int .i64 r3.2), (12, .int .i64 r4.2), (13, .slice (some ⟨4, 0, none⟩) r5.1.length r5.1.length), (14, .int .i64 r5.2), (15, .slice (some ⟨5, 0, none⟩) r6.1.length r6.1.length), (16, .int .i64 r6.2), (61, .bool true), (62, .slice (some ⟨2, 0, none⟩) r3.1.length r3.1.length), (63, .slice (some ⟨3, 0, none⟩) r4.1.length r4.1.length)]) (h' := [(5, .cells (rowC (encI .i64) r6.1) 0 3 1), (4, .cells (rowC (encI .i64) r5.1) 0 3 1), (3, .cells (rowC (encI .i64) r4.1) 0 3 1), (2, .cells (rowC (encI .i64) r3.1) 0 3 1), (1, .cells (rowC (encI .i64) r2.1) 0 3 1), (0, .cells (rowC (encI .i64) r1.1) 0 3 1)]) (c' := 6) (by kernel_rfl) ?_
      obtain ⟨r8, r8_h, h⟩ := bS h
      refine XR.call E0_ok [10, 12, 13, 14, 15, 16, 61, 64] rfl (K := 35) (args := [.slice (some ⟨2, 0, none⟩) r3.1.length r3.1.length, .slice (some ⟨3, 0, none⟩) r4.1.length r4.1.length]) (d := (some (path 12 64))) (by kernel_rfl) (KQ.call (KC.quiet E0_ok (args0 := [.slice (some ⟨0, 0, none⟩) r3.1.length r3.1.length, .slice (some ⟨1, 0, none⟩) r4.1.length r4.1.length]) (h0 := [(1, .cells (rowC (encI .i64) r4.1) (0 + ((rowC (encI .i64) r4.1).length + 1)) 3 1), (0, .cells (rowC (encI .i64) r3.1) (0 + ((rowC (encI .i64) r3.1).length + 1)) 3 1)]) (n := 2) (V := .bool r8) [2, 3] (f35_ok m (0 + ((rowC (encI .i64) r3.1).length + 1)) (0 + ((rowC (encI .i64) r4.1).length + 1)) r3.1 r4.1 r8 r8_h) rfl (by rfl) (by decide) rfl (by kernel_rfl) ⟨⟨_, _, rfl, rfl, .inl ⟨rfl, rowC_scal (encI_ok .i64) _⟩⟩, ⟨_, _, rfl, rfl, .inl ⟨rfl, rowC_scal (encI_ok .i64) _⟩⟩, trivial⟩) rfl) ?_
      rintro _ _ _ ⟨rfl, rfl, rfl⟩
      refine XR.conv (σ' := [(10, .int .i64 r3.2), (12, .int .i64 r4.2), (13, .slice (some ⟨4, 0, none⟩) r5.1.length r5.1.length), (14, .int .i64 r5.2), (15, .slice (some ⟨5, 0, none⟩) r6.1.length r6.1.length), (16, .int .i64 r6.2), (61, .bool true), (64, .bool r8)]) (h' := [(5, .cells (rowC (encI .i64) r6.1) 0 3 1), (4, .cells (rowC (encI .i64) r5.1) 0 3 1), (3, .cells (rowC (encI .i64) r4.1) 0 3 1), (2, .cells (rowC (encI .i64) r3.1) 0 3 1), (1, .cells (rowC (encI .i64) r2.1) 0 3 1), (0, .cells (rowC (encI .i64) r1.1) 0 3 1)]) (c' := 6) ?_ (by kernel_rfl)
      refine XR.run E0_ok 1 2 [10, 12, 13, 14, 15, 16, 66] rfl (σ' := [(10, .int .i64 r3.2), (12, .int .i64 r4.2), (13, .slice (some ⟨4, 0, none⟩) r5.1.length r5.1.length), (14, .int .i64 r5.2), (15, .slice (some ⟨5, 0, none⟩) r6.1.length r6.1.length), (16, .int .i64 r6.2), (66, .bool r8)]) (h' := [(5, .cells (rowC (encI .i64) r6.1) 0 3 1), (4, .cells (rowC (encI .i64) r5.1) 0 3 1), (3, .cells (rowC (encI .i64) r4.1) 0 3 1), (2, .cells (rowC (encI .i64) r3.1) 0 3 1), (1, .cells (rowC (encI .i64) r2.1) 0 3 1), (0, .cells (rowC (encI .i64) r1.1) 0 3 1)]) (c' := 6) (by kernel_rfl) ?_
      cases b3 : (r8 : Bool) with
      | true =>
        have h := cT b3 h
        refine XR.run E0_ok 1 5 [13, 14, 15, 16, 71] rfl (σ' := [(13, .slice (some ⟨4, 0, none⟩) r5.1.length r5.1.length), (14, .int .i64 r5.2), (15, .slice (some ⟨5, 0, none⟩) r6.1.length r6.1.length), (16, .int .i64 r6.2), (71, .bool (r3.2 == r4.2))]) (h' := [(5, .cells (rowC (encI .i64) r6.1) 0 3 1), (4, .cells (rowC (encI .i64) r5.1) 0 3 1), (3, .cells (rowC (encI .i64) r4.1) 0 3 1), (2, .cells (rowC (encI .i64) r3.1) 0 3 1), (1, .cells (rowC (encI .i64) r2.1) 0 3 1), (0, .cells (rowC (encI .i64) r1.1) 0 3 1)]) (c' := 6) (by kernel_rfl) ?_
        cases b4 : (r3.2 == r4.2 : Bool) with
        | true =>
          have h := cT b4 h
          refine XR.run E0_ok 1 2 [14, 16, 71, 72, 73] rfl (σ' := [(14, .int .i64 r5.2), (16, .int .i64 r6.2), (71, .bool true), (72, .slice (some ⟨4, 0, none⟩) r5.1.length r5.1.length), (73, .slice (some ⟨5, 0, none⟩) r6.1.length r6.1.length)]) (h' := [(5, .cells (rowC (encI .i64) r6.1) 0 3 1), (4, .cells (rowC (encI .i64) r5.1) 0 3 1), (3, .cells (rowC (encI .i64) r4.1) 0 3 1), (2, .cells (rowC (encI .i64) r3.1) 0 3 1), (1, .cells (rowC (encI .i64) r2.1) 0 3 1), (0, .cells (rowC (encI .i64) r1.1) 0 3 1)]) (c' := 6) (by kernel_rfl) ?_
          obtain ⟨r9, r9_h, h⟩ := bS h
          refine XR.call E0_ok [14, 16, 71, 74] rfl (K := 35) (args := [.slice (some ⟨4, 0, none⟩) r5.1.length r5.1.length, .slice (some ⟨5, 0, none⟩) r6.1.length r6.1.length]) (d := (some (path 12 74))) (by kernel_rfl) (KQ.call (KC.quiet E0_ok (args0 := [.slice (some ⟨0, 0, none⟩) r5.1.length r5.1.length, .slice (some ⟨1, 0, none⟩) r6.1.length r6.1.length]) (h0 := [(1, .cells (rowC (encI .i64) r6.1) (0 + ((rowC (encI .i64) r6.1).length + 1)) 3 1), (0, .cells (rowC (encI .i64) r5.1) (0 + ((rowC (encI .i64) r5.1).length + 1)) 3 1)]) (n := 2) (V := .bool r9) [4, 5] (f35_ok m (0 + ((rowC (encI .i64) r5.1).length + 1)) (0 + ((rowC (encI .i64) r6.1).length + 1)) r5.1 r6.1 r9 r9_h) rfl (by rfl) (by decide) rfl (by kernel_rfl) ⟨⟨_, _, rfl, rfl, .inl ⟨rfl, rowC_scal (encI_ok .i64) _⟩⟩, ⟨_, _, rfl, rfl, .inl ⟨rfl, rowC_scal (encI_ok .i64) _⟩⟩, trivial⟩) rfl) ?_
          rintro _ _ _ ⟨rfl, rfl, rfl⟩
          refine XR.conv (σ' := [(14, .int .i64 r5.2), (16, .int .i64 r6.2), (71, .bool true), (74, .bool r9)]) (h' := [(5, .cells (rowC (encI .i64) r6.1) 0 3 1), (4, .cells (rowC (encI .i64) r5.1) 0 3 1), (3, .cells (rowC (encI .i64) r4.1) 0 3 1), (2, .cells (rowC (encI .i64) r3.1) 0 3 1), (1, .cells (rowC (encI .i64) r2.1) 0 3 1), (0, .cells (rowC (encI .i64) r1.1) 0 3 1)]) (c' := 6) ?_ (by kernel_rfl)
          refine XR.run E0_ok 1 2 [14, 16, 76] rfl (σ' := [(14, .int .i64 r5.2), (16, .int .i64 r6.2), (76, .bool r9)]) (h' := [(5, .cells (rowC (encI .i64) r6.1) 0 3 1), (4, .cells (rowC (encI .i64) r5.1) 0 3 1), (3, .cells (rowC (encI .i64) r4.1) 0 3 1), (2, .cells (rowC (encI .i64) r3.1) 0 3 1), (1, .cells (rowC (encI .i64) r2.1) 0 3 1), (0, .cells (rowC (encI .i64) r1.1) 0 3 1)]) (c' := 6) (by kernel_rfl) ?_
          cases b5 : (r9 : Bool) with
          | true =>
            have h := cT b5 h
            refine XR.run E0_ok 1 5 [81] rfl (σ' := [(81, .bool (r5.2 == r6.2))]) (h' := [(5, .cells (rowC (encI .i64) r6.1) 0 3 1), (4, .cells (rowC (encI .i64) r5.1) 0 3 1), (3, .cells (rowC (encI .i64) r4.1) 0 3 1), (2, .cells (rowC (encI .i64) r3.1) 0 3 1), (1, .cells (rowC (encI .i64) r2.1) 0 3 1), (0, .cells (rowC (encI .i64) r1.1) 0 3 1)]) (c' := 6) (by kernel_rfl) ?_
            cases b6 : (r5.2 == r6.2 : Bool) with
            | true =>
              have h := cT b6 h
              refine XR.call E0_ok [81, 82] rfl (K := 28) (args := []) (d := (some (path 12 82))) (by kernel_rfl) (KC.of_calls E0_ok (F := Proofs.Try.f28) (v := .bool true) (by kernel_rfl) rfl rfl (works_ok)) ?_
              rintro _ _ _ ⟨rfl, rfl, rfl⟩
              refine XR.conv (σ' := [(81, .bool true), (82, .bool true)]) (h' := [(5, .cells (rowC (encI .i64) r6.1) 0 3 1), (4, .cells (rowC (encI .i64) r5.1) 0 3 1), (3, .cells (rowC (encI .i64) r4.1) 0 3 1), (2, .cells (rowC (encI .i64) r3.1) 0 3 1), (1, .cells (rowC (encI .i64) r2.1) 0 3 1), (0, .cells (rowC (encI .i64) r1.1) 0 3 1)]) (c' := 6) ?_ (by kernel_rfl)
              refine XR.run E0_ok 1 2 [4] rfl (σ' := [(4, .bool true)]) (h' := [(5, .cells (rowC (encI .i64) r6.1) 0 3 1), (4, .cells (rowC (encI .i64) r5.1) 0 3 1), (3, .cells (rowC (encI .i64) r4.1) 0 3 1), (2, .cells (rowC (encI .i64) r3.1) 0 3 1), (1, .cells (rowC (encI .i64) r2.1) 0 3 1), (0, .cells (rowC (encI .i64) r1.1) 0 3 1)]) (c' := 6) (by kernel_rfl) ?_
              refine XR.done (by kernel_rfl) ?_
              show XQ _ _ _ _ _ _ _ _
              refine XQ.ret (by kernel_rfl) ?_
              have h := Option.some.inj h
              subst h
              exact ⟨fun i q => (by cases q), .bool true, (by kernel_rfl), rfl⟩
            | false =>
              have h := cF b6 h
              refine XR.run E0_ok 1 3 [4] rfl (σ' := [(4, .bool false)]) (h' := [(5, .cells (rowC (encI .i64) r6.1) 0 3 1), (4, .cells (rowC (encI .i64) r5.1) 0 3 1), (3, .cells (rowC (encI .i64) r4.1) 0 3 1), (2, .cells (rowC (encI .i64) r3.1) 0 3 1), (1, .cells (rowC (encI .i64) r2.1) 0 3 1), (0, .cells (rowC (encI .i64) r1.1) 0 3 1)]) (c' := 6) (by kernel_rfl) ?_
              refine XR.done (by kernel_rfl) ?_
              show XQ _ _ _ _ _ _ _ _
              refine XQ.ret (by kernel_rfl) ?_
              have h := Option.some.inj h
              subst h
              exact ⟨fun i q => (by cases q), .bool false, (by kernel_rfl), rfl⟩
          | false =>
            have h := cF b5 h
            refine XR.run E0_ok 1 8 [4] rfl (σ' := [(4, .bool false)]) (h' := [(5, .cells (rowC (encI .i64) r6.1) 0 3 1), (4, .cells (rowC (encI .i64) r5.1) 0 3 1), (3, .cells (rowC (encI .i64) r4.1) 0 3 1), (2, .cells (rowC (encI .i64) r3.1) 0 3 1), (1, .cells (rowC (encI .i64) r2.1) 0 3 1), (0, .cells (rowC (encI .i64) r1.1) 0 3 1)]) (c' := 6) (by kernel_rfl) ?_
            refine XR.done (by kernel_rfl) ?_
            show XQ _ _ _ _ _ _ _ _
            refine XQ.ret (by kernel_rfl) ?_
            have h := Option.some.inj h
            subst h
            exact ⟨fun i q => (by cases q), .bool false, (by kernel_rfl), rfl⟩
        | false =>
          have h := cF b4 h
          refine XR.run E0_ok 1 13 [4] rfl (σ' := [(4, .bool false)]) (h' := [(5, .cells (rowC (encI .i64) r6.1) 0 3 1), (4, .cells (rowC (encI .i64) r5.1) 0 3 1), (3, .cells (rowC (encI .i64) r4.1) 0 3 1), (2, .cells (rowC (encI .i64) r3.1) 0 3 1), (1, .cells (rowC (encI .i64) r2.1) 0 3 1), (0, .cells (rowC (encI .i64) r1.1) 0 3 1)]) (c' := 6) (by kernel_rfl) ?_
          refine XR.done (by kernel_rfl) ?_
          show XQ _ _ _ _ _ _ _ _
          refine XQ.ret (by kernel_rfl) ?_
          have h := Option.some.inj h
          subst h
          exact ⟨fun i q => (by cases q), .bool false, (by kernel_rfl), rfl⟩
      | false =>
        have h := cF b3 h
        refine XR.run E0_ok 1 18 [4] rfl (σ' := [(4, .bool false)]) (h' := [(5, .cells (rowC (encI .i64) r6.1) 0 3 1), (4, .cells (rowC (encI .i64) r5.1) 0 3 1), (3, .cells (rowC (encI .i64) r4.1) 0 3 1), (2, .cells (rowC (encI .i64) r3.1) 0 3 1), (1, .cells (rowC (encI .i64) r2.1) 0 3 1), (0, .cells (rowC (encI .i64) r1.1) 0 3 1)]) (c' := 6) (by kernel_rfl) ?_
        refine XR.done (by kernel_rfl) ?_
        show XQ _ _ _ _ _ _ _ _
        refine XQ.ret (by kernel_rfl) ?_
        have h := Option.some.inj h
        subst h
        exact ⟨fun i q => (by cases q), .bool false, (by kernel_rfl), rfl⟩
    | false =>
      have h := cF b2 h
      refine XR.run E0_ok 1 23 [4] rfl (σ' := [(4, .bool false)]) (h' := [(5, .cells (rowC (encI .i64) r6.1) 0 3 1), (4, .cells (rowC (encI .i64) r5.1) 0 3 1), (3, .cells (rowC (encI .i64) r4.1) 0 3 1), (2, .cells (rowC (encI .i64) r3.1) 0 3 1), (1, .cells (rowC (encI .i64) r2.1) 0 3 1), (0, .cells (rowC (encI .i64) r1.1) 0 3 1)]) (c' := 6) (by kernel_rfl) ?_
      refine XR.done (by kernel_rfl) ?_
      show XQ _ _ _ _ _ _ _ _
      refine XQ.ret (by kernel_rfl) ?_
      have h := Option.some.inj h
      subst h
      exact ⟨fun i q => (by cases q), .bool false, (by kernel_rfl), rfl⟩
  | false =>
    have h := cF b1 h
    refine XR.run E0_ok 1 28 [4] rfl (σ' := [(4, .bool false)]) (h' := [(5, .cells (rowC (encI .i64) r6.1) 0 3 1), (4, .cells (rowC (encI .i64) r5.1) 0 3 1), (3, .cells (rowC (encI .i64) r4.1) 0 3 1), (2, .cells (rowC (encI .i64) r3.1) 0 3 1), (1, .cells (rowC (encI .i64) r2.1) 0 3 1), (0, .cells (rowC (encI .i64) r1.1) 0 3 1)]) (c' := 6) (by kernel_rfl) ?_
    refine XR.done (by kernel_rfl) ?_
    show XQ _ _ _ _ _ _ _ _
    refine XQ.ret (by kernel_rfl) ?_
    have h := Option.some.inj h
    subst h
    exact ⟨fun i q => (by cases q), .bool false, (by kernel_rfl), rfl⟩

end Go.Xm
