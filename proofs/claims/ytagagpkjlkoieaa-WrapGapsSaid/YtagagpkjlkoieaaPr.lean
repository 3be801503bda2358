/- What these functions of the program compute, as functions in Lean, and the proofs that they do: vitolalaw05.WrapGaps. Conditions: none. -/
import Derived.Test.YtagagpkjlkoieaaPi
import Derived.Test.YtagagpkjlkoieaaPj
import Derived.Test.YtagagpkjlkoieaaPk
import Derived.Test.YtagagpkjlkoieaaPl
import Derived.Test.YtagagpkjlkoieaaPm
import Derived.Test.YtagagpkjlkoieaaPo
import Derived.Test.YtagagpkjlkoieaaPd
namespace Go.Xm
open Go.RowKit
set_option linter.unusedVariables false
set_option linter.unusedSimpArgs false
set_option maxRecDepth 20000

/-! vitola/vitolalaw05.WrapGaps -/
noncomputable def f4_C4 : Code := Proofs.Try.f4.body.getD .skip

def f4 (m : Nat) (a_Marks : Int) (a_Step : Int) (a_Turns : Int) : Option (Bool) :=
  (f29 m a_Marks a_Step a_Turns).bind fun r1 =>
    (f30 m a_Marks a_Step a_Turns).bind fun r2 =>
      (f31 m a_Marks a_Step a_Turns).bind fun r3 =>
        (f32 m a_Marks a_Step a_Turns).bind fun r4 =>
          (f33 m a_Marks a_Step a_Turns).bind fun r5 =>
            (f34 m a_Marks a_Step a_Turns).bind fun r6 =>
              (f35 m r1.1 r2.1).bind fun r7 =>
                cond (r7) (
                  cond (r1.2 == r2.2) (
                    (f35 m r3.1 r4.1).bind fun r8 =>
                      cond (r8) (
                        cond (r3.2 == r4.2) (
                          (f36 m r5.1 r6.1).bind fun r9 =>
                            cond (r9) (
                              cond (r5.2 == r6.2) (
                                some (true)
                              ) (
                                some (false)
                              )
                            ) (
                              some (false)
                            )
                        ) (
                          some (false)
                        )
                      ) (
                        some (false)
                      )
                  ) (
                    some (false)
                  )
                ) (
                  some (false)
                )

theorem f4_ok (m : Nat) (a_Marks : Int) (a_Step : Int) (a_Turns : Int) (o : Bool) (h : f4 m a_Marks a_Step a_Turns = some o) (w : World) (hI : anyInv w) : Calls Proofs.Try.prog 4 #[.agg #[.int .i64 a_Marks, .int .i64 a_Step, .int .i64 a_Turns]] w fun e w' => e = .returned (.bool o) ∧ Below w.heap.size w w' := by
  refine KC.calls (E := E0) (args := [.agg #[.int .i64 a_Marks, .int .i64 a_Step, .int .i64 a_Turns]]) (v := .bool o) rfl rfl (KC.bodyN E0_ok (F := Proofs.Try.f4) (by kernel_rfl) (code := f4_C4) (by kernel_rfl) (nt := 78) (by kernel_rfl) (rs := [.tmp 2]) (by kernel_rfl) (by kernel_rfl) (σ := [(0, .agg #[.int .i64 a_Marks, .int .i64 a_Step, .int .i64 a_Turns])]) (by kernel_rfl) ?_) w (anyInv_size hI) hI
  unfold f4 at h
  refine XQ.seq E0_ok (by kernel_rfl) ?_
  refine XQ.region (by kernel_rfl) ?_
  refine XR.run E0_ok 1 2 [1] rfl (σ' := [(1, .pointer (some ⟨0, 0, none⟩))]) (h' := [(0, .cells [.int .i64 a_Marks, .int .i64 a_Step, .int .i64 a_Turns] 0 23 0)]) (c' := 1) (by kernel_rfl) ?_
  refine XR.done (by kernel_rfl) ?_
  show XQ _ _ _ _ _ _ _ _
  refine XQ.seq E0_ok (by kernel_rfl) ?_
  refine XQ.region (by kernel_rfl) ?_
  refine XR.run E0_ok 1 3 [1, 3] rfl (σ' := [(1, .pointer (some ⟨0, 0, none⟩)), (3, .pointer (some ⟨1, 0, none⟩))]) (h' := [(1, .cells [.int .i64 a_Marks, .int .i64 a_Step, .int .i64 a_Turns] 0 24 0), (0, .cells [.int .i64 a_Marks, .int .i64 a_Step, .int .i64 a_Turns] 0 23 0)]) (c' := 2) (by kernel_rfl) ?_
  refine XR.done (by kernel_rfl) ?_
  show XQ _ _ _ _ _ _ _ _
  refine XQ.seq E0_ok (by kernel_rfl) ?_
  refine XQ.region (by kernel_rfl) ?_
  refine XR.run E0_ok 1 1 [1, 3, 18] rfl (σ' := [(1, .pointer (some ⟨0, 0, none⟩)), (3, .pointer (some ⟨1, 0, none⟩)), (18, .agg #[.int .i64 a_Marks, .int .i64 a_Step, .int .i64 a_Turns])]) (h' := [(1, .cells [.int .i64 a_Marks, .int .i64 a_Step, .int .i64 a_Turns] 0 24 0), (0, .cells [.int .i64 a_Marks, .int .i64 a_Step, .int .i64 a_Turns] 0 23 0)]) (c' := 2) (by kernel_rfl) ?_
  obtain ⟨r1, r1_h, h⟩ := bS h
  refine XR.call E0_ok [1, 3, 19] rfl (K := 29) (args := [.agg #[.int .i64 a_Marks, .int .i64 a_Step, .int .i64 a_Turns]]) (d := (some (path 12 19))) (by kernel_rfl) (KC.lift (V2 := .tuple #[.slice (some ⟨2, 0, none⟩) r1.1.length r1.1.length, .int .i64 r1.2]) (H2 := [(2, .cells (rowC (encI .i64) r1.1) 0 3 1)]) [1, 2, 0] (f29_ok m a_Marks a_Step a_Turns r1 r1_h) rfl (by decide) (by decide) (by kernel_rfl) ⟨⟨_, _, rfl, rfl, .inl ⟨rfl, rowC_scal (encI_ok .i64) _⟩⟩, trivial⟩ (by rfl)) ?_
  rintro _ _ _ ⟨rfl, rfl, rfl⟩
  refine XR.conv (σ' := [(1, .pointer (some ⟨0, 0, none⟩)), (3, .pointer (some ⟨1, 0, none⟩)), (19, .tuple #[.slice (some ⟨2, 0, none⟩) r1.1.length r1.1.length, .int .i64 r1.2])]) (h' := [(2, .cells (rowC (encI .i64) r1.1) 0 3 1), (1, .cells [.int .i64 a_Marks, .int .i64 a_Step, .int .i64 a_Turns] 0 24 0), (0, .cells [.int .i64 a_Marks, .int .i64 a_Step, .int .i64 a_Turns] 0 23 0)]) (c' := 3) ?_ (by kernel_rfl)
  refine XR.run E0_ok 1 5 [1, 3, 4, 5] rfl (σ' := [(1, .pointer (some ⟨0, 0, none⟩)), (3, .pointer (some ⟨1, 0, none⟩)), (4, .slice (some ⟨2, 0, none⟩) r1.1.length r1.1.length), (5, .int .i64 r1.2)]) (h' := [(2, .cells (rowC (encI .i64) r1.1) 0 3 1), (1, .cells [.int .i64 a_Marks, .int .i64 a_Step, .int .i64 a_Turns] 0 24 0), (0, .cells [.int .i64 a_Marks, .int .i64 a_Step, .int .i64 a_Turns] 0 23 0)]) (c' := 3) (by kernel_rfl) ?_
  refine XR.done (by kernel_rfl) ?_
  show XQ _ _ _ _ _ _ _ _
  refine XQ.seq E0_ok (by kernel_rfl) ?_
  refine XQ.region (by kernel_rfl) ?_
  refine XR.run E0_ok 1 1 [1, 3, 4, 5, 23] rfl (σ' := [(1, .pointer (some ⟨0, 0, none⟩)), (3, .pointer (some ⟨1, 0, none⟩)), (4, .slice (some ⟨2, 0, none⟩) r1.1.length r1.1.length), (5, .int .i64 r1.2), (23, .agg #[.int .i64 a_Marks, .int .i64 a_Step, .int .i64 a_Turns])]) (h' := [(2, .cells (rowC (encI .i64) r1.1) 0 3 1), (1, .cells [.int .i64 a_Marks, .int .i64 a_Step, .int .i64 a_Turns] 0 24 0), (0, .cells [.int .i64 a_Marks, .int .i64 a_Step, .int .i64 a_Turns] 0 23 0)]) (c' := 3) (by kernel_rfl) ?_
  obtain ⟨r2, r2_h, h⟩ := bS h
  refine XR.call E0_ok [1, 3, 4, 5, 24] rfl (K := 30) (args := [.agg #[.int .i64 a_Marks, .int .i64 a_Step, .int .i64 a_Turns]]) (d := (some (path 12 24))) (by kernel_rfl) (KC.lift (V2 := .tuple #[.slice (some ⟨3, 0, none⟩) r2.1.length r2.1.length, .int .i64 r2.2]) (H2 := [(3, .cells (rowC (encI .i64) r2.1) 0 3 1)]) [1, 2, 3, 0] (f30_ok m a_Marks a_Step a_Turns r2 r2_h) rfl (by decide) (by decide) (by kernel_rfl) ⟨⟨_, _, rfl, rfl, .inl ⟨rfl, rowC_scal (encI_ok .i64) _⟩⟩, trivial⟩ (by rfl)) ?_
  rintro _ _ _ ⟨rfl, rfl, rfl⟩
  refine XR.conv (σ' := [(1, .pointer (some ⟨0, 0, none⟩)), (3, .pointer (some ⟨1, 0, none⟩)), (4, .slice (some ⟨2, 0, none⟩) r1.1.length r1.1.length), (5, .int .i64 r1.2), (24, .tuple #[.slice (some ⟨3, 0, none⟩) r2.1.length r2.1.length, .int .i64 r2.2])]) (h' := [(3, .cells (rowC (encI .i64) r2.1) 0 3 1), (2, .cells (rowC (encI .i64) r1.1) 0 3 1), (1, .cells [.int .i64 a_Marks, .int .i64 a_Step, .int .i64 a_Turns] 0 24 0), (0, .cells [.int .i64 a_Marks, .int .i64 a_Step, .int .i64 a_Turns] 0 23 0)]) (c' := 4) ?_ (by kernel_rfl)
  refine XR.run E0_ok 1 5 [1, 3, 4, 5, 6, 7] rfl (σ' := [(1, .pointer (some ⟨0, 0, none⟩)), (3, .pointer (some ⟨1, 0, none⟩)), (4, .slice (some ⟨2, 0, none⟩) r1.1.length r1.1.length), (5, .int .i64 r1.2), (6, .slice (some ⟨3, 0, none⟩) r2.1.length r2.1.length), (7, .int .i64 r2.2)]) (h' := [(3, .cells (rowC (encI .i64) r2.1) 0 3 1), (2, .cells (rowC (encI .i64) r1.1) 0 3 1), (1, .cells [.int .i64 a_Marks, .int .i64 a_Step, .int .i64 a_Turns] 0 24 0), (0, .cells [.int .i64 a_Marks, .int .i64 a_Step, .int .i64 a_Turns] 0 23 0)]) (c' := 4) (by kernel_rfl) ?_
  refine XR.done (by kernel_rfl) ?_
  show XQ _ _ _ _ _ _ _ _
  refine XQ.seq E0_ok (by kernel_rfl) ?_
  refine XQ.region (by kernel_rfl) ?_
  refine XR.run E0_ok 1 1 [1, 3, 4, 5, 6, 7, 28] rfl (σ' := [(1, .pointer (some ⟨0, 0, none⟩)), (3, .pointer (some ⟨1, 0, none⟩)), (4, .slice (some ⟨2, 0, none⟩) r1.1.length r1.1.length), (5, .int .i64 r1.2), (6, .slice (some ⟨3, 0, none⟩) r2.1.length r2.1.length), (7, .int .i64 r2.2), (28, .agg #[.int .i64 a_Marks, .int .i64 a_Step, .int .i64 a_Turns])]) (h' := [(3, .cells (rowC (encI .i64) r2.1) 0 3 1), (2, .cells (rowC (encI .i64) r1.1) 0 3 1), (1, .cells [.int .i64 a_Marks, .int .i64 a_Step, .int .i64 a_Turns] 0 24 0), (0, .cells [.int .i64 a_Marks, .int .i64 a_Step, .int .i64 a_Turns] 0 23 0)]) (c' := 4) (by kernel_rfl) ?_
  obtain ⟨r3, r3_h, h⟩ := bS h
  refine XR.call E0_ok [1, 3, 4, 5, 6, 7, 29] rfl (K := 31) (args := [.agg #[.int .i64 a_Marks, .int .i64 a_Step, .int .i64 a_Turns]]) (d := (some (path 12 29))) (by kernel_rfl) (KC.lift (V2 := .tuple #[.slice (some ⟨4, 0, none⟩) r3.1.length r3.1.length, .int .i64 r3.2]) (H2 := [(4, .cells (rowC (encI .i64) r3.1) 0 3 1)]) [1, 2, 3, 4, 0] (f31_ok m a_Marks a_Step a_Turns r3 r3_h) rfl (by decide) (by decide) (by kernel_rfl) ⟨⟨_, _, rfl, rfl, .inl ⟨rfl, rowC_scal (encI_ok .i64) _⟩⟩, trivial⟩ (by rfl)) ?_
  rintro _ _ _ ⟨rfl, rfl, rfl⟩
  refine XR.conv (σ' := [(1, .pointer (some ⟨0, 0, none⟩)), (3, .pointer (some ⟨1, 0, none⟩)), (4, .slice (some ⟨2, 0, none⟩) r1.1.length r1.1.length), (5, .int .i64 r1.2), (6, .slice (some ⟨3, 0, none⟩) r2.1.length r2.1.length), (7, .int .i64 r2.2), (29, .tuple #[.slice (some ⟨4, 0, none⟩) r3.1.length r3.1.length, .int .i64 r3.2])]) (h' := [(4, .cells (rowC (encI .i64) r3.1) 0 3 1), (3, .cells (rowC (encI .i64) r2.1) 0 3 1), (2, .cells (rowC (encI .i64) r1.1) 0 3 1), (1, .cells [.int .i64 a_Marks, .int .i64 a_Step, .int .i64 a_Turns] 0 24 0), (0, .cells [.int .i64 a_Marks, .int .i64 a_Step, .int .i64 a_Turns] 0 23 0)]) (c' := 5) ?_ (by kernel_rfl)
  refine XR.run E0_ok 1 5 [1, 3, 4, 5, 6, 7, 8, 9] rfl (σ' := [(1, .pointer (some ⟨0, 0, none⟩)), (3, .pointer (some ⟨1, 0, none⟩)), (4, .slice (some ⟨2, 0, none⟩) r1.1.length r1.1.length), (5, .int .i64 r1.2), (6, .slice (some ⟨3, 0, none⟩) r2.1.length r2.1.length), (7, .int .i64 r2.2), (8, .slice (some ⟨4, 0, none⟩) r3.1.length r3.1.length), (9, .int .i64 r3.2)]) (h' := [(4, .cells (rowC (encI .i64) r3.1) 0 3 1), (3, .cells (rowC (encI .i64) r2.1) 0 3 1), (2, .cells (rowC (encI .i64) r1.1) 0 3 1), (1, .cells [.int .i64 a_Marks, .int .i64 a_Step, .int .i64 a_Turns] 0 24 0), (0, .cells [.int .i64 a_Marks, .int .i64 a_Step, .int .i64 a_Turns] 0 23 0)]) (c' := 5) (by kernel_rfl) ?_
  refine XR.done (by kernel_rfl) ?_
  show XQ _ _ _ _ _ _ _ _
  refine XQ.seq E0_ok (by kernel_rfl) ?_
  refine XQ.region (by kernel_rfl) ?_
  refine XR.run E0_ok 1 1 [1, 3, 4, 5, 6, 7, 8, 9, 33] rfl (σ' := [(1, .pointer (some ⟨0, 0, none⟩)), (3, .pointer (some ⟨1, 0, none⟩)), (4, .slice (some ⟨2, 0, none⟩) r1.1.length r1.1.length), (5, .int .i64 r1.2), (6, .slice (some ⟨3, 0, none⟩) r2.1.length r2.1.length), (7, .int .i64 r2.2), (8, .slice (some ⟨4, 0, none⟩) r3.1.length r3.1.length), (9, .int .i64 r3.2), (33, .agg #[.int .i64 a_Marks, .int .i64 a_Step, .int .i64 a_Turns])]) (h' := [(4, .cells (rowC (encI .i64) r3.1) 0 3 1), (3, .cells (rowC (encI .i64) r2.1) 0 3 1), (2, .cells (rowC (encI .i64) r1.1) 0 3 1), (1, .cells [.int .i64 a_Marks, .int .i64 a_Step, .int .i64 a_Turns] 0 24 0), (0, .cells [.int .i64 a_Marks, .int .i64 a_Step, .int .i64 a_Turns] 0 23 0)]) (c' := 5) (by kernel_rfl) ?_
  obtain ⟨r4, r4_h, h⟩ := bS h
  refine XR.call E0_ok [1, 3, 4, 5, 6, 7, 8, 9, 34] rfl (K := 32) (args := [.agg #[.int .i64 a_Marks, .int .i64 a_Step, .int .i64 a_Turns]]) (d := (some (path 12 34))) (by kernel_rfl) (KC.lift (V2 := .tuple #[.slice (some ⟨5, 0, none⟩) r4.1.length r4.1.length, .int .i64 r4.2]) (H2 := [(5, .cells (rowC (encI .i64) r4.1) 0 3 1)]) [1, 2, 3, 4, 5, 0] (f32_ok m a_Marks a_Step a_Turns r4 r4_h) rfl (by decide) (by decide) (by kernel_rfl) ⟨⟨_, _, rfl, rfl, .inl ⟨rfl, rowC_scal (encI_ok .i64) _⟩⟩, trivial⟩ (by rfl)) ?_
  rintro _ _ _ ⟨rfl, rfl, rfl⟩
  refine XR.conv (σ' := [(1, .pointer (some ⟨0, 0, none⟩)), (3, .pointer (some ⟨1, 0, none⟩)), (4, .slice (some ⟨2, 0, none⟩) r1.1.length r1.1.length), (5, .int .i64 r1.2), (6, .slice (some ⟨3, 0, none⟩) r2.1.length r2.1.length), (7, .int .i64 r2.2), (8, .slice (some ⟨4, 0, none⟩) r3.1.length r3.1.length), (9, .int .i64 r3.2), (34, .tuple #[.slice (some ⟨5, 0, none⟩) r4.1.length r4.1.length, .int .i64 r4.2])]) (h' := [(5, .cells (rowC (encI .i64) r4.1) 0 3 1), (4, .cells (rowC (encI .i64) r3.1) 0 3 1), (3, .cells (rowC (encI .i64) r2.1) 0 3 1), (2, .cells (rowC (encI .i64) r1.1) 0 3 1), (1, .cells [.int .i64 a_Marks, .int .i64 a_Step, .int .i64 a_Turns] 0 24 0), (0, .cells [.int .i64 a_Marks, .int .i64 a_Step, .int .i64 a_Turns] 0 23 0)]) (c' := 6) ?_ (by kernel_rfl)
  refine XR.run E0_ok 1 5 [1, 3, 4, 5, 6, 7, 8, 9, 10, 11] rfl (σ' := [(1, .pointer (some ⟨0, 0, none⟩)), (3, .pointer (some ⟨1, 0, none⟩)), (4, .slice (some ⟨2, 0, none⟩) r1.1.length r1.1.length), (5, .int .i64 r1.2), (6, .slice (some ⟨3, 0, none⟩) r2.1.length r2.1.length), (7, .int .i64 r2.2), (8, .slice (some ⟨4, 0, none⟩) r3.1.length r3.1.length), (9, .int .i64 r3.2), (10, .slice (some ⟨5, 0, none⟩) r4.1.length r4.1.length), (11, .int .i64 r4.2)]) (h' := [(5, .cells (rowC (encI .i64) r4.1) 0 3 1), (4, .cells (rowC (encI .i64) r3.1) 0 3 1), (3, .cells (rowC (encI .i64) r2.1) 0 3 1), (2, .cells (rowC (encI .i64) r1.1) 0 3 1), (1, .cells [.int .i64 a_Marks, .int .i64 a_Step, .int .i64 a_Turns] 0 24 0), (0, .cells [.int .i64 a_Marks, .int .i64 a_Step, .int .i64 a_Turns] 0 23 0)]) (c' := 6) (by kernel_rfl) ?_
  refine XR.done (by kernel_rfl) ?_
  show XQ _ _ _ _ _ _ _ _
  refine XQ.seq E0_ok (by kernel_rfl) ?_
  refine XQ.region (by kernel_rfl) ?_
  refine XR.run E0_ok 1 1 [3, 4, 5, 6, 7, 8, 9, 10, 11, 38] rfl (σ' := [(3, .pointer (some ⟨1, 0, none⟩)), (4, .slice (some ⟨2, 0, none⟩) r1.1.length r1.1.length), (5, .int .i64 r1.2), (6, .slice (some ⟨3, 0, none⟩) r2.1.length r2.1.length), (7, .int .i64 r2.2), (8, .slice (some ⟨4, 0, none⟩) r3.1.length r3.1.length), (9, .int .i64 r3.2), (10, .slice (some ⟨5, 0, none⟩) r4.1.length r4.1.length), (11, .int .i64 r4.2), (38, .agg #[.int .i64 a_Marks, .int .i64 a_Step, .int .i64 a_Turns])]) (h' := [(5, .cells (rowC (encI .i64) r4.1) 0 3 1), (4, .cells (rowC (encI .i64) r3.1) 0 3 1), (3, .cells (rowC (encI .i64) r2.1) 0 3 1), (2, .cells (rowC (encI .i64) r1.1) 0 3 1), (1, .cells [.int .i64 a_Marks, .int .i64 a_Step, .int .i64 a_Turns] 0 24 0), (0, .cells [.int .i64 a_Marks, .int .i64 a_Step, .int .i64 a_Turns] 0 23 0)]) (c' := 6) (by kernel_rfl) ?_
  obtain ⟨r5, r5_h, h⟩ := bS h
  refine XR.call E0_ok [3, 4, 5, 6, 7, 8, 9, 10, 11, 39] rfl (K := 33) (args := [.agg #[.int .i64 a_Marks, .int .i64 a_Step, .int .i64 a_Turns]]) (d := (some (path 12 39))) (by kernel_rfl) (KC.lift (V2 := .tuple #[.slice (some ⟨6, 0, none⟩) r5.1.length r5.1.length, .int .i64 r5.2]) (H2 := [(6, .cells (rowC encP r5.1) 0 63 2)]) [1, 2, 3, 4, 5, 6, 0] (f33_ok m a_Marks a_Step a_Turns r5 r5_h) rfl (by decide) (by decide) (by kernel_rfl) ⟨⟨_, _, rfl, rfl, .inl ⟨rfl, rowC_scal encP_ok _⟩⟩, trivial⟩ (by rfl)) ?_
  rintro _ _ _ ⟨rfl, rfl, rfl⟩
  refine XR.conv (σ' := [(3, .pointer (some ⟨1, 0, none⟩)), (4, .slice (some ⟨2, 0, none⟩) r1.1.length r1.1.length), (5, .int .i64 r1.2), (6, .slice (some ⟨3, 0, none⟩) r2.1.length r2.1.length), (7, .int .i64 r2.2), (8, .slice (some ⟨4, 0, none⟩) r3.1.length r3.1.length), (9, .int .i64 r3.2), (10, .slice (some ⟨5, 0, none⟩) r4.1.length r4.1.length), (11, .int .i64 r4.2), (39, .tuple #[.slice (some ⟨6, 0, none⟩) r5.1.length r5.1.length, .int .i64 r5.2])]) (h' := [(6, .cells (rowC encP r5.1) 0 63 2), (5, .cells (rowC (encI .i64) r4.1) 0 3 1), (4, .cells (rowC (encI .i64) r3.1) 0 3 1), (3, .cells (rowC (encI .i64) r2.1) 0 3 1), (2, .cells (rowC (encI .i64) r1.1) 0 3 1), (1, .cells [.int .i64 a_Marks, .int .i64 a_Step, .int .i64 a_Turns] 0 24 0), (0, .cells [.int .i64 a_Marks, .int .i64 a_Step, .int .i64 a_Turns] 0 23 0)]) (c' := 7) ?_ (by kernel_rfl)
  refine XR.run E0_ok 1 5 [3, 4, 5, 6, 7, 8, 9, 10, 11, 12, 13] rfl (σ' := [(3, .pointer (some ⟨1, 0, none⟩)), (4, .slice (some ⟨2, 0, none⟩) r1.1.length r1.1.length), (5, .int .i64 r1.2), (6, .slice (some ⟨3, 0, none⟩) r2.1.length r2.1.length), (7, .int .i64 r2.2), (8, .slice (some ⟨4, 0, none⟩) r3.1.length r3.1.length), (9, .int .i64 r3.2), (10, .slice (some ⟨5, 0, none⟩) r4.1.length r4.1.length), (11, .int .i64 r4.2), (12, .slice (some ⟨6, 0, none⟩) r5.1.length r5.1.length), (13, .int .i64 r5.2)]) (h' := [(6, .cells (rowC encP r5.1) 0 63 2), (5, .cells (rowC (encI .i64) r4.1) 0 3 1), (4, .cells (rowC (encI .i64) r3.1) 0 3 1), (3, .cells (rowC (encI .i64) r2.1) 0 3 1), (2, .cells (rowC (encI .i64) r1.1) 0 3 1), (1, .cells [.int .i64 a_Marks, .int .i64 a_Step, .int .i64 a_Turns] 0 24 0), (0, .cells [.int .i64 a_Marks, .int .i64 a_Step, .int .i64 a_Turns] 0 23 0)]) (c' := 7) (by kernel_rfl) ?_
  refine XR.done (by kernel_rfl) ?_
  show XQ _ _ _ _ _ _ _ _
  refine XQ.seq E0_ok (by kernel_rfl) ?_
  refine XQ.region (by kernel_rfl) ?_
  refine XR.run E0_ok 1 1 [4, 5, 6, 7, 8, 9, 10, 11, 12, 13, 43] rfl (σ' := [(4, .slice (some ⟨2, 0, none⟩) r1.1.length r1.1.length), (5, .int .i64 r1.2), (6, .slice (some ⟨3, 0, none⟩) r2.1.length r2.1.length), (7, .int .i64 r2.2), (8, .slice (some ⟨4, 0, none⟩) r3.1.length r3.1.length), (9, .int .i64 r3.2), (10, .slice (some ⟨5, 0, none⟩) r4.1.length r4.1.length), (11, .int .i64 r4.2), (12, .slice (some ⟨6, 0, none⟩) r5.1.length r5.1.length), (13, .int .i64 r5.2), (43, .agg #[.int .i64 a_Marks, .int .i64 a_Step, .int .i64 a_Turns])]) (h' := [(6, .cells (rowC encP r5.1) 0 63 2), (5, .cells (rowC (encI .i64) r4.1) 0 3 1), (4, .cells (rowC (encI .i64) r3.1) 0 3 1), (3, .cells (rowC (encI .i64) r2.1) 0 3 1), (2, .cells (rowC (encI .i64) r1.1) 0 3 1), (1, .cells [.int .i64 a_Marks, .int .i64 a_Step, .int .i64 a_Turns] 0 24 0), (0, .cells [.int .i64 a_Marks, .int .i64 a_Step, .int .i64 a_Turns] 0 23 0)]) (c' := 7) (by kernel_rfl) ?_
  obtain ⟨r6, r6_h, h⟩ := bS h
  refine XR.call E0_ok [4, 5, 6, 7, 8, 9, 10, 11, 12, 13, 44] rfl (K := 34) (args := [.agg #[.int .i64 a_Marks, .int .i64 a_Step, .int .i64 a_Turns]]) (d := (some (path 12 44))) (by kernel_rfl) (KC.lift (V2 := .tuple #[.slice (some ⟨7, 0, none⟩) r6.1.length r6.1.length, .int .i64 r6.2]) (H2 := [(7, .cells (rowC encP r6.1) 0 63 2)]) [1, 2, 3, 4, 5, 6, 7, 0] (f34_ok m a_Marks a_Step a_Turns r6 r6_h) rfl (by decide) (by decide) (by kernel_rfl) ⟨⟨_, _, rfl, rfl, .inl ⟨rfl, rowC_scal encP_ok _⟩⟩, trivial⟩ (by rfl)) ?_
  rintro _ _ _ ⟨rfl, rfl, rfl⟩
  refine XR.conv (σ' := [(4, .slice (some ⟨2, 0, none⟩) r1.1.length r1.1.length), (5, .int .i64 r1.2), (6, .slice (some ⟨3, 0, none⟩) r2.1.length r2.1.length), (7, .int .i64 r2.2), (8, .slice (some ⟨4, 0, none⟩) r3.1.length r3.1.length), (9, .int .i64 r3.2), (10, .slice (some ⟨5, 0, none⟩) r4.1.length r4.1.length), (11, .int .i64 r4.2), (12, .slice (some ⟨6, 0, none⟩) r5.1.length r5.1.length), (13, .int .i64 r5.2), (44, .tuple #[.slice (some ⟨7, 0, none⟩) r6.1.length r6.1.length, .int .i64 r6.2])]) (h' := [(7, .cells (rowC encP r6.1) 0 63 2), (6, .cells (rowC encP r5.1) 0 63 2), (5, .cells (rowC (encI .i64) r4.1) 0 3 1), (4, .cells (rowC (encI .i64) r3.1) 0 3 1), (3, .cells (rowC (encI .i64) r2.1) 0 3 1), (2, .cells (rowC (encI .i64) r1.1) 0 3 1), (1, .cells [.int .i64 a_Marks, .int .i64 a_Step, .int .i64 a_Turns] 0 24 0), (0, .cells [.int .i64 a_Marks, .int .i64 a_Step, .int .i64 a_Turns] 0 23 0)]) (c' := 8) ?_ (by kernel_rfl)
  refine XR.run E0_ok 1 5 [4, 5, 6, 7, 8, 9, 10, 11, 12, 13, 14, 15] rfl (σ' := [(4, .slice (some ⟨2, 0, none⟩) r1.1.length r1.1.length), (5, .int .i64 r1.2), (6, .slice (some ⟨3, 0, none⟩) r2.1.length r2.1.length), (7, .int .i64 r2.2), (8, .slice (some ⟨4, 0, none⟩) r3.1.length r3.1.length), (9, .int .i64 r3.2), (10, .slice (some ⟨5, 0, none⟩) r4.1.length r4.1.length), (11, .int .i64 r4.2), (12, .slice (some ⟨6, 0, none⟩) r5.1.length r5.1.length), (13, .int .i64 r5.2), (14, .slice (some ⟨7, 0, none⟩) r6.1.length r6.1.length), (15, .int .i64 r6.2)]) (h' := [(7, .cells (rowC encP r6.1) 0 63 2), (6, .cells (rowC encP r5.1) 0 63 2), (5, .cells (rowC (encI .i64) r4.1) 0 3 1), (4, .cells (rowC (encI .i64) r3.1) 0 3 1), (3, .cells (rowC (encI .i64) r2.1) 0 3 1), (2, .cells (rowC (encI .i64) r1.1) 0 3 1), (1, .cells [.int .i64 a_Marks, .int .i64 a_Step, .int .i64 a_Turns] 0 24 0), (0, .cells [.int .i64 a_Marks, .int .i64 a_Step, .int .i64 a_Turns] 0 23 0)]) (c' := 8) (by kernel_rfl) ?_
  refine XR.done (by kernel_rfl) ?_
  show XQ _ _ _ _ _ _ _ _
  refine XQ.seq E0_ok (by kernel_rfl) ?_
  refine XQ.region (by kernel_rfl) ?_
  refine XR.run E0_ok 1 2 [5, 7, 8, 9, 10, 11, 12, 13, 14, 15, 47, 48] rfl (σ' := [(5, .int .i64 r1.2), (7, .int .i64 r2.2), (8, .slice (some ⟨4, 0, none⟩) r3.1.length r3.1.length), (9, .int .i64 r3.2), (10, .slice (some ⟨5, 0, none⟩) r4.1.length r4.1.length), (11, .int .i64 r4.2), (12, .slice (some ⟨6, 0, none⟩) r5.1.length r5.1.length), (13, .int .i64 r5.2), (14, .slice (some ⟨7, 0, none⟩) r6.1.length r6.1.length), (15, .int .i64 r6.2), (47, .slice (some ⟨2, 0, none⟩) r1.1.length r1.1.length), (48, .slice (some ⟨3, 0, none⟩) r2.1.length r2.1.length)]) (h' := [(7, .cells (rowC encP r6.1) 0 63 2), (6, .cells (rowC encP r5.1) 0 63 2), (5, .cells (rowC (encI .i64) r4.1) 0 3 1), (4, .cells (rowC (encI .i64) r3.1) 0 3 1), (3, .cells (rowC (encI .i64) r2.1) 0 3 1), (2, .cells (rowC (encI .i64) r1.1) 0 3 1), (1, .cells [.int .i64 a_Marks, .int .i64 a_Step, .int .i64 a_Turns] 0 24 0), (0, .cells [.int .i64 a_Marks, .int .i64 a_Step, .int .i64 a_Turns] 0 23 0)]) (c' := 8) (by kernel_rfl) ?_
  obtain ⟨r7, r7_h, h⟩ := bS h
  refine XR.call E0_ok [5, 7, 8, 9, 10, 11, 12, 13, 14, 15, 49] rfl (K := 35) (args := [.slice (some ⟨2, 0, none⟩) r1.1.length r1.1.length, .slice (some ⟨3, 0, none⟩) r2.1.length r2.1.length]) (d := (some (path 12 49))) (by kernel_rfl) (KQ.call (KC.quiet E0_ok (args0 := [.slice (some ⟨0, 0, none⟩) r1.1.length r1.1.length, .slice (some ⟨1, 0, none⟩) r2.1.length r2.1.length]) (h0 := [(1, .cells (rowC (encI .i64) r2.1) (0 + ((rowC (encI .i64) r2.1).length + 1)) 3 1), (0, .cells (rowC (encI .i64) r1.1) (0 + ((rowC (encI .i64) r1.1).length + 1)) 3 1)]) (n := 2) (V := .bool r7) [2, 3] (f35_ok m (0 + ((rowC (encI .i64) r1.1).length + 1)) (0 + ((rowC (encI .i64) r2.1).length + 1)) r1.1 r2.1 r7 r7_h) rfl (by rfl) (by decide) rfl (by kernel_rfl) ⟨⟨_, _, rfl, rfl, .inl ⟨rfl, rowC_scal (encI_ok .i64) _⟩⟩, ⟨_, _, rfl, rfl, .inl ⟨rfl, rowC_scal (encI_ok .i64) _⟩⟩, trivial⟩) rfl) ?_
  rintro _ _ _ ⟨rfl, rfl, rfl⟩
  refine XR.conv (σ' := [(5, .int .i64 r1.2), (7, .int .i64 r2.2), (8, .slice (some ⟨4, 0, none⟩) r3.1.length r3.1.length), (9, .int .i64 r3.2), (10, .slice (some ⟨5, 0, none⟩) r4.1.length r4.1.length), (11, .int .i64 r4.2), (12, .slice (some ⟨6, 0, none⟩) r5.1.length r5.1.length), (13, .int .i64 r5.2), (14, .slice (some ⟨7, 0, none⟩) r6.1.length r6.1.length), (15, .int .i64 r6.2), (49, .bool r7)]) (h' := [(7, .cells (rowC encP r6.1) 0 63 2), (6, .cells (rowC encP r5.1) 0 63 2), (5, .cells (rowC (encI .i64) r4.1) 0 3 1), (4, .cells (rowC (encI .i64) r3.1) 0 3 1), (3, .cells (rowC (encI .i64) r2.1) 0 3 1), (2, .cells (rowC (encI .i64) r1.1) 0 3 1), (1, .cells [.int .i64 a_Marks, .int .i64 a_Step, .int .i64 a_Turns] 0 24 0), (0, .cells [.int .i64 a_Marks, .int .i64 a_Step, .int .i64 a_Turns] 0 23 0)]) (c' := 8) ?_ (by kernel_rfl)
  refine XR.run E0_ok 1 1 [5, 7, 8, 9, 10, 11, 12, 13, 14, 15, 50] rfl (σ' := [(5, .int .i64 r1.2), (7, .int .i64 r2.2), (8, .slice (some ⟨4, 0, none⟩) r3.1.length r3.1.length), (9, .int .i64 r3.2), (10, .slice (some ⟨5, 0, none⟩) r4.1.length r4.1.length), (11, .int .i64 r4.2), (12, .slice (some ⟨6, 0, none⟩) r5.1.length r5.1.length), (13, .int .i64 r5.2), (14, .slice (some ⟨7, 0, none⟩) r6.1.length r6.1.length), (15, .int .i64 r6.2), (50, .bool r7)]) (h' := [(7, .cells (rowC encP r6.1) 0 63 2), (6, .cells (rowC encP r5.1) 0 63 2), (5, .cells (rowC (encI .i64) r4.1) 0 3 1), (4, .cells (rowC (encI .i64) r3.1) 0 3 1), (3, .cells (rowC (encI .i64) r2.1) 0 3 1), (2, .cells (rowC (encI .i64) r1.1) 0 3 1), (1, .cells [.int .i64 a_Marks, .int .i64 a_Step, .int .i64 a_Turns] 0 24 0), (0, .cells [.int .i64 a_Marks, .int .i64 a_Step, .int .i64 a_Turns] 0 23 0)]) (c' := 8) (by kernel_rfl) ?_
  cases b1 : (r7 : Bool) with
  | true =>
    have h := cT b1 h
    refine XR.run E0_ok 1 5 [8, 9, 10, 11, 12, 13, 14, 15, 55] rfl (σ' := [(8, .slice (some ⟨4, 0, none⟩) r3.1.length r3.1.length), (9, .int .i64 r3.2), (10, .slice (some ⟨5, 0, none⟩) r4.1.length r4.1.length), (11, .int .i64 r4.2), (12, .slice (some ⟨6, 0, none⟩) r5.1.length r5.1.length), (13, .int .i64 r5.2), (14, .slice (some ⟨7, 0, none⟩) r6.1.length r6.1.length), (15, .int .i64 r6.2), (55, .bool (r1.2 == r2.2))]) (h' := [(7, .cells (rowC encP r6.1) 0 63 2), (6, .cells (rowC encP r5.1) 0 63 2), (5, .cells (rowC (encI .i64) r4.1) 0 3 1), (4, .cells (rowC (encI .i64) r3.1) 0 3 1), (3, .cells (rowC (encI .i64) r2.1) 0 3 1), (2, .cells (rowC (encI .i64) r1.1) 0 3 1), (1, .cells [.int .i64 a_Marks, .int .i64 a_Step, .int .i64 a_Turns] 0 24 0), (0, .cells [.int .i64 a_Marks, .int .i64 a_Step, .int .i64 a_Turns] 0 23 0)]) (c' := 8) (by kernel_rfl) ?_
    cases b2 : (r1.2 == r2.2 : Bool) with
    | true =>
      have h := cT b2 h
      refine XR.run E0_ok 1 2 [9, 11, 12, 13, 14, 15, 55, 56, 57] rfl (σ' := [(9, .int .i64 r3.2), (11, .int .i64 r4.2), (12, .slice (some ⟨6, 0, none⟩) r5.1.length r5.1.length), (13, .int .i64 r5.2), (14, .slice (some ⟨7, 0, none⟩) r6.1.length r6.1.length), (15, .int .i64 r6.2), (55, .bool true), (56, .slice (some ⟨4, 0, none⟩) r3.1.length r3.1.length), (57, .slice (some ⟨5, 0, none⟩) r4.1.length r4.1.length)]) (h' := [(7, .cells (rowC encP r6.1) 0 63 2), (6, .cells (rowC encP r5.1) 0 63 2), (5, .cells (rowC (encI .i64) r4.1) 0 3 1), (4, .cells (rowC (encI .i64) r3.1) 0 3 1), (3, .cells (rowC (encI .i64) r2.1) 0 3 1), (2, .cells (rowC (encI .i64) r1.1) 0 3 1), (1, .cells [.int .i64 a_Marks, .int .i64 a_Step, .int .i64 a_Turns] 0 24 0), (0, .cells [.int .i64 a_Marks, .int .i64 a_Step, .int .i64 a_Turns] 0 23 0)]) (c' := 8) (by kernel_rfl) ?_
      obtain ⟨r8, r8_h, h⟩ := bS h
      refine XR.call E0_ok [9, 11, 12, 13, 14, 15, 55, 58] rfl (K := 35) (args := [.slice (some ⟨4, 0, none⟩) r3.1.length r3.1.length, .slice (some ⟨5, 0, none⟩) r4.1.length r4.1.length]) (d := (some (path 12 58))) (by kernel_rfl) (KQ.call (KC.quiet E0_ok (args0 := [.slice (some ⟨0, 0, none⟩) r3.1.length r3.1.length, .slice (some ⟨1, 0, none⟩) r4.1.length r4.1.length]) (h0 := [(1, .cells (rowC (encI .i64) r4.1) (0 + ((rowC (encI .i64) r4.1).length + 1)) 3 1), (0, .cells (rowC (encI .i64) r3.1) (0 + ((rowC (encI .i64) r3.1).length + 1)) 3 1)]) (n := 2) (V := .bool r8) [4, 5] (f35_ok m (0 + ((rowC (encI .i64) r3.1).length + 1)) (0 + ((rowC (encI .i64) r4.1).length + 1)) r3.1 r4.1 r8 r8_h) rfl (by rfl) (by decide) rfl (by kernel_rfl) ⟨⟨_, _, rfl, rfl, .inl ⟨rfl, rowC_scal (encI_ok .i64) _⟩⟩, ⟨_, _, rfl, rfl, .inl ⟨rfl, rowC_scal (encI_ok .i64) _⟩⟩, trivial⟩) rfl) ?_
      rintro _ _ _ ⟨rfl, rfl, rfl⟩
      refine XR.conv (σ' := [(9, .int .i64 r3.2), (11, .int .i64 r4.2), (12, .slice (some ⟨6, 0, none⟩) r5.1.length r5.1.length), (13, .int .i64 r5.2), (14, .slice (some ⟨7, 0, none⟩) r6.1.length r6.1.length), (15, .int .i64 r6.2), (55, .bool true), (58, .bool r8)]) (h' := [(7, .cells (rowC encP r6.1) 0 63 2), (6, .cells (rowC encP r5.1) 0 63 2), (5, .cells (rowC (encI .i64) r4.1) 0 3 1), (4, .cells (rowC (encI .i64) r3.1) 0 3 1), (3, .cells (rowC (encI .i64) r2.1) 0 3 1), (2, .cells (rowC (encI .i64) r1.1) 0 3 1), (1, .cells [.int .i64 a_Marks, .int .i64 a_Step, .int .i64 a_Turns] 0 24 0), (0, .cells [.int .i64 a_Marks, .int .i64 a_Step, .int .i64 a_Turns] 0 23 0)]) (c' := 8) ?_ (by kernel_rfl)
      refine XR.run E0_ok 1 2 [9, 11, 12, 13, 14, 15, 60] rfl (σ' := [(9, .int .i64 r3.2), (11, .int .i64 r4.2), (12, .slice (some ⟨6, 0, none⟩) r5.1.length r5.1.length), (13, .int .i64 r5.2), (14, .slice (some ⟨7, 0, none⟩) r6.1.length r6.1.length), (15, .int .i64 r6.2), (60, .bool r8)]) (h' := [(7, .cells (rowC encP r6.1) 0 63 2), (6, .cells (rowC encP r5.1) 0 63 2), (5, .cells (rowC (encI .i64) r4.1) 0 3 1), (4, .cells (rowC (encI .i64) r3.1) 0 3 1), (3, .cells (rowC (encI .i64) r2.1) 0 3 1), (2, .cells (rowC (encI .i64) r1.1) 0 3 1), (1, .cells [.int .i64 a_Marks, .int .i64 a_Step, .int .i64 a_Turns] 0 24 0), (0, .cells [.int .i64 a_Marks, .int .i64 a_Step, .int .i64 a_Turns] 0 23 0)]) (c' := 8) (by kernel_rfl) ?_
      cases b3 : (r8 : Bool) with
      | true =>
        have h := cT b3 h
        refine XR.run E0_ok 1 5 [12, 13, 14, 15, 65] rfl (σ' := [(12, .slice (some ⟨6, 0, none⟩) r5.1.length r5.1.length), (13, .int .i64 r5.2), (14, .slice (some ⟨7, 0, none⟩) r6.1.length r6.1.length), (15, .int .i64 r6.2), (65, .bool (r3.2 == r4.2))]) (h' := [(7, .cells (rowC encP r6.1) 0 63 2), (6, .cells (rowC encP r5.1) 0 63 2), (5, .cells (rowC (encI .i64) r4.1) 0 3 1), (4, .cells (rowC (encI .i64) r3.1) 0 3 1), (3, .cells (rowC (encI .i64) r2.1) 0 3 1), (2, .cells (rowC (encI .i64) r1.1) 0 3 1), (1, .cells [.int .i64 a_Marks, .int .i64 a_Step, .int .i64 a_Turns] 0 24 0), (0, .cells [.int .i64 a_Marks, .int .i64 a_Step, .int .i64 a_Turns] 0 23 0)]) (c' := 8) (by kernel_rfl) ?_
        cases b4 : (r3.2 == r4.2 : Bool) with
        | true =>
          have h := cT b4 h
          refine XR.run E0_ok 1 2 [13, 15, 65, 66, 67] rfl (σ' := [(13, .int .i64 r5.2), (15, .int .i64 r6.2), (65, .bool true), (66, .slice (some ⟨6, 0, none⟩) r5.1.length r5.1.length), (67, .slice (some ⟨7, 0, none⟩) r6.1.length r6.1.length)]) (h' := [(7, .cells (rowC encP r6.1) 0 63 2), (6, .cells (rowC encP r5.1) 0 63 2), (5, .cells (rowC (encI .i64) r4.1) 0 3 1), (4, .cells (rowC (encI .i64) r3.1) 0 3 1), (3, .cells (rowC (encI .i64) r2.1) 0 3 1), (2, .cells (rowC (encI .i64) r1.1) 0 3 1), (1, .cells [.int .i64 a_Marks, .int .i64 a_Step, .int .i64 a_Turns] 0 24 0), (0, .cells [.int .i64 a_Marks, .int .i64 a_Step, .int .i64 a_Turns] 0 23 0)]) (c' := 8) (by kernel_rfl) ?_
          obtain ⟨r9, r9_h, h⟩ := bS h
          refine XR.call E0_ok [13, 15, 65, 68] rfl (K := 36) (args := [.slice (some ⟨6, 0, none⟩) r5.1.length r5.1.length, .slice (some ⟨7, 0, none⟩) r6.1.length r6.1.length]) (d := (some (path 12 68))) (by kernel_rfl) (KQ.call (KC.quiet E0_ok (args0 := [.slice (some ⟨0, 0, none⟩) r5.1.length r5.1.length, .slice (some ⟨1, 0, none⟩) r6.1.length r6.1.length]) (h0 := [(1, .cells (rowC encP r6.1) (0 + ((rowC encP r6.1).length + 1)) 63 2), (0, .cells (rowC encP r5.1) (0 + ((rowC encP r5.1).length + 1)) 63 2)]) (n := 2) (V := .bool r9) [6, 7] (f36_ok m (0 + ((rowC encP r5.1).length + 1)) (0 + ((rowC encP r6.1).length + 1)) r5.1 r6.1 r9 r9_h) rfl (by rfl) (by decide) rfl (by kernel_rfl) ⟨⟨_, _, rfl, rfl, .inl ⟨rfl, rowC_scal encP_ok _⟩⟩, ⟨_, _, rfl, rfl, .inl ⟨rfl, rowC_scal encP_ok _⟩⟩, trivial⟩) rfl) ?_
          rintro _ _ _ ⟨rfl, rfl, rfl⟩
          refine XR.conv (σ' := [(13, .int .i64 r5.2), (15, .int .i64 r6.2), (65, .bool true), (68, .bool r9)]) (h' := [(7, .cells (rowC encP r6.1) 0 63 2), (6, .cells (rowC encP r5.1) 0 63 2), (5, .cells (rowC (encI .i64) r4.1) 0 3 1), (4, .cells (rowC (encI .i64) r3.1) 0 3 1), (3, .cells (rowC (encI .i64) r2.1) 0 3 1), (2, .cells (rowC (encI .i64) r1.1) 0 3 1), (1, .cells [.int .i64 a_Marks, .int .i64 a_Step, .int .i64 a_Turns] 0 24 0), (0, .cells [.int .i64 a_Marks, .int .i64 a_Step, .int .i64 a_Turns] 0 23 0)]) (c' := 8) ?_ (by kernel_rfl)
          refine XR.run E0_ok 1 2 [13, 15, 70] rfl (σ' := [(13, .int .i64 r5.2), (15, .int .i64 r6.2), (70, .bool r9)]) (h' := [(7, .cells (rowC encP r6.1) 0 63 2), (6, .cells (rowC encP r5.1) 0 63 2), (5, .cells (rowC (encI .i64) r4.1) 0 3 1), (4, .cells (rowC (encI .i64) r3.1) 0 3 1), (3, .cells (rowC (encI .i64) r2.1) 0 3 1), (2, .cells (rowC (encI .i64) r1.1) 0 3 1), (1, .cells [.int .i64 a_Marks, .int .i64 a_Step, .int .i64 a_Turns] 0 24 0), (0, .cells [.int .i64 a_Marks, .int .i64 a_Step, .int .i64 a_Turns] 0 23 0)]) (c' := 8) (by kernel_rfl) ?_
          cases b5 : (r9 : Bool) with
          | true =>
            have h := cT b5 h
            refine XR.run E0_ok 1 5 [75] rfl (σ' := [(75, .bool (r5.2 == r6.2))]) (h' := [(7, .cells (rowC encP r6.1) 0 63 2), (6, .cells (rowC encP r5.1) 0 63 2), (5, .cells (rowC (encI .i64) r4.1) 0 3 1), (4, .cells (rowC (encI .i64) r3.1) 0 3 1), (3, .cells (rowC (encI .i64) r2.1) 0 3 1), (2, .cells (rowC (encI .i64) r1.1) 0 3 1), (1, .cells [.int .i64 a_Marks, .int .i64 a_Step, .int .i64 a_Turns] 0 24 0), (0, .cells [.int .i64 a_Marks, .int .i64 a_Step, .int .i64 a_Turns] 0 23 0)]) (c' := 8) (by kernel_rfl) ?_
            cases b6 : (r5.2 == r6.2 : Bool) with
            | true =>
              have h := cT b6 h
              refine XR.call E0_ok [75, 76] rfl (K := 28) (args := []) (d := (some (path 12 76))) (by kernel_rfl) (KC.of_calls E0_ok (F := Proofs.Try.f28) (v := .bool true) (by kernel_rfl) rfl rfl (works_ok)) ?_
              rintro _ _ _ ⟨rfl, rfl, rfl⟩
              refine XR.conv (σ' := [(75, .bool true), (76, .bool true)]) (h' := [(7, .cells (rowC encP r6.1) 0 63 2), (6, .cells (rowC encP r5.1) 0 63 2), (5, .cells (rowC (encI .i64) r4.1) 0 3 1), (4, .cells (rowC (encI .i64) r3.1) 0 3 1), (3, .cells (rowC (encI .i64) r2.1) 0 3 1), (2, .cells (rowC (encI .i64) r1.1) 0 3 1), (1, .cells [.int .i64 a_Marks, .int .i64 a_Step, .int .i64 a_Turns] 0 24 0), (0, .cells [.int .i64 a_Marks, .int .i64 a_Step, .int .i64 a_Turns] 0 23 0)]) (c' := 8) ?_ (by kernel_rfl)
              refine XR.run E0_ok 1 2 [2] rfl (σ' := [(2, .bool true)]) (h' := [(7, .cells (rowC encP r6.1) 0 63 2), (6, .cells (rowC encP r5.1) 0 63 2), (5, .cells (rowC (encI .i64) r4.1) 0 3 1), (4, .cells (rowC (encI .i64) r3.1) 0 3 1), (3, .cells (rowC (encI .i64) r2.1) 0 3 1), (2, .cells (rowC (encI .i64) r1.1) 0 3 1), (1, .cells [.int .i64 a_Marks, .int .i64 a_Step, .int .i64 a_Turns] 0 24 0), (0, .cells [.int .i64 a_Marks, .int .i64 a_Step, .int .i64 a_Turns] 0 23 0)]) (c' := 8) (by kernel_rfl) ?_
              refine XR.done (by kernel_rfl) ?_
              show XQ _ _ _ _ _ _ _ _
              refine XQ.ret (by kernel_rfl) ?_
              have h := Option.some.inj h
              subst h
              exact ⟨fun i q => (by cases q), .bool true, (by kernel_rfl), rfl⟩
            | false =>
              have h := cF b6 h
              refine XR.run E0_ok 1 3 [2] rfl (σ' := [(2, .bool false)]) (h' := [(7, .cells (rowC encP r6.1) 0 63 2), (6, .cells (rowC encP r5.1) 0 63 2), (5, .cells (rowC (encI .i64) r4.1) 0 3 1), (4, .cells (rowC (encI .i64) r3.1) 0 3 1), (3, .cells (rowC (encI .i64) r2.1) 0 3 1), (2, .cells (rowC (encI .i64) r1.1) 0 3 1), (1, .cells [.int .i64 a_Marks, .int .i64 a_Step, .int .i64 a_Turns] 0 24 0), (0, .cells [.int .i64 a_Marks, .int .i64 a_Step, .int .i64 a_Turns] 0 23 0)]) (c' := 8) (by kernel_rfl) ?_
              refine XR.done (by kernel_rfl) ?_
              show XQ _ _ _ _ _ _ _ _
              refine XQ.ret (by kernel_rfl) ?_
              have h := Option.some.inj h
              subst h
              exact ⟨fun i q => (by cases q), .bool false, (by kernel_rfl), rfl⟩
          | false =>
            have h := cF b5 h
            refine XR.run E0_ok 1 8 [2] rfl (σ' := [(2, .bool false)]) (h' := [(7, .cells (rowC encP r6.1) 0 63 2), (6, .cells (rowC encP r5.1) 0 63 2), (5, .cells (rowC (encI .i64) r4.1) 0 3 1), (4, .cells (rowC (encI .i64) r3.1) 0 3 1), (3, .cells (rowC (encI .i64) r2.1) 0 3 1), (2, .cells (rowC (encI .i64) r1.1) 0 3 1), (1, .cells [.int .i64 a_Marks, .int .i64 a_Step, .int .i64 a_Turns] 0 24 0), (0, .cells [.int .i64 a_Marks, .int .i64 a_Step, .int .i64 a_Turns] 0 23 0)]) (c' := 8) (by kernel_rfl) ?_
            refine XR.done (by kernel_rfl) ?_
            show XQ _ _ _ _ _ _ _ _
            refine XQ.ret (by kernel_rfl) ?_
            have h := Option.some.inj h
            subst h
            exact ⟨fun i q => (by cases q), .bool false, (by kernel_rfl), rfl⟩
        | false =>
          have h := cF b4 h
          refine XR.run E0_ok 1 13 [2] rfl (σ' := [(2, .bool false)]) (h' := [(7, .cells (rowC encP r6.1) 0 63 2), (6, .cells (rowC encP r5.1) 0 63 2), (5, .cells (rowC (encI .i64) r4.1) 0 3 1), (4, .cells (rowC (encI .i64) r3.1) 0 3 1), (3, .cells (rowC (encI .i64) r2.1) 0 3 1), (2, .cells (rowC (encI .i64) r1.1) 0 3 1), (1, .cells [.int .i64 a_Marks, .int .i64 a_Step, .int .i64 a_Turns] 0 24 0), (0, .cells [.int .i64 a_Marks, .int .i64 a_Step, .int .i64 a_Turns] 0 23 0)]) (c' := 8) (by kernel_rfl) ?_
          refine XR.done (by kernel_rfl) ?_
          show XQ _ _ _ _ _ _ _ _
          refine XQ.ret (by kernel_rfl) ?_
          have h := Option.some.inj h
          subst h
          exact ⟨fun i q => (by cases q), .bool false, (by kernel_rfl), rfl⟩
      | false =>
        have h := cF b3 h
        refine XR.run E0_ok 1 18 [2] rfl (σ' := [(2, .bool false)]) (h' := [(7, .cells (rowC encP r6.1) 0 63 2), (6, .cells (rowC encP r5.1) 0 63 2), (5, .cells (rowC (encI .i64) r4.1) 0 3 1), (4, .cells (rowC (encI .i64) r3.1) 0 3 1), (3, .cells (rowC (encI .i64) r2.1) 0 3 1), (2, .cells (rowC (encI .i64) r1.1) 0 3 1), (1, .cells [.int .i64 a_Marks, .int .i64 a_Step, .int .i64 a_Turns] 0 24 0), (0, .cells [.int .i64 a_Marks, .int .i64 a_Step, .int .i64 a_Turns] 0 23 0)]) (c' := 8) (by kernel_rfl) ?_
        refine XR.done (by kernel_rfl) ?_
        show XQ _ _ _ _ _ _ _ _
        refine XQ.ret (by kernel_rfl) ?_
        have h := Option.some.inj h
        subst h
        exact ⟨fun i q => (by cases q), .bool false, (by kernel_rfl), rfl⟩
    | false =>
      have h := cF b2 h
      refine XR.run E0_ok 1 23 [2] rfl (σ' := [(2, .bool false)]) (h' := [(7, .cells (rowC encP r6.1) 0 63 2), (6, .cells (rowC encP r5.1) 0 63 2), (5, .cells (rowC (encI .i64) r4.1) 0 3 1), (4, .cells (rowC (encI .i64) r3.1) 0 3 1), (3, .cells (rowC (encI .i64) r2.1) 0 3 1), (2, .cells (rowC (encI .i64) r1.1) 0 3 1), (1, .cells [.int .i64 a_Marks, .int .i64 a_Step, .int .i64 a_Turns] 0 24 0), (0, .cells [.int .i64 a_Marks, .int .i64 a_Step, .int .i64 a_Turns] 0 23 0)]) (c' := 8) (by kernel_rfl) ?_
      refine XR.done (by kernel_rfl) ?_
      show XQ _ _ _ _ _ _ _ _
      refine XQ.ret (by kernel_rfl) ?_
      have h := Option.some.inj h
      subst h
      exact ⟨fun i q => (by cases q), .bool false, (by kernel_rfl), rfl⟩
  | false =>
    have h := cF b1 h
    refine XR.run E0_ok 1 28 [2] rfl (σ' := [(2, .bool false)]) (h' := [(7, .cells (rowC encP r6.1) 0 63 2), (6, .cells (rowC encP r5.1) 0 63 2), (5, .cells (rowC (encI .i64) r4.1) 0 3 1), (4, .cells (rowC (encI .i64) r3.1) 0 3 1), (3, .cells (rowC (encI .i64) r2.1) 0 3 1), (2, .cells (rowC (encI .i64) r1.1) 0 3 1), (1, .cells [.int .i64 a_Marks, .int .i64 a_Step, .int .i64 a_Turns] 0 24 0), (0, .cells [.int .i64 a_Marks, .int .i64 a_Step, .int .i64 a_Turns] 0 23 0)]) (c' := 8) (by kernel_rfl) ?_
    refine XR.done (by kernel_rfl) ?_
    show XQ _ _ _ _ _ _ _ _
    refine XQ.ret (by kernel_rfl) ?_
    have h := Option.some.inj h
    subst h
    exact ⟨fun i q => (by cases q), .bool false, (by kernel_rfl), rfl⟩

end Go.Xm
