/- What these functions of the program compute, as functions in Lean, and the proofs that they do: vitolaref05.Round, vitolaref05.Gaps. Conditions: none. -/
import Derived.Test.YtagagpkjlkoieaaPh
namespace Go.Xm
open Go.RowKit
set_option linter.unusedVariables false
set_option linter.unusedSimpArgs false
set_option maxRecDepth 20000

/-! vitola/vitolaref05.Round -/
noncomputable def f30_C30 : Code := Proofs.Try.f30.body.getD .skip

def f30 (m : Nat) (a_Marks : Int) (a_Step : Int) (a_Turns : Int) : Option ((List Int) × Int) :=
  (f21 m a_Marks a_Step a_Turns).bind fun r1 =>
    cond (r1 != 0) (
      some ([], r1)
    ) (
      (f76 m a_Marks a_Step a_Turns).bind fun r2 =>
        some (r2, 0)
    )

theorem f30_ok (m : Nat) (a_Marks : Int) (a_Step : Int) (a_Turns : Int) (o : (List Int) × Int) (h : f30 m a_Marks a_Step a_Turns = some o) : KC E0 30 [.agg #[.int .i64 a_Marks, .int .i64 a_Step, .int .i64 a_Turns]] [] 0 (fun v h' c' => v = .tuple #[.slice (some ⟨0, 0, none⟩) o.1.length o.1.length, .int .i64 o.2] ∧ h' = [(0, .cells (rowC (encI .i64) o.1) 0 3 1)] ∧ c' = 1) := by
  refine KC.bodyN E0_ok (F := Proofs.Try.f30) (by kernel_rfl) (code := f30_C30) (by kernel_rfl) (nt := 12) (by kernel_rfl) (rs := [.tmp 2, .tmp 3]) (by kernel_rfl) (by kernel_rfl) (σ := [(0, .agg #[.int .i64 a_Marks, .int .i64 a_Step, .int .i64 a_Turns])]) (by kernel_rfl) ?_
  unfold f30 at h
  refine XQ.seq E0_ok (by kernel_rfl) ?_
  refine XQ.region (by kernel_rfl) ?_
  refine XR.run E0_ok 1 3 [1] rfl (σ' := [(1, .pointer (some ⟨0, 0, none⟩))]) (h' := [(0, .cells [.int .i64 a_Marks, .int .i64 a_Step, .int .i64 a_Turns] 0 24 0)]) (c' := 1) (by kernel_rfl) ?_
  refine XR.done (by kernel_rfl) ?_
  show XQ _ _ _ _ _ _ _ _
  refine XQ.seq E0_ok (by kernel_rfl) ?_
  refine XQ.region (by kernel_rfl) ?_
  refine XR.run E0_ok 1 1 [1, 5] rfl (σ' := [(1, .pointer (some ⟨0, 0, none⟩)), (5, .agg #[.int .i64 a_Marks, .int .i64 a_Step, .int .i64 a_Turns])]) (h' := [(0, .cells [.int .i64 a_Marks, .int .i64 a_Step, .int .i64 a_Turns] 0 24 0)]) (c' := 1) (by kernel_rfl) ?_
  obtain ⟨r1, r1_h, h⟩ := bS h
  refine XR.call E0_ok [1, 6] rfl (K := 21) (args := [.agg #[.int .i64 a_Marks, .int .i64 a_Step, .int .i64 a_Turns]]) (d := (some (path 12 6))) (by kernel_rfl) (KC.of_calls E0_ok (F := Proofs.Try.f21) (v := .int .i64 r1) (by kernel_rfl) rfl rfl (fun w hI => f21_ok m a_Marks a_Step a_Turns r1 r1_h w hI)) ?_
  rintro _ _ _ ⟨rfl, rfl, rfl⟩
  refine XR.conv (σ' := [(1, .pointer (some ⟨0, 0, none⟩)), (6, .int .i64 r1)]) (h' := [(0, .cells [.int .i64 a_Marks, .int .i64 a_Step, .int .i64 a_Turns] 0 24 0)]) (c' := 1) ?_ (by kernel_rfl)
  refine XR.run E0_ok 1 1 [1, 4] rfl (σ' := [(1, .pointer (some ⟨0, 0, none⟩)), (4, .int .i64 r1)]) (h' := [(0, .cells [.int .i64 a_Marks, .int .i64 a_Step, .int .i64 a_Turns] 0 24 0)]) (c' := 1) (by kernel_rfl) ?_
  refine XR.done (by kernel_rfl) ?_
  show XQ _ _ _ _ _ _ _ _
  refine XQ.seq E0_ok (by kernel_rfl) ?_
  refine XQ.seq E0_ok (by kernel_rfl) ?_
  refine XQ.region (by kernel_rfl) ?_
  refine XR.run E0_ok 1 2 [1, 4, 8] rfl (σ' := [(1, .pointer (some ⟨0, 0, none⟩)), (4, .int .i64 r1), (8, .bool (r1 != 0))]) (h' := [(0, .cells [.int .i64 a_Marks, .int .i64 a_Step, .int .i64 a_Turns] 0 24 0)]) (c' := 1) (by kernel_rfl) ?_
  refine XR.done (by kernel_rfl) ?_
  show XQ _ _ _ _ _ _ _ _
  cases b1 : (r1 != 0 : Bool) with
  | true =>
    have h := cT b1 h
    refine XQ.cond (s := (.tmp 8)) (b := true) (by kernel_rfl) (by kernel_rfl) (fun _ => ?_) (fun q => by cases q)
    refine XQ.seq E0_ok (by kernel_rfl) ?_
    refine XQ.region (by kernel_rfl) ?_
    refine XR.run E0_ok 1 3 [2, 3] rfl (σ' := [(2, .slice none 0 0), (3, .int .i64 r1)]) (h' := [(0, .cells [.int .i64 a_Marks, .int .i64 a_Step, .int .i64 a_Turns] 0 24 0)]) (c' := 1) (by kernel_rfl) ?_
    refine XR.done (by kernel_rfl) ?_
    show XQ _ _ _ _ _ _ _ _
    refine XQ.ghost 3 1 rfl (σ' := [(2, .slice (some ⟨1, 0, none⟩) 0 0), (3, .int .i64 r1)]) (h' := [(0, .cells [.int .i64 a_Marks, .int .i64 a_Step, .int .i64 a_Turns] 0 24 0)]) ⟨by kernel_rfl, by kernel_rfl, trivial⟩ ⟨⟨_, rfl, .inl rfl⟩, trivial⟩ ?_
    refine XQ.conv (σ' := [(2, .slice (some ⟨1, 0, none⟩) 0 0), (3, .int .i64 r1)]) (h' := [(1, .cells (rowC (encI .i64) []) 0 3 1), (0, .cells [.int .i64 a_Marks, .int .i64 a_Step, .int .i64 a_Turns] 0 24 0)]) (c' := 2) ?_ (by kernel_rfl)
    refine XQ.ren (σ' := [(2, .slice (some ⟨0, 0, none⟩) 0 0), (3, .int .i64 r1)]) (h' := [(0, .cells (rowC (encI .i64) []) 0 3 1)]) (c' := 1) [1] (by decide) rfl ⟨by kernel_rfl, by kernel_rfl, trivial⟩ ⟨⟨_, _, rfl, rfl, .inl ⟨rfl, rowC_scal (encI_ok .i64) _⟩⟩, trivial⟩ rfl ?_
    refine XQ.ret (by kernel_rfl) ?_
    have h := Option.some.inj h
    subst h
    exact ⟨fun i q => (by cases q), .tuple #[.slice (some ⟨0, 0, none⟩) 0 0, .int .i64 r1], (by kernel_rfl), (by kernel_rfl), (by kernel_rfl), rfl⟩
  | false =>
    have h := cF b1 h
    refine XQ.cond (s := (.tmp 8)) (b := false) (by kernel_rfl) (by kernel_rfl) (fun q => by cases q) (fun _ => ?_)
    refine XQ.skip (by kernel_rfl) ?_
    show XQ _ _ _ _ _ _ _ _
    refine XQ.seq E0_ok (by kernel_rfl) ?_
    refine XQ.region (by kernel_rfl) ?_
    refine XR.run E0_ok 1 1 [10] rfl (σ' := [(10, .agg #[.int .i64 a_Marks, .int .i64 a_Step, .int .i64 a_Turns])]) (h' := [(0, .cells [.int .i64 a_Marks, .int .i64 a_Step, .int .i64 a_Turns] 0 24 0)]) (c' := 1) (by kernel_rfl) ?_
    obtain ⟨r2, r2_h, h⟩ := bS h
    refine XR.call E0_ok [11] rfl (K := 76) (args := [.agg #[.int .i64 a_Marks, .int .i64 a_Step, .int .i64 a_Turns]]) (d := (some (path 12 11))) (by kernel_rfl) (KC.lift (V2 := .slice (some ⟨1, 0, none⟩) r2.length r2.length) (H2 := [(1, .cells (rowC (encI .i64) r2) 0 3 1)]) [1, 0] (f76_ok m a_Marks a_Step a_Turns r2 r2_h) rfl (by decide) (by decide) (by kernel_rfl) ⟨⟨_, _, rfl, rfl, .inl ⟨rfl, rowC_scal (encI_ok .i64) _⟩⟩, trivial⟩ (by rfl)) ?_
    rintro _ _ _ ⟨rfl, rfl, rfl⟩
    refine XR.conv (σ' := [(11, .slice (some ⟨1, 0, none⟩) r2.length r2.length)]) (h' := [(1, .cells (rowC (encI .i64) r2) 0 3 1), (0, .cells [.int .i64 a_Marks, .int .i64 a_Step, .int .i64 a_Turns] 0 24 0)]) (c' := 2) ?_ (by kernel_rfl)
    refine XR.run E0_ok 1 2 [2, 3] rfl (σ' := [(2, .slice (some ⟨1, 0, none⟩) r2.length r2.length), (3, .int .i64 0)]) (h' := [(1, .cells (rowC (encI .i64) r2) 0 3 1), (0, .cells [.int .i64 a_Marks, .int .i64 a_Step, .int .i64 a_Turns] 0 24 0)]) (c' := 2) (by kernel_rfl) ?_
    refine XR.done (by kernel_rfl) ?_
    show XQ _ _ _ _ _ _ _ _
    refine XQ.ren (σ' := [(2, .slice (some ⟨0, 0, none⟩) r2.length r2.length), (3, .int .i64 0)]) (h' := [(0, .cells (rowC (encI .i64) r2) 0 3 1)]) (c' := 1) [1] (by decide) rfl ⟨by kernel_rfl, by kernel_rfl, trivial⟩ ⟨⟨_, _, rfl, rfl, .inl ⟨rfl, rowC_scal (encI_ok .i64) _⟩⟩, trivial⟩ rfl ?_
    refine XQ.ret (by kernel_rfl) ?_
    have h := Option.some.inj h
    subst h
    exact ⟨fun i q => (by cases q), .tuple #[.slice (some ⟨0, 0, none⟩) r2.length r2.length, .int .i64 0], (by kernel_rfl), (by kernel_rfl), (by kernel_rfl), rfl⟩

/-! vitola/vitolaref05.Gaps -/
noncomputable def f32_C32 : Code := Proofs.Try.f32.body.getD .skip
noncomputable def f32_C78 : Code := Proofs.Try.f78.body.getD .skip
noncomputable def f32_L1 : Code := lft (lft (rgt (lft (rgt (rgt (rgt f32_C78))))))

def f32_1 (m : Nat) : Nat → Int → Int → Int → Int → List Int → List Int → Option (List Int)
  | 0, _, _, _, _, _, _ => none
  | fuel + 1, a_Marks, a_Step, a_Turns, x5_1, lh2_1, lh3_1 =>
    cond (decide (x5_1 < ((lh2_1.length : Nat) : Int))) (
      cond (decide ((w64 (x5_1 + 1)) < ((lh2_1.length : Nat) : Int))) (
        cond (inRow (w64 (x5_1 + 1)) lh2_1.length) (
          (f61 m a_Marks a_Step a_Turns (List.getD lh2_1 (Int.toNat (w64 (x5_1 + 1))) 0)).bind fun r12 =>
            cond (inRow x5_1 lh2_1.length) (
              (f61 m a_Marks a_Step a_Turns (List.getD lh2_1 (Int.toNat x5_1) 0)).bind fun r13 =>
                cond (fitsB (lh3_1.length + 1) 8) (
                  f32_1 m fuel a_Marks a_Step a_Turns (w64 (x5_1 + 1)) lh2_1 (lh3_1 ++ [w64 (r12 - r13)])
                ) none
            ) none
        ) none
      ) (
        cond (inRow x5_1 lh2_1.length) (
          (f61 m a_Marks a_Step a_Turns (List.getD lh2_1 (Int.toNat x5_1) 0)).bind fun r14 =>
            cond (fitsB (lh3_1.length + 1) 8) (
              f32_1 m fuel a_Marks a_Step a_Turns (w64 (x5_1 + 1)) lh2_1 (lh3_1 ++ [w64 (a_Marks - r14)])
            ) none
        ) none
      )
    ) (
      some (lh3_1)
    )

theorem f32_1_ok (m : Nat) : ∀ (fuel : Nat) (a_Marks : Int) (a_Step : Int) (a_Turns : Int) (x5_1 : Int) (lh2_1 : List Int) (lh3_1 : List Int) (o : (List Int)), f32_1 m fuel a_Marks a_Step a_Turns x5_1 lh2_1 lh3_1 = some o → ∀ Q : QP, Q (.exit 0) [(4, .slice (some ⟨1, 0, none⟩) o.length o.length)] [(1, .cells (rowC (encI .i64) o) 0 3 1), (0, .cells [.int .i64 a_Marks, .int .i64 a_Step, .int .i64 a_Turns] 0 24 0)] 2 → XL E0 41 1 fuel f32_L1 [(1, .pointer (some ⟨1, 0, none⟩)), (3, .slice (some ⟨2, 0, none⟩) lh2_1.length lh2_1.length), (4, .slice (some ⟨3, 0, none⟩) lh3_1.length lh3_1.length), (5, .int .i64 x5_1)] [(3, .cells (rowC (encI .i64) lh3_1) 0 3 1), (2, .cells (rowC (encI .i64) lh2_1) 0 3 1), (1, .cells [.int .i64 a_Marks, .int .i64 a_Step, .int .i64 a_Turns] 0 24 0), (0, .cells [.int .i64 a_Marks, .int .i64 a_Step, .int .i64 a_Turns] 0 24 0)] 4 Q
  | 0, a_Marks, a_Step, a_Turns, x5_1, lh2_1, lh3_1, o, h, Q, hQ => by cases h
  | fuel + 1, a_Marks, a_Step, a_Turns, x5_1, lh2_1, lh3_1, o, h, Q, hQ => by
    unfold f32_1 at h
    refine XL.succ E0_ok ?_
    refine XQ.seq E0_ok (by kernel_rfl) ?_
    refine XQ.seq E0_ok (by kernel_rfl) ?_
    refine XQ.region (by kernel_rfl) ?_
    refine XR.run E0_ok 1 4 [1, 3, 4, 5, 12] rfl (σ' := [(1, .pointer (some ⟨1, 0, none⟩)), (3, .slice (some ⟨2, 0, none⟩) lh2_1.length lh2_1.length), (4, .slice (some ⟨3, 0, none⟩) lh3_1.length lh3_1.length), (5, .int .i64 x5_1), (12, .bool (decide (x5_1 < ((lh2_1.length : Nat) : Int))))]) (h' := [(3, .cells (rowC (encI .i64) lh3_1) 0 3 1), (2, .cells (rowC (encI .i64) lh2_1) 0 3 1), (1, .cells [.int .i64 a_Marks, .int .i64 a_Step, .int .i64 a_Turns] 0 24 0), (0, .cells [.int .i64 a_Marks, .int .i64 a_Step, .int .i64 a_Turns] 0 24 0)]) (c' := 4) (by kernel_rfl) ?_
    refine XR.done (by kernel_rfl) ?_
    show XQ _ _ _ _ _ _ _ _
    cases b1 : (decide (x5_1 < ((lh2_1.length : Nat) : Int)) : Bool) with
    | true =>
      have h := cT b1 h
      refine XQ.cond (s := (.tmp 12)) (b := true) (by kernel_rfl) (by kernel_rfl) (fun _ => ?_) (fun q => by cases q)
      refine XQ.skip (by kernel_rfl) ?_
      show XQ _ _ _ _ _ _ _ _
      refine XQ.seq E0_ok (by kernel_rfl) ?_
      refine XQ.block (id := 1) (by kernel_rfl) ?_
      refine XQ.seq E0_ok (by kernel_rfl) ?_
      refine XQ.region (by kernel_rfl) ?_
      refine XR.run E0_ok 1 3 [1, 3, 4, 5, 6] rfl (σ' := [(1, .pointer (some ⟨1, 0, none⟩)), (3, .slice (some ⟨2, 0, none⟩) lh2_1.length lh2_1.length), (4, .slice (some ⟨3, 0, none⟩) lh3_1.length lh3_1.length), (5, .int .i64 x5_1), (6, .int .i64 a_Marks)]) (h' := [(3, .cells (rowC (encI .i64) lh3_1) 0 3 1), (2, .cells (rowC (encI .i64) lh2_1) 0 3 1), (1, .cells [.int .i64 a_Marks, .int .i64 a_Step, .int .i64 a_Turns] 0 24 0), (0, .cells [.int .i64 a_Marks, .int .i64 a_Step, .int .i64 a_Turns] 0 24 0)]) (c' := 4) (by kernel_rfl) ?_
      refine XR.done (by kernel_rfl) ?_
      show XQ _ _ _ _ _ _ _ _
      refine XQ.seq E0_ok (by kernel_rfl) ?_
      refine XQ.seq E0_ok (by kernel_rfl) ?_
      refine XQ.region (by kernel_rfl) ?_
      refine XR.run E0_ok 1 5 [1, 3, 4, 5, 6, 21] rfl (σ' := [(1, .pointer (some ⟨1, 0, none⟩)), (3, .slice (some ⟨2, 0, none⟩) lh2_1.length lh2_1.length), (4, .slice (some ⟨3, 0, none⟩) lh3_1.length lh3_1.length), (5, .int .i64 x5_1), (6, .int .i64 a_Marks), (21, .bool (decide ((w64 (x5_1 + 1)) < ((lh2_1.length : Nat) : Int))))]) (h' := [(3, .cells (rowC (encI .i64) lh3_1) 0 3 1), (2, .cells (rowC (encI .i64) lh2_1) 0 3 1), (1, .cells [.int .i64 a_Marks, .int .i64 a_Step, .int .i64 a_Turns] 0 24 0), (0, .cells [.int .i64 a_Marks, .int .i64 a_Step, .int .i64 a_Turns] 0 24 0)]) (c' := 4) (by kernel_rfl) ?_
      refine XR.done (by kernel_rfl) ?_
      show XQ _ _ _ _ _ _ _ _
      cases b2 : (decide ((w64 (x5_1 + 1)) < ((lh2_1.length : Nat) : Int)) : Bool) with
      | true =>
        have h := cT b2 h
        refine XQ.cond (s := (.tmp 21)) (b := true) (by kernel_rfl) (by kernel_rfl) (fun _ => ?_) (fun q => by cases q)
        refine XQ.quiet E0_ok (by kernel_rfl) (by kernel_rfl) ?_
        refine XU.run E0_ok 1 4 [1, 3, 4, 5, 22, 23, 25] rfl (σ' := [(1, .pointer (some ⟨1, 0, none⟩)), (3, .slice (some ⟨2, 0, none⟩) lh2_1.length lh2_1.length), (4, .slice (some ⟨3, 0, none⟩) lh3_1.length lh3_1.length), (5, .int .i64 x5_1), (22, .agg #[.int .i64 a_Marks, .int .i64 a_Step, .int .i64 a_Turns]), (23, .slice (some ⟨2, 0, none⟩) lh2_1.length lh2_1.length), (25, .int .i64 (w64 (x5_1 + 1)))]) (by kernel_rfl) ?_
        cases b3 : (inRow (w64 (x5_1 + 1)) lh2_1.length : Bool) with
        | false => cases (cF b3 h)
        | true =>
          have h := cT b3 h
          refine XU.rd E0_ok [1, 3, 4, 5, 22, 26] rfl (v := .pointer (some ⟨2, (Int.toNat (w64 (x5_1 + 1))) * 1, none⟩)) (v_idx (s := 1) (x := (src 41 (.tmp 23))) (y := (src 41 (.tmp 25))) (b := 2) (o := 0) (len := lh2_1.length) (cap := lh2_1.length) (ik := .i64) (i := w64 (x5_1 + 1)) (off := (Int.toNat (w64 (x5_1 + 1))) * 1) (d := (some (path 12 26))) (by kernel_rfl) (by kernel_rfl) (by kernel_rfl) b3 (by omega)) (σ' := [(1, .pointer (some ⟨1, 0, none⟩)), (3, .slice (some ⟨2, 0, none⟩) lh2_1.length lh2_1.length), (4, .slice (some ⟨3, 0, none⟩) lh3_1.length lh3_1.length), (5, .int .i64 x5_1), (22, .agg #[.int .i64 a_Marks, .int .i64 a_Step, .int .i64 a_Turns]), (26, .pointer (some ⟨2, (Int.toNat (w64 (x5_1 + 1))) * 1, none⟩))]) (by kernel_rfl) ?_
          refine XU.rd E0_ok [1, 3, 4, 5, 22, 27] rfl (v := .int .i64 (List.getD lh2_1 (Int.toNat (w64 (x5_1 + 1))) 0)) (v_load1 (encI_ok .i64) (x := (src 41 (.tmp 26))) (b := 2) (off := (Int.toNat (w64 (x5_1 + 1))) * 1) (xs := lh2_1) (fz := 0) (e := 3) (es := 1) (d := (some (path 12 27))) (by kernel_rfl) (by kernel_rfl) (by kernel_rfl) (Int.toNat (w64 (x5_1 + 1))) 0 0 (by first | rfl | omega) (row_len (inRow_toNat b3) (by simp)) rfl rfl) (σ' := [(1, .pointer (some ⟨1, 0, none⟩)), (3, .slice (some ⟨2, 0, none⟩) lh2_1.length lh2_1.length), (4, .slice (some ⟨3, 0, none⟩) lh3_1.length lh3_1.length), (5, .int .i64 x5_1), (22, .agg #[.int .i64 a_Marks, .int .i64 a_Step, .int .i64 a_Turns]), (27, .int .i64 (List.getD lh2_1 (Int.toNat (w64 (x5_1 + 1))) 0))]) (by kernel_rfl) ?_
          obtain ⟨r12, r12_h, h⟩ := bS h
          refine XU.call E0_ok [1, 3, 4, 5, 28] rfl (K := 61) (F := Proofs.Try.f61) (args := [.agg #[.int .i64 a_Marks, .int .i64 a_Step, .int .i64 a_Turns], .int .i64 (List.getD lh2_1 (Int.toNat (w64 (x5_1 + 1))) 0)]) (d := (some (path 12 28))) (v := .int .i64 r12) (by kernel_rfl) (by kernel_rfl) rfl rfl (fun w hI => f61_ok m a_Marks a_Step a_Turns (List.getD lh2_1 (Int.toNat (w64 (x5_1 + 1))) 0) r12 r12_h w hI) (σ' := [(1, .pointer (some ⟨1, 0, none⟩)), (3, .slice (some ⟨2, 0, none⟩) lh2_1.length lh2_1.length), (4, .slice (some ⟨3, 0, none⟩) lh3_1.length lh3_1.length), (5, .int .i64 x5_1), (28, .int .i64 r12)]) (by kernel_rfl) ?_
          refine XU.run E0_ok 1 1 [1, 3, 4, 5, 6] rfl (σ' := [(1, .pointer (some ⟨1, 0, none⟩)), (3, .slice (some ⟨2, 0, none⟩) lh2_1.length lh2_1.length), (4, .slice (some ⟨3, 0, none⟩) lh3_1.length lh3_1.length), (5, .int .i64 x5_1), (6, .int .i64 r12)]) (by kernel_rfl) ?_
          refine XU.done (by kernel_rfl) ?_
          show XQ _ _ _ _ _ _ _ _
          refine XQ.preP E0_ok [0, 1] [2, 3, 4, 5, 6] 7 [8, 9, 10, 11] (by kernel_rfl) (by kernel_rfl) (by kernel_rfl) ?_
          refine XP.step E0_ok 2 [1, 3, 5, 29, 30] rfl (σ' := [(1, .pointer (some ⟨1, 0, none⟩)), (3, .slice (some ⟨2, 0, none⟩) lh2_1.length lh2_1.length), (5, .int .i64 x5_1), (29, .slice (some ⟨3, 0, none⟩) lh3_1.length lh3_1.length), (30, .int .i64 r12)]) (by kernel_rfl) ?_
          refine XP.done (by kernel_rfl) ?_
          show XS _ _ _ _ _ _ _ _ _ _
          refine XS.step E0_ok 3 rfl [1, 3, 5, 29, 30, 31, 32, 33] rfl (σ' := [(1, .pointer (some ⟨1, 0, none⟩)), (3, .slice (some ⟨2, 0, none⟩) lh2_1.length lh2_1.length), (5, .int .i64 x5_1), (29, .slice (some ⟨3, 0, none⟩) lh3_1.length lh3_1.length), (30, .int .i64 r12), (31, .agg #[.int .i64 a_Marks, .int .i64 a_Step, .int .i64 a_Turns]), (32, .slice (some ⟨2, 0, none⟩) lh2_1.length lh2_1.length), (33, .int .i64 x5_1)]) (by kernel_rfl) ?_
          cases b4 : (inRow x5_1 lh2_1.length : Bool) with
          | false => cases (cF b4 h)
          | true =>
            have h := cT b4 h
            refine XS.rd E0_ok rfl [1, 3, 5, 29, 30, 31, 34] rfl (v := .pointer (some ⟨2, (Int.toNat x5_1) * 1, none⟩)) (v_idx (s := 1) (x := (src 41 (.tmp 32))) (y := (src 41 (.tmp 33))) (b := 2) (o := 0) (len := lh2_1.length) (cap := lh2_1.length) (ik := .i64) (i := x5_1) (off := (Int.toNat x5_1) * 1) (d := (some (path 12 34))) (by kernel_rfl) (by kernel_rfl) (by kernel_rfl) b4 (by omega)) (σ' := [(1, .pointer (some ⟨1, 0, none⟩)), (3, .slice (some ⟨2, 0, none⟩) lh2_1.length lh2_1.length), (5, .int .i64 x5_1), (29, .slice (some ⟨3, 0, none⟩) lh3_1.length lh3_1.length), (30, .int .i64 r12), (31, .agg #[.int .i64 a_Marks, .int .i64 a_Step, .int .i64 a_Turns]), (34, .pointer (some ⟨2, (Int.toNat x5_1) * 1, none⟩))]) (by kernel_rfl) ?_
            refine XS.rd E0_ok rfl [1, 3, 5, 29, 30, 31, 35] rfl (v := .int .i64 (List.getD lh2_1 (Int.toNat x5_1) 0)) (v_load1 (encI_ok .i64) (x := (src 41 (.tmp 34))) (b := 2) (off := (Int.toNat x5_1) * 1) (xs := lh2_1) (fz := 0) (e := 3) (es := 1) (d := (some (path 12 35))) (by kernel_rfl) (by kernel_rfl) (by kernel_rfl) (Int.toNat x5_1) 0 0 (by first | rfl | omega) (row_len (inRow_toNat b4) (by simp)) rfl rfl) (σ' := [(1, .pointer (some ⟨1, 0, none⟩)), (3, .slice (some ⟨2, 0, none⟩) lh2_1.length lh2_1.length), (5, .int .i64 x5_1), (29, .slice (some ⟨3, 0, none⟩) lh3_1.length lh3_1.length), (30, .int .i64 r12), (31, .agg #[.int .i64 a_Marks, .int .i64 a_Step, .int .i64 a_Turns]), (35, .int .i64 (List.getD lh2_1 (Int.toNat x5_1) 0))]) (by kernel_rfl) ?_
            refine XS.done (by kernel_rfl) ?_
            obtain ⟨r13, r13_h, h⟩ := bS h
            refine XR.call E0_ok [1, 3, 5, 29, 30, 36] rfl (K := 61) (args := [.agg #[.int .i64 a_Marks, .int .i64 a_Step, .int .i64 a_Turns], .int .i64 (List.getD lh2_1 (Int.toNat x5_1) 0)]) (d := (some (path 12 36))) (by kernel_rfl) (KC.of_calls E0_ok (F := Proofs.Try.f61) (v := .int .i64 r13) (by kernel_rfl) rfl rfl (fun w hI => f61_ok m a_Marks a_Step a_Turns (List.getD lh2_1 (Int.toNat x5_1) 0) r13 r13_h w hI)) ?_
            rintro _ _ _ ⟨rfl, rfl, rfl⟩
            refine XR.conv (σ' := [(1, .pointer (some ⟨1, 0, none⟩)), (3, .slice (some ⟨2, 0, none⟩) lh2_1.length lh2_1.length), (5, .int .i64 x5_1), (29, .slice (some ⟨3, 0, none⟩) lh3_1.length lh3_1.length), (30, .int .i64 r12), (36, .int .i64 r13)]) (h' := [(3, .cells (rowC (encI .i64) lh3_1) 0 3 1), (2, .cells (rowC (encI .i64) lh2_1) 0 3 1), (1, .cells [.int .i64 a_Marks, .int .i64 a_Step, .int .i64 a_Turns] 0 24 0), (0, .cells [.int .i64 a_Marks, .int .i64 a_Step, .int .i64 a_Turns] 0 24 0)]) (c' := 4) ?_ (by kernel_rfl)
            refine XR.run E0_ok 1 2 [1, 3, 5, 29, 38] rfl (σ' := [(1, .pointer (some ⟨1, 0, none⟩)), (3, .slice (some ⟨2, 0, none⟩) lh2_1.length lh2_1.length), (5, .int .i64 x5_1), (29, .slice (some ⟨3, 0, none⟩) lh3_1.length lh3_1.length), (38, .slice (some ⟨4, 0, none⟩) 1 1)]) (h' := [(4, .cells [.int .i64 (w64 (r12 - r13))] 0 3 1), (3, .cells (rowC (encI .i64) lh3_1) 0 3 1), (2, .cells (rowC (encI .i64) lh2_1) 0 3 1), (1, .cells [.int .i64 a_Marks, .int .i64 a_Step, .int .i64 a_Turns] 0 24 0), (0, .cells [.int .i64 a_Marks, .int .i64 a_Step, .int .i64 a_Turns] 0 24 0)]) (c' := 5) (by kernel_rfl) ?_
            cases b5 : (fitsB (lh3_1.length + 1) 8 : Bool) with
            | false => cases (cF b5 h)
            | true =>
              have h := cT b5 h
              refine XR.ef E0_ok [1, 3, 5, 39] rfl (e_append (encI_ok .i64) (bytes := 8) (e := 3) (x := (src 41 (.tmp 29))) (y := (src 41 (.tmp 38))) (b := 3) (len := lh3_1.length) (cap := lh3_1.length) (xs := lh3_1) (m := 0) (ys := [w64 (r12 - r13)]) (d := (some (path 12 39))) (n' := (lh3_1 ++ [w64 (r12 - r13)]).length) (h' := [(5, .cells (rowC (encI .i64) (lh3_1 ++ [w64 (r12 - r13)])) 0 3 1), (4, .cells [.int .i64 (w64 (r12 - r13))] 0 3 1), (2, .cells (rowC (encI .i64) lh2_1) 0 3 1), (1, .cells [.int .i64 a_Marks, .int .i64 a_Step, .int .i64 a_Turns] 0 24 0), (0, .cells [.int .i64 a_Marks, .int .i64 a_Step, .int .i64 a_Turns] 0 24 0)]) (by kernel_rfl) (by kernel_rfl) (by kernel_rfl) (by kernel_rfl) rfl (by simp) (by simp) b5 (by simp) (by kernel_rfl)) (σ' := [(1, .pointer (some ⟨1, 0, none⟩)), (3, .slice (some ⟨2, 0, none⟩) lh2_1.length lh2_1.length), (5, .int .i64 x5_1), (39, .slice (some ⟨5, 0, none⟩) ((lh3_1 ++ [w64 (r12 - r13)]).length) ((lh3_1 ++ [w64 (r12 - r13)]).length))]) (by kernel_rfl) ?_
              refine XR.run E0_ok 1 1 [1, 3, 4, 5] rfl (σ' := [(1, .pointer (some ⟨1, 0, none⟩)), (3, .slice (some ⟨2, 0, none⟩) lh2_1.length lh2_1.length), (4, .slice (some ⟨5, 0, none⟩) ((lh3_1 ++ [w64 (r12 - r13)]).length) ((lh3_1 ++ [w64 (r12 - r13)]).length)), (5, .int .i64 x5_1)]) (h' := [(5, .cells (rowC (encI .i64) (lh3_1 ++ [w64 (r12 - r13)])) 0 3 1), (4, .cells [.int .i64 (w64 (r12 - r13))] 0 3 1), (2, .cells (rowC (encI .i64) lh2_1) 0 3 1), (1, .cells [.int .i64 a_Marks, .int .i64 a_Step, .int .i64 a_Turns] 0 24 0), (0, .cells [.int .i64 a_Marks, .int .i64 a_Step, .int .i64 a_Turns] 0 24 0)]) (c' := 6) (by kernel_rfl) ?_
              refine XR.done (by kernel_rfl) ?_
              show XQ _ _ _ _ _ _ _ _
              refine XQ.region (by kernel_rfl) ?_
              refine XR.run E0_ok 1 3 [1, 3, 4, 5] rfl (σ' := [(1, .pointer (some ⟨1, 0, none⟩)), (3, .slice (some ⟨2, 0, none⟩) lh2_1.length lh2_1.length), (4, .slice (some ⟨5, 0, none⟩) ((lh3_1 ++ [w64 (r12 - r13)]).length) ((lh3_1 ++ [w64 (r12 - r13)]).length)), (5, .int .i64 (w64 (x5_1 + 1)))]) (h' := [(5, .cells (rowC (encI .i64) (lh3_1 ++ [w64 (r12 - r13)])) 0 3 1), (4, .cells [.int .i64 (w64 (r12 - r13))] 0 3 1), (2, .cells (rowC (encI .i64) lh2_1) 0 3 1), (1, .cells [.int .i64 a_Marks, .int .i64 a_Step, .int .i64 a_Turns] 0 24 0), (0, .cells [.int .i64 a_Marks, .int .i64 a_Step, .int .i64 a_Turns] 0 24 0)]) (c' := 6) (by kernel_rfl) ?_
              refine XR.done (by kernel_rfl) ?_
              show XL _ _ _ _ _ _ _ _ _
              refine XL.ren (σ' := [(1, .pointer (some ⟨1, 0, none⟩)), (3, .slice (some ⟨2, 0, none⟩) lh2_1.length lh2_1.length), (4, .slice (some ⟨3, 0, none⟩) ((lh3_1 ++ [w64 (r12 - r13)]).length) ((lh3_1 ++ [w64 (r12 - r13)]).length)), (5, .int .i64 (w64 (x5_1 + 1)))]) (h' := [(3, .cells (rowC (encI .i64) (lh3_1 ++ [w64 (r12 - r13)])) 0 3 1), (2, .cells (rowC (encI .i64) lh2_1) 0 3 1), (1, .cells [.int .i64 a_Marks, .int .i64 a_Step, .int .i64 a_Turns] 0 24 0), (0, .cells [.int .i64 a_Marks, .int .i64 a_Step, .int .i64 a_Turns] 0 24 0)]) (c' := 4) [0, 1, 2, 5] (by decide) rfl ⟨by kernel_rfl, by kernel_rfl, by kernel_rfl, by kernel_rfl, trivial⟩ ⟨⟨_, _, rfl, rfl, .inl ⟨rfl, rowC_scal (encI_ok .i64) _⟩⟩, ⟨_, _, rfl, rfl, .inl ⟨rfl, rowC_scal (encI_ok .i64) _⟩⟩, ⟨_, _, rfl, rfl, .inr ⟨_, _, _, _, rfl, rfl⟩⟩, ⟨_, _, rfl, rfl, .inr ⟨_, _, _, _, rfl, rfl⟩⟩, trivial⟩ rfl ?_
              refine XL.conv (f32_1_ok m fuel a_Marks a_Step a_Turns (w64 (x5_1 + 1)) lh2_1 (lh3_1 ++ [w64 (r12 - r13)]) o h Q hQ) (by first | rfl | simp)
      | false =>
        have h := cF b2 h
        refine XQ.cond (s := (.tmp 21)) (b := false) (by kernel_rfl) (by kernel_rfl) (fun q => by cases q) (fun _ => ?_)
        refine XQ.skip (by kernel_rfl) ?_
        show XQ _ _ _ _ _ _ _ _
        refine XQ.preP E0_ok [0, 1] [2, 3, 4, 5, 6] 7 [8, 9, 10, 11] (by kernel_rfl) (by kernel_rfl) (by kernel_rfl) ?_
        refine XP.step E0_ok 2 [1, 3, 5, 29, 30] rfl (σ' := [(1, .pointer (some ⟨1, 0, none⟩)), (3, .slice (some ⟨2, 0, none⟩) lh2_1.length lh2_1.length), (5, .int .i64 x5_1), (29, .slice (some ⟨3, 0, none⟩) lh3_1.length lh3_1.length), (30, .int .i64 a_Marks)]) (by kernel_rfl) ?_
        refine XP.done (by kernel_rfl) ?_
        show XS _ _ _ _ _ _ _ _ _ _
        refine XS.step E0_ok 3 rfl [1, 3, 5, 29, 30, 31, 32, 33] rfl (σ' := [(1, .pointer (some ⟨1, 0, none⟩)), (3, .slice (some ⟨2, 0, none⟩) lh2_1.length lh2_1.length), (5, .int .i64 x5_1), (29, .slice (some ⟨3, 0, none⟩) lh3_1.length lh3_1.length), (30, .int .i64 a_Marks), (31, .agg #[.int .i64 a_Marks, .int .i64 a_Step, .int .i64 a_Turns]), (32, .slice (some ⟨2, 0, none⟩) lh2_1.length lh2_1.length), (33, .int .i64 x5_1)]) (by kernel_rfl) ?_
        cases b6 : (inRow x5_1 lh2_1.length : Bool) with
        | false => cases (cF b6 h)
        | true =>
          have h := cT b6 h
          refine XS.rd E0_ok rfl [1, 3, 5, 29, 30, 31, 34] rfl (v := .pointer (some ⟨2, (Int.toNat x5_1) * 1, none⟩)) (v_idx (s := 1) (x := (src 41 (.tmp 32))) (y := (src 41 (.tmp 33))) (b := 2) (o := 0) (len := lh2_1.length) (cap := lh2_1.length) (ik := .i64) (i := x5_1) (off := (Int.toNat x5_1) * 1) (d := (some (path 12 34))) (by kernel_rfl) (by kernel_rfl) (by kernel_rfl) b6 (by omega)) (σ' := [(1, .pointer (some ⟨1, 0, none⟩)), (3, .slice (some ⟨2, 0, none⟩) lh2_1.length lh2_1.length), (5, .int .i64 x5_1), (29, .slice (some ⟨3, 0, none⟩) lh3_1.length lh3_1.length), (30, .int .i64 a_Marks), (31, .agg #[.int .i64 a_Marks, .int .i64 a_Step, .int .i64 a_Turns]), (34, .pointer (some ⟨2, (Int.toNat x5_1) * 1, none⟩))]) (by kernel_rfl) ?_
          refine XS.rd E0_ok rfl [1, 3, 5, 29, 30, 31, 35] rfl (v := .int .i64 (List.getD lh2_1 (Int.toNat x5_1) 0)) (v_load1 (encI_ok .i64) (x := (src 41 (.tmp 34))) (b := 2) (off := (Int.toNat x5_1) * 1) (xs := lh2_1) (fz := 0) (e := 3) (es := 1) (d := (some (path 12 35))) (by kernel_rfl) (by kernel_rfl) (by kernel_rfl) (Int.toNat x5_1) 0 0 (by first | rfl | omega) (row_len (inRow_toNat b6) (by simp)) rfl rfl) (σ' := [(1, .pointer (some ⟨1, 0, none⟩)), (3, .slice (some ⟨2, 0, none⟩) lh2_1.length lh2_1.length), (5, .int .i64 x5_1), (29, .slice (some ⟨3, 0, none⟩) lh3_1.length lh3_1.length), (30, .int .i64 a_Marks), (31, .agg #[.int .i64 a_Marks, .int .i64 a_Step, .int .i64 a_Turns]), (35, .int .i64 (List.getD lh2_1 (Int.toNat x5_1) 0))]) (by kernel_rfl) ?_
          refine XS.done (by kernel_rfl) ?_
          obtain ⟨r14, r14_h, h⟩ := bS h
          refine XR.call E0_ok [1, 3, 5, 29, 30, 36] rfl (K := 61) (args := [.agg #[.int .i64 a_Marks, .int .i64 a_Step, .int .i64 a_Turns], .int .i64 (List.getD lh2_1 (Int.toNat x5_1) 0)]) (d := (some (path 12 36))) (by kernel_rfl) (KC.of_calls E0_ok (F := Proofs.Try.f61) (v := .int .i64 r14) (by kernel_rfl) rfl rfl (fun w hI => f61_ok m a_Marks a_Step a_Turns (List.getD lh2_1 (Int.toNat x5_1) 0) r14 r14_h w hI)) ?_
          rintro _ _ _ ⟨rfl, rfl, rfl⟩
          refine XR.conv (σ' := [(1, .pointer (some ⟨1, 0, none⟩)), (3, .slice (some ⟨2, 0, none⟩) lh2_1.length lh2_1.length), (5, .int .i64 x5_1), (29, .slice (some ⟨3, 0, none⟩) lh3_1.length lh3_1.length), (30, .int .i64 a_Marks), (36, .int .i64 r14)]) (h' := [(3, .cells (rowC (encI .i64) lh3_1) 0 3 1), (2, .cells (rowC (encI .i64) lh2_1) 0 3 1), (1, .cells [.int .i64 a_Marks, .int .i64 a_Step, .int .i64 a_Turns] 0 24 0), (0, .cells [.int .i64 a_Marks, .int .i64 a_Step, .int .i64 a_Turns] 0 24 0)]) (c' := 4) ?_ (by kernel_rfl)
          refine XR.run E0_ok 1 2 [1, 3, 5, 29, 38] rfl (σ' := [(1, .pointer (some ⟨1, 0, none⟩)), (3, .slice (some ⟨2, 0, none⟩) lh2_1.length lh2_1.length), (5, .int .i64 x5_1), (29, .slice (some ⟨3, 0, none⟩) lh3_1.length lh3_1.length), (38, .slice (some ⟨4, 0, none⟩) 1 1)]) (h' := [(4, .cells [.int .i64 (w64 (a_Marks - r14))] 0 3 1), (3, .cells (rowC (encI .i64) lh3_1) 0 3 1), (2, .cells (rowC (encI .i64) lh2_1) 0 3 1), (1, .cells [.int .i64 a_Marks, .int .i64 a_Step, .int .i64 a_Turns] 0 24 0), (0, .cells [.int .i64 a_Marks, .int .i64 a_Step, .int .i64 a_Turns] 0 24 0)]) (c' := 5) (by kernel_rfl) ?_
          cases b7 : (fitsB (lh3_1.length + 1) 8 : Bool) with
          | false => cases (cF b7 h)
          | true =>
            have h := cT b7 h
            refine XR.ef E0_ok [1, 3, 5, 39] rfl (e_append (encI_ok .i64) (bytes := 8) (e := 3) (x := (src 41 (.tmp 29))) (y := (src 41 (.tmp 38))) (b := 3) (len := lh3_1.length) (cap := lh3_1.length) (xs := lh3_1) (m := 0) (ys := [w64 (a_Marks - r14)]) (d := (some (path 12 39))) (n' := (lh3_1 ++ [w64 (a_Marks - r14)]).length) (h' := [(5, .cells (rowC (encI .i64) (lh3_1 ++ [w64 (a_Marks - r14)])) 0 3 1), (4, .cells [.int .i64 (w64 (a_Marks - r14))] 0 3 1), (2, .cells (rowC (encI .i64) lh2_1) 0 3 1), (1, .cells [.int .i64 a_Marks, .int .i64 a_Step, .int .i64 a_Turns] 0 24 0), (0, .cells [.int .i64 a_Marks, .int .i64 a_Step, .int .i64 a_Turns] 0 24 0)]) (by kernel_rfl) (by kernel_rfl) (by kernel_rfl) (by kernel_rfl) rfl (by simp) (by simp) b7 (by simp) (by kernel_rfl)) (σ' := [(1, .pointer (some ⟨1, 0, none⟩)), (3, .slice (some ⟨2, 0, none⟩) lh2_1.length lh2_1.length), (5, .int .i64 x5_1), (39, .slice (some ⟨5, 0, none⟩) ((lh3_1 ++ [w64 (a_Marks - r14)]).length) ((lh3_1 ++ [w64 (a_Marks - r14)]).length))]) (by kernel_rfl) ?_
            refine XR.run E0_ok 1 1 [1, 3, 4, 5] rfl (σ' := [(1, .pointer (some ⟨1, 0, none⟩)), (3, .slice (some ⟨2, 0, none⟩) lh2_1.length lh2_1.length), (4, .slice (some ⟨5, 0, none⟩) ((lh3_1 ++ [w64 (a_Marks - r14)]).length) ((lh3_1 ++ [w64 (a_Marks - r14)]).length)), (5, .int .i64 x5_1)]) (h' := [(5, .cells (rowC (encI .i64) (lh3_1 ++ [w64 (a_Marks - r14)])) 0 3 1), (4, .cells [.int .i64 (w64 (a_Marks - r14))] 0 3 1), (2, .cells (rowC (encI .i64) lh2_1) 0 3 1), (1, .cells [.int .i64 a_Marks, .int .i64 a_Step, .int .i64 a_Turns] 0 24 0), (0, .cells [.int .i64 a_Marks, .int .i64 a_Step, .int .i64 a_Turns] 0 24 0)]) (c' := 6) (by kernel_rfl) ?_
            refine XR.done (by kernel_rfl) ?_
            show XQ _ _ _ _ _ _ _ _
            refine XQ.region (by kernel_rfl) ?_
            refine XR.run E0_ok 1 3 [1, 3, 4, 5] rfl (σ' := [(1, .pointer (some ⟨1, 0, none⟩)), (3, .slice (some ⟨2, 0, none⟩) lh2_1.length lh2_1.length), (4, .slice (some ⟨5, 0, none⟩) ((lh3_1 ++ [w64 (a_Marks - r14)]).length) ((lh3_1 ++ [w64 (a_Marks - r14)]).length)), (5, .int .i64 (w64 (x5_1 + 1)))]) (h' := [(5, .cells (rowC (encI .i64) (lh3_1 ++ [w64 (a_Marks - r14)])) 0 3 1), (4, .cells [.int .i64 (w64 (a_Marks - r14))] 0 3 1), (2, .cells (rowC (encI .i64) lh2_1) 0 3 1), (1, .cells [.int .i64 a_Marks, .int .i64 a_Step, .int .i64 a_Turns] 0 24 0), (0, .cells [.int .i64 a_Marks, .int .i64 a_Step, .int .i64 a_Turns] 0 24 0)]) (c' := 6) (by kernel_rfl) ?_
            refine XR.done (by kernel_rfl) ?_
            show XL _ _ _ _ _ _ _ _ _
            refine XL.ren (σ' := [(1, .pointer (some ⟨1, 0, none⟩)), (3, .slice (some ⟨2, 0, none⟩) lh2_1.length lh2_1.length), (4, .slice (some ⟨3, 0, none⟩) ((lh3_1 ++ [w64 (a_Marks - r14)]).length) ((lh3_1 ++ [w64 (a_Marks - r14)]).length)), (5, .int .i64 (w64 (x5_1 + 1)))]) (h' := [(3, .cells (rowC (encI .i64) (lh3_1 ++ [w64 (a_Marks - r14)])) 0 3 1), (2, .cells (rowC (encI .i64) lh2_1) 0 3 1), (1, .cells [.int .i64 a_Marks, .int .i64 a_Step, .int .i64 a_Turns] 0 24 0), (0, .cells [.int .i64 a_Marks, .int .i64 a_Step, .int .i64 a_Turns] 0 24 0)]) (c' := 4) [0, 1, 2, 5] (by decide) rfl ⟨by kernel_rfl, by kernel_rfl, by kernel_rfl, by kernel_rfl, trivial⟩ ⟨⟨_, _, rfl, rfl, .inl ⟨rfl, rowC_scal (encI_ok .i64) _⟩⟩, ⟨_, _, rfl, rfl, .inl ⟨rfl, rowC_scal (encI_ok .i64) _⟩⟩, ⟨_, _, rfl, rfl, .inr ⟨_, _, _, _, rfl, rfl⟩⟩, ⟨_, _, rfl, rfl, .inr ⟨_, _, _, _, rfl, rfl⟩⟩, trivial⟩ rfl ?_
            refine XL.conv (f32_1_ok m fuel a_Marks a_Step a_Turns (w64 (x5_1 + 1)) lh2_1 (lh3_1 ++ [w64 (a_Marks - r14)]) o h Q hQ) (by first | rfl | simp)
    | false =>
      have h := cF b1 h
      refine XQ.cond (s := (.tmp 12)) (b := false) (by kernel_rfl) (by kernel_rfl) (fun q => by cases q) (fun _ => ?_)
      refine XQ.ren (σ' := [(4, .slice (some ⟨1, 0, none⟩) lh3_1.length lh3_1.length)]) (h' := [(1, .cells (rowC (encI .i64) lh3_1) 0 3 1), (0, .cells [.int .i64 a_Marks, .int .i64 a_Step, .int .i64 a_Turns] 0 24 0)]) (c' := 2) [0, 3] (by decide) rfl ⟨by kernel_rfl, trivial⟩ ⟨⟨_, _, rfl, rfl, .inl ⟨rfl, rowC_scal (encI_ok .i64) _⟩⟩, ⟨_, _, rfl, rfl, .inr ⟨_, _, _, _, rfl, rfl⟩⟩, trivial⟩ rfl ?_
      refine XQ.exit (i := 0) (by kernel_rfl) ?_
      cases h
      exact hQ

def f32 (m : Nat) (a_Marks : Int) (a_Step : Int) (a_Turns : Int) : Option ((List Int) × Int) :=
  (f21 m a_Marks a_Step a_Turns).bind fun r1 =>
    cond (r1 != 0) (
      some ([], r1)
    ) (
      (f76 m a_Marks a_Step a_Turns).bind fun r2 =>
        (f32_1 m m a_Marks a_Step a_Turns 0 r2 []).bind fun o1 =>
          some (o1, 0)
    )

theorem f32_ok (m : Nat) (a_Marks : Int) (a_Step : Int) (a_Turns : Int) (o : (List Int) × Int) (h : f32 m a_Marks a_Step a_Turns = some o) : KC E0 32 [.agg #[.int .i64 a_Marks, .int .i64 a_Step, .int .i64 a_Turns]] [] 0 (fun v h' c' => v = .tuple #[.slice (some ⟨0, 0, none⟩) o.1.length o.1.length, .int .i64 o.2] ∧ h' = [(0, .cells (rowC (encI .i64) o.1) 0 3 1)] ∧ c' = 1) := by
  refine KC.bodyN E0_ok (F := Proofs.Try.f32) (by kernel_rfl) (code := f32_C32) (by kernel_rfl) (nt := 12) (by kernel_rfl) (rs := [.tmp 2, .tmp 3]) (by kernel_rfl) (by kernel_rfl) (σ := [(0, .agg #[.int .i64 a_Marks, .int .i64 a_Step, .int .i64 a_Turns])]) (by kernel_rfl) ?_
  unfold f32 at h
  refine XQ.seq E0_ok (by kernel_rfl) ?_
  refine XQ.region (by kernel_rfl) ?_
  refine XR.run E0_ok 1 3 [1] rfl (σ' := [(1, .pointer (some ⟨0, 0, none⟩))]) (h' := [(0, .cells [.int .i64 a_Marks, .int .i64 a_Step, .int .i64 a_Turns] 0 24 0)]) (c' := 1) (by kernel_rfl) ?_
  refine XR.done (by kernel_rfl) ?_
  show XQ _ _ _ _ _ _ _ _
  refine XQ.seq E0_ok (by kernel_rfl) ?_
  refine XQ.region (by kernel_rfl) ?_
  refine XR.run E0_ok 1 1 [1, 5] rfl (σ' := [(1, .pointer (some ⟨0, 0, none⟩)), (5, .agg #[.int .i64 a_Marks, .int .i64 a_Step, .int .i64 a_Turns])]) (h' := [(0, .cells [.int .i64 a_Marks, .int .i64 a_Step, .int .i64 a_Turns] 0 24 0)]) (c' := 1) (by kernel_rfl) ?_
  obtain ⟨r1, r1_h, h⟩ := bS h
  refine XR.call E0_ok [1, 6] rfl (K := 21) (args := [.agg #[.int .i64 a_Marks, .int .i64 a_Step, .int .i64 a_Turns]]) (d := (some (path 12 6))) (by kernel_rfl) (KC.of_calls E0_ok (F := Proofs.Try.f21) (v := .int .i64 r1) (by kernel_rfl) rfl rfl (fun w hI => f21_ok m a_Marks a_Step a_Turns r1 r1_h w hI)) ?_
  rintro _ _ _ ⟨rfl, rfl, rfl⟩
  refine XR.conv (σ' := [(1, .pointer (some ⟨0, 0, none⟩)), (6, .int .i64 r1)]) (h' := [(0, .cells [.int .i64 a_Marks, .int .i64 a_Step, .int .i64 a_Turns] 0 24 0)]) (c' := 1) ?_ (by kernel_rfl)
  refine XR.run E0_ok 1 1 [1, 4] rfl (σ' := [(1, .pointer (some ⟨0, 0, none⟩)), (4, .int .i64 r1)]) (h' := [(0, .cells [.int .i64 a_Marks, .int .i64 a_Step, .int .i64 a_Turns] 0 24 0)]) (c' := 1) (by kernel_rfl) ?_
  refine XR.done (by kernel_rfl) ?_
  show XQ _ _ _ _ _ _ _ _
  refine XQ.seq E0_ok (by kernel_rfl) ?_
  refine XQ.seq E0_ok (by kernel_rfl) ?_
  refine XQ.region (by kernel_rfl) ?_
  refine XR.run E0_ok 1 2 [1, 4, 8] rfl (σ' := [(1, .pointer (some ⟨0, 0, none⟩)), (4, .int .i64 r1), (8, .bool (r1 != 0))]) (h' := [(0, .cells [.int .i64 a_Marks, .int .i64 a_Step, .int .i64 a_Turns] 0 24 0)]) (c' := 1) (by kernel_rfl) ?_
  refine XR.done (by kernel_rfl) ?_
  show XQ _ _ _ _ _ _ _ _
  cases b1 : (r1 != 0 : Bool) with
  | true =>
    have h := cT b1 h
    refine XQ.cond (s := (.tmp 8)) (b := true) (by kernel_rfl) (by kernel_rfl) (fun _ => ?_) (fun q => by cases q)
    refine XQ.seq E0_ok (by kernel_rfl) ?_
    refine XQ.region (by kernel_rfl) ?_
    refine XR.run E0_ok 1 3 [2, 3] rfl (σ' := [(2, .slice none 0 0), (3, .int .i64 r1)]) (h' := [(0, .cells [.int .i64 a_Marks, .int .i64 a_Step, .int .i64 a_Turns] 0 24 0)]) (c' := 1) (by kernel_rfl) ?_
    refine XR.done (by kernel_rfl) ?_
    show XQ _ _ _ _ _ _ _ _
    refine XQ.ghost 3 1 rfl (σ' := [(2, .slice (some ⟨1, 0, none⟩) 0 0), (3, .int .i64 r1)]) (h' := [(0, .cells [.int .i64 a_Marks, .int .i64 a_Step, .int .i64 a_Turns] 0 24 0)]) ⟨by kernel_rfl, by kernel_rfl, trivial⟩ ⟨⟨_, rfl, .inl rfl⟩, trivial⟩ ?_
    refine XQ.conv (σ' := [(2, .slice (some ⟨1, 0, none⟩) 0 0), (3, .int .i64 r1)]) (h' := [(1, .cells (rowC (encI .i64) []) 0 3 1), (0, .cells [.int .i64 a_Marks, .int .i64 a_Step, .int .i64 a_Turns] 0 24 0)]) (c' := 2) ?_ (by kernel_rfl)
    refine XQ.ren (σ' := [(2, .slice (some ⟨0, 0, none⟩) 0 0), (3, .int .i64 r1)]) (h' := [(0, .cells (rowC (encI .i64) []) 0 3 1)]) (c' := 1) [1] (by decide) rfl ⟨by kernel_rfl, by kernel_rfl, trivial⟩ ⟨⟨_, _, rfl, rfl, .inl ⟨rfl, rowC_scal (encI_ok .i64) _⟩⟩, trivial⟩ rfl ?_
    refine XQ.ret (by kernel_rfl) ?_
    have h := Option.some.inj h
    subst h
    exact ⟨fun i q => (by cases q), .tuple #[.slice (some ⟨0, 0, none⟩) 0 0, .int .i64 r1], (by kernel_rfl), (by kernel_rfl), (by kernel_rfl), rfl⟩
  | false =>
    have h := cF b1 h
    refine XQ.cond (s := (.tmp 8)) (b := false) (by kernel_rfl) (by kernel_rfl) (fun q => by cases q) (fun _ => ?_)
    refine XQ.skip (by kernel_rfl) ?_
    show XQ _ _ _ _ _ _ _ _
    refine XQ.seq E0_ok (by kernel_rfl) ?_
    refine XQ.region (by kernel_rfl) ?_
    refine XR.run E0_ok 1 1 [10] rfl (σ' := [(10, .agg #[.int .i64 a_Marks, .int .i64 a_Step, .int .i64 a_Turns])]) (h' := [(0, .cells [.int .i64 a_Marks, .int .i64 a_Step, .int .i64 a_Turns] 0 24 0)]) (c' := 1) (by kernel_rfl) ?_
    refine XR.callK E0_ok [11] rfl (K := 78) (args := [.agg #[.int .i64 a_Marks, .int .i64 a_Step, .int .i64 a_Turns]]) (d := (some (path 12 11))) (by kernel_rfl) ?_
    refine KC.bodyN E0_ok (F := Proofs.Try.f78) (by kernel_rfl) (code := f32_C78) (by kernel_rfl) (nt := 41) (by kernel_rfl) (rs := [.tmp 2]) (by kernel_rfl) (by kernel_rfl) (σ := [(0, .agg #[.int .i64 a_Marks, .int .i64 a_Step, .int .i64 a_Turns])]) (by kernel_rfl) ?_
    refine XQ.seq E0_ok (by kernel_rfl) ?_
    refine XQ.region (by kernel_rfl) ?_
    refine XR.run E0_ok 1 2 [1] rfl (σ' := [(1, .pointer (some ⟨1, 0, none⟩))]) (h' := [(1, .cells [.int .i64 a_Marks, .int .i64 a_Step, .int .i64 a_Turns] 0 24 0), (0, .cells [.int .i64 a_Marks, .int .i64 a_Step, .int .i64 a_Turns] 0 24 0)]) (c' := 2) (by kernel_rfl) ?_
    refine XR.done (by kernel_rfl) ?_
    show XQ _ _ _ _ _ _ _ _
    refine XQ.seq E0_ok (by kernel_rfl) ?_
    refine XQ.region (by kernel_rfl) ?_
    refine XR.run E0_ok 1 1 [1, 7] rfl (σ' := [(1, .pointer (some ⟨1, 0, none⟩)), (7, .agg #[.int .i64 a_Marks, .int .i64 a_Step, .int .i64 a_Turns])]) (h' := [(1, .cells [.int .i64 a_Marks, .int .i64 a_Step, .int .i64 a_Turns] 0 24 0), (0, .cells [.int .i64 a_Marks, .int .i64 a_Step, .int .i64 a_Turns] 0 24 0)]) (c' := 2) (by kernel_rfl) ?_
    obtain ⟨r2, r2_h, h⟩ := bS h
    refine XR.call E0_ok [1, 8] rfl (K := 76) (args := [.agg #[.int .i64 a_Marks, .int .i64 a_Step, .int .i64 a_Turns]]) (d := (some (path 12 8))) (by kernel_rfl) (KC.lift (V2 := .slice (some ⟨2, 0, none⟩) r2.length r2.length) (H2 := [(2, .cells (rowC (encI .i64) r2) 0 3 1)]) [1, 2, 0] (f76_ok m a_Marks a_Step a_Turns r2 r2_h) rfl (by decide) (by decide) (by kernel_rfl) ⟨⟨_, _, rfl, rfl, .inl ⟨rfl, rowC_scal (encI_ok .i64) _⟩⟩, trivial⟩ (by rfl)) ?_
    rintro _ _ _ ⟨rfl, rfl, rfl⟩
    refine XR.conv (σ' := [(1, .pointer (some ⟨1, 0, none⟩)), (8, .slice (some ⟨2, 0, none⟩) r2.length r2.length)]) (h' := [(2, .cells (rowC (encI .i64) r2) 0 3 1), (1, .cells [.int .i64 a_Marks, .int .i64 a_Step, .int .i64 a_Turns] 0 24 0), (0, .cells [.int .i64 a_Marks, .int .i64 a_Step, .int .i64 a_Turns] 0 24 0)]) (c' := 3) ?_ (by kernel_rfl)
    refine XR.run E0_ok 1 1 [1, 3] rfl (σ' := [(1, .pointer (some ⟨1, 0, none⟩)), (3, .slice (some ⟨2, 0, none⟩) r2.length r2.length)]) (h' := [(2, .cells (rowC (encI .i64) r2) 0 3 1), (1, .cells [.int .i64 a_Marks, .int .i64 a_Step, .int .i64 a_Turns] 0 24 0), (0, .cells [.int .i64 a_Marks, .int .i64 a_Step, .int .i64 a_Turns] 0 24 0)]) (c' := 3) (by kernel_rfl) ?_
    refine XR.done (by kernel_rfl) ?_
    show XQ _ _ _ _ _ _ _ _
    refine XQ.seq E0_ok (by kernel_rfl) ?_
    refine XQ.region (by kernel_rfl) ?_
    refine XR.run E0_ok 1 1 [1, 3, 4] rfl (σ' := [(1, .pointer (some ⟨1, 0, none⟩)), (3, .slice (some ⟨2, 0, none⟩) r2.length r2.length), (4, .slice none 0 0)]) (h' := [(2, .cells (rowC (encI .i64) r2) 0 3 1), (1, .cells [.int .i64 a_Marks, .int .i64 a_Step, .int .i64 a_Turns] 0 24 0), (0, .cells [.int .i64 a_Marks, .int .i64 a_Step, .int .i64 a_Turns] 0 24 0)]) (c' := 3) (by kernel_rfl) ?_
    refine XR.done (by kernel_rfl) ?_
    show XQ _ _ _ _ _ _ _ _
    refine XQ.ghost 3 1 rfl (σ' := [(1, .pointer (some ⟨1, 0, none⟩)), (3, .slice (some ⟨2, 0, none⟩) r2.length r2.length), (4, .slice (some ⟨3, 0, none⟩) 0 0)]) (h' := [(2, .cells (rowC (encI .i64) r2) 0 3 1), (1, .cells [.int .i64 a_Marks, .int .i64 a_Step, .int .i64 a_Turns] 0 24 0), (0, .cells [.int .i64 a_Marks, .int .i64 a_Step, .int .i64 a_Turns] 0 24 0)]) ⟨by kernel_rfl, by kernel_rfl, by kernel_rfl, trivial⟩ ⟨⟨_, rfl, .inl rfl⟩, ⟨_, rfl, .inl rfl⟩, ⟨_, rfl, .inl rfl⟩, trivial⟩ ?_
    refine XQ.conv (σ' := [(1, .pointer (some ⟨1, 0, none⟩)), (3, .slice (some ⟨2, 0, none⟩) r2.length r2.length), (4, .slice (some ⟨3, 0, none⟩) 0 0)]) (h' := [(3, .cells (rowC (encI .i64) []) 0 3 1), (2, .cells (rowC (encI .i64) r2) 0 3 1), (1, .cells [.int .i64 a_Marks, .int .i64 a_Step, .int .i64 a_Turns] 0 24 0), (0, .cells [.int .i64 a_Marks, .int .i64 a_Step, .int .i64 a_Turns] 0 24 0)]) (c' := 4) ?_ (by kernel_rfl)
    refine XQ.seq E0_ok (by kernel_rfl) ?_
    refine XQ.seq E0_ok (by kernel_rfl) ?_
    refine XQ.region (by kernel_rfl) ?_
    refine XR.run E0_ok 1 1 [1, 3, 4, 5] rfl (σ' := [(1, .pointer (some ⟨1, 0, none⟩)), (3, .slice (some ⟨2, 0, none⟩) r2.length r2.length), (4, .slice (some ⟨3, 0, none⟩) 0 0), (5, .int .i64 0)]) (h' := [(3, .cells (rowC (encI .i64) []) 0 3 1), (2, .cells (rowC (encI .i64) r2) 0 3 1), (1, .cells [.int .i64 a_Marks, .int .i64 a_Step, .int .i64 a_Turns] 0 24 0), (0, .cells [.int .i64 a_Marks, .int .i64 a_Step, .int .i64 a_Turns] 0 24 0)]) (c' := 4) (by kernel_rfl) ?_
    refine XR.done (by kernel_rfl) ?_
    show XQ _ _ _ _ _ _ _ _
    refine XQ.block (id := 0) (by kernel_rfl) ?_
    refine XQ.loop m (by kernel_rfl) ?_
    obtain ⟨o1, o1_h, h⟩ := bS h
    refine XL.ren (σ' := [(1, .pointer (some ⟨1, 0, none⟩)), (3, .slice (some ⟨2, 0, none⟩) r2.length r2.length), (4, .slice (some ⟨3, 0, none⟩) 0 0), (5, .int .i64 0)]) (h' := [(3, .cells (rowC (encI .i64) []) 0 3 1), (2, .cells (rowC (encI .i64) r2) 0 3 1), (1, .cells [.int .i64 a_Marks, .int .i64 a_Step, .int .i64 a_Turns] 0 24 0), (0, .cells [.int .i64 a_Marks, .int .i64 a_Step, .int .i64 a_Turns] 0 24 0)]) (c' := 4) [0, 1, 2, 3] (by decide) rfl ⟨by kernel_rfl, by kernel_rfl, by kernel_rfl, by kernel_rfl, trivial⟩ ⟨⟨_, _, rfl, rfl, .inl ⟨rfl, rowC_scal (encI_ok .i64) _⟩⟩, ⟨_, _, rfl, rfl, .inl ⟨rfl, rowC_scal (encI_ok .i64) _⟩⟩, ⟨_, _, rfl, rfl, .inr ⟨_, _, _, _, rfl, rfl⟩⟩, ⟨_, _, rfl, rfl, .inr ⟨_, _, _, _, rfl, rfl⟩⟩, trivial⟩ rfl ?_
    refine XL.conv (f32_1_ok m m a_Marks a_Step a_Turns 0 r2 [] o1 o1_h _ ?_) (by first | rfl | simp)
    show XQ _ _ _ _ _ _ _ _
    refine XQ.seq E0_ok (by kernel_rfl) ?_
    refine XQ.region (by kernel_rfl) ?_
    refine XR.run E0_ok 1 2 [2] rfl (σ' := [(2, .slice (some ⟨1, 0, none⟩) o1.length o1.length)]) (h' := [(1, .cells (rowC (encI .i64) o1) 0 3 1), (0, .cells [.int .i64 a_Marks, .int .i64 a_Step, .int .i64 a_Turns] 0 24 0)]) (c' := 2) (by kernel_rfl) ?_
    refine XR.done (by kernel_rfl) ?_
    show XQ _ _ _ _ _ _ _ _
    refine XQ.ret (by kernel_rfl) ?_
    refine ⟨fun i q => (by cases q), .slice (some ⟨1, 0, none⟩) o1.length o1.length, (by kernel_rfl), ?_⟩
    refine XR.conv (σ' := [(11, .slice (some ⟨1, 0, none⟩) o1.length o1.length)]) (h' := [(1, .cells (rowC (encI .i64) o1) 0 3 1), (0, .cells [.int .i64 a_Marks, .int .i64 a_Step, .int .i64 a_Turns] 0 24 0)]) (c' := 2) ?_ (by kernel_rfl)
    refine XR.run E0_ok 1 2 [2, 3] rfl (σ' := [(2, .slice (some ⟨1, 0, none⟩) o1.length o1.length), (3, .int .i64 0)]) (h' := [(1, .cells (rowC (encI .i64) o1) 0 3 1), (0, .cells [.int .i64 a_Marks, .int .i64 a_Step, .int .i64 a_Turns] 0 24 0)]) (c' := 2) (by kernel_rfl) ?_
    refine XR.done (by kernel_rfl) ?_
    show XQ _ _ _ _ _ _ _ _
    refine XQ.ren (σ' := [(2, .slice (some ⟨0, 0, none⟩) o1.length o1.length), (3, .int .i64 0)]) (h' := [(0, .cells (rowC (encI .i64) o1) 0 3 1)]) (c' := 1) [1] (by decide) rfl ⟨by kernel_rfl, by kernel_rfl, trivial⟩ ⟨⟨_, _, rfl, rfl, .inl ⟨rfl, rowC_scal (encI_ok .i64) _⟩⟩, trivial⟩ rfl ?_
    refine XQ.ret (by kernel_rfl) ?_
    have h := Option.some.inj h
    subst h
    exact ⟨fun i q => (by cases q), .tuple #[.slice (some ⟨0, 0, none⟩) o1.length o1.length, .int .i64 0], (by kernel_rfl), (by kernel_rfl), (by kernel_rfl), rfl⟩

end Go.Xm
