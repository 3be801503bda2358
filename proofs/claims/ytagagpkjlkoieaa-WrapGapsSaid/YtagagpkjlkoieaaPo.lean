/- What these functions of the program compute, as functions in Lean, and the proofs that they do: vitolaref05.Widths. Conditions: none. -/
import Derived.Test.YtagagpkjlkoieaaPh
namespace Go.Xm
open Go.RowKit
set_option linter.unusedVariables false
set_option linter.unusedSimpArgs false
set_option maxRecDepth 20000

/-! vitola/vitolaref05.Widths -/
noncomputable def f34_C34 : Code := Proofs.Try.f34.body.getD .skip
noncomputable def f34_C80 : Code := Proofs.Try.f80.body.getD .skip
noncomputable def f34_C78 : Code := Proofs.Try.f78.body.getD .skip
noncomputable def f34_L1 : Code := lft (lft (rgt (lft (rgt (rgt (rgt f34_C78))))))
noncomputable def f34_L2 : Code := lft (lft (rgt (lft (rgt (rgt (rgt f34_C80))))))
noncomputable def f34_L3 : Code := lft (lft (rgt (lft (rgt (lft (lft (rgt f34_L2)))))))

def f34_1 (m : Nat) : Nat → Int → Int → Int → Int → List Int → List Int → Option (List Int)
  | 0, _, _, _, _, _, _ => none
  | fuel + 1, a_Marks, a_Step, a_Turns, x5_1, lh4_1, lh5_1 =>
    cond (decide (x5_1 < ((lh4_1.length : Nat) : Int))) (
      cond (decide ((w64 (x5_1 + 1)) < ((lh4_1.length : Nat) : Int))) (
        cond (inRow (w64 (x5_1 + 1)) lh4_1.length) (
          (f61 m a_Marks a_Step a_Turns (List.getD lh4_1 (Int.toNat (w64 (x5_1 + 1))) 0)).bind fun r12 =>
            cond (inRow x5_1 lh4_1.length) (
              (f61 m a_Marks a_Step a_Turns (List.getD lh4_1 (Int.toNat x5_1) 0)).bind fun r13 =>
                cond (fitsB (lh5_1.length + 1) 8) (
                  f34_1 m fuel a_Marks a_Step a_Turns (w64 (x5_1 + 1)) lh4_1 (lh5_1 ++ [w64 (r12 - r13)])
                ) none
            ) none
        ) none
      ) (
        cond (inRow x5_1 lh4_1.length) (
          (f61 m a_Marks a_Step a_Turns (List.getD lh4_1 (Int.toNat x5_1) 0)).bind fun r14 =>
            cond (fitsB (lh5_1.length + 1) 8) (
              f34_1 m fuel a_Marks a_Step a_Turns (w64 (x5_1 + 1)) lh4_1 (lh5_1 ++ [w64 (a_Marks - r14)])
            ) none
        ) none
      )
    ) (
      some (lh5_1)
    )

theorem f34_1_ok (m : Nat) : ∀ (fuel : Nat) (a_Marks : Int) (a_Step : Int) (a_Turns : Int) (x5_1 : Int) (lh4_1 : List Int) (lh5_1 : List Int) (o : (List Int)), f34_1 m fuel a_Marks a_Step a_Turns x5_1 lh4_1 lh5_1 = some o → ∀ Q : QP, Q (.exit 0) [(4, .slice (some ⟨3, 0, none⟩) o.length o.length)] [(3, .cells (rowC (encI .i64) o) 0 3 1), (2, .cells (rowC encP []) 0 63 2), (1, .cells [.int .i64 a_Marks, .int .i64 a_Step, .int .i64 a_Turns] 0 24 0), (0, .cells [.int .i64 a_Marks, .int .i64 a_Step, .int .i64 a_Turns] 0 24 0)] 4 → XL E0 41 3 fuel f34_L1 [(1, .pointer (some ⟨3, 0, none⟩)), (3, .slice (some ⟨4, 0, none⟩) lh4_1.length lh4_1.length), (4, .slice (some ⟨5, 0, none⟩) lh5_1.length lh5_1.length), (5, .int .i64 x5_1)] [(5, .cells (rowC (encI .i64) lh5_1) 0 3 1), (4, .cells (rowC (encI .i64) lh4_1) 0 3 1), (3, .cells [.int .i64 a_Marks, .int .i64 a_Step, .int .i64 a_Turns] 0 24 0), (2, .cells (rowC encP []) 0 63 2), (1, .cells [.int .i64 a_Marks, .int .i64 a_Step, .int .i64 a_Turns] 0 24 0), (0, .cells [.int .i64 a_Marks, .int .i64 a_Step, .int .i64 a_Turns] 0 24 0)] 6 Q
  | 0, a_Marks, a_Step, a_Turns, x5_1, lh4_1, lh5_1, o, h, Q, hQ => by cases h
  | fuel + 1, a_Marks, a_Step, a_Turns, x5_1, lh4_1, lh5_1, o, h, Q, hQ => by
    unfold f34_1 at h
    refine XL.succ E0_ok ?_
    refine XQ.seq E0_ok (by kernel_rfl) ?_
    refine XQ.seq E0_ok (by kernel_rfl) ?_
    refine XQ.region (by kernel_rfl) ?_
    refine XR.run E0_ok 1 4 [1, 3, 4, 5, 12] rfl (σ' := [(1, .pointer (some ⟨3, 0, none⟩)), (3, .slice (some ⟨4, 0, none⟩) lh4_1.length lh4_1.length), (4, .slice (some ⟨5, 0, none⟩) lh5_1.length lh5_1.length), (5, .int .i64 x5_1), (12, .bool (decide (x5_1 < ((lh4_1.length : Nat) : Int))))]) (h' := [(5, .cells (rowC (encI .i64) lh5_1) 0 3 1), (4, .cells (rowC (encI .i64) lh4_1) 0 3 1), (3, .cells [.int .i64 a_Marks, .int .i64 a_Step, .int .i64 a_Turns] 0 24 0), (2, .cells (rowC encP []) 0 63 2), (1, .cells [.int .i64 a_Marks, .int .i64 a_Step, .int .i64 a_Turns] 0 24 0), (0, .cells [.int .i64 a_Marks, .int .i64 a_Step, .int .i64 a_Turns] 0 24 0)]) (c' := 6) (by kernel_rfl) ?_
    refine XR.done (by kernel_rfl) ?_
    show XQ _ _ _ _ _ _ _ _
    cases b1 : (decide (x5_1 < ((lh4_1.length : Nat) : Int)) : Bool) with
    | true =>
      have h := cT b1 h
      refine XQ.cond (s := (.tmp 12)) (b := true) (by kernel_rfl) (by kernel_rfl) (fun _ => ?_) (fun q => by cases q)
      refine XQ.skip (by kernel_rfl) ?_
      show XQ _ _ _ _ _ _ _ _
      refine XQ.seq E0_ok (by kernel_rfl) ?_
      refine XQ.block (id := 1) (by kernel_rfl) ?_
      refine XQ.seq E0_ok (by kernel_rfl) ?_
      refine XQ.region (by kernel_rfl) ?_
      refine XR.run E0_ok 1 3 [1, 3, 4, 5, 6] rfl (σ' := [(1, .pointer (some ⟨3, 0, none⟩)), (3, .slice (some ⟨4, 0, none⟩) lh4_1.length lh4_1.length), (4, .slice (some ⟨5, 0, none⟩) lh5_1.length lh5_1.length), (5, .int .i64 x5_1), (6, .int .i64 a_Marks)]) (h' := [(5, .cells (rowC (encI .i64) lh5_1) 0 3 1), (4, .cells (rowC (encI .i64) lh4_1) 0 3 1), (3, .cells [.int .i64 a_Marks, .int .i64 a_Step, .int .i64 a_Turns] 0 24 0), (2, .cells (rowC encP []) 0 63 2), (1, .cells [.int .i64 a_Marks, .int .i64 a_Step, .int .i64 a_Turns] 0 24 0), (0, .cells [.int .i64 a_Marks, .int .i64 a_Step, .int .i64 a_Turns] 0 24 0)]) (c' := 6) (by kernel_rfl) ?_
      refine XR.done (by kernel_rfl) ?_
      show XQ _ _ _ _ _ _ _ _
      refine XQ.seq E0_ok (by kernel_rfl) ?_
      refine XQ.seq E0_ok (by kernel_rfl) ?_
      refine XQ.region (by kernel_rfl) ?_
      refine XR.run E0_ok 1 5 [1, 3, 4, 5, 6, 21] rfl (σ' := [(1, .pointer (some ⟨3, 0, none⟩)), (3, .slice (some ⟨4, 0, none⟩) lh4_1.length lh4_1.length), (4, .slice (some ⟨5, 0, none⟩) lh5_1.length lh5_1.length), (5, .int .i64 x5_1), (6, .int .i64 a_Marks), (21, .bool (decide ((w64 (x5_1 + 1)) < ((lh4_1.length : Nat) : Int))))]) (h' := [(5, .cells (rowC (encI .i64) lh5_1) 0 3 1), (4, .cells (rowC (encI .i64) lh4_1) 0 3 1), (3, .cells [.int .i64 a_Marks, .int .i64 a_Step, .int .i64 a_Turns] 0 24 0), (2, .cells (rowC encP []) 0 63 2), (1, .cells [.int .i64 a_Marks, .int .i64 a_Step, .int .i64 a_Turns] 0 24 0), (0, .cells [.int .i64 a_Marks, .int .i64 a_Step, .int .i64 a_Turns] 0 24 0)]) (c' := 6) (by kernel_rfl) ?_
      refine XR.done (by kernel_rfl) ?_
      show XQ _ _ _ _ _ _ _ _
      cases b2 : (decide ((w64 (x5_1 + 1)) < ((lh4_1.length : Nat) : Int)) : Bool) with
      | true =>
        have h := cT b2 h
        refine XQ.cond (s := (.tmp 21)) (b := true) (by kernel_rfl) (by kernel_rfl) (fun _ => ?_) (fun q => by cases q)
        refine XQ.quiet E0_ok (by kernel_rfl) (by kernel_rfl) ?_
        refine XU.run E0_ok 1 4 [1, 3, 4, 5, 22, 23, 25] rfl (σ' := [(1, .pointer (some ⟨3, 0, none⟩)), (3, .slice (some ⟨4, 0, none⟩) lh4_1.length lh4_1.length), (4, .slice (some ⟨5, 0, none⟩) lh5_1.length lh5_1.length), (5, .int .i64 x5_1), (22, .agg #[.int .i64 a_Marks, .int .i64 a_Step, .int .i64 a_Turns]), (23, .slice (some ⟨4, 0, none⟩) lh4_1.length lh4_1.length), (25, .int .i64 (w64 (x5_1 + 1)))]) (by kernel_rfl) ?_
        cases b3 : (inRow (w64 (x5_1 + 1)) lh4_1.length : Bool) with
        | false => cases (cF b3 h)
        | true =>
          have h := cT b3 h
          refine XU.rd E0_ok [1, 3, 4, 5, 22, 26] rfl (v := .pointer (some ⟨4, (Int.toNat (w64 (x5_1 + 1))) * 1, none⟩)) (v_idx (s := 1) (x := (src 41 (.tmp 23))) (y := (src 41 (.tmp 25))) (b := 4) (o := 0) (len := lh4_1.length) (cap := lh4_1.length) (ik := .i64) (i := w64 (x5_1 + 1)) (off := (Int.toNat (w64 (x5_1 + 1))) * 1) (d := (some (path 12 26))) (by kernel_rfl) (by kernel_rfl) (by kernel_rfl) b3 (by omega)) (σ' := [(1, .pointer (some ⟨3, 0, none⟩)), (3, .slice (some ⟨4, 0, none⟩) lh4_1.length lh4_1.length), (4, .slice (some ⟨5, 0, none⟩) lh5_1.length lh5_1.length), (5, .int .i64 x5_1), (22, .agg #[.int .i64 a_Marks, .int .i64 a_Step, .int .i64 a_Turns]), (26, .pointer (some ⟨4, (Int.toNat (w64 (x5_1 + 1))) * 1, none⟩))]) (by kernel_rfl) ?_
          refine XU.rd E0_ok [1, 3, 4, 5, 22, 27] rfl (v := .int .i64 (List.getD lh4_1 (Int.toNat (w64 (x5_1 + 1))) 0)) (v_load1 (encI_ok .i64) (x := (src 41 (.tmp 26))) (b := 4) (off := (Int.toNat (w64 (x5_1 + 1))) * 1) (xs := lh4_1) (fz := 0) (e := 3) (es := 1) (d := (some (path 12 27))) (by kernel_rfl) (by kernel_rfl) (by kernel_rfl) (Int.toNat (w64 (x5_1 + 1))) 0 0 (by first | rfl | omega) (row_len (inRow_toNat b3) (by simp)) rfl rfl) (σ' := [(1, .pointer (some ⟨3, 0, none⟩)), (3, .slice (some ⟨4, 0, none⟩) lh4_1.length lh4_1.length), (4, .slice (some ⟨5, 0, none⟩) lh5_1.length lh5_1.length), (5, .int .i64 x5_1), (22, .agg #[.int .i64 a_Marks, .int .i64 a_Step, .int .i64 a_Turns]), (27, .int .i64 (List.getD lh4_1 (Int.toNat (w64 (x5_1 + 1))) 0))]) (by kernel_rfl) ?_
          obtain ⟨r12, r12_h, h⟩ := bS h
          refine XU.call E0_ok [1, 3, 4, 5, 28] rfl (K := 61) (F := Proofs.Try.f61) (args := [.agg #[.int .i64 a_Marks, .int .i64 a_Step, .int .i64 a_Turns], .int .i64 (List.getD lh4_1 (Int.toNat (w64 (x5_1 + 1))) 0)]) (d := (some (path 12 28))) (v := .int .i64 r12) (by kernel_rfl) (by kernel_rfl) rfl rfl (fun w hI => f61_ok m a_Marks a_Step a_Turns (List.getD lh4_1 (Int.toNat (w64 (x5_1 + 1))) 0) r12 r12_h w hI) (σ' := [(1, .pointer (some ⟨3, 0, none⟩)), (3, .slice (some ⟨4, 0, none⟩) lh4_1.length lh4_1.length), (4, .slice (some ⟨5, 0, none⟩) lh5_1.length lh5_1.length), (5, .int .i64 x5_1), (28, .int .i64 r12)]) (by kernel_rfl) ?_
          refine XU.run E0_ok 1 1 [1, 3, 4, 5, 6] rfl (σ' := [(1, .pointer (some ⟨3, 0, none⟩)), (3, .slice (some ⟨4, 0, none⟩) lh4_1.length lh4_1.length), (4, .slice (some ⟨5, 0, none⟩) lh5_1.length lh5_1.length), (5, .int .i64 x5_1), (6, .int .i64 r12)]) (by kernel_rfl) ?_
          refine XU.done (by kernel_rfl) ?_
          show XQ _ _ _ _ _ _ _ _
          refine XQ.preP E0_ok [0, 1] [2, 3, 4, 5, 6] 7 [8, 9, 10, 11] (by kernel_rfl) (by kernel_rfl) (by kernel_rfl) ?_
          refine XP.step E0_ok 2 [1, 3, 5, 29, 30] rfl (σ' := [(1, .pointer (some ⟨3, 0, none⟩)), (3, .slice (some ⟨4, 0, none⟩) lh4_1.length lh4_1.length), (5, .int .i64 x5_1), (29, .slice (some ⟨5, 0, none⟩) lh5_1.length lh5_1.length), (30, .int .i64 r12)]) (by kernel_rfl) ?_
          refine XP.done (by kernel_rfl) ?_
          show XS _ _ _ _ _ _ _ _ _ _
          refine XS.step E0_ok 3 rfl [1, 3, 5, 29, 30, 31, 32, 33] rfl (σ' := [(1, .pointer (some ⟨3, 0, none⟩)), (3, .slice (some ⟨4, 0, none⟩) lh4_1.length lh4_1.length), (5, .int .i64 x5_1), (29, .slice (some ⟨5, 0, none⟩) lh5_1.length lh5_1.length), (30, .int .i64 r12), (31, .agg #[.int .i64 a_Marks, .int .i64 a_Step, .int .i64 a_Turns]), (32, .slice (some ⟨4, 0, none⟩) lh4_1.length lh4_1.length), (33, .int .i64 x5_1)]) (by kernel_rfl) ?_
          cases b4 : (inRow x5_1 lh4_1.length : Bool) with
          | false => cases (cF b4 h)
          | true =>
            have h := cT b4 h
            refine XS.rd E0_ok rfl [1, 3, 5, 29, 30, 31, 34] rfl (v := .pointer (some ⟨4, (Int.toNat x5_1) * 1, none⟩)) (v_idx (s := 1) (x := (src 41 (.tmp 32))) (y := (src 41 (.tmp 33))) (b := 4) (o := 0) (len := lh4_1.length) (cap := lh4_1.length) (ik := .i64) (i := x5_1) (off := (Int.toNat x5_1) * 1) (d := (some (path 12 34))) (by kernel_rfl) (by kernel_rfl) (by kernel_rfl) b4 (by omega)) (σ' := [(1, .pointer (some ⟨3, 0, none⟩)), (3, .slice (some ⟨4, 0, none⟩) lh4_1.length lh4_1.length), (5, .int .i64 x5_1), (29, .slice (some ⟨5, 0, none⟩) lh5_1.length lh5_1.length), (30, .int .i64 r12), (31, .agg #[.int .i64 a_Marks, .int .i64 a_Step, .int .i64 a_Turns]), (34, .pointer (some ⟨4, (Int.toNat x5_1) * 1, none⟩))]) (by kernel_rfl) ?_
            refine XS.rd E0_ok rfl [1, 3, 5, 29, 30, 31, 35] rfl (v := .int .i64 (List.getD lh4_1 (Int.toNat x5_1) 0)) (v_load1 (encI_ok .i64) (x := (src 41 (.tmp 34))) (b := 4) (off := (Int.toNat x5_1) * 1) (xs := lh4_1) (fz := 0) (e := 3) (es := 1) (d := (some (path 12 35))) (by kernel_rfl) (by kernel_rfl) (by kernel_rfl) (Int.toNat x5_1) 0 0 (by first | rfl | omega) (row_len (inRow_toNat b4) (by simp)) rfl rfl) (σ' := [(1, .pointer (some ⟨3, 0, none⟩)), (3, .slice (some ⟨4, 0, none⟩) lh4_1.length lh4_1.length), (5, .int .i64 x5_1), (29, .slice (some ⟨5, 0, none⟩) lh5_1.length lh5_1.length), (30, .int .i64 r12), (31, .agg #[.int .i64 a_Marks, .int .i64 a_Step, .int .i64 a_Turns]), (35, .int .i64 (List.getD lh4_1 (Int.toNat x5_1) 0))]) (by kernel_rfl) ?_
            refine XS.done (by kernel_rfl) ?_
            obtain ⟨r13, r13_h, h⟩ := bS h
            refine XR.call E0_ok [1, 3, 5, 29, 30, 36] rfl (K := 61) (args := [.agg #[.int .i64 a_Marks, .int .i64 a_Step, .int .i64 a_Turns], .int .i64 (List.getD lh4_1 (Int.toNat x5_1) 0)]) (d := (some (path 12 36))) (by kernel_rfl) (KC.of_calls E0_ok (F := Proofs.Try.f61) (v := .int .i64 r13) (by kernel_rfl) rfl rfl (fun w hI => f61_ok m a_Marks a_Step a_Turns (List.getD lh4_1 (Int.toNat x5_1) 0) r13 r13_h w hI)) ?_
            rintro _ _ _ ⟨rfl, rfl, rfl⟩
            refine XR.conv (σ' := [(1, .pointer (some ⟨3, 0, none⟩)), (3, .slice (some ⟨4, 0, none⟩) lh4_1.length lh4_1.length), (5, .int .i64 x5_1), (29, .slice (some ⟨5, 0, none⟩) lh5_1.length lh5_1.length), (30, .int .i64 r12), (36, .int .i64 r13)]) (h' := [(5, .cells (rowC (encI .i64) lh5_1) 0 3 1), (4, .cells (rowC (encI .i64) lh4_1) 0 3 1), (3, .cells [.int .i64 a_Marks, .int .i64 a_Step, .int .i64 a_Turns] 0 24 0), (2, .cells (rowC encP []) 0 63 2), (1, .cells [.int .i64 a_Marks, .int .i64 a_Step, .int .i64 a_Turns] 0 24 0), (0, .cells [.int .i64 a_Marks, .int .i64 a_Step, .int .i64 a_Turns] 0 24 0)]) (c' := 6) ?_ (by kernel_rfl)
            refine XR.run E0_ok 1 2 [1, 3, 5, 29, 38] rfl (σ' := [(1, .pointer (some ⟨3, 0, none⟩)), (3, .slice (some ⟨4, 0, none⟩) lh4_1.length lh4_1.length), (5, .int .i64 x5_1), (29, .slice (some ⟨5, 0, none⟩) lh5_1.length lh5_1.length), (38, .slice (some ⟨6, 0, none⟩) 1 1)]) (h' := [(6, .cells [.int .i64 (w64 (r12 - r13))] 0 3 1), (5, .cells (rowC (encI .i64) lh5_1) 0 3 1), (4, .cells (rowC (encI .i64) lh4_1) 0 3 1), (3, .cells [.int .i64 a_Marks, .int .i64 a_Step, .int .i64 a_Turns] 0 24 0), (2, .cells (rowC encP []) 0 63 2), (1, .cells [.int .i64 a_Marks, .int .i64 a_Step, .int .i64 a_Turns] 0 24 0), (0, .cells [.int .i64 a_Marks, .int .i64 a_Step, .int .i64 a_Turns] 0 24 0)]) (c' := 7) (by kernel_rfl) ?_
            cases b5 : (fitsB (lh5_1.length + 1) 8 : Bool) with
            | false => cases (cF b5 h)
            | true =>
              have h := cT b5 h
              refine XR.ef E0_ok [1, 3, 5, 39] rfl (e_append (encI_ok .i64) (bytes := 8) (e := 3) (x := (src 41 (.tmp 29))) (y := (src 41 (.tmp 38))) (b := 5) (len := lh5_1.length) (cap := lh5_1.length) (xs := lh5_1) (m := 0) (ys := [w64 (r12 - r13)]) (d := (some (path 12 39))) (n' := (lh5_1 ++ [w64 (r12 - r13)]).length) (h' := [(7, .cells (rowC (encI .i64) (lh5_1 ++ [w64 (r12 - r13)])) 0 3 1), (6, .cells [.int .i64 (w64 (r12 - r13))] 0 3 1), (4, .cells (rowC (encI .i64) lh4_1) 0 3 1), (3, .cells [.int .i64 a_Marks, .int .i64 a_Step, .int .i64 a_Turns] 0 24 0), (2, .cells (rowC encP []) 0 63 2), (1, .cells [.int .i64 a_Marks, .int .i64 a_Step, .int .i64 a_Turns] 0 24 0), (0, .cells [.int .i64 a_Marks, .int .i64 a_Step, .int .i64 a_Turns] 0 24 0)]) (by kernel_rfl) (by kernel_rfl) (by kernel_rfl) (by kernel_rfl) rfl (by simp) (by simp) b5 (by simp) (by kernel_rfl)) (σ' := [(1, .pointer (some ⟨3, 0, none⟩)), (3, .slice (some ⟨4, 0, none⟩) lh4_1.length lh4_1.length), (5, .int .i64 x5_1), (39, .slice (some ⟨7, 0, none⟩) ((lh5_1 ++ [w64 (r12 - r13)]).length) ((lh5_1 ++ [w64 (r12 - r13)]).length))]) (by kernel_rfl) ?_
              refine XR.run E0_ok 1 1 [1, 3, 4, 5] rfl (σ' := [(1, .pointer (some ⟨3, 0, none⟩)), (3, .slice (some ⟨4, 0, none⟩) lh4_1.length lh4_1.length), (4, .slice (some ⟨7, 0, none⟩) ((lh5_1 ++ [w64 (r12 - r13)]).length) ((lh5_1 ++ [w64 (r12 - r13)]).length)), (5, .int .i64 x5_1)]) (h' := [(7, .cells (rowC (encI .i64) (lh5_1 ++ [w64 (r12 - r13)])) 0 3 1), (6, .cells [.int .i64 (w64 (r12 - r13))] 0 3 1), (4, .cells (rowC (encI .i64) lh4_1) 0 3 1), (3, .cells [.int .i64 a_Marks, .int .i64 a_Step, .int .i64 a_Turns] 0 24 0), (2, .cells (rowC encP []) 0 63 2), (1, .cells [.int .i64 a_Marks, .int .i64 a_Step, .int .i64 a_Turns] 0 24 0), (0, .cells [.int .i64 a_Marks, .int .i64 a_Step, .int .i64 a_Turns] 0 24 0)]) (c' := 8) (by kernel_rfl) ?_
              refine XR.done (by kernel_rfl) ?_
              show XQ _ _ _ _ _ _ _ _
              refine XQ.region (by kernel_rfl) ?_
              refine XR.run E0_ok 1 3 [1, 3, 4, 5] rfl (σ' := [(1, .pointer (some ⟨3, 0, none⟩)), (3, .slice (some ⟨4, 0, none⟩) lh4_1.length lh4_1.length), (4, .slice (some ⟨7, 0, none⟩) ((lh5_1 ++ [w64 (r12 - r13)]).length) ((lh5_1 ++ [w64 (r12 - r13)]).length)), (5, .int .i64 (w64 (x5_1 + 1)))]) (h' := [(7, .cells (rowC (encI .i64) (lh5_1 ++ [w64 (r12 - r13)])) 0 3 1), (6, .cells [.int .i64 (w64 (r12 - r13))] 0 3 1), (4, .cells (rowC (encI .i64) lh4_1) 0 3 1), (3, .cells [.int .i64 a_Marks, .int .i64 a_Step, .int .i64 a_Turns] 0 24 0), (2, .cells (rowC encP []) 0 63 2), (1, .cells [.int .i64 a_Marks, .int .i64 a_Step, .int .i64 a_Turns] 0 24 0), (0, .cells [.int .i64 a_Marks, .int .i64 a_Step, .int .i64 a_Turns] 0 24 0)]) (c' := 8) (by kernel_rfl) ?_
              refine XR.done (by kernel_rfl) ?_
              show XL _ _ _ _ _ _ _ _ _
              refine XL.ren (σ' := [(1, .pointer (some ⟨3, 0, none⟩)), (3, .slice (some ⟨4, 0, none⟩) lh4_1.length lh4_1.length), (4, .slice (some ⟨5, 0, none⟩) ((lh5_1 ++ [w64 (r12 - r13)]).length) ((lh5_1 ++ [w64 (r12 - r13)]).length)), (5, .int .i64 (w64 (x5_1 + 1)))]) (h' := [(5, .cells (rowC (encI .i64) (lh5_1 ++ [w64 (r12 - r13)])) 0 3 1), (4, .cells (rowC (encI .i64) lh4_1) 0 3 1), (3, .cells [.int .i64 a_Marks, .int .i64 a_Step, .int .i64 a_Turns] 0 24 0), (2, .cells (rowC encP []) 0 63 2), (1, .cells [.int .i64 a_Marks, .int .i64 a_Step, .int .i64 a_Turns] 0 24 0), (0, .cells [.int .i64 a_Marks, .int .i64 a_Step, .int .i64 a_Turns] 0 24 0)]) (c' := 6) [0, 1, 2, 3, 4, 7] (by decide) rfl ⟨by kernel_rfl, by kernel_rfl, by kernel_rfl, by kernel_rfl, trivial⟩ ⟨⟨_, _, rfl, rfl, .inl ⟨rfl, rowC_scal (encI_ok .i64) _⟩⟩, ⟨_, _, rfl, rfl, .inl ⟨rfl, rowC_scal (encI_ok .i64) _⟩⟩, ⟨_, _, rfl, rfl, .inr ⟨_, _, _, _, rfl, rfl⟩⟩, ⟨_, _, rfl, rfl, .inl ⟨rfl, rowC_scal encP_ok _⟩⟩, ⟨_, _, rfl, rfl, .inr ⟨_, _, _, _, rfl, rfl⟩⟩, ⟨_, _, rfl, rfl, .inr ⟨_, _, _, _, rfl, rfl⟩⟩, trivial⟩ rfl ?_
              refine XL.conv (f34_1_ok m fuel a_Marks a_Step a_Turns (w64 (x5_1 + 1)) lh4_1 (lh5_1 ++ [w64 (r12 - r13)]) o h Q hQ) (by first | rfl | simp)
      | false =>
        have h := cF b2 h
        refine XQ.cond (s := (.tmp 21)) (b := false) (by kernel_rfl) (by kernel_rfl) (fun q => by cases q) (fun _ => ?_)
        refine XQ.skip (by kernel_rfl) ?_
        show XQ _ _ _ _ _ _ _ _
        refine XQ.preP E0_ok [0, 1] [2, 3, 4, 5, 6] 7 [8, 9, 10, 11] (by kernel_rfl) (by kernel_rfl) (by kernel_rfl) ?_
        refine XP.step E0_ok 2 [1, 3, 5, 29, 30] rfl (σ' := [(1, .pointer (some ⟨3, 0, none⟩)), (3, .slice (some ⟨4, 0, none⟩) lh4_1.length lh4_1.length), (5, .int .i64 x5_1), (29, .slice (some ⟨5, 0, none⟩) lh5_1.length lh5_1.length), (30, .int .i64 a_Marks)]) (by kernel_rfl) ?_
        refine XP.done (by kernel_rfl) ?_
        show XS _ _ _ _ _ _ _ _ _ _
        refine XS.step E0_ok 3 rfl [1, 3, 5, 29, 30, 31, 32, 33] rfl (σ' := [(1, .pointer (some ⟨3, 0, none⟩)), (3, .slice (some ⟨4, 0, none⟩) lh4_1.length lh4_1.length), (5, .int .i64 x5_1), (29, .slice (some ⟨5, 0, none⟩) lh5_1.length lh5_1.length), (30, .int .i64 a_Marks), (31, .agg #[.int .i64 a_Marks, .int .i64 a_Step, .int .i64 a_Turns]), (32, .slice (some ⟨4, 0, none⟩) lh4_1.length lh4_1.length), (33, .int .i64 x5_1)]) (by kernel_rfl) ?_
        cases b6 : (inRow x5_1 lh4_1.length : Bool) with
        | false => cases (cF b6 h)
        | true =>
          have h := cT b6 h
          refine XS.rd E0_ok rfl [1, 3, 5, 29, 30, 31, 34] rfl (v := .pointer (some ⟨4, (Int.toNat x5_1) * 1, none⟩)) (v_idx (s := 1) (x := (src 41 (.tmp 32))) (y := (src 41 (.tmp 33))) (b := 4) (o := 0) (len := lh4_1.length) (cap := lh4_1.length) (ik := .i64) (i := x5_1) (off := (Int.toNat x5_1) * 1) (d := (some (path 12 34))) (by kernel_rfl) (by kernel_rfl) (by kernel_rfl) b6 (by omega)) (σ' := [(1, .pointer (some ⟨3, 0, none⟩)), (3, .slice (some ⟨4, 0, none⟩) lh4_1.length lh4_1.length), (5, .int .i64 x5_1), (29, .slice (some ⟨5, 0, none⟩) lh5_1.length lh5_1.length), (30, .int .i64 a_Marks), (31, .agg #[.int .i64 a_Marks, .int .i64 a_Step, .int .i64 a_Turns]), (34, .pointer (some ⟨4, (Int.toNat x5_1) * 1, none⟩))]) (by kernel_rfl) ?_
          refine XS.rd E0_ok rfl [1, 3, 5, 29, 30, 31, 35] rfl (v := .int .i64 (List.getD lh4_1 (Int.toNat x5_1) 0)) (v_load1 (encI_ok .i64) (x := (src 41 (.tmp 34))) (b := 4) (off := (Int.toNat x5_1) * 1) (xs := lh4_1) (fz := 0) (e := 3) (es := 1) (d := (some (path 12 35))) (by kernel_rfl) (by kernel_rfl) (by kernel_rfl) (Int.toNat x5_1) 0 0 (by first | rfl | omega) (row_len (inRow_toNat b6) (by simp)) rfl rfl) (σ' := [(1, .pointer (some ⟨3, 0, none⟩)), (3, .slice (some ⟨4, 0, none⟩) lh4_1.length lh4_1.length), (5, .int .i64 x5_1), (29, .slice (some ⟨5, 0, none⟩) lh5_1.length lh5_1.length), (30, .int .i64 a_Marks), (31, .agg #[.int .i64 a_Marks, .int .i64 a_Step, .int .i64 a_Turns]), (35, .int .i64 (List.getD lh4_1 (Int.toNat x5_1) 0))]) (by kernel_rfl) ?_
          refine XS.done (by kernel_rfl) ?_
          obtain ⟨r14, r14_h, h⟩ := bS h
          refine XR.call E0_ok [1, 3, 5, 29, 30, 36] rfl (K := 61) (args := [.agg #[.int .i64 a_Marks, .int .i64 a_Step, .int .i64 a_Turns], .int .i64 (List.getD lh4_1 (Int.toNat x5_1) 0)]) (d := (some (path 12 36))) (by kernel_rfl) (KC.of_calls E0_ok (F := Proofs.Try.f61) (v := .int .i64 r14) (by kernel_rfl) rfl rfl (fun w hI => f61_ok m a_Marks a_Step a_Turns (List.getD lh4_1 (Int.toNat x5_1) 0) r14 r14_h w hI)) ?_
          rintro _ _ _ ⟨rfl, rfl, rfl⟩
          refine XR.conv (σ' := [(1, .pointer (some ⟨3, 0, none⟩)), (3, .slice (some ⟨4, 0, none⟩) lh4_1.length lh4_1.length), (5, .int .i64 x5_1), (29, .slice (some ⟨5, 0, none⟩) lh5_1.length lh5_1.length), (30, .int .i64 a_Marks), (36, .int .i64 r14)]) (h' := [(5, .cells (rowC (encI .i64) lh5_1) 0 3 1), (4, .cells (rowC (encI .i64) lh4_1) 0 3 1), (3, .cells [.int .i64 a_Marks, .int .i64 a_Step, .int .i64 a_Turns] 0 24 0), (2, .cells (rowC encP []) 0 63 2), (1, .cells [.int .i64 a_Marks, .int .i64 a_Step, .int .i64 a_Turns] 0 24 0), (0, .cells [.int .i64 a_Marks, .int .i64 a_Step, .int .i64 a_Turns] 0 24 0)]) (c' := 6) ?_ (by kernel_rfl)
          refine XR.run E0_ok 1 2 [1, 3, 5, 29, 38] rfl (σ' := [(1, .pointer (some ⟨3, 0, none⟩)), (3, .slice (some ⟨4, 0, none⟩) lh4_1.length lh4_1.length), (5, .int .i64 x5_1), (29, .slice (some ⟨5, 0, none⟩) lh5_1.length lh5_1.length), (38, .slice (some ⟨6, 0, none⟩) 1 1)]) (h' := [(6, .cells [.int .i64 (w64 (a_Marks - r14))] 0 3 1), (5, .cells (rowC (encI .i64) lh5_1) 0 3 1), (4, .cells (rowC (encI .i64) lh4_1) 0 3 1), (3, .cells [.int .i64 a_Marks, .int .i64 a_Step, .int .i64 a_Turns] 0 24 0), (2, .cells (rowC encP []) 0 63 2), (1, .cells [.int .i64 a_Marks, .int .i64 a_Step, .int .i64 a_Turns] 0 24 0), (0, .cells [.int .i64 a_Marks, .int .i64 a_Step, .int .i64 a_Turns] 0 24 0)]) (c' := 7) (by kernel_rfl) ?_
          cases b7 : (fitsB (lh5_1.length + 1) 8 : Bool) with
          | false => cases (cF b7 h)
          | true =>
            have h := cT b7 h
            refine XR.ef E0_ok [1, 3, 5, 39] rfl (e_append (encI_ok .i64) (bytes := 8) (e := 3) (x := (src 41 (.tmp 29))) (y := (src 41 (.tmp 38))) (b := 5) (len := lh5_1.length) (cap := lh5_1.length) (xs := lh5_1) (m := 0) (ys := [w64 (a_Marks - r14)]) (d := (some (path 12 39))) (n' := (lh5_1 ++ [w64 (a_Marks - r14)]).length) (h' := [(7, .cells (rowC (encI .i64) (lh5_1 ++ [w64 (a_Marks - r14)])) 0 3 1), (6, .cells [.int .i64 (w64 (a_Marks - r14))] 0 3 1), (4, .cells (rowC (encI .i64) lh4_1) 0 3 1), (3, .cells [.int .i64 a_Marks, .int .i64 a_Step, .int .i64 a_Turns] 0 24 0), (2, .cells (rowC encP []) 0 63 2), (1, .cells [.int .i64 a_Marks, .int .i64 a_Step, .int .i64 a_Turns] 0 24 0), (0, .cells [.int .i64 a_Marks, .int .i64 a_Step, .int .i64 a_Turns] 0 24 0)]) (by kernel_rfl) (by kernel_rfl) (by kernel_rfl) (by kernel_rfl) rfl (by simp) (by simp) b7 (by simp) (by kernel_rfl)) (σ' := [(1, .pointer (some ⟨3, 0, none⟩)), (3, .slice (some ⟨4, 0, none⟩) lh4_1.length lh4_1.length), (5, .int .i64 x5_1), (39, .slice (some ⟨7, 0, none⟩) ((lh5_1 ++ [w64 (a_Marks - r14)]).length) ((lh5_1 ++ [w64 (a_Marks - r14)]).length))]) (by kernel_rfl) ?_
            refine XR.run E0_ok 1 1 [1, 3, 4, 5] rfl (σ' := [(1, .pointer (some ⟨3, 0, none⟩)), (3, .slice (some ⟨4, 0, none⟩) lh4_1.length lh4_1.length), (4, .slice (some ⟨7, 0, none⟩) ((lh5_1 ++ [w64 (a_Marks - r14)]).length) ((lh5_1 ++ [w64 (a_Marks - r14)]).length)), (5, .int .i64 x5_1)]) (h' := [(7, .cells (rowC (encI .i64) (lh5_1 ++ [w64 (a_Marks - r14)])) 0 3 1), (6, .cells [.int .i64 (w64 (a_Marks - r14))] 0 3 1), (4, .cells (rowC (encI .i64) lh4_1) 0 3 1), (3, .cells [.int .i64 a_Marks, .int .i64 a_Step, .int .i64 a_Turns] 0 24 0), (2, .cells (rowC encP []) 0 63 2), (1, .cells [.int .i64 a_Marks, .int .i64 a_Step, .int .i64 a_Turns] 0 24 0), (0, .cells [.int .i64 a_Marks, .int .i64 a_Step, .int .i64 a_Turns] 0 24 0)]) (c' := 8) (by kernel_rfl) ?_
            refine XR.done (by kernel_rfl) ?_
            show XQ _ _ _ _ _ _ _ _
            refine XQ.region (by kernel_rfl) ?_
            refine XR.run E0_ok 1 3 [1, 3, 4, 5] rfl (σ' := [(1, .pointer (some ⟨3, 0, none⟩)), (3, .slice (some ⟨4, 0, none⟩) lh4_1.length lh4_1.length), (4, .slice (some ⟨7, 0, none⟩) ((lh5_1 ++ [w64 (a_Marks - r14)]).length) ((lh5_1 ++ [w64 (a_Marks - r14)]).length)), (5, .int .i64 (w64 (x5_1 + 1)))]) (h' := [(7, .cells (rowC (encI .i64) (lh5_1 ++ [w64 (a_Marks - r14)])) 0 3 1), (6, .cells [.int .i64 (w64 (a_Marks - r14))] 0 3 1), (4, .cells (rowC (encI .i64) lh4_1) 0 3 1), (3, .cells [.int .i64 a_Marks, .int .i64 a_Step, .int .i64 a_Turns] 0 24 0), (2, .cells (rowC encP []) 0 63 2), (1, .cells [.int .i64 a_Marks, .int .i64 a_Step, .int .i64 a_Turns] 0 24 0), (0, .cells [.int .i64 a_Marks, .int .i64 a_Step, .int .i64 a_Turns] 0 24 0)]) (c' := 8) (by kernel_rfl) ?_
            refine XR.done (by kernel_rfl) ?_
            show XL _ _ _ _ _ _ _ _ _
            refine XL.ren (σ' := [(1, .pointer (some ⟨3, 0, none⟩)), (3, .slice (some ⟨4, 0, none⟩) lh4_1.length lh4_1.length), (4, .slice (some ⟨5, 0, none⟩) ((lh5_1 ++ [w64 (a_Marks - r14)]).length) ((lh5_1 ++ [w64 (a_Marks - r14)]).length)), (5, .int .i64 (w64 (x5_1 + 1)))]) (h' := [(5, .cells (rowC (encI .i64) (lh5_1 ++ [w64 (a_Marks - r14)])) 0 3 1), (4, .cells (rowC (encI .i64) lh4_1) 0 3 1), (3, .cells [.int .i64 a_Marks, .int .i64 a_Step, .int .i64 a_Turns] 0 24 0), (2, .cells (rowC encP []) 0 63 2), (1, .cells [.int .i64 a_Marks, .int .i64 a_Step, .int .i64 a_Turns] 0 24 0), (0, .cells [.int .i64 a_Marks, .int .i64 a_Step, .int .i64 a_Turns] 0 24 0)]) (c' := 6) [0, 1, 2, 3, 4, 7] (by decide) rfl ⟨by kernel_rfl, by kernel_rfl, by kernel_rfl, by kernel_rfl, trivial⟩ ⟨⟨_, _, rfl, rfl, .inl ⟨rfl, rowC_scal (encI_ok .i64) _⟩⟩, ⟨_, _, rfl, rfl, .inl ⟨rfl, rowC_scal (encI_ok .i64) _⟩⟩, ⟨_, _, rfl, rfl, .inr ⟨_, _, _, _, rfl, rfl⟩⟩, ⟨_, _, rfl, rfl, .inl ⟨rfl, rowC_scal encP_ok _⟩⟩, ⟨_, _, rfl, rfl, .inr ⟨_, _, _, _, rfl, rfl⟩⟩, ⟨_, _, rfl, rfl, .inr ⟨_, _, _, _, rfl, rfl⟩⟩, trivial⟩ rfl ?_
            refine XL.conv (f34_1_ok m fuel a_Marks a_Step a_Turns (w64 (x5_1 + 1)) lh4_1 (lh5_1 ++ [w64 (a_Marks - r14)]) o h Q hQ) (by first | rfl | simp)
    | false =>
      have h := cF b1 h
      refine XQ.cond (s := (.tmp 12)) (b := false) (by kernel_rfl) (by kernel_rfl) (fun q => by cases q) (fun _ => ?_)
      refine XQ.ren (σ' := [(4, .slice (some ⟨3, 0, none⟩) lh5_1.length lh5_1.length)]) (h' := [(3, .cells (rowC (encI .i64) lh5_1) 0 3 1), (2, .cells (rowC encP []) 0 63 2), (1, .cells [.int .i64 a_Marks, .int .i64 a_Step, .int .i64 a_Turns] 0 24 0), (0, .cells [.int .i64 a_Marks, .int .i64 a_Step, .int .i64 a_Turns] 0 24 0)]) (c' := 4) [0, 1, 2, 5] (by decide) rfl ⟨by kernel_rfl, trivial⟩ ⟨⟨_, _, rfl, rfl, .inl ⟨rfl, rowC_scal (encI_ok .i64) _⟩⟩, ⟨_, _, rfl, rfl, .inl ⟨rfl, rowC_scal encP_ok _⟩⟩, ⟨_, _, rfl, rfl, .inr ⟨_, _, _, _, rfl, rfl⟩⟩, ⟨_, _, rfl, rfl, .inr ⟨_, _, _, _, rfl, rfl⟩⟩, trivial⟩ rfl ?_
      refine XQ.exit (i := 0) (by kernel_rfl) ?_
      cases h
      exact hQ

def f34_3 (m : Nat) : Nat → Int → Int → Int → (List Int) → Int → List (Int × Int) → Int → Int → Option Int
  | 0, _, _, _, _, _, _, _, _ => none
  | fuel + 1, a_Marks, a_Step, a_Turns, o1, x5_2, lh2_2, x6_3, x7_3 =>
    cond (decide (x7_3 < ((o1.length : Nat) : Int))) (
      cond (inRow x7_3 o1.length) (
        f34_3 m fuel a_Marks a_Step a_Turns o1 x5_2 lh2_2 (cond ((List.getD o1 (Int.toNat x7_3) 0) == x5_2) (w64 (x6_3 + 1)) x6_3) (w64 (x7_3 + 1))
      ) none
    ) (
      some (x6_3)
    )

theorem f34_3_ok (m : Nat) : ∀ (fuel : Nat) (a_Marks : Int) (a_Step : Int) (a_Turns : Int) (o1 : (List Int)) (x5_2 : Int) (lh2_2 : List (Int × Int)) (x6_3 : Int) (x7_3 : Int) (o : Int), f34_3 m fuel a_Marks a_Step a_Turns o1 x5_2 lh2_2 x6_3 x7_3 = some o → ∀ Q : QP, Q (.exit 2) [(1, .pointer (some ⟨1, 0, none⟩)), (3, .slice (some ⟨2, 0, none⟩) lh2_2.length lh2_2.length), (4, .slice (some ⟨3, 0, none⟩) o1.length o1.length), (5, .int .i64 x5_2), (6, .int .i64 o)] [(3, .cells (rowC (encI .i64) o1) 0 3 1), (2, .cells (rowC encP lh2_2) 0 63 2), (1, .cells [.int .i64 a_Marks, .int .i64 a_Step, .int .i64 a_Turns] 0 24 0), (0, .cells [.int .i64 a_Marks, .int .i64 a_Step, .int .i64 a_Turns] 0 24 0)] 4 → XL E0 39 1 fuel f34_L3 [(1, .pointer (some ⟨1, 0, none⟩)), (3, .slice (some ⟨2, 0, none⟩) lh2_2.length lh2_2.length), (4, .slice (some ⟨3, 0, none⟩) o1.length o1.length), (5, .int .i64 x5_2), (6, .int .i64 x6_3), (7, .int .i64 x7_3)] [(3, .cells (rowC (encI .i64) o1) 0 3 1), (2, .cells (rowC encP lh2_2) 0 63 2), (1, .cells [.int .i64 a_Marks, .int .i64 a_Step, .int .i64 a_Turns] 0 24 0), (0, .cells [.int .i64 a_Marks, .int .i64 a_Step, .int .i64 a_Turns] 0 24 0)] 4 Q
  | 0, a_Marks, a_Step, a_Turns, o1, x5_2, lh2_2, x6_3, x7_3, o, h, Q, hQ => by cases h
  | fuel + 1, a_Marks, a_Step, a_Turns, o1, x5_2, lh2_2, x6_3, x7_3, o, h, Q, hQ => by
    unfold f34_3 at h
    refine XL.succ E0_ok ?_
    refine XQ.seq E0_ok (by kernel_rfl) ?_
    refine XQ.seq E0_ok (by kernel_rfl) ?_
    refine XQ.region (by kernel_rfl) ?_
    refine XR.run E0_ok 1 4 [1, 3, 4, 5, 6, 7, 19] rfl (σ' := [(1, .pointer (some ⟨1, 0, none⟩)), (3, .slice (some ⟨2, 0, none⟩) lh2_2.length lh2_2.length), (4, .slice (some ⟨3, 0, none⟩) o1.length o1.length), (5, .int .i64 x5_2), (6, .int .i64 x6_3), (7, .int .i64 x7_3), (19, .bool (decide (x7_3 < ((o1.length : Nat) : Int))))]) (h' := [(3, .cells (rowC (encI .i64) o1) 0 3 1), (2, .cells (rowC encP lh2_2) 0 63 2), (1, .cells [.int .i64 a_Marks, .int .i64 a_Step, .int .i64 a_Turns] 0 24 0), (0, .cells [.int .i64 a_Marks, .int .i64 a_Step, .int .i64 a_Turns] 0 24 0)]) (c' := 4) (by kernel_rfl) ?_
    refine XR.done (by kernel_rfl) ?_
    show XQ _ _ _ _ _ _ _ _
    cases b1 : (decide (x7_3 < ((o1.length : Nat) : Int)) : Bool) with
    | true =>
      have h := cT b1 h
      refine XQ.cond (s := (.tmp 19)) (b := true) (by kernel_rfl) (by kernel_rfl) (fun _ => ?_) (fun q => by cases q)
      refine XQ.skip (by kernel_rfl) ?_
      show XQ _ _ _ _ _ _ _ _
      refine XQ.seq E0_ok (by kernel_rfl) ?_
      refine XQ.block (id := 3) (by kernel_rfl) ?_
      refine XQ.seq E0_ok (by kernel_rfl) ?_
      refine XQ.region (by kernel_rfl) ?_
      refine XR.run E0_ok 1 2 [1, 3, 4, 5, 6, 7, 22, 23] rfl (σ' := [(1, .pointer (some ⟨1, 0, none⟩)), (3, .slice (some ⟨2, 0, none⟩) lh2_2.length lh2_2.length), (4, .slice (some ⟨3, 0, none⟩) o1.length o1.length), (5, .int .i64 x5_2), (6, .int .i64 x6_3), (7, .int .i64 x7_3), (22, .slice (some ⟨3, 0, none⟩) o1.length o1.length), (23, .int .i64 x7_3)]) (h' := [(3, .cells (rowC (encI .i64) o1) 0 3 1), (2, .cells (rowC encP lh2_2) 0 63 2), (1, .cells [.int .i64 a_Marks, .int .i64 a_Step, .int .i64 a_Turns] 0 24 0), (0, .cells [.int .i64 a_Marks, .int .i64 a_Step, .int .i64 a_Turns] 0 24 0)]) (c' := 4) (by kernel_rfl) ?_
      cases b2 : (inRow x7_3 o1.length : Bool) with
      | false => cases (cF b2 h)
      | true =>
        have h := cT b2 h
        refine XR.rd E0_ok [1, 3, 4, 5, 6, 7, 24] rfl (v := .pointer (some ⟨3, (Int.toNat x7_3) * 1, none⟩)) (v_idx (s := 1) (x := (src 39 (.tmp 22))) (y := (src 39 (.tmp 23))) (b := 3) (o := 0) (len := o1.length) (cap := o1.length) (ik := .i64) (i := x7_3) (off := (Int.toNat x7_3) * 1) (d := (some (path 12 24))) (by kernel_rfl) (by kernel_rfl) (by kernel_rfl) b2 (by omega)) (σ' := [(1, .pointer (some ⟨1, 0, none⟩)), (3, .slice (some ⟨2, 0, none⟩) lh2_2.length lh2_2.length), (4, .slice (some ⟨3, 0, none⟩) o1.length o1.length), (5, .int .i64 x5_2), (6, .int .i64 x6_3), (7, .int .i64 x7_3), (24, .pointer (some ⟨3, (Int.toNat x7_3) * 1, none⟩))]) (by kernel_rfl) ?_
        refine XR.rd E0_ok [1, 3, 4, 5, 6, 7, 25] rfl (v := .int .i64 (List.getD o1 (Int.toNat x7_3) 0)) (v_load1 (encI_ok .i64) (x := (src 39 (.tmp 24))) (b := 3) (off := (Int.toNat x7_3) * 1) (xs := o1) (fz := 0) (e := 3) (es := 1) (d := (some (path 12 25))) (by kernel_rfl) (by kernel_rfl) (by kernel_rfl) (Int.toNat x7_3) 0 0 (by first | rfl | omega) (row_len (inRow_toNat b2) (by simp)) rfl rfl) (σ' := [(1, .pointer (some ⟨1, 0, none⟩)), (3, .slice (some ⟨2, 0, none⟩) lh2_2.length lh2_2.length), (4, .slice (some ⟨3, 0, none⟩) o1.length o1.length), (5, .int .i64 x5_2), (6, .int .i64 x6_3), (7, .int .i64 x7_3), (25, .int .i64 (List.getD o1 (Int.toNat x7_3) 0))]) (by kernel_rfl) ?_
        refine XR.run E0_ok 1 2 [1, 3, 4, 5, 6, 7, 27] rfl (σ' := [(1, .pointer (some ⟨1, 0, none⟩)), (3, .slice (some ⟨2, 0, none⟩) lh2_2.length lh2_2.length), (4, .slice (some ⟨3, 0, none⟩) o1.length o1.length), (5, .int .i64 x5_2), (6, .int .i64 x6_3), (7, .int .i64 x7_3), (27, .bool ((List.getD o1 (Int.toNat x7_3) 0) == x5_2))]) (h' := [(3, .cells (rowC (encI .i64) o1) 0 3 1), (2, .cells (rowC encP lh2_2) 0 63 2), (1, .cells [.int .i64 a_Marks, .int .i64 a_Step, .int .i64 a_Turns] 0 24 0), (0, .cells [.int .i64 a_Marks, .int .i64 a_Step, .int .i64 a_Turns] 0 24 0)]) (c' := 4) (by kernel_rfl) ?_
        refine XR.done (by kernel_rfl) ?_
        show XQ _ _ _ _ _ _ _ _
        refine XQ.meetC (σ' := [(1, .pointer (some ⟨1, 0, none⟩)), (3, .slice (some ⟨2, 0, none⟩) lh2_2.length lh2_2.length), (4, .slice (some ⟨3, 0, none⟩) o1.length o1.length), (5, .int .i64 x5_2), (6, .int .i64 (cond ((List.getD o1 (Int.toNat x7_3) 0) == x5_2) (w64 (x6_3 + 1)) x6_3)), (7, .int .i64 x7_3)]) (h' := [(3, .cells (rowC (encI .i64) o1) 0 3 1), (2, .cells (rowC encP lh2_2) 0 63 2), (1, .cells [.int .i64 a_Marks, .int .i64 a_Step, .int .i64 a_Turns] 0 24 0), (0, .cells [.int .i64 a_Marks, .int .i64 a_Step, .int .i64 a_Turns] 0 24 0)]) (c' := 4) ?_ ?_
        rotate_left
        · refine XQ.cond (s := (.tmp 27)) (b := (List.getD o1 (Int.toNat x7_3) 0) == x5_2) (by kernel_rfl) (by kernel_rfl) (fun b3 => ?_) (fun b3 => ?_)
          · refine XQ.region (by kernel_rfl) ?_
            refine XR.run E0_ok 1 3 [1, 3, 4, 5, 6, 7] rfl (σ' := [(1, .pointer (some ⟨1, 0, none⟩)), (3, .slice (some ⟨2, 0, none⟩) lh2_2.length lh2_2.length), (4, .slice (some ⟨3, 0, none⟩) o1.length o1.length), (5, .int .i64 x5_2), (6, .int .i64 (w64 (x6_3 + 1))), (7, .int .i64 x7_3)]) (h' := [(3, .cells (rowC (encI .i64) o1) 0 3 1), (2, .cells (rowC encP lh2_2) 0 63 2), (1, .cells [.int .i64 a_Marks, .int .i64 a_Step, .int .i64 a_Turns] 0 24 0), (0, .cells [.int .i64 a_Marks, .int .i64 a_Step, .int .i64 a_Turns] 0 24 0)]) (c' := 4) (by kernel_rfl) ?_
            refine XR.done (by kernel_rfl) ?_
            refine ⟨rfl, ?_, ?_⟩
            · try rw [b3]
              exact ⟨by kernel_rfl, by kernel_rfl, by kernel_rfl, by kernel_rfl, by kernel_rfl, by kernel_rfl, trivial⟩
            · try rw [b3]
              kernel_rfl
          · refine XQ.skip (by kernel_rfl) ?_
            refine ⟨rfl, ?_, ?_⟩
            · try rw [b3]
              exact ⟨by kernel_rfl, by kernel_rfl, by kernel_rfl, by kernel_rfl, by kernel_rfl, by kernel_rfl, trivial⟩
            · try rw [b3]
              kernel_rfl
        show XQ _ _ _ _ _ _ _ _
        refine XQ.region (by kernel_rfl) ?_
        refine XR.run E0_ok 1 3 [1, 3, 4, 5, 6, 7] rfl (σ' := [(1, .pointer (some ⟨1, 0, none⟩)), (3, .slice (some ⟨2, 0, none⟩) lh2_2.length lh2_2.length), (4, .slice (some ⟨3, 0, none⟩) o1.length o1.length), (5, .int .i64 x5_2), (6, .int .i64 (cond ((List.getD o1 (Int.toNat x7_3) 0) == x5_2) (w64 (x6_3 + 1)) x6_3)), (7, .int .i64 (w64 (x7_3 + 1)))]) (h' := [(3, .cells (rowC (encI .i64) o1) 0 3 1), (2, .cells (rowC encP lh2_2) 0 63 2), (1, .cells [.int .i64 a_Marks, .int .i64 a_Step, .int .i64 a_Turns] 0 24 0), (0, .cells [.int .i64 a_Marks, .int .i64 a_Step, .int .i64 a_Turns] 0 24 0)]) (c' := 4) (by kernel_rfl) ?_
        refine XR.done (by kernel_rfl) ?_
        show XL _ _ _ _ _ _ _ _ _
        refine XL.ren (σ' := [(1, .pointer (some ⟨1, 0, none⟩)), (3, .slice (some ⟨2, 0, none⟩) lh2_2.length lh2_2.length), (4, .slice (some ⟨3, 0, none⟩) o1.length o1.length), (5, .int .i64 x5_2), (6, .int .i64 (cond ((List.getD o1 (Int.toNat x7_3) 0) == x5_2) (w64 (x6_3 + 1)) x6_3)), (7, .int .i64 (w64 (x7_3 + 1)))]) (h' := [(3, .cells (rowC (encI .i64) o1) 0 3 1), (2, .cells (rowC encP lh2_2) 0 63 2), (1, .cells [.int .i64 a_Marks, .int .i64 a_Step, .int .i64 a_Turns] 0 24 0), (0, .cells [.int .i64 a_Marks, .int .i64 a_Step, .int .i64 a_Turns] 0 24 0)]) (c' := 4) [0, 1, 2, 3] (by decide) rfl ⟨by kernel_rfl, by kernel_rfl, by kernel_rfl, by kernel_rfl, by kernel_rfl, by kernel_rfl, trivial⟩ ⟨⟨_, _, rfl, rfl, .inl ⟨rfl, rowC_scal (encI_ok .i64) _⟩⟩, ⟨_, _, rfl, rfl, .inl ⟨rfl, rowC_scal encP_ok _⟩⟩, ⟨_, _, rfl, rfl, .inr ⟨_, _, _, _, rfl, rfl⟩⟩, ⟨_, _, rfl, rfl, .inr ⟨_, _, _, _, rfl, rfl⟩⟩, trivial⟩ rfl ?_
        refine XL.conv (f34_3_ok m fuel a_Marks a_Step a_Turns o1 x5_2 lh2_2 (cond ((List.getD o1 (Int.toNat x7_3) 0) == x5_2) (w64 (x6_3 + 1)) x6_3) (w64 (x7_3 + 1)) o h Q hQ) (by first | rfl | simp)
    | false =>
      have h := cF b1 h
      refine XQ.cond (s := (.tmp 19)) (b := false) (by kernel_rfl) (by kernel_rfl) (fun q => by cases q) (fun _ => ?_)
      refine XQ.ren (σ' := [(1, .pointer (some ⟨1, 0, none⟩)), (3, .slice (some ⟨2, 0, none⟩) lh2_2.length lh2_2.length), (4, .slice (some ⟨3, 0, none⟩) o1.length o1.length), (5, .int .i64 x5_2), (6, .int .i64 x6_3)]) (h' := [(3, .cells (rowC (encI .i64) o1) 0 3 1), (2, .cells (rowC encP lh2_2) 0 63 2), (1, .cells [.int .i64 a_Marks, .int .i64 a_Step, .int .i64 a_Turns] 0 24 0), (0, .cells [.int .i64 a_Marks, .int .i64 a_Step, .int .i64 a_Turns] 0 24 0)]) (c' := 4) [0, 1, 2, 3] (by decide) rfl ⟨by kernel_rfl, by kernel_rfl, by kernel_rfl, by kernel_rfl, by kernel_rfl, trivial⟩ ⟨⟨_, _, rfl, rfl, .inl ⟨rfl, rowC_scal (encI_ok .i64) _⟩⟩, ⟨_, _, rfl, rfl, .inl ⟨rfl, rowC_scal encP_ok _⟩⟩, ⟨_, _, rfl, rfl, .inr ⟨_, _, _, _, rfl, rfl⟩⟩, ⟨_, _, rfl, rfl, .inr ⟨_, _, _, _, rfl, rfl⟩⟩, trivial⟩ rfl ?_
      refine XQ.exit (i := 2) (by kernel_rfl) ?_
      cases h
      exact hQ

def f34_2 (m : Nat) : Nat → Int → Int → Int → (List Int) → Int → List (Int × Int) → Option (List (Int × Int))
  | 0, _, _, _, _, _, _ => none
  | fuel + 1, a_Marks, a_Step, a_Turns, o1, x5_2, lh2_2 =>
    cond (decide (x5_2 ≤ a_Marks)) (
      (f34_3 m m a_Marks a_Step a_Turns o1 x5_2 lh2_2 0 0).bind fun o3 =>
        cond (decide (o3 > 0)) (
          cond (fitsB (lh2_2.length + 1) 16) (
            f34_2 m fuel a_Marks a_Step a_Turns o1 (w64 (x5_2 + 1)) (lh2_2 ++ [(x5_2, o3)])
          ) none
        ) (
          f34_2 m fuel a_Marks a_Step a_Turns o1 (w64 (x5_2 + 1)) lh2_2
        )
    ) (
      some (lh2_2)
    )

theorem f34_2_ok (m : Nat) : ∀ (fuel : Nat) (a_Marks : Int) (a_Step : Int) (a_Turns : Int) (o1 : (List Int)) (x5_2 : Int) (lh2_2 : List (Int × Int)) (o : (List (Int × Int))), f34_2 m fuel a_Marks a_Step a_Turns o1 x5_2 lh2_2 = some o → ∀ Q : QP, Q (.exit 0) [(3, .slice (some ⟨1, 0, none⟩) o.length o.length)] [(1, .cells (rowC encP o) 0 63 2), (0, .cells [.int .i64 a_Marks, .int .i64 a_Step, .int .i64 a_Turns] 0 24 0)] 2 → XL E0 39 1 fuel f34_L2 [(1, .pointer (some ⟨1, 0, none⟩)), (3, .slice (some ⟨2, 0, none⟩) lh2_2.length lh2_2.length), (4, .slice (some ⟨3, 0, none⟩) o1.length o1.length), (5, .int .i64 x5_2)] [(3, .cells (rowC (encI .i64) o1) 0 3 1), (2, .cells (rowC encP lh2_2) 0 63 2), (1, .cells [.int .i64 a_Marks, .int .i64 a_Step, .int .i64 a_Turns] 0 24 0), (0, .cells [.int .i64 a_Marks, .int .i64 a_Step, .int .i64 a_Turns] 0 24 0)] 4 Q
  | 0, a_Marks, a_Step, a_Turns, o1, x5_2, lh2_2, o, h, Q, hQ => by cases h
  | fuel + 1, a_Marks, a_Step, a_Turns, o1, x5_2, lh2_2, o, h, Q, hQ => by
    unfold f34_2 at h
    refine XL.succ E0_ok ?_
    refine XQ.seq E0_ok (by kernel_rfl) ?_
    refine XQ.seq E0_ok (by kernel_rfl) ?_
    refine XQ.region (by kernel_rfl) ?_
    refine XR.run E0_ok 1 4 [1, 3, 4, 5, 13] rfl (σ' := [(1, .pointer (some ⟨1, 0, none⟩)), (3, .slice (some ⟨2, 0, none⟩) lh2_2.length lh2_2.length), (4, .slice (some ⟨3, 0, none⟩) o1.length o1.length), (5, .int .i64 x5_2), (13, .bool (decide (x5_2 ≤ a_Marks)))]) (h' := [(3, .cells (rowC (encI .i64) o1) 0 3 1), (2, .cells (rowC encP lh2_2) 0 63 2), (1, .cells [.int .i64 a_Marks, .int .i64 a_Step, .int .i64 a_Turns] 0 24 0), (0, .cells [.int .i64 a_Marks, .int .i64 a_Step, .int .i64 a_Turns] 0 24 0)]) (c' := 4) (by kernel_rfl) ?_
    refine XR.done (by kernel_rfl) ?_
    show XQ _ _ _ _ _ _ _ _
    cases b1 : (decide (x5_2 ≤ a_Marks) : Bool) with
    | true =>
      have h := cT b1 h
      refine XQ.cond (s := (.tmp 13)) (b := true) (by kernel_rfl) (by kernel_rfl) (fun _ => ?_) (fun q => by cases q)
      refine XQ.skip (by kernel_rfl) ?_
      show XQ _ _ _ _ _ _ _ _
      refine XQ.seq E0_ok (by kernel_rfl) ?_
      refine XQ.block (id := 1) (by kernel_rfl) ?_
      refine XQ.seq E0_ok (by kernel_rfl) ?_
      refine XQ.region (by kernel_rfl) ?_
      refine XR.run E0_ok 1 1 [1, 3, 4, 5, 6] rfl (σ' := [(1, .pointer (some ⟨1, 0, none⟩)), (3, .slice (some ⟨2, 0, none⟩) lh2_2.length lh2_2.length), (4, .slice (some ⟨3, 0, none⟩) o1.length o1.length), (5, .int .i64 x5_2), (6, .int .i64 0)]) (h' := [(3, .cells (rowC (encI .i64) o1) 0 3 1), (2, .cells (rowC encP lh2_2) 0 63 2), (1, .cells [.int .i64 a_Marks, .int .i64 a_Step, .int .i64 a_Turns] 0 24 0), (0, .cells [.int .i64 a_Marks, .int .i64 a_Step, .int .i64 a_Turns] 0 24 0)]) (c' := 4) (by kernel_rfl) ?_
      refine XR.done (by kernel_rfl) ?_
      show XQ _ _ _ _ _ _ _ _
      refine XQ.seq E0_ok (by kernel_rfl) ?_
      refine XQ.seq E0_ok (by kernel_rfl) ?_
      refine XQ.region (by kernel_rfl) ?_
      refine XR.run E0_ok 1 1 [1, 3, 4, 5, 6, 7] rfl (σ' := [(1, .pointer (some ⟨1, 0, none⟩)), (3, .slice (some ⟨2, 0, none⟩) lh2_2.length lh2_2.length), (4, .slice (some ⟨3, 0, none⟩) o1.length o1.length), (5, .int .i64 x5_2), (6, .int .i64 0), (7, .int .i64 0)]) (h' := [(3, .cells (rowC (encI .i64) o1) 0 3 1), (2, .cells (rowC encP lh2_2) 0 63 2), (1, .cells [.int .i64 a_Marks, .int .i64 a_Step, .int .i64 a_Turns] 0 24 0), (0, .cells [.int .i64 a_Marks, .int .i64 a_Step, .int .i64 a_Turns] 0 24 0)]) (c' := 4) (by kernel_rfl) ?_
      refine XR.done (by kernel_rfl) ?_
      show XQ _ _ _ _ _ _ _ _
      refine XQ.block (id := 2) (by kernel_rfl) ?_
      refine XQ.loop m (by kernel_rfl) ?_
      obtain ⟨o3, o3_h, h⟩ := bS h
      refine XL.ren (σ' := [(1, .pointer (some ⟨1, 0, none⟩)), (3, .slice (some ⟨2, 0, none⟩) lh2_2.length lh2_2.length), (4, .slice (some ⟨3, 0, none⟩) o1.length o1.length), (5, .int .i64 x5_2), (6, .int .i64 0), (7, .int .i64 0)]) (h' := [(3, .cells (rowC (encI .i64) o1) 0 3 1), (2, .cells (rowC encP lh2_2) 0 63 2), (1, .cells [.int .i64 a_Marks, .int .i64 a_Step, .int .i64 a_Turns] 0 24 0), (0, .cells [.int .i64 a_Marks, .int .i64 a_Step, .int .i64 a_Turns] 0 24 0)]) (c' := 4) [0, 1, 2, 3] (by decide) rfl ⟨by kernel_rfl, by kernel_rfl, by kernel_rfl, by kernel_rfl, by kernel_rfl, by kernel_rfl, trivial⟩ ⟨⟨_, _, rfl, rfl, .inl ⟨rfl, rowC_scal (encI_ok .i64) _⟩⟩, ⟨_, _, rfl, rfl, .inl ⟨rfl, rowC_scal encP_ok _⟩⟩, ⟨_, _, rfl, rfl, .inr ⟨_, _, _, _, rfl, rfl⟩⟩, ⟨_, _, rfl, rfl, .inr ⟨_, _, _, _, rfl, rfl⟩⟩, trivial⟩ rfl ?_
      refine XL.conv (f34_3_ok m m a_Marks a_Step a_Turns o1 x5_2 lh2_2 0 0 o3 o3_h _ ?_) (by first | rfl | simp)
      show XQ _ _ _ _ _ _ _ _
      refine XQ.seq E0_ok (by kernel_rfl) ?_
      refine XQ.region (by kernel_rfl) ?_
      refine XR.run E0_ok 1 2 [1, 3, 4, 5, 6, 31] rfl (σ' := [(1, .pointer (some ⟨1, 0, none⟩)), (3, .slice (some ⟨2, 0, none⟩) lh2_2.length lh2_2.length), (4, .slice (some ⟨3, 0, none⟩) o1.length o1.length), (5, .int .i64 x5_2), (6, .int .i64 o3), (31, .bool (decide (o3 > 0)))]) (h' := [(3, .cells (rowC (encI .i64) o1) 0 3 1), (2, .cells (rowC encP lh2_2) 0 63 2), (1, .cells [.int .i64 a_Marks, .int .i64 a_Step, .int .i64 a_Turns] 0 24 0), (0, .cells [.int .i64 a_Marks, .int .i64 a_Step, .int .i64 a_Turns] 0 24 0)]) (c' := 4) (by kernel_rfl) ?_
      refine XR.done (by kernel_rfl) ?_
      show XQ _ _ _ _ _ _ _ _
      cases b3 : (decide (o3 > 0) : Bool) with
      | true =>
        have h := cT b3 h
        refine XQ.cond (s := (.tmp 31)) (b := true) (by kernel_rfl) (by kernel_rfl) (fun _ => ?_) (fun q => by cases q)
        refine XQ.region (by kernel_rfl) ?_
        refine XR.run E0_ok 1 5 [1, 4, 5, 32, 36] rfl (σ' := [(1, .pointer (some ⟨1, 0, none⟩)), (4, .slice (some ⟨3, 0, none⟩) o1.length o1.length), (5, .int .i64 x5_2), (32, .slice (some ⟨2, 0, none⟩) lh2_2.length lh2_2.length), (36, .slice (some ⟨4, 0, none⟩) 1 1)]) (h' := [(4, .cells [.int .i64 x5_2, .int .i64 o3] 0 63 2), (3, .cells (rowC (encI .i64) o1) 0 3 1), (2, .cells (rowC encP lh2_2) 0 63 2), (1, .cells [.int .i64 a_Marks, .int .i64 a_Step, .int .i64 a_Turns] 0 24 0), (0, .cells [.int .i64 a_Marks, .int .i64 a_Step, .int .i64 a_Turns] 0 24 0)]) (c' := 5) (by kernel_rfl) ?_
        cases b4 : (fitsB (lh2_2.length + 1) 16 : Bool) with
        | false => cases (cF b4 h)
        | true =>
          have h := cT b4 h
          refine XR.ef E0_ok [1, 4, 5, 37] rfl (e_append encP_ok (bytes := 16) (e := 63) (x := (src 39 (.tmp 32))) (y := (src 39 (.tmp 36))) (b := 2) (len := lh2_2.length) (cap := lh2_2.length) (xs := lh2_2) (m := 0) (ys := [(x5_2, o3)]) (d := (some (path 12 37))) (n' := (lh2_2 ++ [(x5_2, o3)]).length) (h' := [(5, .cells (rowC encP (lh2_2 ++ [(x5_2, o3)])) 0 63 2), (4, .cells [.int .i64 x5_2, .int .i64 o3] 0 63 2), (3, .cells (rowC (encI .i64) o1) 0 3 1), (1, .cells [.int .i64 a_Marks, .int .i64 a_Step, .int .i64 a_Turns] 0 24 0), (0, .cells [.int .i64 a_Marks, .int .i64 a_Step, .int .i64 a_Turns] 0 24 0)]) (by kernel_rfl) (by kernel_rfl) (by kernel_rfl) (by kernel_rfl) rfl (by simp) (by simp) b4 (by simp) (by kernel_rfl)) (σ' := [(1, .pointer (some ⟨1, 0, none⟩)), (4, .slice (some ⟨3, 0, none⟩) o1.length o1.length), (5, .int .i64 x5_2), (37, .slice (some ⟨5, 0, none⟩) ((lh2_2 ++ [(x5_2, o3)]).length) ((lh2_2 ++ [(x5_2, o3)]).length))]) (by kernel_rfl) ?_
          refine XR.run E0_ok 1 1 [1, 3, 4, 5] rfl (σ' := [(1, .pointer (some ⟨1, 0, none⟩)), (3, .slice (some ⟨5, 0, none⟩) ((lh2_2 ++ [(x5_2, o3)]).length) ((lh2_2 ++ [(x5_2, o3)]).length)), (4, .slice (some ⟨3, 0, none⟩) o1.length o1.length), (5, .int .i64 x5_2)]) (h' := [(5, .cells (rowC encP (lh2_2 ++ [(x5_2, o3)])) 0 63 2), (4, .cells [.int .i64 x5_2, .int .i64 o3] 0 63 2), (3, .cells (rowC (encI .i64) o1) 0 3 1), (1, .cells [.int .i64 a_Marks, .int .i64 a_Step, .int .i64 a_Turns] 0 24 0), (0, .cells [.int .i64 a_Marks, .int .i64 a_Step, .int .i64 a_Turns] 0 24 0)]) (c' := 6) (by kernel_rfl) ?_
          refine XR.done (by kernel_rfl) ?_
          show XQ _ _ _ _ _ _ _ _
          refine XQ.region (by kernel_rfl) ?_
          refine XR.run E0_ok 1 3 [1, 3, 4, 5] rfl (σ' := [(1, .pointer (some ⟨1, 0, none⟩)), (3, .slice (some ⟨5, 0, none⟩) ((lh2_2 ++ [(x5_2, o3)]).length) ((lh2_2 ++ [(x5_2, o3)]).length)), (4, .slice (some ⟨3, 0, none⟩) o1.length o1.length), (5, .int .i64 (w64 (x5_2 + 1)))]) (h' := [(5, .cells (rowC encP (lh2_2 ++ [(x5_2, o3)])) 0 63 2), (4, .cells [.int .i64 x5_2, .int .i64 o3] 0 63 2), (3, .cells (rowC (encI .i64) o1) 0 3 1), (1, .cells [.int .i64 a_Marks, .int .i64 a_Step, .int .i64 a_Turns] 0 24 0), (0, .cells [.int .i64 a_Marks, .int .i64 a_Step, .int .i64 a_Turns] 0 24 0)]) (c' := 6) (by kernel_rfl) ?_
          refine XR.done (by kernel_rfl) ?_
          show XL _ _ _ _ _ _ _ _ _
          refine XL.ren (σ' := [(1, .pointer (some ⟨1, 0, none⟩)), (3, .slice (some ⟨2, 0, none⟩) ((lh2_2 ++ [(x5_2, o3)]).length) ((lh2_2 ++ [(x5_2, o3)]).length)), (4, .slice (some ⟨3, 0, none⟩) o1.length o1.length), (5, .int .i64 (w64 (x5_2 + 1)))]) (h' := [(3, .cells (rowC (encI .i64) o1) 0 3 1), (2, .cells (rowC encP (lh2_2 ++ [(x5_2, o3)])) 0 63 2), (1, .cells [.int .i64 a_Marks, .int .i64 a_Step, .int .i64 a_Turns] 0 24 0), (0, .cells [.int .i64 a_Marks, .int .i64 a_Step, .int .i64 a_Turns] 0 24 0)]) (c' := 4) [0, 1, 5, 3] (by decide) rfl ⟨by kernel_rfl, by kernel_rfl, by kernel_rfl, by kernel_rfl, trivial⟩ ⟨⟨_, _, rfl, rfl, .inl ⟨rfl, rowC_scal (encI_ok .i64) _⟩⟩, ⟨_, _, rfl, rfl, .inl ⟨rfl, rowC_scal encP_ok _⟩⟩, ⟨_, _, rfl, rfl, .inr ⟨_, _, _, _, rfl, rfl⟩⟩, ⟨_, _, rfl, rfl, .inr ⟨_, _, _, _, rfl, rfl⟩⟩, trivial⟩ rfl ?_
          refine XL.conv (f34_2_ok m fuel a_Marks a_Step a_Turns o1 (w64 (x5_2 + 1)) (lh2_2 ++ [(x5_2, o3)]) o h Q hQ) (by first | rfl | simp)
      | false =>
        have h := cF b3 h
        refine XQ.cond (s := (.tmp 31)) (b := false) (by kernel_rfl) (by kernel_rfl) (fun q => by cases q) (fun _ => ?_)
        refine XQ.skip (by kernel_rfl) ?_
        show XQ _ _ _ _ _ _ _ _
        refine XQ.region (by kernel_rfl) ?_
        refine XR.run E0_ok 1 3 [1, 3, 4, 5] rfl (σ' := [(1, .pointer (some ⟨1, 0, none⟩)), (3, .slice (some ⟨2, 0, none⟩) lh2_2.length lh2_2.length), (4, .slice (some ⟨3, 0, none⟩) o1.length o1.length), (5, .int .i64 (w64 (x5_2 + 1)))]) (h' := [(3, .cells (rowC (encI .i64) o1) 0 3 1), (2, .cells (rowC encP lh2_2) 0 63 2), (1, .cells [.int .i64 a_Marks, .int .i64 a_Step, .int .i64 a_Turns] 0 24 0), (0, .cells [.int .i64 a_Marks, .int .i64 a_Step, .int .i64 a_Turns] 0 24 0)]) (c' := 4) (by kernel_rfl) ?_
        refine XR.done (by kernel_rfl) ?_
        show XL _ _ _ _ _ _ _ _ _
        refine XL.ren (σ' := [(1, .pointer (some ⟨1, 0, none⟩)), (3, .slice (some ⟨2, 0, none⟩) lh2_2.length lh2_2.length), (4, .slice (some ⟨3, 0, none⟩) o1.length o1.length), (5, .int .i64 (w64 (x5_2 + 1)))]) (h' := [(3, .cells (rowC (encI .i64) o1) 0 3 1), (2, .cells (rowC encP lh2_2) 0 63 2), (1, .cells [.int .i64 a_Marks, .int .i64 a_Step, .int .i64 a_Turns] 0 24 0), (0, .cells [.int .i64 a_Marks, .int .i64 a_Step, .int .i64 a_Turns] 0 24 0)]) (c' := 4) [0, 1, 2, 3] (by decide) rfl ⟨by kernel_rfl, by kernel_rfl, by kernel_rfl, by kernel_rfl, trivial⟩ ⟨⟨_, _, rfl, rfl, .inl ⟨rfl, rowC_scal (encI_ok .i64) _⟩⟩, ⟨_, _, rfl, rfl, .inl ⟨rfl, rowC_scal encP_ok _⟩⟩, ⟨_, _, rfl, rfl, .inr ⟨_, _, _, _, rfl, rfl⟩⟩, ⟨_, _, rfl, rfl, .inr ⟨_, _, _, _, rfl, rfl⟩⟩, trivial⟩ rfl ?_
        refine XL.conv (f34_2_ok m fuel a_Marks a_Step a_Turns o1 (w64 (x5_2 + 1)) lh2_2 o h Q hQ) (by first | rfl | simp)
    | false =>
      have h := cF b1 h
      refine XQ.cond (s := (.tmp 13)) (b := false) (by kernel_rfl) (by kernel_rfl) (fun q => by cases q) (fun _ => ?_)
      refine XQ.ren (σ' := [(3, .slice (some ⟨1, 0, none⟩) lh2_2.length lh2_2.length)]) (h' := [(1, .cells (rowC encP lh2_2) 0 63 2), (0, .cells [.int .i64 a_Marks, .int .i64 a_Step, .int .i64 a_Turns] 0 24 0)]) (c' := 2) [0, 2] (by decide) rfl ⟨by kernel_rfl, trivial⟩ ⟨⟨_, _, rfl, rfl, .inl ⟨rfl, rowC_scal encP_ok _⟩⟩, ⟨_, _, rfl, rfl, .inr ⟨_, _, _, _, rfl, rfl⟩⟩, trivial⟩ rfl ?_
      refine XQ.exit (i := 0) (by kernel_rfl) ?_
      cases h
      exact hQ

def f34 (m : Nat) (a_Marks : Int) (a_Step : Int) (a_Turns : Int) : Option ((List (Int × Int)) × Int) :=
  (f21 m a_Marks a_Step a_Turns).bind fun r1 =>
    cond (r1 != 0) (
      some ([], r1)
    ) (
      (f76 m a_Marks a_Step a_Turns).bind fun r2 =>
        (f34_1 m m a_Marks a_Step a_Turns 0 r2 []).bind fun o1 =>
          (f34_2 m m a_Marks a_Step a_Turns o1 1 []).bind fun o2 =>
            some (o2, 0)
    )

theorem f34_ok (m : Nat) (a_Marks : Int) (a_Step : Int) (a_Turns : Int) (o : (List (Int × Int)) × Int) (h : f34 m a_Marks a_Step a_Turns = some o) : KC E0 34 [.agg #[.int .i64 a_Marks, .int .i64 a_Step, .int .i64 a_Turns]] [] 0 (fun v h' c' => v = .tuple #[.slice (some ⟨0, 0, none⟩) o.1.length o.1.length, .int .i64 o.2] ∧ h' = [(0, .cells (rowC encP o.1) 0 63 2)] ∧ c' = 1) := by
  refine KC.bodyN E0_ok (F := Proofs.Try.f34) (by kernel_rfl) (code := f34_C34) (by kernel_rfl) (nt := 12) (by kernel_rfl) (rs := [.tmp 2, .tmp 3]) (by kernel_rfl) (by kernel_rfl) (σ := [(0, .agg #[.int .i64 a_Marks, .int .i64 a_Step, .int .i64 a_Turns])]) (by kernel_rfl) ?_
  unfold f34 at h
  refine XQ.seq E0_ok (by kernel_rfl) ?_
  refine XQ.region (by kernel_rfl) ?_
  refine XR.run E0_ok 1 3 [1] rfl (σ' := [(1, .pointer (some ⟨0, 0, none⟩))]) (h' := [(0, .cells [.int .i64 a_Marks, .int .i64 a_Step, .int .i64 a_Turns] 0 24 0)]) (c' := 1) (by kernel_rfl) ?_
  refine XR.done (by kernel_rfl) ?_
  show XQ _ _ _ _ _ _ _ _
  refine XQ.seq E0_ok (by kernel_rfl) ?_
  refine XQ.region (by kernel_rfl) ?_
  refine XR.run E0_ok 1 1 [1, 5] rfl (σ' := [(1, .pointer (some ⟨0, 0, none⟩)), (5, .agg #[.int .i64 a_Marks, .int .i64 a_Step, .int .i64 a_Turns])]) (h' := [(0, .cells [.int .i64 a_Marks, .int .i64 a_Step, .int .i64 a_Turns] 0 24 0)]) (c' := 1) (by kernel_rfl) ?_
  obtain ⟨r1, r1_h, h⟩ := bS h
  refine XR.call E0_ok [1, 6] rfl (K := 21) (args := [.agg #[.int .i64 a_Marks, .int .i64 a_Step, .int .i64 a_Turns]]) (d := (some (path 12 6))) (by kernel_rfl) (KC.of_calls E0_ok (F := Proofs.Try.f21) (v := .int .i64 r1) (by kernel_rfl) rfl rfl (fun w hI => f21_ok m a_Marks a_Step a_Turns r1 r1_h w hI)) ?_
  rintro _ _ _ ⟨rfl, rfl, rfl⟩
  refine XR.conv (σ' := [(1, .pointer (some ⟨0, 0, none⟩)), (6, .int .i64 r1)]) (h' := [(0, .cells [.int .i64 a_Marks, .int .i64 a_Step, .int .i64 a_Turns] 0 24 0)]) (c' := 1) ?_ (by kernel_rfl)
  refine XR.run E0_ok 1 1 [1, 4] rfl (σ' := [(1, .pointer (some ⟨0, 0, none⟩)), (4, .int .i64 r1)]) (h' := [(0, .cells [.int .i64 a_Marks, .int .i64 a_Step, .int .i64 a_Turns] 0 24 0)]) (c' := 1) (by kernel_rfl) ?_
  refine XR.done (by kernel_rfl) ?_
  show XQ _ _ _ _ _ _ _ _
  refine XQ.seq E0_ok (by kernel_rfl) ?_
  refine XQ.seq E0_ok (by kernel_rfl) ?_
  refine XQ.region (by kernel_rfl) ?_
  refine XR.run E0_ok 1 2 [1, 4, 8] rfl (σ' := [(1, .pointer (some ⟨0, 0, none⟩)), (4, .int .i64 r1), (8, .bool (r1 != 0))]) (h' := [(0, .cells [.int .i64 a_Marks, .int .i64 a_Step, .int .i64 a_Turns] 0 24 0)]) (c' := 1) (by kernel_rfl) ?_
  refine XR.done (by kernel_rfl) ?_
  show XQ _ _ _ _ _ _ _ _
  cases b1 : (r1 != 0 : Bool) with
  | true =>
    have h := cT b1 h
    refine XQ.cond (s := (.tmp 8)) (b := true) (by kernel_rfl) (by kernel_rfl) (fun _ => ?_) (fun q => by cases q)
    refine XQ.seq E0_ok (by kernel_rfl) ?_
    refine XQ.region (by kernel_rfl) ?_
    refine XR.run E0_ok 1 3 [2, 3] rfl (σ' := [(2, .slice none 0 0), (3, .int .i64 r1)]) (h' := [(0, .cells [.int .i64 a_Marks, .int .i64 a_Step, .int .i64 a_Turns] 0 24 0)]) (c' := 1) (by kernel_rfl) ?_
    refine XR.done (by kernel_rfl) ?_
    show XQ _ _ _ _ _ _ _ _
    refine XQ.ghost 63 2 rfl (σ' := [(2, .slice (some ⟨1, 0, none⟩) 0 0), (3, .int .i64 r1)]) (h' := [(0, .cells [.int .i64 a_Marks, .int .i64 a_Step, .int .i64 a_Turns] 0 24 0)]) ⟨by kernel_rfl, by kernel_rfl, trivial⟩ ⟨⟨_, rfl, .inl rfl⟩, trivial⟩ ?_
    refine XQ.conv (σ' := [(2, .slice (some ⟨1, 0, none⟩) 0 0), (3, .int .i64 r1)]) (h' := [(1, .cells (rowC encP []) 0 63 2), (0, .cells [.int .i64 a_Marks, .int .i64 a_Step, .int .i64 a_Turns] 0 24 0)]) (c' := 2) ?_ (by kernel_rfl)
    refine XQ.ren (σ' := [(2, .slice (some ⟨0, 0, none⟩) 0 0), (3, .int .i64 r1)]) (h' := [(0, .cells (rowC encP []) 0 63 2)]) (c' := 1) [1] (by decide) rfl ⟨by kernel_rfl, by kernel_rfl, trivial⟩ ⟨⟨_, _, rfl, rfl, .inl ⟨rfl, rowC_scal encP_ok _⟩⟩, trivial⟩ rfl ?_
    refine XQ.ret (by kernel_rfl) ?_
    have h := Option.some.inj h
    subst h
    exact ⟨fun i q => (by cases q), .tuple #[.slice (some ⟨0, 0, none⟩) 0 0, .int .i64 r1], (by kernel_rfl), (by kernel_rfl), (by kernel_rfl), rfl⟩
  | false =>
    have h := cF b1 h
    refine XQ.cond (s := (.tmp 8)) (b := false) (by kernel_rfl) (by kernel_rfl) (fun q => by cases q) (fun _ => ?_)
    refine XQ.skip (by kernel_rfl) ?_
    show XQ _ _ _ _ _ _ _ _
    refine XQ.seq E0_ok (by kernel_rfl) ?_
    refine XQ.region (by kernel_rfl) ?_
    refine XR.run E0_ok 1 1 [10] rfl (σ' := [(10, .agg #[.int .i64 a_Marks, .int .i64 a_Step, .int .i64 a_Turns])]) (h' := [(0, .cells [.int .i64 a_Marks, .int .i64 a_Step, .int .i64 a_Turns] 0 24 0)]) (c' := 1) (by kernel_rfl) ?_
    refine XR.callK E0_ok [11] rfl (K := 80) (args := [.agg #[.int .i64 a_Marks, .int .i64 a_Step, .int .i64 a_Turns]]) (d := (some (path 12 11))) (by kernel_rfl) ?_
    refine KC.bodyN E0_ok (F := Proofs.Try.f80) (by kernel_rfl) (code := f34_C80) (by kernel_rfl) (nt := 39) (by kernel_rfl) (rs := [.tmp 2]) (by kernel_rfl) (by kernel_rfl) (σ := [(0, .agg #[.int .i64 a_Marks, .int .i64 a_Step, .int .i64 a_Turns])]) (by kernel_rfl) ?_
    refine XQ.seq E0_ok (by kernel_rfl) ?_
    refine XQ.region (by kernel_rfl) ?_
    refine XR.run E0_ok 1 2 [1] rfl (σ' := [(1, .pointer (some ⟨1, 0, none⟩))]) (h' := [(1, .cells [.int .i64 a_Marks, .int .i64 a_Step, .int .i64 a_Turns] 0 24 0), (0, .cells [.int .i64 a_Marks, .int .i64 a_Step, .int .i64 a_Turns] 0 24 0)]) (c' := 2) (by kernel_rfl) ?_
    refine XR.done (by kernel_rfl) ?_
    show XQ _ _ _ _ _ _ _ _
    refine XQ.seq E0_ok (by kernel_rfl) ?_
    refine XQ.region (by kernel_rfl) ?_
    refine XR.run E0_ok 1 1 [1, 3] rfl (σ' := [(1, .pointer (some ⟨1, 0, none⟩)), (3, .slice none 0 0)]) (h' := [(1, .cells [.int .i64 a_Marks, .int .i64 a_Step, .int .i64 a_Turns] 0 24 0), (0, .cells [.int .i64 a_Marks, .int .i64 a_Step, .int .i64 a_Turns] 0 24 0)]) (c' := 2) (by kernel_rfl) ?_
    refine XR.done (by kernel_rfl) ?_
    show XQ _ _ _ _ _ _ _ _
    refine XQ.ghost 63 2 rfl (σ' := [(1, .pointer (some ⟨1, 0, none⟩)), (3, .slice (some ⟨2, 0, none⟩) 0 0)]) (h' := [(1, .cells [.int .i64 a_Marks, .int .i64 a_Step, .int .i64 a_Turns] 0 24 0), (0, .cells [.int .i64 a_Marks, .int .i64 a_Step, .int .i64 a_Turns] 0 24 0)]) ⟨by kernel_rfl, by kernel_rfl, trivial⟩ ⟨⟨_, rfl, .inl rfl⟩, ⟨_, rfl, .inl rfl⟩, trivial⟩ ?_
    refine XQ.conv (σ' := [(1, .pointer (some ⟨1, 0, none⟩)), (3, .slice (some ⟨2, 0, none⟩) 0 0)]) (h' := [(2, .cells (rowC encP []) 0 63 2), (1, .cells [.int .i64 a_Marks, .int .i64 a_Step, .int .i64 a_Turns] 0 24 0), (0, .cells [.int .i64 a_Marks, .int .i64 a_Step, .int .i64 a_Turns] 0 24 0)]) (c' := 3) ?_ (by kernel_rfl)
    refine XQ.seq E0_ok (by kernel_rfl) ?_
    refine XQ.region (by kernel_rfl) ?_
    refine XR.run E0_ok 1 1 [1, 3, 8] rfl (σ' := [(1, .pointer (some ⟨1, 0, none⟩)), (3, .slice (some ⟨2, 0, none⟩) 0 0), (8, .agg #[.int .i64 a_Marks, .int .i64 a_Step, .int .i64 a_Turns])]) (h' := [(2, .cells (rowC encP []) 0 63 2), (1, .cells [.int .i64 a_Marks, .int .i64 a_Step, .int .i64 a_Turns] 0 24 0), (0, .cells [.int .i64 a_Marks, .int .i64 a_Step, .int .i64 a_Turns] 0 24 0)]) (c' := 3) (by kernel_rfl) ?_
    refine XR.callK E0_ok [1, 3, 9] rfl (K := 78) (args := [.agg #[.int .i64 a_Marks, .int .i64 a_Step, .int .i64 a_Turns]]) (d := (some (path 12 9))) (by kernel_rfl) ?_
    refine KC.bodyN E0_ok (F := Proofs.Try.f78) (by kernel_rfl) (code := f34_C78) (by kernel_rfl) (nt := 41) (by kernel_rfl) (rs := [.tmp 2]) (by kernel_rfl) (by kernel_rfl) (σ := [(0, .agg #[.int .i64 a_Marks, .int .i64 a_Step, .int .i64 a_Turns])]) (by kernel_rfl) ?_
    refine XQ.seq E0_ok (by kernel_rfl) ?_
    refine XQ.region (by kernel_rfl) ?_
    refine XR.run E0_ok 1 2 [1] rfl (σ' := [(1, .pointer (some ⟨3, 0, none⟩))]) (h' := [(3, .cells [.int .i64 a_Marks, .int .i64 a_Step, .int .i64 a_Turns] 0 24 0), (2, .cells (rowC encP []) 0 63 2), (1, .cells [.int .i64 a_Marks, .int .i64 a_Step, .int .i64 a_Turns] 0 24 0), (0, .cells [.int .i64 a_Marks, .int .i64 a_Step, .int .i64 a_Turns] 0 24 0)]) (c' := 4) (by kernel_rfl) ?_
    refine XR.done (by kernel_rfl) ?_
    show XQ _ _ _ _ _ _ _ _
    refine XQ.seq E0_ok (by kernel_rfl) ?_
    refine XQ.region (by kernel_rfl) ?_
    refine XR.run E0_ok 1 1 [1, 7] rfl (σ' := [(1, .pointer (some ⟨3, 0, none⟩)), (7, .agg #[.int .i64 a_Marks, .int .i64 a_Step, .int .i64 a_Turns])]) (h' := [(3, .cells [.int .i64 a_Marks, .int .i64 a_Step, .int .i64 a_Turns] 0 24 0), (2, .cells (rowC encP []) 0 63 2), (1, .cells [.int .i64 a_Marks, .int .i64 a_Step, .int .i64 a_Turns] 0 24 0), (0, .cells [.int .i64 a_Marks, .int .i64 a_Step, .int .i64 a_Turns] 0 24 0)]) (c' := 4) (by kernel_rfl) ?_
    obtain ⟨r2, r2_h, h⟩ := bS h
    refine XR.call E0_ok [1, 8] rfl (K := 76) (args := [.agg #[.int .i64 a_Marks, .int .i64 a_Step, .int .i64 a_Turns]]) (d := (some (path 12 8))) (by kernel_rfl) (KC.lift (V2 := .slice (some ⟨4, 0, none⟩) r2.length r2.length) (H2 := [(4, .cells (rowC (encI .i64) r2) 0 3 1)]) [1, 2, 3, 4, 0] (f76_ok m a_Marks a_Step a_Turns r2 r2_h) rfl (by decide) (by decide) (by kernel_rfl) ⟨⟨_, _, rfl, rfl, .inl ⟨rfl, rowC_scal (encI_ok .i64) _⟩⟩, trivial⟩ (by rfl)) ?_
    rintro _ _ _ ⟨rfl, rfl, rfl⟩
    refine XR.conv (σ' := [(1, .pointer (some ⟨3, 0, none⟩)), (8, .slice (some ⟨4, 0, none⟩) r2.length r2.length)]) (h' := [(4, .cells (rowC (encI .i64) r2) 0 3 1), (3, .cells [.int .i64 a_Marks, .int .i64 a_Step, .int .i64 a_Turns] 0 24 0), (2, .cells (rowC encP []) 0 63 2), (1, .cells [.int .i64 a_Marks, .int .i64 a_Step, .int .i64 a_Turns] 0 24 0), (0, .cells [.int .i64 a_Marks, .int .i64 a_Step, .int .i64 a_Turns] 0 24 0)]) (c' := 5) ?_ (by kernel_rfl)
    refine XR.run E0_ok 1 1 [1, 3] rfl (σ' := [(1, .pointer (some ⟨3, 0, none⟩)), (3, .slice (some ⟨4, 0, none⟩) r2.length r2.length)]) (h' := [(4, .cells (rowC (encI .i64) r2) 0 3 1), (3, .cells [.int .i64 a_Marks, .int .i64 a_Step, .int .i64 a_Turns] 0 24 0), (2, .cells (rowC encP []) 0 63 2), (1, .cells [.int .i64 a_Marks, .int .i64 a_Step, .int .i64 a_Turns] 0 24 0), (0, .cells [.int .i64 a_Marks, .int .i64 a_Step, .int .i64 a_Turns] 0 24 0)]) (c' := 5) (by kernel_rfl) ?_
    refine XR.done (by kernel_rfl) ?_
    show XQ _ _ _ _ _ _ _ _
    refine XQ.seq E0_ok (by kernel_rfl) ?_
    refine XQ.region (by kernel_rfl) ?_
    refine XR.run E0_ok 1 1 [1, 3, 4] rfl (σ' := [(1, .pointer (some ⟨3, 0, none⟩)), (3, .slice (some ⟨4, 0, none⟩) r2.length r2.length), (4, .slice none 0 0)]) (h' := [(4, .cells (rowC (encI .i64) r2) 0 3 1), (3, .cells [.int .i64 a_Marks, .int .i64 a_Step, .int .i64 a_Turns] 0 24 0), (2, .cells (rowC encP []) 0 63 2), (1, .cells [.int .i64 a_Marks, .int .i64 a_Step, .int .i64 a_Turns] 0 24 0), (0, .cells [.int .i64 a_Marks, .int .i64 a_Step, .int .i64 a_Turns] 0 24 0)]) (c' := 5) (by kernel_rfl) ?_
    refine XR.done (by kernel_rfl) ?_
    show XQ _ _ _ _ _ _ _ _
    refine XQ.ghost 3 1 rfl (σ' := [(1, .pointer (some ⟨3, 0, none⟩)), (3, .slice (some ⟨4, 0, none⟩) r2.length r2.length), (4, .slice (some ⟨5, 0, none⟩) 0 0)]) (h' := [(4, .cells (rowC (encI .i64) r2) 0 3 1), (3, .cells [.int .i64 a_Marks, .int .i64 a_Step, .int .i64 a_Turns] 0 24 0), (2, .cells (rowC encP []) 0 63 2), (1, .cells [.int .i64 a_Marks, .int .i64 a_Step, .int .i64 a_Turns] 0 24 0), (0, .cells [.int .i64 a_Marks, .int .i64 a_Step, .int .i64 a_Turns] 0 24 0)]) ⟨by kernel_rfl, by kernel_rfl, by kernel_rfl, trivial⟩ ⟨⟨_, rfl, .inl rfl⟩, ⟨_, rfl, .inl rfl⟩, ⟨_, rfl, .inl rfl⟩, ⟨_, rfl, .inl rfl⟩, ⟨_, rfl, .inl rfl⟩, trivial⟩ ?_
    refine XQ.conv (σ' := [(1, .pointer (some ⟨3, 0, none⟩)), (3, .slice (some ⟨4, 0, none⟩) r2.length r2.length), (4, .slice (some ⟨5, 0, none⟩) 0 0)]) (h' := [(5, .cells (rowC (encI .i64) []) 0 3 1), (4, .cells (rowC (encI .i64) r2) 0 3 1), (3, .cells [.int .i64 a_Marks, .int .i64 a_Step, .int .i64 a_Turns] 0 24 0), (2, .cells (rowC encP []) 0 63 2), (1, .cells [.int .i64 a_Marks, .int .i64 a_Step, .int .i64 a_Turns] 0 24 0), (0, .cells [.int .i64 a_Marks, .int .i64 a_Step, .int .i64 a_Turns] 0 24 0)]) (c' := 6) ?_ (by kernel_rfl)
    refine XQ.seq E0_ok (by kernel_rfl) ?_
    refine XQ.seq E0_ok (by kernel_rfl) ?_
    refine XQ.region (by kernel_rfl) ?_
    refine XR.run E0_ok 1 1 [1, 3, 4, 5] rfl (σ' := [(1, .pointer (some ⟨3, 0, none⟩)), (3, .slice (some ⟨4, 0, none⟩) r2.length r2.length), (4, .slice (some ⟨5, 0, none⟩) 0 0), (5, .int .i64 0)]) (h' := [(5, .cells (rowC (encI .i64) []) 0 3 1), (4, .cells (rowC (encI .i64) r2) 0 3 1), (3, .cells [.int .i64 a_Marks, .int .i64 a_Step, .int .i64 a_Turns] 0 24 0), (2, .cells (rowC encP []) 0 63 2), (1, .cells [.int .i64 a_Marks, .int .i64 a_Step, .int .i64 a_Turns] 0 24 0), (0, .cells [.int .i64 a_Marks, .int .i64 a_Step, .int .i64 a_Turns] 0 24 0)]) (c' := 6) (by kernel_rfl) ?_
    refine XR.done (by kernel_rfl) ?_
    show XQ _ _ _ _ _ _ _ _
    refine XQ.block (id := 0) (by kernel_rfl) ?_
    refine XQ.loop m (by kernel_rfl) ?_
    obtain ⟨o1, o1_h, h⟩ := bS h
    refine XL.ren (σ' := [(1, .pointer (some ⟨3, 0, none⟩)), (3, .slice (some ⟨4, 0, none⟩) r2.length r2.length), (4, .slice (some ⟨5, 0, none⟩) 0 0), (5, .int .i64 0)]) (h' := [(5, .cells (rowC (encI .i64) []) 0 3 1), (4, .cells (rowC (encI .i64) r2) 0 3 1), (3, .cells [.int .i64 a_Marks, .int .i64 a_Step, .int .i64 a_Turns] 0 24 0), (2, .cells (rowC encP []) 0 63 2), (1, .cells [.int .i64 a_Marks, .int .i64 a_Step, .int .i64 a_Turns] 0 24 0), (0, .cells [.int .i64 a_Marks, .int .i64 a_Step, .int .i64 a_Turns] 0 24 0)]) (c' := 6) [0, 1, 2, 3, 4, 5] (by decide) rfl ⟨by kernel_rfl, by kernel_rfl, by kernel_rfl, by kernel_rfl, trivial⟩ ⟨⟨_, _, rfl, rfl, .inl ⟨rfl, rowC_scal (encI_ok .i64) _⟩⟩, ⟨_, _, rfl, rfl, .inl ⟨rfl, rowC_scal (encI_ok .i64) _⟩⟩, ⟨_, _, rfl, rfl, .inr ⟨_, _, _, _, rfl, rfl⟩⟩, ⟨_, _, rfl, rfl, .inl ⟨rfl, rowC_scal encP_ok _⟩⟩, ⟨_, _, rfl, rfl, .inr ⟨_, _, _, _, rfl, rfl⟩⟩, ⟨_, _, rfl, rfl, .inr ⟨_, _, _, _, rfl, rfl⟩⟩, trivial⟩ rfl ?_
    refine XL.conv (f34_1_ok m m a_Marks a_Step a_Turns 0 r2 [] o1 o1_h _ ?_) (by first | rfl | simp)
    show XQ _ _ _ _ _ _ _ _
    refine XQ.seq E0_ok (by kernel_rfl) ?_
    refine XQ.region (by kernel_rfl) ?_
    refine XR.run E0_ok 1 2 [2] rfl (σ' := [(2, .slice (some ⟨3, 0, none⟩) o1.length o1.length)]) (h' := [(3, .cells (rowC (encI .i64) o1) 0 3 1), (2, .cells (rowC encP []) 0 63 2), (1, .cells [.int .i64 a_Marks, .int .i64 a_Step, .int .i64 a_Turns] 0 24 0), (0, .cells [.int .i64 a_Marks, .int .i64 a_Step, .int .i64 a_Turns] 0 24 0)]) (c' := 4) (by kernel_rfl) ?_
    refine XR.done (by kernel_rfl) ?_
    show XQ _ _ _ _ _ _ _ _
    refine XQ.ret (by kernel_rfl) ?_
    refine ⟨fun i q => (by cases q), .slice (some ⟨3, 0, none⟩) o1.length o1.length, (by kernel_rfl), ?_⟩
    refine XR.conv (σ' := [(1, .pointer (some ⟨1, 0, none⟩)), (3, .slice (some ⟨2, 0, none⟩) 0 0), (9, .slice (some ⟨3, 0, none⟩) o1.length o1.length)]) (h' := [(3, .cells (rowC (encI .i64) o1) 0 3 1), (2, .cells (rowC encP []) 0 63 2), (1, .cells [.int .i64 a_Marks, .int .i64 a_Step, .int .i64 a_Turns] 0 24 0), (0, .cells [.int .i64 a_Marks, .int .i64 a_Step, .int .i64 a_Turns] 0 24 0)]) (c' := 4) ?_ (by kernel_rfl)
    refine XR.run E0_ok 1 1 [1, 3, 4] rfl (σ' := [(1, .pointer (some ⟨1, 0, none⟩)), (3, .slice (some ⟨2, 0, none⟩) 0 0), (4, .slice (some ⟨3, 0, none⟩) o1.length o1.length)]) (h' := [(3, .cells (rowC (encI .i64) o1) 0 3 1), (2, .cells (rowC encP []) 0 63 2), (1, .cells [.int .i64 a_Marks, .int .i64 a_Step, .int .i64 a_Turns] 0 24 0), (0, .cells [.int .i64 a_Marks, .int .i64 a_Step, .int .i64 a_Turns] 0 24 0)]) (c' := 4) (by kernel_rfl) ?_
    refine XR.done (by kernel_rfl) ?_
    show XQ _ _ _ _ _ _ _ _
    refine XQ.seq E0_ok (by kernel_rfl) ?_
    refine XQ.seq E0_ok (by kernel_rfl) ?_
    refine XQ.region (by kernel_rfl) ?_
    refine XR.run E0_ok 1 1 [1, 3, 4, 5] rfl (σ' := [(1, .pointer (some ⟨1, 0, none⟩)), (3, .slice (some ⟨2, 0, none⟩) 0 0), (4, .slice (some ⟨3, 0, none⟩) o1.length o1.length), (5, .int .i64 1)]) (h' := [(3, .cells (rowC (encI .i64) o1) 0 3 1), (2, .cells (rowC encP []) 0 63 2), (1, .cells [.int .i64 a_Marks, .int .i64 a_Step, .int .i64 a_Turns] 0 24 0), (0, .cells [.int .i64 a_Marks, .int .i64 a_Step, .int .i64 a_Turns] 0 24 0)]) (c' := 4) (by kernel_rfl) ?_
    refine XR.done (by kernel_rfl) ?_
    show XQ _ _ _ _ _ _ _ _
    refine XQ.block (id := 0) (by kernel_rfl) ?_
    refine XQ.loop m (by kernel_rfl) ?_
    obtain ⟨o2, o2_h, h⟩ := bS h
    refine XL.ren (σ' := [(1, .pointer (some ⟨1, 0, none⟩)), (3, .slice (some ⟨2, 0, none⟩) 0 0), (4, .slice (some ⟨3, 0, none⟩) o1.length o1.length), (5, .int .i64 1)]) (h' := [(3, .cells (rowC (encI .i64) o1) 0 3 1), (2, .cells (rowC encP []) 0 63 2), (1, .cells [.int .i64 a_Marks, .int .i64 a_Step, .int .i64 a_Turns] 0 24 0), (0, .cells [.int .i64 a_Marks, .int .i64 a_Step, .int .i64 a_Turns] 0 24 0)]) (c' := 4) [0, 1, 2, 3] (by decide) rfl ⟨by kernel_rfl, by kernel_rfl, by kernel_rfl, by kernel_rfl, trivial⟩ ⟨⟨_, _, rfl, rfl, .inl ⟨rfl, rowC_scal (encI_ok .i64) _⟩⟩, ⟨_, _, rfl, rfl, .inl ⟨rfl, rowC_scal encP_ok _⟩⟩, ⟨_, _, rfl, rfl, .inr ⟨_, _, _, _, rfl, rfl⟩⟩, ⟨_, _, rfl, rfl, .inr ⟨_, _, _, _, rfl, rfl⟩⟩, trivial⟩ rfl ?_
    refine XL.conv (f34_2_ok m m a_Marks a_Step a_Turns o1 1 [] o2 o2_h _ ?_) (by first | rfl | simp)
    show XQ _ _ _ _ _ _ _ _
    refine XQ.seq E0_ok (by kernel_rfl) ?_
    refine XQ.region (by kernel_rfl) ?_
    refine XR.run E0_ok 1 2 [2] rfl (σ' := [(2, .slice (some ⟨1, 0, none⟩) o2.length o2.length)]) (h' := [(1, .cells (rowC encP o2) 0 63 2), (0, .cells [.int .i64 a_Marks, .int .i64 a_Step, .int .i64 a_Turns] 0 24 0)]) (c' := 2) (by kernel_rfl) ?_
    refine XR.done (by kernel_rfl) ?_
    show XQ _ _ _ _ _ _ _ _
    refine XQ.ret (by kernel_rfl) ?_
    refine ⟨fun i q => (by cases q), .slice (some ⟨1, 0, none⟩) o2.length o2.length, (by kernel_rfl), ?_⟩
    refine XR.conv (σ' := [(11, .slice (some ⟨1, 0, none⟩) o2.length o2.length)]) (h' := [(1, .cells (rowC encP o2) 0 63 2), (0, .cells [.int .i64 a_Marks, .int .i64 a_Step, .int .i64 a_Turns] 0 24 0)]) (c' := 2) ?_ (by kernel_rfl)
    refine XR.run E0_ok 1 2 [2, 3] rfl (σ' := [(2, .slice (some ⟨1, 0, none⟩) o2.length o2.length), (3, .int .i64 0)]) (h' := [(1, .cells (rowC encP o2) 0 63 2), (0, .cells [.int .i64 a_Marks, .int .i64 a_Step, .int .i64 a_Turns] 0 24 0)]) (c' := 2) (by kernel_rfl) ?_
    refine XR.done (by kernel_rfl) ?_
    show XQ _ _ _ _ _ _ _ _
    refine XQ.ren (σ' := [(2, .slice (some ⟨0, 0, none⟩) o2.length o2.length), (3, .int .i64 0)]) (h' := [(0, .cells (rowC encP o2) 0 63 2)]) (c' := 1) [1] (by decide) rfl ⟨by kernel_rfl, by kernel_rfl, trivial⟩ ⟨⟨_, _, rfl, rfl, .inl ⟨rfl, rowC_scal encP_ok _⟩⟩, trivial⟩ rfl ?_
    refine XQ.ret (by kernel_rfl) ?_
    have h := Option.some.inj h
    subst h
    exact ⟨fun i q => (by cases q), .tuple #[.slice (some ⟨0, 0, none⟩) o2.length o2.length, .int .i64 0], (by kernel_rfl), (by kernel_rfl), (by kernel_rfl), rfl⟩

end Go.Xm
