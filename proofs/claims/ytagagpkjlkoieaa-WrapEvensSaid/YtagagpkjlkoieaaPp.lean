/- What these functions of the program compute, as functions in Lean, and the proofs that they do: vitolaref05.Evens. Conditions: none. -/
import Derived.Test.YtagagpkjlkoieaaPh
namespace Go.Xm
open Go.RowKit
set_option linter.unusedVariables false
set_option linter.unusedSimpArgs false
set_option maxRecDepth 20000

/-! vitola/vitolaref05.Evens -/
noncomputable def f38_C38 : Code := Proofs.Try.f38.body.getD .skip
noncomputable def f38_C80 : Code := Proofs.Try.f80.body.getD .skip
noncomputable def f38_C78 : Code := Proofs.Try.f78.body.getD .skip
noncomputable def f38_L1 : Code := lft (lft (rgt (lft (rgt (rgt (rgt (rgt (rgt f38_C38))))))))
noncomputable def f38_L2 : Code := lft (lft (rgt (lft (rgt (rgt (rgt f38_C78))))))
noncomputable def f38_L3 : Code := lft (lft (rgt (lft (rgt (rgt (rgt f38_C80))))))
noncomputable def f38_L4 : Code := lft (lft (rgt (lft (rgt (lft (lft (rgt f38_L3)))))))

def f38_2 (m : Nat) : Nat → Int → Int → List Int → Int → Int → List Int → List Int → Option (List Int)
  | 0, _, _, _, _, _, _, _ => none
  | fuel + 1, a, b, lh0_1, xh1_2_1, x5_2, lh5_2, lh6_2 =>
    cond (decide (x5_2 < ((lh5_2.length : Nat) : Int))) (
      cond (decide ((w64 (x5_2 + 1)) < ((lh5_2.length : Nat) : Int))) (
        cond (inRow (w64 (x5_2 + 1)) lh5_2.length) (
          (f61 m a b xh1_2_1 (List.getD lh5_2 (Int.toNat (w64 (x5_2 + 1))) 0)).bind fun r41 =>
            cond (inRow x5_2 lh5_2.length) (
              (f61 m a b xh1_2_1 (List.getD lh5_2 (Int.toNat x5_2) 0)).bind fun r42 =>
                cond (fitsB (lh6_2.length + 1) 8) (
                  f38_2 m fuel a b lh0_1 xh1_2_1 (w64 (x5_2 + 1)) lh5_2 (lh6_2 ++ [w64 (r41 - r42)])
                ) none
            ) none
        ) none
      ) (
        cond (inRow x5_2 lh5_2.length) (
          (f61 m a b xh1_2_1 (List.getD lh5_2 (Int.toNat x5_2) 0)).bind fun r43 =>
            cond (fitsB (lh6_2.length + 1) 8) (
              f38_2 m fuel a b lh0_1 xh1_2_1 (w64 (x5_2 + 1)) lh5_2 (lh6_2 ++ [w64 (a - r43)])
            ) none
        ) none
      )
    ) (
      some (lh6_2)
    )

theorem f38_2_ok (m : Nat) : ∀ (fuel : Nat) (a : Int) (b : Int) (lh0_1 : List Int) (xh1_2_1 : Int) (x5_2 : Int) (lh5_2 : List Int) (lh6_2 : List Int) (o : (List Int)), f38_2 m fuel a b lh0_1 xh1_2_1 x5_2 lh5_2 lh6_2 = some o → ∀ Q : QP, Q (.exit 0) [(4, .slice (some ⟨4, 0, none⟩) o.length o.length)] [(4, .cells (rowC (encI .i64) o) 0 3 1), (3, .cells (rowC encP []) 0 63 2), (2, .cells [.int .i64 a, .int .i64 b, .int .i64 xh1_2_1] 0 24 0), (1, .cells [.int .i64 a, .int .i64 b, .int .i64 xh1_2_1] 0 24 0), (0, .cells (rowC (encI .i64) lh0_1) 0 3 1)] 5 → XL E0 41 4 fuel f38_L2 [(1, .pointer (some ⟨4, 0, none⟩)), (3, .slice (some ⟨5, 0, none⟩) lh5_2.length lh5_2.length), (4, .slice (some ⟨6, 0, none⟩) lh6_2.length lh6_2.length), (5, .int .i64 x5_2)] [(6, .cells (rowC (encI .i64) lh6_2) 0 3 1), (5, .cells (rowC (encI .i64) lh5_2) 0 3 1), (4, .cells [.int .i64 a, .int .i64 b, .int .i64 xh1_2_1] 0 24 0), (3, .cells (rowC encP []) 0 63 2), (2, .cells [.int .i64 a, .int .i64 b, .int .i64 xh1_2_1] 0 24 0), (1, .cells [.int .i64 a, .int .i64 b, .int .i64 xh1_2_1] 0 24 0), (0, .cells (rowC (encI .i64) lh0_1) 0 3 1)] 7 Q
  | 0, a, b, lh0_1, xh1_2_1, x5_2, lh5_2, lh6_2, o, h, Q, hQ => by cases h
  | fuel + 1, a, b, lh0_1, xh1_2_1, x5_2, lh5_2, lh6_2, o, h, Q, hQ => by
    unfold f38_2 at h
    refine XL.succ E0_ok ?_
    refine XQ.seq E0_ok (by kernel_rfl) ?_
    refine XQ.seq E0_ok (by kernel_rfl) ?_
    refine XQ.region (by kernel_rfl) ?_
    refine XR.run E0_ok 1 4 [1, 3, 4, 5, 12] rfl (σ' := [(1, .pointer (some ⟨4, 0, none⟩)), (3, .slice (some ⟨5, 0, none⟩) lh5_2.length lh5_2.length), (4, .slice (some ⟨6, 0, none⟩) lh6_2.length lh6_2.length), (5, .int .i64 x5_2), (12, .bool (decide (x5_2 < ((lh5_2.length : Nat) : Int))))]) (h' := [(6, .cells (rowC (encI .i64) lh6_2) 0 3 1), (5, .cells (rowC (encI .i64) lh5_2) 0 3 1), (4, .cells [.int .i64 a, .int .i64 b, .int .i64 xh1_2_1] 0 24 0), (3, .cells (rowC encP []) 0 63 2), (2, .cells [.int .i64 a, .int .i64 b, .int .i64 xh1_2_1] 0 24 0), (1, .cells [.int .i64 a, .int .i64 b, .int .i64 xh1_2_1] 0 24 0), (0, .cells (rowC (encI .i64) lh0_1) 0 3 1)]) (c' := 7) (by kernel_rfl) ?_
    refine XR.done (by kernel_rfl) ?_
    show XQ _ _ _ _ _ _ _ _
    cases b1 : (decide (x5_2 < ((lh5_2.length : Nat) : Int)) : Bool) with
    | true =>
      have h := cT b1 h
      refine XQ.cond (s := (.tmp 12)) (b := true) (by kernel_rfl) (by kernel_rfl) (fun _ => ?_) (fun q => by cases q)
      refine XQ.skip (by kernel_rfl) ?_
      show XQ _ _ _ _ _ _ _ _
      refine XQ.seq E0_ok (by kernel_rfl) ?_
      refine XQ.block (id := 1) (by kernel_rfl) ?_
      refine XQ.seq E0_ok (by kernel_rfl) ?_
      refine XQ.region (by kernel_rfl) ?_
      refine XR.run E0_ok 1 3 [1, 3, 4, 5, 6] rfl (σ' := [(1, .pointer (some ⟨4, 0, none⟩)), (3, .slice (some ⟨5, 0, none⟩) lh5_2.length lh5_2.length), (4, .slice (some ⟨6, 0, none⟩) lh6_2.length lh6_2.length), (5, .int .i64 x5_2), (6, .int .i64 a)]) (h' := [(6, .cells (rowC (encI .i64) lh6_2) 0 3 1), (5, .cells (rowC (encI .i64) lh5_2) 0 3 1), (4, .cells [.int .i64 a, .int .i64 b, .int .i64 xh1_2_1] 0 24 0), (3, .cells (rowC encP []) 0 63 2), (2, .cells [.int .i64 a, .int .i64 b, .int .i64 xh1_2_1] 0 24 0), (1, .cells [.int .i64 a, .int .i64 b, .int .i64 xh1_2_1] 0 24 0), (0, .cells (rowC (encI .i64) lh0_1) 0 3 1)]) (c' := 7) (by kernel_rfl) ?_
      refine XR.done (by kernel_rfl) ?_
      show XQ _ _ _ _ _ _ _ _
      refine XQ.seq E0_ok (by kernel_rfl) ?_
      refine XQ.seq E0_ok (by kernel_rfl) ?_
      refine XQ.region (by kernel_rfl) ?_
      refine XR.run E0_ok 1 5 [1, 3, 4, 5, 6, 21] rfl (σ' := [(1, .pointer (some ⟨4, 0, none⟩)), (3, .slice (some ⟨5, 0, none⟩) lh5_2.length lh5_2.length), (4, .slice (some ⟨6, 0, none⟩) lh6_2.length lh6_2.length), (5, .int .i64 x5_2), (6, .int .i64 a), (21, .bool (decide ((w64 (x5_2 + 1)) < ((lh5_2.length : Nat) : Int))))]) (h' := [(6, .cells (rowC (encI .i64) lh6_2) 0 3 1), (5, .cells (rowC (encI .i64) lh5_2) 0 3 1), (4, .cells [.int .i64 a, .int .i64 b, .int .i64 xh1_2_1] 0 24 0), (3, .cells (rowC encP []) 0 63 2), (2, .cells [.int .i64 a, .int .i64 b, .int .i64 xh1_2_1] 0 24 0), (1, .cells [.int .i64 a, .int .i64 b, .int .i64 xh1_2_1] 0 24 0), (0, .cells (rowC (encI .i64) lh0_1) 0 3 1)]) (c' := 7) (by kernel_rfl) ?_
      refine XR.done (by kernel_rfl) ?_
      show XQ _ _ _ _ _ _ _ _
      cases b2 : (decide ((w64 (x5_2 + 1)) < ((lh5_2.length : Nat) : Int)) : Bool) with
      | true =>
        have h := cT b2 h
        refine XQ.cond (s := (.tmp 21)) (b := true) (by kernel_rfl) (by kernel_rfl) (fun _ => ?_) (fun q => by cases q)
        refine XQ.quiet E0_ok (by kernel_rfl) (by kernel_rfl) ?_
        refine XU.run E0_ok 1 4 [1, 3, 4, 5, 22, 23, 25] rfl (σ' := [(1, .pointer (some ⟨4, 0, none⟩)), (3, .slice (some ⟨5, 0, none⟩) lh5_2.length lh5_2.length), (4, .slice (some ⟨6, 0, none⟩) lh6_2.length lh6_2.length), (5, .int .i64 x5_2), (22, .agg #[.int .i64 a, .int .i64 b, .int .i64 xh1_2_1]), (23, .slice (some ⟨5, 0, none⟩) lh5_2.length lh5_2.length), (25, .int .i64 (w64 (x5_2 + 1)))]) (by kernel_rfl) ?_
        cases b3 : (inRow (w64 (x5_2 + 1)) lh5_2.length : Bool) with
        | false => cases (cF b3 h)
        | true =>
          have h := cT b3 h
          refine XU.rd E0_ok [1, 3, 4, 5, 22, 26] rfl (v := .pointer (some ⟨5, (Int.toNat (w64 (x5_2 + 1))) * 1, none⟩)) (v_idx (s := 1) (x := (src 41 (.tmp 23))) (y := (src 41 (.tmp 25))) (b := 5) (o := 0) (len := lh5_2.length) (cap := lh5_2.length) (ik := .i64) (i := w64 (x5_2 + 1)) (off := (Int.toNat (w64 (x5_2 + 1))) * 1) (d := (some (path 12 26))) (by kernel_rfl) (by kernel_rfl) (by kernel_rfl) b3 (by omega)) (σ' := [(1, .pointer (some ⟨4, 0, none⟩)), (3, .slice (some ⟨5, 0, none⟩) lh5_2.length lh5_2.length), (4, .slice (some ⟨6, 0, none⟩) lh6_2.length lh6_2.length), (5, .int .i64 x5_2), (22, .agg #[.int .i64 a, .int .i64 b, .int .i64 xh1_2_1]), (26, .pointer (some ⟨5, (Int.toNat (w64 (x5_2 + 1))) * 1, none⟩))]) (by kernel_rfl) ?_
          refine XU.rd E0_ok [1, 3, 4, 5, 22, 27] rfl (v := .int .i64 (List.getD lh5_2 (Int.toNat (w64 (x5_2 + 1))) 0)) (v_load1 (encI_ok .i64) (x := (src 41 (.tmp 26))) (b := 5) (off := (Int.toNat (w64 (x5_2 + 1))) * 1) (xs := lh5_2) (fz := 0) (e := 3) (es := 1) (d := (some (path 12 27))) (by kernel_rfl) (by kernel_rfl) (by kernel_rfl) (Int.toNat (w64 (x5_2 + 1))) 0 0 (by first | rfl | omega) (row_len (inRow_toNat b3) (by simp)) rfl rfl) (σ' := [(1, .pointer (some ⟨4, 0, none⟩)), (3, .slice (some ⟨5, 0, none⟩) lh5_2.length lh5_2.length), (4, .slice (some ⟨6, 0, none⟩) lh6_2.length lh6_2.length), (5, .int .i64 x5_2), (22, .agg #[.int .i64 a, .int .i64 b, .int .i64 xh1_2_1]), (27, .int .i64 (List.getD lh5_2 (Int.toNat (w64 (x5_2 + 1))) 0))]) (by kernel_rfl) ?_
          obtain ⟨r41, r41_h, h⟩ := bS h
          refine XU.call E0_ok [1, 3, 4, 5, 28] rfl (K := 61) (F := Proofs.Try.f61) (args := [.agg #[.int .i64 a, .int .i64 b, .int .i64 xh1_2_1], .int .i64 (List.getD lh5_2 (Int.toNat (w64 (x5_2 + 1))) 0)]) (d := (some (path 12 28))) (v := .int .i64 r41) (by kernel_rfl) (by kernel_rfl) rfl rfl (fun w hI => f61_ok m a b xh1_2_1 (List.getD lh5_2 (Int.toNat (w64 (x5_2 + 1))) 0) r41 r41_h w hI) (σ' := [(1, .pointer (some ⟨4, 0, none⟩)), (3, .slice (some ⟨5, 0, none⟩) lh5_2.length lh5_2.length), (4, .slice (some ⟨6, 0, none⟩) lh6_2.length lh6_2.length), (5, .int .i64 x5_2), (28, .int .i64 r41)]) (by kernel_rfl) ?_
          refine XU.run E0_ok 1 1 [1, 3, 4, 5, 6] rfl (σ' := [(1, .pointer (some ⟨4, 0, none⟩)), (3, .slice (some ⟨5, 0, none⟩) lh5_2.length lh5_2.length), (4, .slice (some ⟨6, 0, none⟩) lh6_2.length lh6_2.length), (5, .int .i64 x5_2), (6, .int .i64 r41)]) (by kernel_rfl) ?_
          refine XU.done (by kernel_rfl) ?_
          show XQ _ _ _ _ _ _ _ _
          refine XQ.preP E0_ok [0, 1] [2, 3, 4, 5, 6] 7 [8, 9, 10, 11] (by kernel_rfl) (by kernel_rfl) (by kernel_rfl) ?_
          refine XP.step E0_ok 2 [1, 3, 5, 29, 30] rfl (σ' := [(1, .pointer (some ⟨4, 0, none⟩)), (3, .slice (some ⟨5, 0, none⟩) lh5_2.length lh5_2.length), (5, .int .i64 x5_2), (29, .slice (some ⟨6, 0, none⟩) lh6_2.length lh6_2.length), (30, .int .i64 r41)]) (by kernel_rfl) ?_
          refine XP.done (by kernel_rfl) ?_
          show XS _ _ _ _ _ _ _ _ _ _
          refine XS.step E0_ok 3 rfl [1, 3, 5, 29, 30, 31, 32, 33] rfl (σ' := [(1, .pointer (some ⟨4, 0, none⟩)), (3, .slice (some ⟨5, 0, none⟩) lh5_2.length lh5_2.length), (5, .int .i64 x5_2), (29, .slice (some ⟨6, 0, none⟩) lh6_2.length lh6_2.length), (30, .int .i64 r41), (31, .agg #[.int .i64 a, .int .i64 b, .int .i64 xh1_2_1]), (32, .slice (some ⟨5, 0, none⟩) lh5_2.length lh5_2.length), (33, .int .i64 x5_2)]) (by kernel_rfl) ?_
          cases b4 : (inRow x5_2 lh5_2.length : Bool) with
          | false => cases (cF b4 h)
          | true =>
            have h := cT b4 h
            refine XS.rd E0_ok rfl [1, 3, 5, 29, 30, 31, 34] rfl (v := .pointer (some ⟨5, (Int.toNat x5_2) * 1, none⟩)) (v_idx (s := 1) (x := (src 41 (.tmp 32))) (y := (src 41 (.tmp 33))) (b := 5) (o := 0) (len := lh5_2.length) (cap := lh5_2.length) (ik := .i64) (i := x5_2) (off := (Int.toNat x5_2) * 1) (d := (some (path 12 34))) (by kernel_rfl) (by kernel_rfl) (by kernel_rfl) b4 (by omega)) (σ' := [(1, .pointer (some ⟨4, 0, none⟩)), (3, .slice (some ⟨5, 0, none⟩) lh5_2.length lh5_2.length), (5, .int .i64 x5_2), (29, .slice (some ⟨6, 0, none⟩) lh6_2.length lh6_2.length), (30, .int .i64 r41), (31, .agg #[.int .i64 a, .int .i64 b, .int .i64 xh1_2_1]), (34, .pointer (some ⟨5, (Int.toNat x5_2) * 1, none⟩))]) (by kernel_rfl) ?_
            refine XS.rd E0_ok rfl [1, 3, 5, 29, 30, 31, 35] rfl (v := .int .i64 (List.getD lh5_2 (Int.toNat x5_2) 0)) (v_load1 (encI_ok .i64) (x := (src 41 (.tmp 34))) (b := 5) (off := (Int.toNat x5_2) * 1) (xs := lh5_2) (fz := 0) (e := 3) (es := 1) (d := (some (path 12 35))) (by kernel_rfl) (by kernel_rfl) (by kernel_rfl) (Int.toNat x5_2) 0 0 (by first | rfl | omega) (row_len (inRow_toNat b4) (by simp)) rfl rfl) (σ' := [(1, .pointer (some ⟨4, 0, none⟩)), (3, .slice (some ⟨5, 0, none⟩) lh5_2.length lh5_2.length), (5, .int .i64 x5_2), (29, .slice (some ⟨6, 0, none⟩) lh6_2.length lh6_2.length), (30, .int .i64 r41), (31, .agg #[.int .i64 a, .int .i64 b, .int .i64 xh1_2_1]), (35, .int .i64 (List.getD lh5_2 (Int.toNat x5_2) 0))]) (by kernel_rfl) ?_
            refine XS.done (by kernel_rfl) ?_
            obtain ⟨r42, r42_h, h⟩ := bS h
            refine XR.call E0_ok [1, 3, 5, 29, 30, 36] rfl (K := 61) (args := [.agg #[.int .i64 a, .int .i64 b, .int .i64 xh1_2_1], .int .i64 (List.getD lh5_2 (Int.toNat x5_2) 0)]) (d := (some (path 12 36))) (by kernel_rfl) (KC.of_calls E0_ok (F := Proofs.Try.f61) (v := .int .i64 r42) (by kernel_rfl) rfl rfl (fun w hI => f61_ok m a b xh1_2_1 (List.getD lh5_2 (Int.toNat x5_2) 0) r42 r42_h w hI)) ?_
            rintro _ _ _ ⟨rfl, rfl, rfl⟩
            refine XR.conv (σ' := [(1, .pointer (some ⟨4, 0, none⟩)), (3, .slice (some ⟨5, 0, none⟩) lh5_2.length lh5_2.length), (5, .int .i64 x5_2), (29, .slice (some ⟨6, 0, none⟩) lh6_2.length lh6_2.length), (30, .int .i64 r41), (36, .int .i64 r42)]) (h' := [(6, .cells (rowC (encI .i64) lh6_2) 0 3 1), (5, .cells (rowC (encI .i64) lh5_2) 0 3 1), (4, .cells [.int .i64 a, .int .i64 b, .int .i64 xh1_2_1] 0 24 0), (3, .cells (rowC encP []) 0 63 2), (2, .cells [.int .i64 a, .int .i64 b, .int .i64 xh1_2_1] 0 24 0), (1, .cells [.int .i64 a, .int .i64 b, .int .i64 xh1_2_1] 0 24 0), (0, .cells (rowC (encI .i64) lh0_1) 0 3 1)]) (c' := 7) ?_ (by kernel_rfl)
            refine XR.run E0_ok 1 2 [1, 3, 5, 29, 38] rfl (σ' := [(1, .pointer (some ⟨4, 0, none⟩)), (3, .slice (some ⟨5, 0, none⟩) lh5_2.length lh5_2.length), (5, .int .i64 x5_2), (29, .slice (some ⟨6, 0, none⟩) lh6_2.length lh6_2.length), (38, .slice (some ⟨7, 0, none⟩) 1 1)]) (h' := [(7, .cells [.int .i64 (w64 (r41 - r42))] 0 3 1), (6, .cells (rowC (encI .i64) lh6_2) 0 3 1), (5, .cells (rowC (encI .i64) lh5_2) 0 3 1), (4, .cells [.int .i64 a, .int .i64 b, .int .i64 xh1_2_1] 0 24 0), (3, .cells (rowC encP []) 0 63 2), (2, .cells [.int .i64 a, .int .i64 b, .int .i64 xh1_2_1] 0 24 0), (1, .cells [.int .i64 a, .int .i64 b, .int .i64 xh1_2_1] 0 24 0), (0, .cells (rowC (encI .i64) lh0_1) 0 3 1)]) (c' := 8) (by kernel_rfl) ?_
            cases b5 : (fitsB (lh6_2.length + 1) 8 : Bool) with
            | false => cases (cF b5 h)
            | true =>
              have h := cT b5 h
              refine XR.ef E0_ok [1, 3, 5, 39] rfl (e_append (encI_ok .i64) (bytes := 8) (e := 3) (x := (src 41 (.tmp 29))) (y := (src 41 (.tmp 38))) (b := 6) (len := lh6_2.length) (cap := lh6_2.length) (xs := lh6_2) (m := 0) (ys := [w64 (r41 - r42)]) (d := (some (path 12 39))) (n' := (lh6_2 ++ [w64 (r41 - r42)]).length) (h' := [(8, .cells (rowC (encI .i64) (lh6_2 ++ [w64 (r41 - r42)])) 0 3 1), (7, .cells [.int .i64 (w64 (r41 - r42))] 0 3 1), (5, .cells (rowC (encI .i64) lh5_2) 0 3 1), (4, .cells [.int .i64 a, .int .i64 b, .int .i64 xh1_2_1] 0 24 0), (3, .cells (rowC encP []) 0 63 2), (2, .cells [.int .i64 a, .int .i64 b, .int .i64 xh1_2_1] 0 24 0), (1, .cells [.int .i64 a, .int .i64 b, .int .i64 xh1_2_1] 0 24 0), (0, .cells (rowC (encI .i64) lh0_1) 0 3 1)]) (by kernel_rfl) (by kernel_rfl) (by kernel_rfl) (by kernel_rfl) rfl (by simp) (by simp) b5 (by simp) (by kernel_rfl)) (σ' := [(1, .pointer (some ⟨4, 0, none⟩)), (3, .slice (some ⟨5, 0, none⟩) lh5_2.length lh5_2.length), (5, .int .i64 x5_2), (39, .slice (some ⟨8, 0, none⟩) ((lh6_2 ++ [w64 (r41 - r42)]).length) ((lh6_2 ++ [w64 (r41 - r42)]).length))]) (by kernel_rfl) ?_
              refine XR.run E0_ok 1 1 [1, 3, 4, 5] rfl (σ' := [(1, .pointer (some ⟨4, 0, none⟩)), (3, .slice (some ⟨5, 0, none⟩) lh5_2.length lh5_2.length), (4, .slice (some ⟨8, 0, none⟩) ((lh6_2 ++ [w64 (r41 - r42)]).length) ((lh6_2 ++ [w64 (r41 - r42)]).length)), (5, .int .i64 x5_2)]) (h' := [(8, .cells (rowC (encI .i64) (lh6_2 ++ [w64 (r41 - r42)])) 0 3 1), (7, .cells [.int .i64 (w64 (r41 - r42))] 0 3 1), (5, .cells (rowC (encI .i64) lh5_2) 0 3 1), (4, .cells [.int .i64 a, .int .i64 b, .int .i64 xh1_2_1] 0 24 0), (3, .cells (rowC encP []) 0 63 2), (2, .cells [.int .i64 a, .int .i64 b, .int .i64 xh1_2_1] 0 24 0), (1, .cells [.int .i64 a, .int .i64 b, .int .i64 xh1_2_1] 0 24 0), (0, .cells (rowC (encI .i64) lh0_1) 0 3 1)]) (c' := 9) (by kernel_rfl) ?_
              refine XR.done (by kernel_rfl) ?_
              show XQ _ _ _ _ _ _ _ _
              refine XQ.region (by kernel_rfl) ?_
              refine XR.run E0_ok 1 3 [1, 3, 4, 5] rfl (σ' := [(1, .pointer (some ⟨4, 0, none⟩)), (3, .slice (some ⟨5, 0, none⟩) lh5_2.length lh5_2.length), (4, .slice (some ⟨8, 0, none⟩) ((lh6_2 ++ [w64 (r41 - r42)]).length) ((lh6_2 ++ [w64 (r41 - r42)]).length)), (5, .int .i64 (w64 (x5_2 + 1)))]) (h' := [(8, .cells (rowC (encI .i64) (lh6_2 ++ [w64 (r41 - r42)])) 0 3 1), (7, .cells [.int .i64 (w64 (r41 - r42))] 0 3 1), (5, .cells (rowC (encI .i64) lh5_2) 0 3 1), (4, .cells [.int .i64 a, .int .i64 b, .int .i64 xh1_2_1] 0 24 0), (3, .cells (rowC encP []) 0 63 2), (2, .cells [.int .i64 a, .int .i64 b, .int .i64 xh1_2_1] 0 24 0), (1, .cells [.int .i64 a, .int .i64 b, .int .i64 xh1_2_1] 0 24 0), (0, .cells (rowC (encI .i64) lh0_1) 0 3 1)]) (c' := 9) (by kernel_rfl) ?_
              refine XR.done (by kernel_rfl) ?_
              show XL _ _ _ _ _ _ _ _ _
              refine XL.ren (σ' := [(1, .pointer (some ⟨4, 0, none⟩)), (3, .slice (some ⟨5, 0, none⟩) lh5_2.length lh5_2.length), (4, .slice (some ⟨6, 0, none⟩) ((lh6_2 ++ [w64 (r41 - r42)]).length) ((lh6_2 ++ [w64 (r41 - r42)]).length)), (5, .int .i64 (w64 (x5_2 + 1)))]) (h' := [(6, .cells (rowC (encI .i64) (lh6_2 ++ [w64 (r41 - r42)])) 0 3 1), (5, .cells (rowC (encI .i64) lh5_2) 0 3 1), (4, .cells [.int .i64 a, .int .i64 b, .int .i64 xh1_2_1] 0 24 0), (3, .cells (rowC encP []) 0 63 2), (2, .cells [.int .i64 a, .int .i64 b, .int .i64 xh1_2_1] 0 24 0), (1, .cells [.int .i64 a, .int .i64 b, .int .i64 xh1_2_1] 0 24 0), (0, .cells (rowC (encI .i64) lh0_1) 0 3 1)]) (c' := 7) [0, 1, 2, 3, 4, 5, 8] (by decide) rfl ⟨by kernel_rfl, by kernel_rfl, by kernel_rfl, by kernel_rfl, trivial⟩ ⟨⟨_, _, rfl, rfl, .inl ⟨rfl, rowC_scal (encI_ok .i64) _⟩⟩, ⟨_, _, rfl, rfl, .inl ⟨rfl, rowC_scal (encI_ok .i64) _⟩⟩, ⟨_, _, rfl, rfl, .inr ⟨_, _, _, _, rfl, rfl⟩⟩, ⟨_, _, rfl, rfl, .inl ⟨rfl, rowC_scal encP_ok _⟩⟩, ⟨_, _, rfl, rfl, .inr ⟨_, _, _, _, rfl, rfl⟩⟩, ⟨_, _, rfl, rfl, .inr ⟨_, _, _, _, rfl, rfl⟩⟩, ⟨_, _, rfl, rfl, .inl ⟨rfl, rowC_scal (encI_ok .i64) _⟩⟩, trivial⟩ rfl ?_
              refine XL.conv (f38_2_ok m fuel a b lh0_1 xh1_2_1 (w64 (x5_2 + 1)) lh5_2 (lh6_2 ++ [w64 (r41 - r42)]) o h Q hQ) (by first | rfl | simp)
      | false =>
        have h := cF b2 h
        refine XQ.cond (s := (.tmp 21)) (b := false) (by kernel_rfl) (by kernel_rfl) (fun q => by cases q) (fun _ => ?_)
        refine XQ.skip (by kernel_rfl) ?_
        show XQ _ _ _ _ _ _ _ _
        refine XQ.preP E0_ok [0, 1] [2, 3, 4, 5, 6] 7 [8, 9, 10, 11] (by kernel_rfl) (by kernel_rfl) (by kernel_rfl) ?_
        refine XP.step E0_ok 2 [1, 3, 5, 29, 30] rfl (σ' := [(1, .pointer (some ⟨4, 0, none⟩)), (3, .slice (some ⟨5, 0, none⟩) lh5_2.length lh5_2.length), (5, .int .i64 x5_2), (29, .slice (some ⟨6, 0, none⟩) lh6_2.length lh6_2.length), (30, .int .i64 a)]) (by kernel_rfl) ?_
        refine XP.done (by kernel_rfl) ?_
        show XS _ _ _ _ _ _ _ _ _ _
        refine XS.step E0_ok 3 rfl [1, 3, 5, 29, 30, 31, 32, 33] rfl (σ' := [(1, .pointer (some ⟨4, 0, none⟩)), (3, .slice (some ⟨5, 0, none⟩) lh5_2.length lh5_2.length), (5, .int .i64 x5_2), (29, .slice (some ⟨6, 0, none⟩) lh6_2.length lh6_2.length), (30, .int .i64 a), (31, .agg #[.int .i64 a, .int .i64 b, .int .i64 xh1_2_1]), (32, .slice (some ⟨5, 0, none⟩) lh5_2.length lh5_2.length), (33, .int .i64 x5_2)]) (by kernel_rfl) ?_
        cases b6 : (inRow x5_2 lh5_2.length : Bool) with
        | false => cases (cF b6 h)
        | true =>
          have h := cT b6 h
          refine XS.rd E0_ok rfl [1, 3, 5, 29, 30, 31, 34] rfl (v := .pointer (some ⟨5, (Int.toNat x5_2) * 1, none⟩)) (v_idx (s := 1) (x := (src 41 (.tmp 32))) (y := (src 41 (.tmp 33))) (b := 5) (o := 0) (len := lh5_2.length) (cap := lh5_2.length) (ik := .i64) (i := x5_2) (off := (Int.toNat x5_2) * 1) (d := (some (path 12 34))) (by kernel_rfl) (by kernel_rfl) (by kernel_rfl) b6 (by omega)) (σ' := [(1, .pointer (some ⟨4, 0, none⟩)), (3, .slice (some ⟨5, 0, none⟩) lh5_2.length lh5_2.length), (5, .int .i64 x5_2), (29, .slice (some ⟨6, 0, none⟩) lh6_2.length lh6_2.length), (30, .int .i64 a), (31, .agg #[.int .i64 a, .int .i64 b, .int .i64 xh1_2_1]), (34, .pointer (some ⟨5, (Int.toNat x5_2) * 1, none⟩))]) (by kernel_rfl) ?_
          refine XS.rd E0_ok rfl [1, 3, 5, 29, 30, 31, 35] rfl (v := .int .i64 (List.getD lh5_2 (Int.toNat x5_2) 0)) (v_load1 (encI_ok .i64) (x := (src 41 (.tmp 34))) (b := 5) (off := (Int.toNat x5_2) * 1) (xs := lh5_2) (fz := 0) (e := 3) (es := 1) (d := (some (path 12 35))) (by kernel_rfl) (by kernel_rfl) (by kernel_rfl) (Int.toNat x5_2) 0 0 (by first | rfl | omega) (row_len (inRow_toNat b6) (by simp)) rfl rfl) (σ' := [(1, .pointer (some ⟨4, 0, none⟩)), (3, .slice (some ⟨5, 0, none⟩) lh5_2.length lh5_2.length), (5, .int .i64 x5_2), (29, .slice (some ⟨6, 0, none⟩) lh6_2.length lh6_2.length), (30, .int .i64 a), (31, .agg #[.int .i64 a, .int .i64 b, .int .i64 xh1_2_1]), (35, .int .i64 (List.getD lh5_2 (Int.toNat x5_2) 0))]) (by kernel_rfl) ?_
          refine XS.done (by kernel_rfl) ?_
          obtain ⟨r43, r43_h, h⟩ := bS h
          refine XR.call E0_ok [1, 3, 5, 29, 30, 36] rfl (K := 61) (args := [.agg #[.int .i64 a, .int .i64 b, .int .i64 xh1_2_1], .int .i64 (List.getD lh5_2 (Int.toNat x5_2) 0)]) (d := (some (path 12 36))) (by kernel_rfl) (KC.of_calls E0_ok (F := Proofs.Try.f61) (v := .int .i64 r43) (by kernel_rfl) rfl rfl (fun w hI => f61_ok m a b xh1_2_1 (List.getD lh5_2 (Int.toNat x5_2) 0) r43 r43_h w hI)) ?_
          rintro _ _ _ ⟨rfl, rfl, rfl⟩
          refine XR.conv (σ' := [(1, .pointer (some ⟨4, 0, none⟩)), (3, .slice (some ⟨5, 0, none⟩) lh5_2.length lh5_2.length), (5, .int .i64 x5_2), (29, .slice (some ⟨6, 0, none⟩) lh6_2.length lh6_2.length), (30, .int .i64 a), (36, .int .i64 r43)]) (h' := [(6, .cells (rowC (encI .i64) lh6_2) 0 3 1), (5, .cells (rowC (encI .i64) lh5_2) 0 3 1), (4, .cells [.int .i64 a, .int .i64 b, .int .i64 xh1_2_1] 0 24 0), (3, .cells (rowC encP []) 0 63 2), (2, .cells [.int .i64 a, .int .i64 b, .int .i64 xh1_2_1] 0 24 0), (1, .cells [.int .i64 a, .int .i64 b, .int .i64 xh1_2_1] 0 24 0), (0, .cells (rowC (encI .i64) lh0_1) 0 3 1)]) (c' := 7) ?_ (by kernel_rfl)
          refine XR.run E0_ok 1 2 [1, 3, 5, 29, 38] rfl (σ' := [(1, .pointer (some ⟨4, 0, none⟩)), (3, .slice (some ⟨5, 0, none⟩) lh5_2.length lh5_2.length), (5, .int .i64 x5_2), (29, .slice (some ⟨6, 0, none⟩) lh6_2.length lh6_2.length), (38, .slice (some ⟨7, 0, none⟩) 1 1)]) (h' := [(7, .cells [.int .i64 (w64 (a - r43))] 0 3 1), (6, .cells (rowC (encI .i64) lh6_2) 0 3 1), (5, .cells (rowC (encI .i64) lh5_2) 0 3 1), (4, .cells [.int .i64 a, .int .i64 b, .int .i64 xh1_2_1] 0 24 0), (3, .cells (rowC encP []) 0 63 2), (2, .cells [.int .i64 a, .int .i64 b, .int .i64 xh1_2_1] 0 24 0), (1, .cells [.int .i64 a, .int .i64 b, .int .i64 xh1_2_1] 0 24 0), (0, .cells (rowC (encI .i64) lh0_1) 0 3 1)]) (c' := 8) (by kernel_rfl) ?_
          cases b7 : (fitsB (lh6_2.length + 1) 8 : Bool) with
          | false => cases (cF b7 h)
          | true =>
            have h := cT b7 h
            refine XR.ef E0_ok [1, 3, 5, 39] rfl (e_append (encI_ok .i64) (bytes := 8) (e := 3) (x := (src 41 (.tmp 29))) (y := (src 41 (.tmp 38))) (b := 6) (len := lh6_2.length) (cap := lh6_2.length) (xs := lh6_2) (m := 0) (ys := [w64 (a - r43)]) (d := (some (path 12 39))) (n' := (lh6_2 ++ [w64 (a - r43)]).length) (h' := [(8, .cells (rowC (encI .i64) (lh6_2 ++ [w64 (a - r43)])) 0 3 1), (7, .cells [.int .i64 (w64 (a - r43))] 0 3 1), (5, .cells (rowC (encI .i64) lh5_2) 0 3 1), (4, .cells [.int .i64 a, .int .i64 b, .int .i64 xh1_2_1] 0 24 0), (3, .cells (rowC encP []) 0 63 2), (2, .cells [.int .i64 a, .int .i64 b, .int .i64 xh1_2_1] 0 24 0), (1, .cells [.int .i64 a, .int .i64 b, .int .i64 xh1_2_1] 0 24 0), (0, .cells (rowC (encI .i64) lh0_1) 0 3 1)]) (by kernel_rfl) (by kernel_rfl) (by kernel_rfl) (by kernel_rfl) rfl (by simp) (by simp) b7 (by simp) (by kernel_rfl)) (σ' := [(1, .pointer (some ⟨4, 0, none⟩)), (3, .slice (some ⟨5, 0, none⟩) lh5_2.length lh5_2.length), (5, .int .i64 x5_2), (39, .slice (some ⟨8, 0, none⟩) ((lh6_2 ++ [w64 (a - r43)]).length) ((lh6_2 ++ [w64 (a - r43)]).length))]) (by kernel_rfl) ?_
            refine XR.run E0_ok 1 1 [1, 3, 4, 5] rfl (σ' := [(1, .pointer (some ⟨4, 0, none⟩)), (3, .slice (some ⟨5, 0, none⟩) lh5_2.length lh5_2.length), (4, .slice (some ⟨8, 0, none⟩) ((lh6_2 ++ [w64 (a - r43)]).length) ((lh6_2 ++ [w64 (a - r43)]).length)), (5, .int .i64 x5_2)]) (h' := [(8, .cells (rowC (encI .i64) (lh6_2 ++ [w64 (a - r43)])) 0 3 1), (7, .cells [.int .i64 (w64 (a - r43))] 0 3 1), (5, .cells (rowC (encI .i64) lh5_2) 0 3 1), (4, .cells [.int .i64 a, .int .i64 b, .int .i64 xh1_2_1] 0 24 0), (3, .cells (rowC encP []) 0 63 2), (2, .cells [.int .i64 a, .int .i64 b, .int .i64 xh1_2_1] 0 24 0), (1, .cells [.int .i64 a, .int .i64 b, .int .i64 xh1_2_1] 0 24 0), (0, .cells (rowC (encI .i64) lh0_1) 0 3 1)]) (c' := 9) (by kernel_rfl) ?_
            refine XR.done (by kernel_rfl) ?_
            show XQ _ _ _ _ _ _ _ _
            refine XQ.region (by kernel_rfl) ?_
            refine XR.run E0_ok 1 3 [1, 3, 4, 5] rfl (σ' := [(1, .pointer (some ⟨4, 0, none⟩)), (3, .slice (some ⟨5, 0, none⟩) lh5_2.length lh5_2.length), (4, .slice (some ⟨8, 0, none⟩) ((lh6_2 ++ [w64 (a - r43)]).length) ((lh6_2 ++ [w64 (a - r43)]).length)), (5, .int .i64 (w64 (x5_2 + 1)))]) (h' := [(8, .cells (rowC (encI .i64) (lh6_2 ++ [w64 (a - r43)])) 0 3 1), (7, .cells [.int .i64 (w64 (a - r43))] 0 3 1), (5, .cells (rowC (encI .i64) lh5_2) 0 3 1), (4, .cells [.int .i64 a, .int .i64 b, .int .i64 xh1_2_1] 0 24 0), (3, .cells (rowC encP []) 0 63 2), (2, .cells [.int .i64 a, .int .i64 b, .int .i64 xh1_2_1] 0 24 0), (1, .cells [.int .i64 a, .int .i64 b, .int .i64 xh1_2_1] 0 24 0), (0, .cells (rowC (encI .i64) lh0_1) 0 3 1)]) (c' := 9) (by kernel_rfl) ?_
            refine XR.done (by kernel_rfl) ?_
            show XL _ _ _ _ _ _ _ _ _
            refine XL.ren (σ' := [(1, .pointer (some ⟨4, 0, none⟩)), (3, .slice (some ⟨5, 0, none⟩) lh5_2.length lh5_2.length), (4, .slice (some ⟨6, 0, none⟩) ((lh6_2 ++ [w64 (a - r43)]).length) ((lh6_2 ++ [w64 (a - r43)]).length)), (5, .int .i64 (w64 (x5_2 + 1)))]) (h' := [(6, .cells (rowC (encI .i64) (lh6_2 ++ [w64 (a - r43)])) 0 3 1), (5, .cells (rowC (encI .i64) lh5_2) 0 3 1), (4, .cells [.int .i64 a, .int .i64 b, .int .i64 xh1_2_1] 0 24 0), (3, .cells (rowC encP []) 0 63 2), (2, .cells [.int .i64 a, .int .i64 b, .int .i64 xh1_2_1] 0 24 0), (1, .cells [.int .i64 a, .int .i64 b, .int .i64 xh1_2_1] 0 24 0), (0, .cells (rowC (encI .i64) lh0_1) 0 3 1)]) (c' := 7) [0, 1, 2, 3, 4, 5, 8] (by decide) rfl ⟨by kernel_rfl, by kernel_rfl, by kernel_rfl, by kernel_rfl, trivial⟩ ⟨⟨_, _, rfl, rfl, .inl ⟨rfl, rowC_scal (encI_ok .i64) _⟩⟩, ⟨_, _, rfl, rfl, .inl ⟨rfl, rowC_scal (encI_ok .i64) _⟩⟩, ⟨_, _, rfl, rfl, .inr ⟨_, _, _, _, rfl, rfl⟩⟩, ⟨_, _, rfl, rfl, .inl ⟨rfl, rowC_scal encP_ok _⟩⟩, ⟨_, _, rfl, rfl, .inr ⟨_, _, _, _, rfl, rfl⟩⟩, ⟨_, _, rfl, rfl, .inr ⟨_, _, _, _, rfl, rfl⟩⟩, ⟨_, _, rfl, rfl, .inl ⟨rfl, rowC_scal (encI_ok .i64) _⟩⟩, trivial⟩ rfl ?_
            refine XL.conv (f38_2_ok m fuel a b lh0_1 xh1_2_1 (w64 (x5_2 + 1)) lh5_2 (lh6_2 ++ [w64 (a - r43)]) o h Q hQ) (by first | rfl | simp)
    | false =>
      have h := cF b1 h
      refine XQ.cond (s := (.tmp 12)) (b := false) (by kernel_rfl) (by kernel_rfl) (fun q => by cases q) (fun _ => ?_)
      refine XQ.ren (σ' := [(4, .slice (some ⟨4, 0, none⟩) lh6_2.length lh6_2.length)]) (h' := [(4, .cells (rowC (encI .i64) lh6_2) 0 3 1), (3, .cells (rowC encP []) 0 63 2), (2, .cells [.int .i64 a, .int .i64 b, .int .i64 xh1_2_1] 0 24 0), (1, .cells [.int .i64 a, .int .i64 b, .int .i64 xh1_2_1] 0 24 0), (0, .cells (rowC (encI .i64) lh0_1) 0 3 1)]) (c' := 5) [0, 1, 2, 3, 6] (by decide) rfl ⟨by kernel_rfl, trivial⟩ ⟨⟨_, _, rfl, rfl, .inl ⟨rfl, rowC_scal (encI_ok .i64) _⟩⟩, ⟨_, _, rfl, rfl, .inl ⟨rfl, rowC_scal encP_ok _⟩⟩, ⟨_, _, rfl, rfl, .inr ⟨_, _, _, _, rfl, rfl⟩⟩, ⟨_, _, rfl, rfl, .inr ⟨_, _, _, _, rfl, rfl⟩⟩, ⟨_, _, rfl, rfl, .inl ⟨rfl, rowC_scal (encI_ok .i64) _⟩⟩, trivial⟩ rfl ?_
      refine XQ.exit (i := 0) (by kernel_rfl) ?_
      cases h
      exact hQ

def f38_4 (m : Nat) : Nat → Int → Int → List Int → Int → (List Int) → Int → List (Int × Int) → Int → Int → Option Int
  | 0, _, _, _, _, _, _, _, _, _ => none
  | fuel + 1, a, b, lh0_1, xh1_2_1, o2, x5_3, lh3_3, x6_4, x7_4 =>
    cond (decide (x7_4 < ((o2.length : Nat) : Int))) (
      cond (inRow x7_4 o2.length) (
        f38_4 m fuel a b lh0_1 xh1_2_1 o2 x5_3 lh3_3 (cond ((List.getD o2 (Int.toNat x7_4) 0) == x5_3) (w64 (x6_4 + 1)) x6_4) (w64 (x7_4 + 1))
      ) none
    ) (
      some (x6_4)
    )

theorem f38_4_ok (m : Nat) : ∀ (fuel : Nat) (a : Int) (b : Int) (lh0_1 : List Int) (xh1_2_1 : Int) (o2 : (List Int)) (x5_3 : Int) (lh3_3 : List (Int × Int)) (x6_4 : Int) (x7_4 : Int) (o : Int), f38_4 m fuel a b lh0_1 xh1_2_1 o2 x5_3 lh3_3 x6_4 x7_4 = some o → ∀ Q : QP, Q (.exit 2) [(1, .pointer (some ⟨2, 0, none⟩)), (3, .slice (some ⟨3, 0, none⟩) lh3_3.length lh3_3.length), (4, .slice (some ⟨4, 0, none⟩) o2.length o2.length), (5, .int .i64 x5_3), (6, .int .i64 o)] [(4, .cells (rowC (encI .i64) o2) 0 3 1), (3, .cells (rowC encP lh3_3) 0 63 2), (2, .cells [.int .i64 a, .int .i64 b, .int .i64 xh1_2_1] 0 24 0), (1, .cells [.int .i64 a, .int .i64 b, .int .i64 xh1_2_1] 0 24 0), (0, .cells (rowC (encI .i64) lh0_1) 0 3 1)] 5 → XL E0 39 2 fuel f38_L4 [(1, .pointer (some ⟨2, 0, none⟩)), (3, .slice (some ⟨3, 0, none⟩) lh3_3.length lh3_3.length), (4, .slice (some ⟨4, 0, none⟩) o2.length o2.length), (5, .int .i64 x5_3), (6, .int .i64 x6_4), (7, .int .i64 x7_4)] [(4, .cells (rowC (encI .i64) o2) 0 3 1), (3, .cells (rowC encP lh3_3) 0 63 2), (2, .cells [.int .i64 a, .int .i64 b, .int .i64 xh1_2_1] 0 24 0), (1, .cells [.int .i64 a, .int .i64 b, .int .i64 xh1_2_1] 0 24 0), (0, .cells (rowC (encI .i64) lh0_1) 0 3 1)] 5 Q
  | 0, a, b, lh0_1, xh1_2_1, o2, x5_3, lh3_3, x6_4, x7_4, o, h, Q, hQ => by cases h
  | fuel + 1, a, b, lh0_1, xh1_2_1, o2, x5_3, lh3_3, x6_4, x7_4, o, h, Q, hQ => by
    unfold f38_4 at h
    refine XL.succ E0_ok ?_
    refine XQ.seq E0_ok (by kernel_rfl) ?_
    refine XQ.seq E0_ok (by kernel_rfl) ?_
    refine XQ.region (by kernel_rfl) ?_
    refine XR.run E0_ok 1 4 [1, 3, 4, 5, 6, 7, 19] rfl (σ' := [(1, .pointer (some ⟨2, 0, none⟩)), (3, .slice (some ⟨3, 0, none⟩) lh3_3.length lh3_3.length), (4, .slice (some ⟨4, 0, none⟩) o2.length o2.length), (5, .int .i64 x5_3), (6, .int .i64 x6_4), (7, .int .i64 x7_4), (19, .bool (decide (x7_4 < ((o2.length : Nat) : Int))))]) (h' := [(4, .cells (rowC (encI .i64) o2) 0 3 1), (3, .cells (rowC encP lh3_3) 0 63 2), (2, .cells [.int .i64 a, .int .i64 b, .int .i64 xh1_2_1] 0 24 0), (1, .cells [.int .i64 a, .int .i64 b, .int .i64 xh1_2_1] 0 24 0), (0, .cells (rowC (encI .i64) lh0_1) 0 3 1)]) (c' := 5) (by kernel_rfl) ?_
    refine XR.done (by kernel_rfl) ?_
    show XQ _ _ _ _ _ _ _ _
    cases b1 : (decide (x7_4 < ((o2.length : Nat) : Int)) : Bool) with
    | true =>
      have h := cT b1 h
      refine XQ.cond (s := (.tmp 19)) (b := true) (by kernel_rfl) (by kernel_rfl) (fun _ => ?_) (fun q => by cases q)
      refine XQ.skip (by kernel_rfl) ?_
      show XQ _ _ _ _ _ _ _ _
      refine XQ.seq E0_ok (by kernel_rfl) ?_
      refine XQ.block (id := 3) (by kernel_rfl) ?_
      refine XQ.seq E0_ok (by kernel_rfl) ?_
      refine XQ.region (by kernel_rfl) ?_
      refine XR.run E0_ok 1 2 [1, 3, 4, 5, 6, 7, 22, 23] rfl (σ' := [(1, .pointer (some ⟨2, 0, none⟩)), (3, .slice (some ⟨3, 0, none⟩) lh3_3.length lh3_3.length), (4, .slice (some ⟨4, 0, none⟩) o2.length o2.length), (5, .int .i64 x5_3), (6, .int .i64 x6_4), (7, .int .i64 x7_4), (22, .slice (some ⟨4, 0, none⟩) o2.length o2.length), (23, .int .i64 x7_4)]) (h' := [(4, .cells (rowC (encI .i64) o2) 0 3 1), (3, .cells (rowC encP lh3_3) 0 63 2), (2, .cells [.int .i64 a, .int .i64 b, .int .i64 xh1_2_1] 0 24 0), (1, .cells [.int .i64 a, .int .i64 b, .int .i64 xh1_2_1] 0 24 0), (0, .cells (rowC (encI .i64) lh0_1) 0 3 1)]) (c' := 5) (by kernel_rfl) ?_
      cases b2 : (inRow x7_4 o2.length : Bool) with
      | false => cases (cF b2 h)
      | true =>
        have h := cT b2 h
        refine XR.rd E0_ok [1, 3, 4, 5, 6, 7, 24] rfl (v := .pointer (some ⟨4, (Int.toNat x7_4) * 1, none⟩)) (v_idx (s := 1) (x := (src 39 (.tmp 22))) (y := (src 39 (.tmp 23))) (b := 4) (o := 0) (len := o2.length) (cap := o2.length) (ik := .i64) (i := x7_4) (off := (Int.toNat x7_4) * 1) (d := (some (path 12 24))) (by kernel_rfl) (by kernel_rfl) (by kernel_rfl) b2 (by omega)) (σ' := [(1, .pointer (some ⟨2, 0, none⟩)), (3, .slice (some ⟨3, 0, none⟩) lh3_3.length lh3_3.length), (4, .slice (some ⟨4, 0, none⟩) o2.length o2.length), (5, .int .i64 x5_3), (6, .int .i64 x6_4), (7, .int .i64 x7_4), (24, .pointer (some ⟨4, (Int.toNat x7_4) * 1, none⟩))]) (by kernel_rfl) ?_
        refine XR.rd E0_ok [1, 3, 4, 5, 6, 7, 25] rfl (v := .int .i64 (List.getD o2 (Int.toNat x7_4) 0)) (v_load1 (encI_ok .i64) (x := (src 39 (.tmp 24))) (b := 4) (off := (Int.toNat x7_4) * 1) (xs := o2) (fz := 0) (e := 3) (es := 1) (d := (some (path 12 25))) (by kernel_rfl) (by kernel_rfl) (by kernel_rfl) (Int.toNat x7_4) 0 0 (by first | rfl | omega) (row_len (inRow_toNat b2) (by simp)) rfl rfl) (σ' := [(1, .pointer (some ⟨2, 0, none⟩)), (3, .slice (some ⟨3, 0, none⟩) lh3_3.length lh3_3.length), (4, .slice (some ⟨4, 0, none⟩) o2.length o2.length), (5, .int .i64 x5_3), (6, .int .i64 x6_4), (7, .int .i64 x7_4), (25, .int .i64 (List.getD o2 (Int.toNat x7_4) 0))]) (by kernel_rfl) ?_
        refine XR.run E0_ok 1 2 [1, 3, 4, 5, 6, 7, 27] rfl (σ' := [(1, .pointer (some ⟨2, 0, none⟩)), (3, .slice (some ⟨3, 0, none⟩) lh3_3.length lh3_3.length), (4, .slice (some ⟨4, 0, none⟩) o2.length o2.length), (5, .int .i64 x5_3), (6, .int .i64 x6_4), (7, .int .i64 x7_4), (27, .bool ((List.getD o2 (Int.toNat x7_4) 0) == x5_3))]) (h' := [(4, .cells (rowC (encI .i64) o2) 0 3 1), (3, .cells (rowC encP lh3_3) 0 63 2), (2, .cells [.int .i64 a, .int .i64 b, .int .i64 xh1_2_1] 0 24 0), (1, .cells [.int .i64 a, .int .i64 b, .int .i64 xh1_2_1] 0 24 0), (0, .cells (rowC (encI .i64) lh0_1) 0 3 1)]) (c' := 5) (by kernel_rfl) ?_
        refine XR.done (by kernel_rfl) ?_
        show XQ _ _ _ _ _ _ _ _
        refine XQ.meetC (σ' := [(1, .pointer (some ⟨2, 0, none⟩)), (3, .slice (some ⟨3, 0, none⟩) lh3_3.length lh3_3.length), (4, .slice (some ⟨4, 0, none⟩) o2.length o2.length), (5, .int .i64 x5_3), (6, .int .i64 (cond ((List.getD o2 (Int.toNat x7_4) 0) == x5_3) (w64 (x6_4 + 1)) x6_4)), (7, .int .i64 x7_4)]) (h' := [(4, .cells (rowC (encI .i64) o2) 0 3 1), (3, .cells (rowC encP lh3_3) 0 63 2), (2, .cells [.int .i64 a, .int .i64 b, .int .i64 xh1_2_1] 0 24 0), (1, .cells [.int .i64 a, .int .i64 b, .int .i64 xh1_2_1] 0 24 0), (0, .cells (rowC (encI .i64) lh0_1) 0 3 1)]) (c' := 5) ?_ ?_
        rotate_left
        · refine XQ.cond (s := (.tmp 27)) (b := (List.getD o2 (Int.toNat x7_4) 0) == x5_3) (by kernel_rfl) (by kernel_rfl) (fun b3 => ?_) (fun b3 => ?_)
          · refine XQ.region (by kernel_rfl) ?_
            refine XR.run E0_ok 1 3 [1, 3, 4, 5, 6, 7] rfl (σ' := [(1, .pointer (some ⟨2, 0, none⟩)), (3, .slice (some ⟨3, 0, none⟩) lh3_3.length lh3_3.length), (4, .slice (some ⟨4, 0, none⟩) o2.length o2.length), (5, .int .i64 x5_3), (6, .int .i64 (w64 (x6_4 + 1))), (7, .int .i64 x7_4)]) (h' := [(4, .cells (rowC (encI .i64) o2) 0 3 1), (3, .cells (rowC encP lh3_3) 0 63 2), (2, .cells [.int .i64 a, .int .i64 b, .int .i64 xh1_2_1] 0 24 0), (1, .cells [.int .i64 a, .int .i64 b, .int .i64 xh1_2_1] 0 24 0), (0, .cells (rowC (encI .i64) lh0_1) 0 3 1)]) (c' := 5) (by kernel_rfl) ?_
            refine XR.done (by kernel_rfl) ?_
            refine ⟨rfl, ?_, ?_⟩
            · try rw [b3]
              exact ⟨by kernel_rfl, by kernel_rfl, by kernel_rfl, by kernel_rfl, by kernel_rfl, by kernel_rfl, trivial⟩
            · try rw [b3]
              kernel_rfl
          · refine XQ.skip (by kernel_rfl) ?_
            refine ⟨rfl, ?_, ?_⟩
            · try rw [b3]
              exact ⟨by kernel_rfl, by kernel_rfl, by kernel_rfl, by kernel_rfl, by kernel_rfl, by kernel_rfl, trivial⟩
            · try rw [b3]
              kernel_rfl
        show XQ _ _ _ _ _ _ _ _
        refine XQ.region (by kernel_rfl) ?_
        refine XR.run E0_ok 1 3 [1, 3, 4, 5, 6, 7] rfl (σ' := [(1, .pointer (some ⟨2, 0, none⟩)), (3, .slice (some ⟨3, 0, none⟩) lh3_3.length lh3_3.length), (4, .slice (some ⟨4, 0, none⟩) o2.length o2.length), (5, .int .i64 x5_3), (6, .int .i64 (cond ((List.getD o2 (Int.toNat x7_4) 0) == x5_3) (w64 (x6_4 + 1)) x6_4)), (7, .int .i64 (w64 (x7_4 + 1)))]) (h' := [(4, .cells (rowC (encI .i64) o2) 0 3 1), (3, .cells (rowC encP lh3_3) 0 63 2), (2, .cells [.int .i64 a, .int .i64 b, .int .i64 xh1_2_1] 0 24 0), (1, .cells [.int .i64 a, .int .i64 b, .int .i64 xh1_2_1] 0 24 0), (0, .cells (rowC (encI .i64) lh0_1) 0 3 1)]) (c' := 5) (by kernel_rfl) ?_
        refine XR.done (by kernel_rfl) ?_
        show XL _ _ _ _ _ _ _ _ _
        refine XL.ren (σ' := [(1, .pointer (some ⟨2, 0, none⟩)), (3, .slice (some ⟨3, 0, none⟩) lh3_3.length lh3_3.length), (4, .slice (some ⟨4, 0, none⟩) o2.length o2.length), (5, .int .i64 x5_3), (6, .int .i64 (cond ((List.getD o2 (Int.toNat x7_4) 0) == x5_3) (w64 (x6_4 + 1)) x6_4)), (7, .int .i64 (w64 (x7_4 + 1)))]) (h' := [(4, .cells (rowC (encI .i64) o2) 0 3 1), (3, .cells (rowC encP lh3_3) 0 63 2), (2, .cells [.int .i64 a, .int .i64 b, .int .i64 xh1_2_1] 0 24 0), (1, .cells [.int .i64 a, .int .i64 b, .int .i64 xh1_2_1] 0 24 0), (0, .cells (rowC (encI .i64) lh0_1) 0 3 1)]) (c' := 5) [0, 1, 2, 3, 4] (by decide) rfl ⟨by kernel_rfl, by kernel_rfl, by kernel_rfl, by kernel_rfl, by kernel_rfl, by kernel_rfl, trivial⟩ ⟨⟨_, _, rfl, rfl, .inl ⟨rfl, rowC_scal (encI_ok .i64) _⟩⟩, ⟨_, _, rfl, rfl, .inl ⟨rfl, rowC_scal encP_ok _⟩⟩, ⟨_, _, rfl, rfl, .inr ⟨_, _, _, _, rfl, rfl⟩⟩, ⟨_, _, rfl, rfl, .inr ⟨_, _, _, _, rfl, rfl⟩⟩, ⟨_, _, rfl, rfl, .inl ⟨rfl, rowC_scal (encI_ok .i64) _⟩⟩, trivial⟩ rfl ?_
        refine XL.conv (f38_4_ok m fuel a b lh0_1 xh1_2_1 o2 x5_3 lh3_3 (cond ((List.getD o2 (Int.toNat x7_4) 0) == x5_3) (w64 (x6_4 + 1)) x6_4) (w64 (x7_4 + 1)) o h Q hQ) (by first | rfl | simp)
    | false =>
      have h := cF b1 h
      refine XQ.cond (s := (.tmp 19)) (b := false) (by kernel_rfl) (by kernel_rfl) (fun q => by cases q) (fun _ => ?_)
      refine XQ.ren (σ' := [(1, .pointer (some ⟨2, 0, none⟩)), (3, .slice (some ⟨3, 0, none⟩) lh3_3.length lh3_3.length), (4, .slice (some ⟨4, 0, none⟩) o2.length o2.length), (5, .int .i64 x5_3), (6, .int .i64 x6_4)]) (h' := [(4, .cells (rowC (encI .i64) o2) 0 3 1), (3, .cells (rowC encP lh3_3) 0 63 2), (2, .cells [.int .i64 a, .int .i64 b, .int .i64 xh1_2_1] 0 24 0), (1, .cells [.int .i64 a, .int .i64 b, .int .i64 xh1_2_1] 0 24 0), (0, .cells (rowC (encI .i64) lh0_1) 0 3 1)]) (c' := 5) [0, 1, 2, 3, 4] (by decide) rfl ⟨by kernel_rfl, by kernel_rfl, by kernel_rfl, by kernel_rfl, by kernel_rfl, trivial⟩ ⟨⟨_, _, rfl, rfl, .inl ⟨rfl, rowC_scal (encI_ok .i64) _⟩⟩, ⟨_, _, rfl, rfl, .inl ⟨rfl, rowC_scal encP_ok _⟩⟩, ⟨_, _, rfl, rfl, .inr ⟨_, _, _, _, rfl, rfl⟩⟩, ⟨_, _, rfl, rfl, .inr ⟨_, _, _, _, rfl, rfl⟩⟩, ⟨_, _, rfl, rfl, .inl ⟨rfl, rowC_scal (encI_ok .i64) _⟩⟩, trivial⟩ rfl ?_
      refine XQ.exit (i := 2) (by kernel_rfl) ?_
      cases h
      exact hQ

def f38_3 (m : Nat) : Nat → Int → Int → List Int → Int → (List Int) → Int → List (Int × Int) → Option (List (Int × Int))
  | 0, _, _, _, _, _, _, _ => none
  | fuel + 1, a, b, lh0_1, xh1_2_1, o2, x5_3, lh3_3 =>
    cond (decide (x5_3 ≤ a)) (
      (f38_4 m m a b lh0_1 xh1_2_1 o2 x5_3 lh3_3 0 0).bind fun o4 =>
        cond (decide (o4 > 0)) (
          cond (fitsB (lh3_3.length + 1) 16) (
            f38_3 m fuel a b lh0_1 xh1_2_1 o2 (w64 (x5_3 + 1)) (lh3_3 ++ [(x5_3, o4)])
          ) none
        ) (
          f38_3 m fuel a b lh0_1 xh1_2_1 o2 (w64 (x5_3 + 1)) lh3_3
        )
    ) (
      some (lh3_3)
    )

theorem f38_3_ok (m : Nat) : ∀ (fuel : Nat) (a : Int) (b : Int) (lh0_1 : List Int) (xh1_2_1 : Int) (o2 : (List Int)) (x5_3 : Int) (lh3_3 : List (Int × Int)) (o : (List (Int × Int))), f38_3 m fuel a b lh0_1 xh1_2_1 o2 x5_3 lh3_3 = some o → ∀ Q : QP, Q (.exit 0) [(3, .slice (some ⟨2, 0, none⟩) o.length o.length)] [(2, .cells (rowC encP o) 0 63 2), (1, .cells [.int .i64 a, .int .i64 b, .int .i64 xh1_2_1] 0 24 0), (0, .cells (rowC (encI .i64) lh0_1) 0 3 1)] 3 → XL E0 39 2 fuel f38_L3 [(1, .pointer (some ⟨2, 0, none⟩)), (3, .slice (some ⟨3, 0, none⟩) lh3_3.length lh3_3.length), (4, .slice (some ⟨4, 0, none⟩) o2.length o2.length), (5, .int .i64 x5_3)] [(4, .cells (rowC (encI .i64) o2) 0 3 1), (3, .cells (rowC encP lh3_3) 0 63 2), (2, .cells [.int .i64 a, .int .i64 b, .int .i64 xh1_2_1] 0 24 0), (1, .cells [.int .i64 a, .int .i64 b, .int .i64 xh1_2_1] 0 24 0), (0, .cells (rowC (encI .i64) lh0_1) 0 3 1)] 5 Q
  | 0, a, b, lh0_1, xh1_2_1, o2, x5_3, lh3_3, o, h, Q, hQ => by cases h
  | fuel + 1, a, b, lh0_1, xh1_2_1, o2, x5_3, lh3_3, o, h, Q, hQ => by
    unfold f38_3 at h
    refine XL.succ E0_ok ?_
    refine XQ.seq E0_ok (by kernel_rfl) ?_
    refine XQ.seq E0_ok (by kernel_rfl) ?_
    refine XQ.region (by kernel_rfl) ?_
    refine XR.run E0_ok 1 4 [1, 3, 4, 5, 13] rfl (σ' := [(1, .pointer (some ⟨2, 0, none⟩)), (3, .slice (some ⟨3, 0, none⟩) lh3_3.length lh3_3.length), (4, .slice (some ⟨4, 0, none⟩) o2.length o2.length), (5, .int .i64 x5_3), (13, .bool (decide (x5_3 ≤ a)))]) (h' := [(4, .cells (rowC (encI .i64) o2) 0 3 1), (3, .cells (rowC encP lh3_3) 0 63 2), (2, .cells [.int .i64 a, .int .i64 b, .int .i64 xh1_2_1] 0 24 0), (1, .cells [.int .i64 a, .int .i64 b, .int .i64 xh1_2_1] 0 24 0), (0, .cells (rowC (encI .i64) lh0_1) 0 3 1)]) (c' := 5) (by kernel_rfl) ?_
    refine XR.done (by kernel_rfl) ?_
    show XQ _ _ _ _ _ _ _ _
    cases b1 : (decide (x5_3 ≤ a) : Bool) with
    | true =>
      have h := cT b1 h
      refine XQ.cond (s := (.tmp 13)) (b := true) (by kernel_rfl) (by kernel_rfl) (fun _ => ?_) (fun q => by cases q)
      refine XQ.skip (by kernel_rfl) ?_
      show XQ _ _ _ _ _ _ _ _
      refine XQ.seq E0_ok (by kernel_rfl) ?_
      refine XQ.block (id := 1) (by kernel_rfl) ?_
      refine XQ.seq E0_ok (by kernel_rfl) ?_
      refine XQ.region (by kernel_rfl) ?_
      refine XR.run E0_ok 1 1 [1, 3, 4, 5, 6] rfl (σ' := [(1, .pointer (some ⟨2, 0, none⟩)), (3, .slice (some ⟨3, 0, none⟩) lh3_3.length lh3_3.length), (4, .slice (some ⟨4, 0, none⟩) o2.length o2.length), (5, .int .i64 x5_3), (6, .int .i64 0)]) (h' := [(4, .cells (rowC (encI .i64) o2) 0 3 1), (3, .cells (rowC encP lh3_3) 0 63 2), (2, .cells [.int .i64 a, .int .i64 b, .int .i64 xh1_2_1] 0 24 0), (1, .cells [.int .i64 a, .int .i64 b, .int .i64 xh1_2_1] 0 24 0), (0, .cells (rowC (encI .i64) lh0_1) 0 3 1)]) (c' := 5) (by kernel_rfl) ?_
      refine XR.done (by kernel_rfl) ?_
      show XQ _ _ _ _ _ _ _ _
      refine XQ.seq E0_ok (by kernel_rfl) ?_
      refine XQ.seq E0_ok (by kernel_rfl) ?_
      refine XQ.region (by kernel_rfl) ?_
      refine XR.run E0_ok 1 1 [1, 3, 4, 5, 6, 7] rfl (σ' := [(1, .pointer (some ⟨2, 0, none⟩)), (3, .slice (some ⟨3, 0, none⟩) lh3_3.length lh3_3.length), (4, .slice (some ⟨4, 0, none⟩) o2.length o2.length), (5, .int .i64 x5_3), (6, .int .i64 0), (7, .int .i64 0)]) (h' := [(4, .cells (rowC (encI .i64) o2) 0 3 1), (3, .cells (rowC encP lh3_3) 0 63 2), (2, .cells [.int .i64 a, .int .i64 b, .int .i64 xh1_2_1] 0 24 0), (1, .cells [.int .i64 a, .int .i64 b, .int .i64 xh1_2_1] 0 24 0), (0, .cells (rowC (encI .i64) lh0_1) 0 3 1)]) (c' := 5) (by kernel_rfl) ?_
      refine XR.done (by kernel_rfl) ?_
      show XQ _ _ _ _ _ _ _ _
      refine XQ.block (id := 2) (by kernel_rfl) ?_
      refine XQ.loop m (by kernel_rfl) ?_
      obtain ⟨o4, o4_h, h⟩ := bS h
      refine XL.ren (σ' := [(1, .pointer (some ⟨2, 0, none⟩)), (3, .slice (some ⟨3, 0, none⟩) lh3_3.length lh3_3.length), (4, .slice (some ⟨4, 0, none⟩) o2.length o2.length), (5, .int .i64 x5_3), (6, .int .i64 0), (7, .int .i64 0)]) (h' := [(4, .cells (rowC (encI .i64) o2) 0 3 1), (3, .cells (rowC encP lh3_3) 0 63 2), (2, .cells [.int .i64 a, .int .i64 b, .int .i64 xh1_2_1] 0 24 0), (1, .cells [.int .i64 a, .int .i64 b, .int .i64 xh1_2_1] 0 24 0), (0, .cells (rowC (encI .i64) lh0_1) 0 3 1)]) (c' := 5) [0, 1, 2, 3, 4] (by decide) rfl ⟨by kernel_rfl, by kernel_rfl, by kernel_rfl, by kernel_rfl, by kernel_rfl, by kernel_rfl, trivial⟩ ⟨⟨_, _, rfl, rfl, .inl ⟨rfl, rowC_scal (encI_ok .i64) _⟩⟩, ⟨_, _, rfl, rfl, .inl ⟨rfl, rowC_scal encP_ok _⟩⟩, ⟨_, _, rfl, rfl, .inr ⟨_, _, _, _, rfl, rfl⟩⟩, ⟨_, _, rfl, rfl, .inr ⟨_, _, _, _, rfl, rfl⟩⟩, ⟨_, _, rfl, rfl, .inl ⟨rfl, rowC_scal (encI_ok .i64) _⟩⟩, trivial⟩ rfl ?_
      refine XL.conv (f38_4_ok m m a b lh0_1 xh1_2_1 o2 x5_3 lh3_3 0 0 o4 o4_h _ ?_) (by first | rfl | simp)
      show XQ _ _ _ _ _ _ _ _
      refine XQ.seq E0_ok (by kernel_rfl) ?_
      refine XQ.region (by kernel_rfl) ?_
      refine XR.run E0_ok 1 2 [1, 3, 4, 5, 6, 31] rfl (σ' := [(1, .pointer (some ⟨2, 0, none⟩)), (3, .slice (some ⟨3, 0, none⟩) lh3_3.length lh3_3.length), (4, .slice (some ⟨4, 0, none⟩) o2.length o2.length), (5, .int .i64 x5_3), (6, .int .i64 o4), (31, .bool (decide (o4 > 0)))]) (h' := [(4, .cells (rowC (encI .i64) o2) 0 3 1), (3, .cells (rowC encP lh3_3) 0 63 2), (2, .cells [.int .i64 a, .int .i64 b, .int .i64 xh1_2_1] 0 24 0), (1, .cells [.int .i64 a, .int .i64 b, .int .i64 xh1_2_1] 0 24 0), (0, .cells (rowC (encI .i64) lh0_1) 0 3 1)]) (c' := 5) (by kernel_rfl) ?_
      refine XR.done (by kernel_rfl) ?_
      show XQ _ _ _ _ _ _ _ _
      cases b3 : (decide (o4 > 0) : Bool) with
      | true =>
        have h := cT b3 h
        refine XQ.cond (s := (.tmp 31)) (b := true) (by kernel_rfl) (by kernel_rfl) (fun _ => ?_) (fun q => by cases q)
        refine XQ.region (by kernel_rfl) ?_
        refine XR.run E0_ok 1 5 [1, 4, 5, 32, 36] rfl (σ' := [(1, .pointer (some ⟨2, 0, none⟩)), (4, .slice (some ⟨4, 0, none⟩) o2.length o2.length), (5, .int .i64 x5_3), (32, .slice (some ⟨3, 0, none⟩) lh3_3.length lh3_3.length), (36, .slice (some ⟨5, 0, none⟩) 1 1)]) (h' := [(5, .cells [.int .i64 x5_3, .int .i64 o4] 0 63 2), (4, .cells (rowC (encI .i64) o2) 0 3 1), (3, .cells (rowC encP lh3_3) 0 63 2), (2, .cells [.int .i64 a, .int .i64 b, .int .i64 xh1_2_1] 0 24 0), (1, .cells [.int .i64 a, .int .i64 b, .int .i64 xh1_2_1] 0 24 0), (0, .cells (rowC (encI .i64) lh0_1) 0 3 1)]) (c' := 6) (by kernel_rfl) ?_
        cases b4 : (fitsB (lh3_3.length + 1) 16 : Bool) with
        | false => cases (cF b4 h)
        | true =>
          have h := cT b4 h
          refine XR.ef E0_ok [1, 4, 5, 37] rfl (e_append encP_ok (bytes := 16) (e := 63) (x := (src 39 (.tmp 32))) (y := (src 39 (.tmp 36))) (b := 3) (len := lh3_3.length) (cap := lh3_3.length) (xs := lh3_3) (m := 0) (ys := [(x5_3, o4)]) (d := (some (path 12 37))) (n' := (lh3_3 ++ [(x5_3, o4)]).length) (h' := [(6, .cells (rowC encP (lh3_3 ++ [(x5_3, o4)])) 0 63 2), (5, .cells [.int .i64 x5_3, .int .i64 o4] 0 63 2), (4, .cells (rowC (encI .i64) o2) 0 3 1), (2, .cells [.int .i64 a, .int .i64 b, .int .i64 xh1_2_1] 0 24 0), (1, .cells [.int .i64 a, .int .i64 b, .int .i64 xh1_2_1] 0 24 0), (0, .cells (rowC (encI .i64) lh0_1) 0 3 1)]) (by kernel_rfl) (by kernel_rfl) (by kernel_rfl) (by kernel_rfl) rfl (by simp) (by simp) b4 (by simp) (by kernel_rfl)) (σ' := [(1, .pointer (some ⟨2, 0, none⟩)), (4, .slice (some ⟨4, 0, none⟩) o2.length o2.length), (5, .int .i64 x5_3), (37, .slice (some ⟨6, 0, none⟩) ((lh3_3 ++ [(x5_3, o4)]).length) ((lh3_3 ++ [(x5_3, o4)]).length))]) (by kernel_rfl) ?_
          refine XR.run E0_ok 1 1 [1, 3, 4, 5] rfl (σ' := [(1, .pointer (some ⟨2, 0, none⟩)), (3, .slice (some ⟨6, 0, none⟩) ((lh3_3 ++ [(x5_3, o4)]).length) ((lh3_3 ++ [(x5_3, o4)]).length)), (4, .slice (some ⟨4, 0, none⟩) o2.length o2.length), (5, .int .i64 x5_3)]) (h' := [(6, .cells (rowC encP (lh3_3 ++ [(x5_3, o4)])) 0 63 2), (5, .cells [.int .i64 x5_3, .int .i64 o4] 0 63 2), (4, .cells (rowC (encI .i64) o2) 0 3 1), (2, .cells [.int .i64 a, .int .i64 b, .int .i64 xh1_2_1] 0 24 0), (1, .cells [.int .i64 a, .int .i64 b, .int .i64 xh1_2_1] 0 24 0), (0, .cells (rowC (encI .i64) lh0_1) 0 3 1)]) (c' := 7) (by kernel_rfl) ?_
          refine XR.done (by kernel_rfl) ?_
          show XQ _ _ _ _ _ _ _ _
          refine XQ.region (by kernel_rfl) ?_
          refine XR.run E0_ok 1 3 [1, 3, 4, 5] rfl (σ' := [(1, .pointer (some ⟨2, 0, none⟩)), (3, .slice (some ⟨6, 0, none⟩) ((lh3_3 ++ [(x5_3, o4)]).length) ((lh3_3 ++ [(x5_3, o4)]).length)), (4, .slice (some ⟨4, 0, none⟩) o2.length o2.length), (5, .int .i64 (w64 (x5_3 + 1)))]) (h' := [(6, .cells (rowC encP (lh3_3 ++ [(x5_3, o4)])) 0 63 2), (5, .cells [.int .i64 x5_3, .int .i64 o4] 0 63 2), (4, .cells (rowC (encI .i64) o2) 0 3 1), (2, .cells [.int .i64 a, .int .i64 b, .int .i64 xh1_2_1] 0 24 0), (1, .cells [.int .i64 a, .int .i64 b, .int .i64 xh1_2_1] 0 24 0), (0, .cells (rowC (encI .i64) lh0_1) 0 3 1)]) (c' := 7) (by kernel_rfl) ?_
          refine XR.done (by kernel_rfl) ?_
          show XL _ _ _ _ _ _ _ _ _
          refine XL.ren (σ' := [(1, .pointer (some ⟨2, 0, none⟩)), (3, .slice (some ⟨3, 0, none⟩) ((lh3_3 ++ [(x5_3, o4)]).length) ((lh3_3 ++ [(x5_3, o4)]).length)), (4, .slice (some ⟨4, 0, none⟩) o2.length o2.length), (5, .int .i64 (w64 (x5_3 + 1)))]) (h' := [(4, .cells (rowC (encI .i64) o2) 0 3 1), (3, .cells (rowC encP (lh3_3 ++ [(x5_3, o4)])) 0 63 2), (2, .cells [.int .i64 a, .int .i64 b, .int .i64 xh1_2_1] 0 24 0), (1, .cells [.int .i64 a, .int .i64 b, .int .i64 xh1_2_1] 0 24 0), (0, .cells (rowC (encI .i64) lh0_1) 0 3 1)]) (c' := 5) [0, 1, 2, 6, 4] (by decide) rfl ⟨by kernel_rfl, by kernel_rfl, by kernel_rfl, by kernel_rfl, trivial⟩ ⟨⟨_, _, rfl, rfl, .inl ⟨rfl, rowC_scal (encI_ok .i64) _⟩⟩, ⟨_, _, rfl, rfl, .inl ⟨rfl, rowC_scal encP_ok _⟩⟩, ⟨_, _, rfl, rfl, .inr ⟨_, _, _, _, rfl, rfl⟩⟩, ⟨_, _, rfl, rfl, .inr ⟨_, _, _, _, rfl, rfl⟩⟩, ⟨_, _, rfl, rfl, .inl ⟨rfl, rowC_scal (encI_ok .i64) _⟩⟩, trivial⟩ rfl ?_
          refine XL.conv (f38_3_ok m fuel a b lh0_1 xh1_2_1 o2 (w64 (x5_3 + 1)) (lh3_3 ++ [(x5_3, o4)]) o h Q hQ) (by first | rfl | simp)
      | false =>
        have h := cF b3 h
        refine XQ.cond (s := (.tmp 31)) (b := false) (by kernel_rfl) (by kernel_rfl) (fun q => by cases q) (fun _ => ?_)
        refine XQ.skip (by kernel_rfl) ?_
        show XQ _ _ _ _ _ _ _ _
        refine XQ.region (by kernel_rfl) ?_
        refine XR.run E0_ok 1 3 [1, 3, 4, 5] rfl (σ' := [(1, .pointer (some ⟨2, 0, none⟩)), (3, .slice (some ⟨3, 0, none⟩) lh3_3.length lh3_3.length), (4, .slice (some ⟨4, 0, none⟩) o2.length o2.length), (5, .int .i64 (w64 (x5_3 + 1)))]) (h' := [(4, .cells (rowC (encI .i64) o2) 0 3 1), (3, .cells (rowC encP lh3_3) 0 63 2), (2, .cells [.int .i64 a, .int .i64 b, .int .i64 xh1_2_1] 0 24 0), (1, .cells [.int .i64 a, .int .i64 b, .int .i64 xh1_2_1] 0 24 0), (0, .cells (rowC (encI .i64) lh0_1) 0 3 1)]) (c' := 5) (by kernel_rfl) ?_
        refine XR.done (by kernel_rfl) ?_
        show XL _ _ _ _ _ _ _ _ _
        refine XL.ren (σ' := [(1, .pointer (some ⟨2, 0, none⟩)), (3, .slice (some ⟨3, 0, none⟩) lh3_3.length lh3_3.length), (4, .slice (some ⟨4, 0, none⟩) o2.length o2.length), (5, .int .i64 (w64 (x5_3 + 1)))]) (h' := [(4, .cells (rowC (encI .i64) o2) 0 3 1), (3, .cells (rowC encP lh3_3) 0 63 2), (2, .cells [.int .i64 a, .int .i64 b, .int .i64 xh1_2_1] 0 24 0), (1, .cells [.int .i64 a, .int .i64 b, .int .i64 xh1_2_1] 0 24 0), (0, .cells (rowC (encI .i64) lh0_1) 0 3 1)]) (c' := 5) [0, 1, 2, 3, 4] (by decide) rfl ⟨by kernel_rfl, by kernel_rfl, by kernel_rfl, by kernel_rfl, trivial⟩ ⟨⟨_, _, rfl, rfl, .inl ⟨rfl, rowC_scal (encI_ok .i64) _⟩⟩, ⟨_, _, rfl, rfl, .inl ⟨rfl, rowC_scal encP_ok _⟩⟩, ⟨_, _, rfl, rfl, .inr ⟨_, _, _, _, rfl, rfl⟩⟩, ⟨_, _, rfl, rfl, .inr ⟨_, _, _, _, rfl, rfl⟩⟩, ⟨_, _, rfl, rfl, .inl ⟨rfl, rowC_scal (encI_ok .i64) _⟩⟩, trivial⟩ rfl ?_
        refine XL.conv (f38_3_ok m fuel a b lh0_1 xh1_2_1 o2 (w64 (x5_3 + 1)) lh3_3 o h Q hQ) (by first | rfl | simp)
    | false =>
      have h := cF b1 h
      refine XQ.cond (s := (.tmp 13)) (b := false) (by kernel_rfl) (by kernel_rfl) (fun q => by cases q) (fun _ => ?_)
      refine XQ.ren (σ' := [(3, .slice (some ⟨2, 0, none⟩) lh3_3.length lh3_3.length)]) (h' := [(2, .cells (rowC encP lh3_3) 0 63 2), (1, .cells [.int .i64 a, .int .i64 b, .int .i64 xh1_2_1] 0 24 0), (0, .cells (rowC (encI .i64) lh0_1) 0 3 1)]) (c' := 3) [0, 1, 3] (by decide) rfl ⟨by kernel_rfl, trivial⟩ ⟨⟨_, _, rfl, rfl, .inl ⟨rfl, rowC_scal encP_ok _⟩⟩, ⟨_, _, rfl, rfl, .inr ⟨_, _, _, _, rfl, rfl⟩⟩, ⟨_, _, rfl, rfl, .inl ⟨rfl, rowC_scal (encI_ok .i64) _⟩⟩, trivial⟩ rfl ?_
      refine XQ.exit (i := 0) (by kernel_rfl) ?_
      cases h
      exact hQ

def f38_1 (m : Nat) : Nat → Int → Int → List Int → Int → Option (List Int)
  | 0, _, _, _, _ => none
  | fuel + 1, a, b, lh0_1, xh1_2_1 =>
    (f67 m a b xh1_2_1).bind fun r30 =>
      cond (decide (xh1_2_1 ≤ r30)) (
        (f76 m a b xh1_2_1).bind fun r31 =>
          (f38_2 m m a b lh0_1 xh1_2_1 0 r31 []).bind fun o2 =>
            (f38_3 m m a b lh0_1 xh1_2_1 o2 1 []).bind fun o3 =>
              cond (decide (((o3.length : Nat) : Int) ≤ 2)) (
                cond (fitsB (lh0_1.length + 1) 8) (
                  f38_1 m fuel a b (lh0_1 ++ [xh1_2_1]) (w64 (xh1_2_1 + 1))
                ) none
              ) (
                f38_1 m fuel a b lh0_1 (w64 (xh1_2_1 + 1))
              )
      ) (
        some (lh0_1)
      )

theorem f38_1_ok (m : Nat) : ∀ (fuel : Nat) (a : Int) (b : Int) (lh0_1 : List Int) (xh1_2_1 : Int) (o : (List Int)), f38_1 m fuel a b lh0_1 xh1_2_1 = some o → ∀ Q : QP, Q (.exit 0) [(7, .slice (some ⟨0, 0, none⟩) o.length o.length)] [(0, .cells (rowC (encI .i64) o) 0 3 1)] 1 → XL E0 38 0 fuel f38_L1 [(7, .slice (some ⟨0, 0, none⟩) lh0_1.length lh0_1.length), (8, .pointer (some ⟨1, 0, none⟩))] [(1, .cells [.int .i64 a, .int .i64 b, .int .i64 xh1_2_1] 0 24 0), (0, .cells (rowC (encI .i64) lh0_1) 0 3 1)] 2 Q
  | 0, a, b, lh0_1, xh1_2_1, o, h, Q, hQ => by cases h
  | fuel + 1, a, b, lh0_1, xh1_2_1, o, h, Q, hQ => by
    unfold f38_1 at h
    refine XL.succ E0_ok ?_
    refine XQ.seq E0_ok (by kernel_rfl) ?_
    refine XQ.seq E0_ok (by kernel_rfl) ?_
    refine XQ.quiet E0_ok (by kernel_rfl) (by kernel_rfl) ?_
    refine XU.run E0_ok 1 3 [7, 8, 20, 21] rfl (σ' := [(7, .slice (some ⟨0, 0, none⟩) lh0_1.length lh0_1.length), (8, .pointer (some ⟨1, 0, none⟩)), (20, .int .i64 xh1_2_1), (21, .agg #[.int .i64 a, .int .i64 b, .int .i64 xh1_2_1])]) (by kernel_rfl) ?_
    obtain ⟨r30, r30_h, h⟩ := bS h
    refine XU.call E0_ok [7, 8, 20, 22] rfl (K := 67) (F := Proofs.Try.f67) (args := [.agg #[.int .i64 a, .int .i64 b, .int .i64 xh1_2_1]]) (d := (some (path 12 22))) (v := .int .i64 r30) (by kernel_rfl) (by kernel_rfl) rfl rfl (fun w hI => f67_ok m a b xh1_2_1 r30 r30_h w hI) (σ' := [(7, .slice (some ⟨0, 0, none⟩) lh0_1.length lh0_1.length), (8, .pointer (some ⟨1, 0, none⟩)), (20, .int .i64 xh1_2_1), (22, .int .i64 r30)]) (by kernel_rfl) ?_
    refine XU.run E0_ok 1 1 [7, 8, 23] rfl (σ' := [(7, .slice (some ⟨0, 0, none⟩) lh0_1.length lh0_1.length), (8, .pointer (some ⟨1, 0, none⟩)), (23, .bool (decide (xh1_2_1 ≤ r30)))]) (by kernel_rfl) ?_
    refine XU.done (by kernel_rfl) ?_
    show XQ _ _ _ _ _ _ _ _
    cases b1 : (decide (xh1_2_1 ≤ r30) : Bool) with
    | true =>
      have h := cT b1 h
      refine XQ.cond (s := (.tmp 23)) (b := true) (by kernel_rfl) (by kernel_rfl) (fun _ => ?_) (fun q => by cases q)
      refine XQ.skip (by kernel_rfl) ?_
      show XQ _ _ _ _ _ _ _ _
      refine XQ.seq E0_ok (by kernel_rfl) ?_
      refine XQ.block (id := 1) (by kernel_rfl) ?_
      refine XQ.seq E0_ok (by kernel_rfl) ?_
      refine XQ.region (by kernel_rfl) ?_
      refine XR.run E0_ok 1 1 [7, 8, 28] rfl (σ' := [(7, .slice (some ⟨0, 0, none⟩) lh0_1.length lh0_1.length), (8, .pointer (some ⟨1, 0, none⟩)), (28, .agg #[.int .i64 a, .int .i64 b, .int .i64 xh1_2_1])]) (h' := [(1, .cells [.int .i64 a, .int .i64 b, .int .i64 xh1_2_1] 0 24 0), (0, .cells (rowC (encI .i64) lh0_1) 0 3 1)]) (c' := 2) (by kernel_rfl) ?_
      refine XR.callK E0_ok [7, 8, 29] rfl (K := 80) (args := [.agg #[.int .i64 a, .int .i64 b, .int .i64 xh1_2_1]]) (d := (some (path 12 29))) (by kernel_rfl) ?_
      refine KC.bodyN E0_ok (F := Proofs.Try.f80) (by kernel_rfl) (code := f38_C80) (by kernel_rfl) (nt := 39) (by kernel_rfl) (rs := [.tmp 2]) (by kernel_rfl) (by kernel_rfl) (σ := [(0, .agg #[.int .i64 a, .int .i64 b, .int .i64 xh1_2_1])]) (by kernel_rfl) ?_
      refine XQ.seq E0_ok (by kernel_rfl) ?_
      refine XQ.region (by kernel_rfl) ?_
      refine XR.run E0_ok 1 2 [1] rfl (σ' := [(1, .pointer (some ⟨2, 0, none⟩))]) (h' := [(2, .cells [.int .i64 a, .int .i64 b, .int .i64 xh1_2_1] 0 24 0), (1, .cells [.int .i64 a, .int .i64 b, .int .i64 xh1_2_1] 0 24 0), (0, .cells (rowC (encI .i64) lh0_1) 0 3 1)]) (c' := 3) (by kernel_rfl) ?_
      refine XR.done (by kernel_rfl) ?_
      show XQ _ _ _ _ _ _ _ _
      refine XQ.seq E0_ok (by kernel_rfl) ?_
      refine XQ.region (by kernel_rfl) ?_
      refine XR.run E0_ok 1 1 [1, 3] rfl (σ' := [(1, .pointer (some ⟨2, 0, none⟩)), (3, .slice none 0 0)]) (h' := [(2, .cells [.int .i64 a, .int .i64 b, .int .i64 xh1_2_1] 0 24 0), (1, .cells [.int .i64 a, .int .i64 b, .int .i64 xh1_2_1] 0 24 0), (0, .cells (rowC (encI .i64) lh0_1) 0 3 1)]) (c' := 3) (by kernel_rfl) ?_
      refine XR.done (by kernel_rfl) ?_
      show XQ _ _ _ _ _ _ _ _
      refine XQ.ghost 63 2 rfl (σ' := [(1, .pointer (some ⟨2, 0, none⟩)), (3, .slice (some ⟨3, 0, none⟩) 0 0)]) (h' := [(2, .cells [.int .i64 a, .int .i64 b, .int .i64 xh1_2_1] 0 24 0), (1, .cells [.int .i64 a, .int .i64 b, .int .i64 xh1_2_1] 0 24 0), (0, .cells (rowC (encI .i64) lh0_1) 0 3 1)]) ⟨by kernel_rfl, by kernel_rfl, trivial⟩ ⟨⟨_, rfl, .inl rfl⟩, ⟨_, rfl, .inl rfl⟩, ⟨_, rfl, .inl rfl⟩, trivial⟩ ?_
      refine XQ.conv (σ' := [(1, .pointer (some ⟨2, 0, none⟩)), (3, .slice (some ⟨3, 0, none⟩) 0 0)]) (h' := [(3, .cells (rowC encP []) 0 63 2), (2, .cells [.int .i64 a, .int .i64 b, .int .i64 xh1_2_1] 0 24 0), (1, .cells [.int .i64 a, .int .i64 b, .int .i64 xh1_2_1] 0 24 0), (0, .cells (rowC (encI .i64) lh0_1) 0 3 1)]) (c' := 4) ?_ (by kernel_rfl)
      refine XQ.seq E0_ok (by kernel_rfl) ?_
      refine XQ.region (by kernel_rfl) ?_
      refine XR.run E0_ok 1 1 [1, 3, 8] rfl (σ' := [(1, .pointer (some ⟨2, 0, none⟩)), (3, .slice (some ⟨3, 0, none⟩) 0 0), (8, .agg #[.int .i64 a, .int .i64 b, .int .i64 xh1_2_1])]) (h' := [(3, .cells (rowC encP []) 0 63 2), (2, .cells [.int .i64 a, .int .i64 b, .int .i64 xh1_2_1] 0 24 0), (1, .cells [.int .i64 a, .int .i64 b, .int .i64 xh1_2_1] 0 24 0), (0, .cells (rowC (encI .i64) lh0_1) 0 3 1)]) (c' := 4) (by kernel_rfl) ?_
      refine XR.callK E0_ok [1, 3, 9] rfl (K := 78) (args := [.agg #[.int .i64 a, .int .i64 b, .int .i64 xh1_2_1]]) (d := (some (path 12 9))) (by kernel_rfl) ?_
      refine KC.bodyN E0_ok (F := Proofs.Try.f78) (by kernel_rfl) (code := f38_C78) (by kernel_rfl) (nt := 41) (by kernel_rfl) (rs := [.tmp 2]) (by kernel_rfl) (by kernel_rfl) (σ := [(0, .agg #[.int .i64 a, .int .i64 b, .int .i64 xh1_2_1])]) (by kernel_rfl) ?_
      refine XQ.seq E0_ok (by kernel_rfl) ?_
      refine XQ.region (by kernel_rfl) ?_
      refine XR.run E0_ok 1 2 [1] rfl (σ' := [(1, .pointer (some ⟨4, 0, none⟩))]) (h' := [(4, .cells [.int .i64 a, .int .i64 b, .int .i64 xh1_2_1] 0 24 0), (3, .cells (rowC encP []) 0 63 2), (2, .cells [.int .i64 a, .int .i64 b, .int .i64 xh1_2_1] 0 24 0), (1, .cells [.int .i64 a, .int .i64 b, .int .i64 xh1_2_1] 0 24 0), (0, .cells (rowC (encI .i64) lh0_1) 0 3 1)]) (c' := 5) (by kernel_rfl) ?_
      refine XR.done (by kernel_rfl) ?_
      show XQ _ _ _ _ _ _ _ _
      refine XQ.seq E0_ok (by kernel_rfl) ?_
      refine XQ.region (by kernel_rfl) ?_
      refine XR.run E0_ok 1 1 [1, 7] rfl (σ' := [(1, .pointer (some ⟨4, 0, none⟩)), (7, .agg #[.int .i64 a, .int .i64 b, .int .i64 xh1_2_1])]) (h' := [(4, .cells [.int .i64 a, .int .i64 b, .int .i64 xh1_2_1] 0 24 0), (3, .cells (rowC encP []) 0 63 2), (2, .cells [.int .i64 a, .int .i64 b, .int .i64 xh1_2_1] 0 24 0), (1, .cells [.int .i64 a, .int .i64 b, .int .i64 xh1_2_1] 0 24 0), (0, .cells (rowC (encI .i64) lh0_1) 0 3 1)]) (c' := 5) (by kernel_rfl) ?_
      obtain ⟨r31, r31_h, h⟩ := bS h
      refine XR.call E0_ok [1, 8] rfl (K := 76) (args := [.agg #[.int .i64 a, .int .i64 b, .int .i64 xh1_2_1]]) (d := (some (path 12 8))) (by kernel_rfl) (KC.lift (V2 := .slice (some ⟨5, 0, none⟩) r31.length r31.length) (H2 := [(5, .cells (rowC (encI .i64) r31) 0 3 1)]) [1, 2, 3, 4, 5, 0] (f76_ok m a b xh1_2_1 r31 r31_h) rfl (by decide) (by decide) (by kernel_rfl) ⟨⟨_, _, rfl, rfl, .inl ⟨rfl, rowC_scal (encI_ok .i64) _⟩⟩, trivial⟩ (by rfl)) ?_
      rintro _ _ _ ⟨rfl, rfl, rfl⟩
      refine XR.conv (σ' := [(1, .pointer (some ⟨4, 0, none⟩)), (8, .slice (some ⟨5, 0, none⟩) r31.length r31.length)]) (h' := [(5, .cells (rowC (encI .i64) r31) 0 3 1), (4, .cells [.int .i64 a, .int .i64 b, .int .i64 xh1_2_1] 0 24 0), (3, .cells (rowC encP []) 0 63 2), (2, .cells [.int .i64 a, .int .i64 b, .int .i64 xh1_2_1] 0 24 0), (1, .cells [.int .i64 a, .int .i64 b, .int .i64 xh1_2_1] 0 24 0), (0, .cells (rowC (encI .i64) lh0_1) 0 3 1)]) (c' := 6) ?_ (by kernel_rfl)
      refine XR.run E0_ok 1 1 [1, 3] rfl (σ' := [(1, .pointer (some ⟨4, 0, none⟩)), (3, .slice (some ⟨5, 0, none⟩) r31.length r31.length)]) (h' := [(5, .cells (rowC (encI .i64) r31) 0 3 1), (4, .cells [.int .i64 a, .int .i64 b, .int .i64 xh1_2_1] 0 24 0), (3, .cells (rowC encP []) 0 63 2), (2, .cells [.int .i64 a, .int .i64 b, .int .i64 xh1_2_1] 0 24 0), (1, .cells [.int .i64 a, .int .i64 b, .int .i64 xh1_2_1] 0 24 0), (0, .cells (rowC (encI .i64) lh0_1) 0 3 1)]) (c' := 6) (by kernel_rfl) ?_
      refine XR.done (by kernel_rfl) ?_
      show XQ _ _ _ _ _ _ _ _
      refine XQ.seq E0_ok (by kernel_rfl) ?_
      refine XQ.region (by kernel_rfl) ?_
      refine XR.run E0_ok 1 1 [1, 3, 4] rfl (σ' := [(1, .pointer (some ⟨4, 0, none⟩)), (3, .slice (some ⟨5, 0, none⟩) r31.length r31.length), (4, .slice none 0 0)]) (h' := [(5, .cells (rowC (encI .i64) r31) 0 3 1), (4, .cells [.int .i64 a, .int .i64 b, .int .i64 xh1_2_1] 0 24 0), (3, .cells (rowC encP []) 0 63 2), (2, .cells [.int .i64 a, .int .i64 b, .int .i64 xh1_2_1] 0 24 0), (1, .cells [.int .i64 a, .int .i64 b, .int .i64 xh1_2_1] 0 24 0), (0, .cells (rowC (encI .i64) lh0_1) 0 3 1)]) (c' := 6) (by kernel_rfl) ?_
      refine XR.done (by kernel_rfl) ?_
      show XQ _ _ _ _ _ _ _ _
      refine XQ.ghost 3 1 rfl (σ' := [(1, .pointer (some ⟨4, 0, none⟩)), (3, .slice (some ⟨5, 0, none⟩) r31.length r31.length), (4, .slice (some ⟨6, 0, none⟩) 0 0)]) (h' := [(5, .cells (rowC (encI .i64) r31) 0 3 1), (4, .cells [.int .i64 a, .int .i64 b, .int .i64 xh1_2_1] 0 24 0), (3, .cells (rowC encP []) 0 63 2), (2, .cells [.int .i64 a, .int .i64 b, .int .i64 xh1_2_1] 0 24 0), (1, .cells [.int .i64 a, .int .i64 b, .int .i64 xh1_2_1] 0 24 0), (0, .cells (rowC (encI .i64) lh0_1) 0 3 1)]) ⟨by kernel_rfl, by kernel_rfl, by kernel_rfl, trivial⟩ ⟨⟨_, rfl, .inl rfl⟩, ⟨_, rfl, .inl rfl⟩, ⟨_, rfl, .inl rfl⟩, ⟨_, rfl, .inl rfl⟩, ⟨_, rfl, .inl rfl⟩, ⟨_, rfl, .inl rfl⟩, trivial⟩ ?_
      refine XQ.conv (σ' := [(1, .pointer (some ⟨4, 0, none⟩)), (3, .slice (some ⟨5, 0, none⟩) r31.length r31.length), (4, .slice (some ⟨6, 0, none⟩) 0 0)]) (h' := [(6, .cells (rowC (encI .i64) []) 0 3 1), (5, .cells (rowC (encI .i64) r31) 0 3 1), (4, .cells [.int .i64 a, .int .i64 b, .int .i64 xh1_2_1] 0 24 0), (3, .cells (rowC encP []) 0 63 2), (2, .cells [.int .i64 a, .int .i64 b, .int .i64 xh1_2_1] 0 24 0), (1, .cells [.int .i64 a, .int .i64 b, .int .i64 xh1_2_1] 0 24 0), (0, .cells (rowC (encI .i64) lh0_1) 0 3 1)]) (c' := 7) ?_ (by kernel_rfl)
      refine XQ.seq E0_ok (by kernel_rfl) ?_
      refine XQ.seq E0_ok (by kernel_rfl) ?_
      refine XQ.region (by kernel_rfl) ?_
      refine XR.run E0_ok 1 1 [1, 3, 4, 5] rfl (σ' := [(1, .pointer (some ⟨4, 0, none⟩)), (3, .slice (some ⟨5, 0, none⟩) r31.length r31.length), (4, .slice (some ⟨6, 0, none⟩) 0 0), (5, .int .i64 0)]) (h' := [(6, .cells (rowC (encI .i64) []) 0 3 1), (5, .cells (rowC (encI .i64) r31) 0 3 1), (4, .cells [.int .i64 a, .int .i64 b, .int .i64 xh1_2_1] 0 24 0), (3, .cells (rowC encP []) 0 63 2), (2, .cells [.int .i64 a, .int .i64 b, .int .i64 xh1_2_1] 0 24 0), (1, .cells [.int .i64 a, .int .i64 b, .int .i64 xh1_2_1] 0 24 0), (0, .cells (rowC (encI .i64) lh0_1) 0 3 1)]) (c' := 7) (by kernel_rfl) ?_
      refine XR.done (by kernel_rfl) ?_
      show XQ _ _ _ _ _ _ _ _
      refine XQ.block (id := 0) (by kernel_rfl) ?_
      refine XQ.loop m (by kernel_rfl) ?_
      obtain ⟨o2, o2_h, h⟩ := bS h
      refine XL.ren (σ' := [(1, .pointer (some ⟨4, 0, none⟩)), (3, .slice (some ⟨5, 0, none⟩) r31.length r31.length), (4, .slice (some ⟨6, 0, none⟩) 0 0), (5, .int .i64 0)]) (h' := [(6, .cells (rowC (encI .i64) []) 0 3 1), (5, .cells (rowC (encI .i64) r31) 0 3 1), (4, .cells [.int .i64 a, .int .i64 b, .int .i64 xh1_2_1] 0 24 0), (3, .cells (rowC encP []) 0 63 2), (2, .cells [.int .i64 a, .int .i64 b, .int .i64 xh1_2_1] 0 24 0), (1, .cells [.int .i64 a, .int .i64 b, .int .i64 xh1_2_1] 0 24 0), (0, .cells (rowC (encI .i64) lh0_1) 0 3 1)]) (c' := 7) [0, 1, 2, 3, 4, 5, 6] (by decide) rfl ⟨by kernel_rfl, by kernel_rfl, by kernel_rfl, by kernel_rfl, trivial⟩ ⟨⟨_, _, rfl, rfl, .inl ⟨rfl, rowC_scal (encI_ok .i64) _⟩⟩, ⟨_, _, rfl, rfl, .inl ⟨rfl, rowC_scal (encI_ok .i64) _⟩⟩, ⟨_, _, rfl, rfl, .inr ⟨_, _, _, _, rfl, rfl⟩⟩, ⟨_, _, rfl, rfl, .inl ⟨rfl, rowC_scal encP_ok _⟩⟩, ⟨_, _, rfl, rfl, .inr ⟨_, _, _, _, rfl, rfl⟩⟩, ⟨_, _, rfl, rfl, .inr ⟨_, _, _, _, rfl, rfl⟩⟩, ⟨_, _, rfl, rfl, .inl ⟨rfl, rowC_scal (encI_ok .i64) _⟩⟩, trivial⟩ rfl ?_
      refine XL.conv (f38_2_ok m m a b lh0_1 xh1_2_1 0 r31 [] o2 o2_h _ ?_) (by first | rfl | simp)
      show XQ _ _ _ _ _ _ _ _
      refine XQ.seq E0_ok (by kernel_rfl) ?_
      refine XQ.region (by kernel_rfl) ?_
      refine XR.run E0_ok 1 2 [2] rfl (σ' := [(2, .slice (some ⟨4, 0, none⟩) o2.length o2.length)]) (h' := [(4, .cells (rowC (encI .i64) o2) 0 3 1), (3, .cells (rowC encP []) 0 63 2), (2, .cells [.int .i64 a, .int .i64 b, .int .i64 xh1_2_1] 0 24 0), (1, .cells [.int .i64 a, .int .i64 b, .int .i64 xh1_2_1] 0 24 0), (0, .cells (rowC (encI .i64) lh0_1) 0 3 1)]) (c' := 5) (by kernel_rfl) ?_
      refine XR.done (by kernel_rfl) ?_
      show XQ _ _ _ _ _ _ _ _
      refine XQ.ret (by kernel_rfl) ?_
      refine ⟨fun i q => (by cases q), .slice (some ⟨4, 0, none⟩) o2.length o2.length, (by kernel_rfl), ?_⟩
      refine XR.conv (σ' := [(1, .pointer (some ⟨2, 0, none⟩)), (3, .slice (some ⟨3, 0, none⟩) 0 0), (9, .slice (some ⟨4, 0, none⟩) o2.length o2.length)]) (h' := [(4, .cells (rowC (encI .i64) o2) 0 3 1), (3, .cells (rowC encP []) 0 63 2), (2, .cells [.int .i64 a, .int .i64 b, .int .i64 xh1_2_1] 0 24 0), (1, .cells [.int .i64 a, .int .i64 b, .int .i64 xh1_2_1] 0 24 0), (0, .cells (rowC (encI .i64) lh0_1) 0 3 1)]) (c' := 5) ?_ (by kernel_rfl)
      refine XR.run E0_ok 1 1 [1, 3, 4] rfl (σ' := [(1, .pointer (some ⟨2, 0, none⟩)), (3, .slice (some ⟨3, 0, none⟩) 0 0), (4, .slice (some ⟨4, 0, none⟩) o2.length o2.length)]) (h' := [(4, .cells (rowC (encI .i64) o2) 0 3 1), (3, .cells (rowC encP []) 0 63 2), (2, .cells [.int .i64 a, .int .i64 b, .int .i64 xh1_2_1] 0 24 0), (1, .cells [.int .i64 a, .int .i64 b, .int .i64 xh1_2_1] 0 24 0), (0, .cells (rowC (encI .i64) lh0_1) 0 3 1)]) (c' := 5) (by kernel_rfl) ?_
      refine XR.done (by kernel_rfl) ?_
      show XQ _ _ _ _ _ _ _ _
      refine XQ.seq E0_ok (by kernel_rfl) ?_
      refine XQ.seq E0_ok (by kernel_rfl) ?_
      refine XQ.region (by kernel_rfl) ?_
      refine XR.run E0_ok 1 1 [1, 3, 4, 5] rfl (σ' := [(1, .pointer (some ⟨2, 0, none⟩)), (3, .slice (some ⟨3, 0, none⟩) 0 0), (4, .slice (some ⟨4, 0, none⟩) o2.length o2.length), (5, .int .i64 1)]) (h' := [(4, .cells (rowC (encI .i64) o2) 0 3 1), (3, .cells (rowC encP []) 0 63 2), (2, .cells [.int .i64 a, .int .i64 b, .int .i64 xh1_2_1] 0 24 0), (1, .cells [.int .i64 a, .int .i64 b, .int .i64 xh1_2_1] 0 24 0), (0, .cells (rowC (encI .i64) lh0_1) 0 3 1)]) (c' := 5) (by kernel_rfl) ?_
      refine XR.done (by kernel_rfl) ?_
      show XQ _ _ _ _ _ _ _ _
      refine XQ.block (id := 0) (by kernel_rfl) ?_
      refine XQ.loop m (by kernel_rfl) ?_
      obtain ⟨o3, o3_h, h⟩ := bS h
      refine XL.ren (σ' := [(1, .pointer (some ⟨2, 0, none⟩)), (3, .slice (some ⟨3, 0, none⟩) 0 0), (4, .slice (some ⟨4, 0, none⟩) o2.length o2.length), (5, .int .i64 1)]) (h' := [(4, .cells (rowC (encI .i64) o2) 0 3 1), (3, .cells (rowC encP []) 0 63 2), (2, .cells [.int .i64 a, .int .i64 b, .int .i64 xh1_2_1] 0 24 0), (1, .cells [.int .i64 a, .int .i64 b, .int .i64 xh1_2_1] 0 24 0), (0, .cells (rowC (encI .i64) lh0_1) 0 3 1)]) (c' := 5) [0, 1, 2, 3, 4] (by decide) rfl ⟨by kernel_rfl, by kernel_rfl, by kernel_rfl, by kernel_rfl, trivial⟩ ⟨⟨_, _, rfl, rfl, .inl ⟨rfl, rowC_scal (encI_ok .i64) _⟩⟩, ⟨_, _, rfl, rfl, .inl ⟨rfl, rowC_scal encP_ok _⟩⟩, ⟨_, _, rfl, rfl, .inr ⟨_, _, _, _, rfl, rfl⟩⟩, ⟨_, _, rfl, rfl, .inr ⟨_, _, _, _, rfl, rfl⟩⟩, ⟨_, _, rfl, rfl, .inl ⟨rfl, rowC_scal (encI_ok .i64) _⟩⟩, trivial⟩ rfl ?_
      refine XL.conv (f38_3_ok m m a b lh0_1 xh1_2_1 o2 1 [] o3 o3_h _ ?_) (by first | rfl | simp)
      show XQ _ _ _ _ _ _ _ _
      refine XQ.seq E0_ok (by kernel_rfl) ?_
      refine XQ.region (by kernel_rfl) ?_
      refine XR.run E0_ok 1 2 [2] rfl (σ' := [(2, .slice (some ⟨2, 0, none⟩) o3.length o3.length)]) (h' := [(2, .cells (rowC encP o3) 0 63 2), (1, .cells [.int .i64 a, .int .i64 b, .int .i64 xh1_2_1] 0 24 0), (0, .cells (rowC (encI .i64) lh0_1) 0 3 1)]) (c' := 3) (by kernel_rfl) ?_
      refine XR.done (by kernel_rfl) ?_
      show XQ _ _ _ _ _ _ _ _
      refine XQ.ret (by kernel_rfl) ?_
      refine ⟨fun i q => (by cases q), .slice (some ⟨2, 0, none⟩) o3.length o3.length, (by kernel_rfl), ?_⟩
      refine XR.conv (σ' := [(7, .slice (some ⟨0, 0, none⟩) lh0_1.length lh0_1.length), (8, .pointer (some ⟨1, 0, none⟩)), (29, .slice (some ⟨2, 0, none⟩) o3.length o3.length)]) (h' := [(2, .cells (rowC encP o3) 0 63 2), (1, .cells [.int .i64 a, .int .i64 b, .int .i64 xh1_2_1] 0 24 0), (0, .cells (rowC (encI .i64) lh0_1) 0 3 1)]) (c' := 3) ?_ (by kernel_rfl)
      refine XR.run E0_ok 1 2 [7, 8, 31] rfl (σ' := [(7, .slice (some ⟨0, 0, none⟩) lh0_1.length lh0_1.length), (8, .pointer (some ⟨1, 0, none⟩)), (31, .bool (decide (((o3.length : Nat) : Int) ≤ 2)))]) (h' := [(2, .cells (rowC encP o3) 0 63 2), (1, .cells [.int .i64 a, .int .i64 b, .int .i64 xh1_2_1] 0 24 0), (0, .cells (rowC (encI .i64) lh0_1) 0 3 1)]) (c' := 3) (by kernel_rfl) ?_
      refine XR.done (by kernel_rfl) ?_
      show XQ _ _ _ _ _ _ _ _
      cases b4 : (decide (((o3.length : Nat) : Int) ≤ 2) : Bool) with
      | true =>
        have h := cT b4 h
        refine XQ.cond (s := (.tmp 31)) (b := true) (by kernel_rfl) (by kernel_rfl) (fun _ => ?_) (fun q => by cases q)
        refine XQ.region (by kernel_rfl) ?_
        refine XR.run E0_ok 1 4 [8, 32, 35] rfl (σ' := [(8, .pointer (some ⟨1, 0, none⟩)), (32, .slice (some ⟨0, 0, none⟩) lh0_1.length lh0_1.length), (35, .slice (some ⟨3, 0, none⟩) 1 1)]) (h' := [(3, .cells [.int .i64 xh1_2_1] 0 3 1), (2, .cells (rowC encP o3) 0 63 2), (1, .cells [.int .i64 a, .int .i64 b, .int .i64 xh1_2_1] 0 24 0), (0, .cells (rowC (encI .i64) lh0_1) 0 3 1)]) (c' := 4) (by kernel_rfl) ?_
        cases b5 : (fitsB (lh0_1.length + 1) 8 : Bool) with
        | false => cases (cF b5 h)
        | true =>
          have h := cT b5 h
          refine XR.ef E0_ok [8, 36] rfl (e_append (encI_ok .i64) (bytes := 8) (e := 3) (x := (src 38 (.tmp 32))) (y := (src 38 (.tmp 35))) (b := 0) (len := lh0_1.length) (cap := lh0_1.length) (xs := lh0_1) (m := 0) (ys := [xh1_2_1]) (d := (some (path 12 36))) (n' := (lh0_1 ++ [xh1_2_1]).length) (h' := [(4, .cells (rowC (encI .i64) (lh0_1 ++ [xh1_2_1])) 0 3 1), (3, .cells [.int .i64 xh1_2_1] 0 3 1), (2, .cells (rowC encP o3) 0 63 2), (1, .cells [.int .i64 a, .int .i64 b, .int .i64 xh1_2_1] 0 24 0)]) (by kernel_rfl) (by kernel_rfl) (by kernel_rfl) (by kernel_rfl) rfl (by simp) (by simp) b5 (by simp) (by kernel_rfl)) (σ' := [(8, .pointer (some ⟨1, 0, none⟩)), (36, .slice (some ⟨4, 0, none⟩) ((lh0_1 ++ [xh1_2_1]).length) ((lh0_1 ++ [xh1_2_1]).length))]) (by kernel_rfl) ?_
          refine XR.run E0_ok 1 1 [7, 8] rfl (σ' := [(7, .slice (some ⟨4, 0, none⟩) ((lh0_1 ++ [xh1_2_1]).length) ((lh0_1 ++ [xh1_2_1]).length)), (8, .pointer (some ⟨1, 0, none⟩))]) (h' := [(4, .cells (rowC (encI .i64) (lh0_1 ++ [xh1_2_1])) 0 3 1), (3, .cells [.int .i64 xh1_2_1] 0 3 1), (2, .cells (rowC encP o3) 0 63 2), (1, .cells [.int .i64 a, .int .i64 b, .int .i64 xh1_2_1] 0 24 0)]) (c' := 5) (by kernel_rfl) ?_
          refine XR.done (by kernel_rfl) ?_
          show XQ _ _ _ _ _ _ _ _
          refine XQ.region (by kernel_rfl) ?_
          refine XR.run E0_ok 1 5 [7, 8] rfl (σ' := [(7, .slice (some ⟨4, 0, none⟩) ((lh0_1 ++ [xh1_2_1]).length) ((lh0_1 ++ [xh1_2_1]).length)), (8, .pointer (some ⟨1, 0, none⟩))]) (h' := [(4, .cells (rowC (encI .i64) (lh0_1 ++ [xh1_2_1])) 0 3 1), (3, .cells [.int .i64 xh1_2_1] 0 3 1), (2, .cells (rowC encP o3) 0 63 2), (1, .cells [.int .i64 a, .int .i64 b, .int .i64 (w64 (xh1_2_1 + 1))] 0 24 0)]) (c' := 5) (by kernel_rfl) ?_
          refine XR.done (by kernel_rfl) ?_
          show XL _ _ _ _ _ _ _ _ _
          refine XL.ren (σ' := [(7, .slice (some ⟨0, 0, none⟩) ((lh0_1 ++ [xh1_2_1]).length) ((lh0_1 ++ [xh1_2_1]).length)), (8, .pointer (some ⟨1, 0, none⟩))]) (h' := [(1, .cells [.int .i64 a, .int .i64 b, .int .i64 (w64 (xh1_2_1 + 1))] 0 24 0), (0, .cells (rowC (encI .i64) (lh0_1 ++ [xh1_2_1])) 0 3 1)]) (c' := 2) [4, 1] (by decide) rfl ⟨by kernel_rfl, by kernel_rfl, trivial⟩ ⟨⟨_, _, rfl, rfl, .inr ⟨_, _, _, _, rfl, rfl⟩⟩, ⟨_, _, rfl, rfl, .inl ⟨rfl, rowC_scal (encI_ok .i64) _⟩⟩, trivial⟩ rfl ?_
          refine XL.conv (f38_1_ok m fuel a b (lh0_1 ++ [xh1_2_1]) (w64 (xh1_2_1 + 1)) o h Q hQ) (by first | rfl | simp)
      | false =>
        have h := cF b4 h
        refine XQ.cond (s := (.tmp 31)) (b := false) (by kernel_rfl) (by kernel_rfl) (fun q => by cases q) (fun _ => ?_)
        refine XQ.skip (by kernel_rfl) ?_
        show XQ _ _ _ _ _ _ _ _
        refine XQ.region (by kernel_rfl) ?_
        refine XR.run E0_ok 1 5 [7, 8] rfl (σ' := [(7, .slice (some ⟨0, 0, none⟩) lh0_1.length lh0_1.length), (8, .pointer (some ⟨1, 0, none⟩))]) (h' := [(2, .cells (rowC encP o3) 0 63 2), (1, .cells [.int .i64 a, .int .i64 b, .int .i64 (w64 (xh1_2_1 + 1))] 0 24 0), (0, .cells (rowC (encI .i64) lh0_1) 0 3 1)]) (c' := 3) (by kernel_rfl) ?_
        refine XR.done (by kernel_rfl) ?_
        show XL _ _ _ _ _ _ _ _ _
        refine XL.ren (σ' := [(7, .slice (some ⟨0, 0, none⟩) lh0_1.length lh0_1.length), (8, .pointer (some ⟨1, 0, none⟩))]) (h' := [(1, .cells [.int .i64 a, .int .i64 b, .int .i64 (w64 (xh1_2_1 + 1))] 0 24 0), (0, .cells (rowC (encI .i64) lh0_1) 0 3 1)]) (c' := 2) [0, 1] (by decide) rfl ⟨by kernel_rfl, by kernel_rfl, trivial⟩ ⟨⟨_, _, rfl, rfl, .inr ⟨_, _, _, _, rfl, rfl⟩⟩, ⟨_, _, rfl, rfl, .inl ⟨rfl, rowC_scal (encI_ok .i64) _⟩⟩, trivial⟩ rfl ?_
        refine XL.conv (f38_1_ok m fuel a b lh0_1 (w64 (xh1_2_1 + 1)) o h Q hQ) (by first | rfl | simp)
    | false =>
      have h := cF b1 h
      refine XQ.cond (s := (.tmp 23)) (b := false) (by kernel_rfl) (by kernel_rfl) (fun q => by cases q) (fun _ => ?_)
      refine XQ.ren (σ' := [(7, .slice (some ⟨0, 0, none⟩) lh0_1.length lh0_1.length)]) (h' := [(0, .cells (rowC (encI .i64) lh0_1) 0 3 1)]) (c' := 1) [0] (by decide) rfl ⟨by kernel_rfl, trivial⟩ ⟨⟨_, _, rfl, rfl, .inl ⟨rfl, rowC_scal (encI_ok .i64) _⟩⟩, trivial⟩ rfl ?_
      refine XQ.exit (i := 0) (by kernel_rfl) ?_
      cases h
      exact hQ

def f38 (m : Nat) (a : Int) (b : Int) : Option ((List Int) × Int) :=
  (f66 m a b).bind fun r1 =>
    cond (r1 != 0) (
      some ([], r1)
    ) (
      (f38_1 m m a b [] 1).bind fun o1 =>
        some (o1, 0)
    )

theorem f38_ok (m : Nat) (a : Int) (b : Int) (o : (List Int) × Int) (h : f38 m a b = some o) : KC E0 38 [.int .i64 a, .int .i64 b] [] 0 (fun v h' c' => v = .tuple #[.slice (some ⟨0, 0, none⟩) o.1.length o.1.length, .int .i64 o.2] ∧ h' = [(0, .cells (rowC (encI .i64) o.1) 0 3 1)] ∧ c' = 1) := by
  refine KC.bodyN E0_ok (F := Proofs.Try.f38) (by kernel_rfl) (code := f38_C38) (by kernel_rfl) (nt := 38) (by kernel_rfl) (rs := [.tmp 4, .tmp 5]) (by kernel_rfl) (by kernel_rfl) (σ := [(0, .int .i64 a), (1, .int .i64 b)]) (by kernel_rfl) ?_
  unfold f38 at h
  refine XQ.seq E0_ok (by kernel_rfl) ?_
  refine XQ.region (by kernel_rfl) ?_
  refine XR.run E0_ok 1 2 [0, 1] rfl (σ' := [(0, .int .i64 a), (1, .int .i64 b)]) (h' := []) (c' := 0) (by kernel_rfl) ?_
  refine XR.done (by kernel_rfl) ?_
  show XQ _ _ _ _ _ _ _ _
  refine XQ.seq E0_ok (by kernel_rfl) ?_
  refine XQ.region (by kernel_rfl) ?_
  refine XR.run E0_ok 1 2 [0, 1, 9, 10] rfl (σ' := [(0, .int .i64 a), (1, .int .i64 b), (9, .int .i64 a), (10, .int .i64 b)]) (h' := []) (c' := 0) (by kernel_rfl) ?_
  obtain ⟨r1, r1_h, h⟩ := bS h
  refine XR.call E0_ok [0, 1, 11] rfl (K := 66) (args := [.int .i64 a, .int .i64 b]) (d := (some (path 12 11))) (by kernel_rfl) (KC.of_calls E0_ok (F := Proofs.Try.f66) (v := .int .i64 r1) (by kernel_rfl) rfl rfl (fun w hI => f66_ok m a b r1 r1_h w hI)) ?_
  rintro _ _ _ ⟨rfl, rfl, rfl⟩
  refine XR.conv (σ' := [(0, .int .i64 a), (1, .int .i64 b), (11, .int .i64 r1)]) (h' := []) (c' := 0) ?_ (by kernel_rfl)
  refine XR.run E0_ok 1 1 [0, 1, 6] rfl (σ' := [(0, .int .i64 a), (1, .int .i64 b), (6, .int .i64 r1)]) (h' := []) (c' := 0) (by kernel_rfl) ?_
  refine XR.done (by kernel_rfl) ?_
  show XQ _ _ _ _ _ _ _ _
  refine XQ.seq E0_ok (by kernel_rfl) ?_
  refine XQ.seq E0_ok (by kernel_rfl) ?_
  refine XQ.region (by kernel_rfl) ?_
  refine XR.run E0_ok 1 2 [0, 1, 6, 13] rfl (σ' := [(0, .int .i64 a), (1, .int .i64 b), (6, .int .i64 r1), (13, .bool (r1 != 0))]) (h' := []) (c' := 0) (by kernel_rfl) ?_
  refine XR.done (by kernel_rfl) ?_
  show XQ _ _ _ _ _ _ _ _
  cases b1 : (r1 != 0 : Bool) with
  | true =>
    have h := cT b1 h
    refine XQ.cond (s := (.tmp 13)) (b := true) (by kernel_rfl) (by kernel_rfl) (fun _ => ?_) (fun q => by cases q)
    refine XQ.seq E0_ok (by kernel_rfl) ?_
    refine XQ.region (by kernel_rfl) ?_
    refine XR.run E0_ok 1 3 [4, 5] rfl (σ' := [(4, .slice none 0 0), (5, .int .i64 r1)]) (h' := []) (c' := 0) (by kernel_rfl) ?_
    refine XR.done (by kernel_rfl) ?_
    show XQ _ _ _ _ _ _ _ _
    refine XQ.ghost 3 1 rfl (σ' := [(4, .slice (some ⟨0, 0, none⟩) 0 0), (5, .int .i64 r1)]) (h' := []) ⟨by kernel_rfl, by kernel_rfl, trivial⟩ trivial ?_
    refine XQ.conv (σ' := [(4, .slice (some ⟨0, 0, none⟩) 0 0), (5, .int .i64 r1)]) (h' := [(0, .cells (rowC (encI .i64) []) 0 3 1)]) (c' := 1) ?_ (by kernel_rfl)
    refine XQ.ren (σ' := [(4, .slice (some ⟨0, 0, none⟩) 0 0), (5, .int .i64 r1)]) (h' := [(0, .cells (rowC (encI .i64) []) 0 3 1)]) (c' := 1) [0] (by decide) rfl ⟨by kernel_rfl, by kernel_rfl, trivial⟩ ⟨⟨_, _, rfl, rfl, .inl ⟨rfl, rowC_scal (encI_ok .i64) _⟩⟩, trivial⟩ rfl ?_
    refine XQ.ret (by kernel_rfl) ?_
    have h := Option.some.inj h
    subst h
    exact ⟨fun i q => (by cases q), .tuple #[.slice (some ⟨0, 0, none⟩) 0 0, .int .i64 r1], (by kernel_rfl), (by kernel_rfl), (by kernel_rfl), rfl⟩
  | false =>
    have h := cF b1 h
    refine XQ.cond (s := (.tmp 13)) (b := false) (by kernel_rfl) (by kernel_rfl) (fun q => by cases q) (fun _ => ?_)
    refine XQ.skip (by kernel_rfl) ?_
    show XQ _ _ _ _ _ _ _ _
    refine XQ.seq E0_ok (by kernel_rfl) ?_
    refine XQ.region (by kernel_rfl) ?_
    refine XR.run E0_ok 1 1 [0, 1, 7] rfl (σ' := [(0, .int .i64 a), (1, .int .i64 b), (7, .slice none 0 0)]) (h' := []) (c' := 0) (by kernel_rfl) ?_
    refine XR.done (by kernel_rfl) ?_
    show XQ _ _ _ _ _ _ _ _
    refine XQ.ghost 3 1 rfl (σ' := [(0, .int .i64 a), (1, .int .i64 b), (7, .slice (some ⟨0, 0, none⟩) 0 0)]) (h' := []) ⟨by kernel_rfl, by kernel_rfl, by kernel_rfl, trivial⟩ trivial ?_
    refine XQ.conv (σ' := [(0, .int .i64 a), (1, .int .i64 b), (7, .slice (some ⟨0, 0, none⟩) 0 0)]) (h' := [(0, .cells (rowC (encI .i64) []) 0 3 1)]) (c' := 1) ?_ (by kernel_rfl)
    refine XQ.seq E0_ok (by kernel_rfl) ?_
    refine XQ.region (by kernel_rfl) ?_
    refine XR.run E0_ok 1 5 [7, 8] rfl (σ' := [(7, .slice (some ⟨0, 0, none⟩) 0 0), (8, .pointer (some ⟨1, 0, none⟩))]) (h' := [(1, .cells [.int .i64 a, .int .i64 b, .int .i64 0] 0 24 0), (0, .cells (rowC (encI .i64) []) 0 3 1)]) (c' := 2) (by kernel_rfl) ?_
    refine XR.done (by kernel_rfl) ?_
    show XQ _ _ _ _ _ _ _ _
    refine XQ.seq E0_ok (by kernel_rfl) ?_
    refine XQ.seq E0_ok (by kernel_rfl) ?_
    refine XQ.region (by kernel_rfl) ?_
    refine XR.run E0_ok 1 2 [7, 8] rfl (σ' := [(7, .slice (some ⟨0, 0, none⟩) 0 0), (8, .pointer (some ⟨1, 0, none⟩))]) (h' := [(1, .cells [.int .i64 a, .int .i64 b, .int .i64 1] 0 24 0), (0, .cells (rowC (encI .i64) []) 0 3 1)]) (c' := 2) (by kernel_rfl) ?_
    refine XR.done (by kernel_rfl) ?_
    show XQ _ _ _ _ _ _ _ _
    refine XQ.block (id := 0) (by kernel_rfl) ?_
    refine XQ.loop m (by kernel_rfl) ?_
    obtain ⟨o1, o1_h, h⟩ := bS h
    refine XL.ren (σ' := [(7, .slice (some ⟨0, 0, none⟩) 0 0), (8, .pointer (some ⟨1, 0, none⟩))]) (h' := [(1, .cells [.int .i64 a, .int .i64 b, .int .i64 1] 0 24 0), (0, .cells (rowC (encI .i64) []) 0 3 1)]) (c' := 2) [0, 1] (by decide) rfl ⟨by kernel_rfl, by kernel_rfl, trivial⟩ ⟨⟨_, _, rfl, rfl, .inr ⟨_, _, _, _, rfl, rfl⟩⟩, ⟨_, _, rfl, rfl, .inl ⟨rfl, rowC_scal (encI_ok .i64) _⟩⟩, trivial⟩ rfl ?_
    refine XL.conv (f38_1_ok m m a b [] 1 o1 o1_h _ ?_) (by first | rfl | simp)
    show XQ _ _ _ _ _ _ _ _
    refine XQ.seq E0_ok (by kernel_rfl) ?_
    refine XQ.region (by kernel_rfl) ?_
    refine XR.run E0_ok 1 3 [4, 5] rfl (σ' := [(4, .slice (some ⟨0, 0, none⟩) o1.length o1.length), (5, .int .i64 0)]) (h' := [(0, .cells (rowC (encI .i64) o1) 0 3 1)]) (c' := 1) (by kernel_rfl) ?_
    refine XR.done (by kernel_rfl) ?_
    show XQ _ _ _ _ _ _ _ _
    refine XQ.ren (σ' := [(4, .slice (some ⟨0, 0, none⟩) o1.length o1.length), (5, .int .i64 0)]) (h' := [(0, .cells (rowC (encI .i64) o1) 0 3 1)]) (c' := 1) [0] (by decide) rfl ⟨by kernel_rfl, by kernel_rfl, trivial⟩ ⟨⟨_, _, rfl, rfl, .inl ⟨rfl, rowC_scal (encI_ok .i64) _⟩⟩, trivial⟩ rfl ?_
    refine XQ.ret (by kernel_rfl) ?_
    have h := Option.some.inj h
    subst h
    exact ⟨fun i q => (by cases q), .tuple #[.slice (some ⟨0, 0, none⟩) o1.length o1.length, .int .i64 0], (by kernel_rfl), (by kernel_rfl), (by kernel_rfl), rfl⟩

end Go.Xm
