/- What these functions of the program compute, as functions in Lean, and the proofs that they do: vitolalaw05.WrapNearer. Conditions: none. -/
import Derived.Test.YtagagpkjlkoieaaDg
namespace Go.Xm
open Go.RowKit
set_option linter.unusedVariables false
set_option linter.unusedSimpArgs false
set_option maxRecDepth 20000

/-! vitola/vitolalaw05.WrapNearer -/
noncomputable def f9_C9 : Code := Proofs.Try.f9.body.getD .skip
noncomputable def f9_C45 : Code := Proofs.Try.f45.body.getD .skip
noncomputable def f9_L1 : Code := lft (lft (rgt (lft (rgt (rgt (rgt (rgt (rgt (rgt (rgt f9_C9))))))))))

def f9_1 (m : Nat) : Nat → Int → Int → Int → Int → Int → Int → Int → Int → List Int → List Int → Option (Int × Int × (List Int) × (List Int))
  | 0, _, _, _, _, _, _, _, _, _, _ => none
  | fuel + 1, x5_1, x6_1, x8_1, x9_1, x10_1, xh0_0_1, xh0_1_1, xh0_2_1, lh1_1, lh2_1 =>
    cond (decide (x10_1 ≤ x6_1)) (
      cond (xh0_0_1 != 0) (
        cond (decide ((iMin (Int.tmod (w64 (x9_1 + xh0_1_1)) xh0_0_1) (w64 (xh0_0_1 - (Int.tmod (w64 (x9_1 + xh0_1_1)) xh0_0_1)))) < x8_1)) (
          cond (fitsB (lh2_1.length + 1) 8) (
            f9_1 m fuel x5_1 x6_1 (iMin (Int.tmod (w64 (x9_1 + xh0_1_1)) xh0_0_1) (w64 (xh0_0_1 - (Int.tmod (w64 (x9_1 + xh0_1_1)) xh0_0_1)))) (Int.tmod (w64 (x9_1 + xh0_1_1)) xh0_0_1) (w64 (x10_1 + 1)) xh0_0_1 xh0_1_1 xh0_2_1 lh1_1 (lh2_1 ++ [x10_1])
          ) none
        ) (
          f9_1 m fuel x5_1 x6_1 x8_1 (Int.tmod (w64 (x9_1 + xh0_1_1)) xh0_0_1) (w64 (x10_1 + 1)) xh0_0_1 xh0_1_1 xh0_2_1 lh1_1 lh2_1
        )
      ) none
    ) (
      some (x5_1, x6_1, lh1_1, lh2_1)
    )

theorem f9_1_ok (m : Nat) : ∀ (fuel : Nat) (x5_1 : Int) (x6_1 : Int) (x8_1 : Int) (x9_1 : Int) (x10_1 : Int) (xh0_0_1 : Int) (xh0_1_1 : Int) (xh0_2_1 : Int) (lh1_1 : List Int) (lh2_1 : List Int) (o : (Int × Int × (List Int) × (List Int))), f9_1 m fuel x5_1 x6_1 x8_1 x9_1 x10_1 xh0_0_1 xh0_1_1 xh0_2_1 lh1_1 lh2_1 = some o → ∀ Q : QP, Q (.exit 0) [(4, .slice (some ⟨0, 0, none⟩) o.2.2.1.length o.2.2.1.length), (5, .int .i64 o.1), (6, .int .i64 o.2.1), (7, .slice (some ⟨1, 0, none⟩) o.2.2.2.length o.2.2.2.length)] [(1, .cells (rowC (encI .i64) o.2.2.2) 0 3 1), (0, .cells (rowC (encI .i64) o.2.2.1) 0 3 1)] 2 → XL E0 80 0 fuel f9_L1 [(3, .pointer (some ⟨0, 0, none⟩)), (4, .slice (some ⟨1, 0, none⟩) lh1_1.length lh1_1.length), (5, .int .i64 x5_1), (6, .int .i64 x6_1), (7, .slice (some ⟨2, 0, none⟩) lh2_1.length lh2_1.length), (8, .int .i64 x8_1), (9, .int .i64 x9_1), (10, .int .i64 x10_1)] [(2, .cells (rowC (encI .i64) lh2_1) 0 3 1), (1, .cells (rowC (encI .i64) lh1_1) 0 3 1), (0, .cells [.int .i64 xh0_0_1, .int .i64 xh0_1_1, .int .i64 xh0_2_1] 0 23 0)] 3 Q
  | 0, x5_1, x6_1, x8_1, x9_1, x10_1, xh0_0_1, xh0_1_1, xh0_2_1, lh1_1, lh2_1, o, h, Q, hQ => by cases h
  | fuel + 1, x5_1, x6_1, x8_1, x9_1, x10_1, xh0_0_1, xh0_1_1, xh0_2_1, lh1_1, lh2_1, o, h, Q, hQ => by
    unfold f9_1 at h
    refine XL.succ E0_ok ?_
    refine XQ.seq E0_ok (by kernel_rfl) ?_
    refine XQ.seq E0_ok (by kernel_rfl) ?_
    refine XQ.region (by kernel_rfl) ?_
    refine XR.run E0_ok 1 3 [3, 4, 5, 6, 7, 8, 9, 10, 31] rfl (σ' := [(3, .pointer (some ⟨0, 0, none⟩)), (4, .slice (some ⟨1, 0, none⟩) lh1_1.length lh1_1.length), (5, .int .i64 x5_1), (6, .int .i64 x6_1), (7, .slice (some ⟨2, 0, none⟩) lh2_1.length lh2_1.length), (8, .int .i64 x8_1), (9, .int .i64 x9_1), (10, .int .i64 x10_1), (31, .bool (decide (x10_1 ≤ x6_1)))]) (h' := [(2, .cells (rowC (encI .i64) lh2_1) 0 3 1), (1, .cells (rowC (encI .i64) lh1_1) 0 3 1), (0, .cells [.int .i64 xh0_0_1, .int .i64 xh0_1_1, .int .i64 xh0_2_1] 0 23 0)]) (c' := 3) (by kernel_rfl) ?_
    refine XR.done (by kernel_rfl) ?_
    show XQ _ _ _ _ _ _ _ _
    cases b1 : (decide (x10_1 ≤ x6_1) : Bool) with
    | true =>
      have h := cT b1 h
      refine XQ.cond (s := (.tmp 31)) (b := true) (by kernel_rfl) (by kernel_rfl) (fun _ => ?_) (fun q => by cases q)
      refine XQ.skip (by kernel_rfl) ?_
      show XQ _ _ _ _ _ _ _ _
      refine XQ.seq E0_ok (by kernel_rfl) ?_
      refine XQ.block (id := 1) (by kernel_rfl) ?_
      refine XQ.seq E0_ok (by kernel_rfl) ?_
      refine XQ.region (by kernel_rfl) ?_
      refine XR.run E0_ok 1 6 [3, 4, 5, 6, 7, 8, 10, 37, 39] rfl (σ' := [(3, .pointer (some ⟨0, 0, none⟩)), (4, .slice (some ⟨1, 0, none⟩) lh1_1.length lh1_1.length), (5, .int .i64 x5_1), (6, .int .i64 x6_1), (7, .slice (some ⟨2, 0, none⟩) lh2_1.length lh2_1.length), (8, .int .i64 x8_1), (10, .int .i64 x10_1), (37, .int .i64 (w64 (x9_1 + xh0_1_1))), (39, .int .i64 xh0_0_1)]) (h' := [(2, .cells (rowC (encI .i64) lh2_1) 0 3 1), (1, .cells (rowC (encI .i64) lh1_1) 0 3 1), (0, .cells [.int .i64 xh0_0_1, .int .i64 xh0_1_1, .int .i64 xh0_2_1] 0 23 0)]) (c' := 3) (by kernel_rfl) ?_
      cases b2 : (xh0_0_1 != 0 : Bool) with
      | false => cases (cF b2 h)
      | true =>
        have h := cT b2 h
        have e3 : insV (headI ((gsOf E0 80 (opsOf (lft (lft (lft (rgt f9_L1)))))).drop 6) (trS 80 [(3, .pointer (some ⟨0, 0, none⟩)), (4, .slice (some ⟨1, 0, none⟩) lh1_1.length lh1_1.length), (5, .int .i64 x5_1), (6, .int .i64 x6_1), (7, .slice (some ⟨2, 0, none⟩) lh2_1.length lh2_1.length), (8, .int .i64 x8_1), (10, .int .i64 x10_1), (37, .int .i64 (w64 (x9_1 + xh0_1_1))), (39, .int .i64 xh0_0_1)])) (trS 80 [(3, .pointer (some ⟨0, 0, none⟩)), (4, .slice (some ⟨1, 0, none⟩) lh1_1.length lh1_1.length), (5, .int .i64 x5_1), (6, .int .i64 x6_1), (7, .slice (some ⟨2, 0, none⟩) lh2_1.length lh2_1.length), (8, .int .i64 x8_1), (10, .int .i64 x10_1), (37, .int .i64 (w64 (x9_1 + xh0_1_1))), (39, .int .i64 xh0_0_1)]) [(2, .cells (rowC (encI .i64) lh2_1) 0 3 1), (1, .cells (rowC (encI .i64) lh1_1) 0 3 1), (0, .cells [.int .i64 xh0_0_1, .int .i64 xh0_1_1, .int .i64 xh0_2_1] 0 23 0)] = (match (xh0_0_1 != 0 : Bool) with | true => some (.int .i64 (Int.tmod (w64 (x9_1 + xh0_1_1)) xh0_0_1)) | false => none) := by kernel_rfl
        refine XR.rd E0_ok [3, 4, 5, 6, 7, 8, 10, 40] rfl (e3.trans (by rw [b2])) (σ' := [(3, .pointer (some ⟨0, 0, none⟩)), (4, .slice (some ⟨1, 0, none⟩) lh1_1.length lh1_1.length), (5, .int .i64 x5_1), (6, .int .i64 x6_1), (7, .slice (some ⟨2, 0, none⟩) lh2_1.length lh2_1.length), (8, .int .i64 x8_1), (10, .int .i64 x10_1), (40, .int .i64 (Int.tmod (w64 (x9_1 + xh0_1_1)) xh0_0_1))]) (by kernel_rfl) ?_
        refine XR.run E0_ok 1 1 [3, 4, 5, 6, 7, 8, 9, 10] rfl (σ' := [(3, .pointer (some ⟨0, 0, none⟩)), (4, .slice (some ⟨1, 0, none⟩) lh1_1.length lh1_1.length), (5, .int .i64 x5_1), (6, .int .i64 x6_1), (7, .slice (some ⟨2, 0, none⟩) lh2_1.length lh2_1.length), (8, .int .i64 x8_1), (9, .int .i64 (Int.tmod (w64 (x9_1 + xh0_1_1)) xh0_0_1)), (10, .int .i64 x10_1)]) (h' := [(2, .cells (rowC (encI .i64) lh2_1) 0 3 1), (1, .cells (rowC (encI .i64) lh1_1) 0 3 1), (0, .cells [.int .i64 xh0_0_1, .int .i64 xh0_1_1, .int .i64 xh0_2_1] 0 23 0)]) (c' := 3) (by kernel_rfl) ?_
        refine XR.done (by kernel_rfl) ?_
        show XQ _ _ _ _ _ _ _ _
        refine XQ.seq E0_ok (by kernel_rfl) ?_
        refine XQ.region (by kernel_rfl) ?_
        refine XR.run E0_ok 1 7 [3, 4, 5, 6, 7, 8, 9, 10, 11] rfl (σ' := [(3, .pointer (some ⟨0, 0, none⟩)), (4, .slice (some ⟨1, 0, none⟩) lh1_1.length lh1_1.length), (5, .int .i64 x5_1), (6, .int .i64 x6_1), (7, .slice (some ⟨2, 0, none⟩) lh2_1.length lh2_1.length), (8, .int .i64 x8_1), (9, .int .i64 (Int.tmod (w64 (x9_1 + xh0_1_1)) xh0_0_1)), (10, .int .i64 x10_1), (11, .int .i64 (iMin (Int.tmod (w64 (x9_1 + xh0_1_1)) xh0_0_1) (w64 (xh0_0_1 - (Int.tmod (w64 (x9_1 + xh0_1_1)) xh0_0_1)))))]) (h' := [(2, .cells (rowC (encI .i64) lh2_1) 0 3 1), (1, .cells (rowC (encI .i64) lh1_1) 0 3 1), (0, .cells [.int .i64 xh0_0_1, .int .i64 xh0_1_1, .int .i64 xh0_2_1] 0 23 0)]) (c' := 3) (by kernel_rfl) ?_
        refine XR.done (by kernel_rfl) ?_
        show XQ _ _ _ _ _ _ _ _
        refine XQ.seq E0_ok (by kernel_rfl) ?_
        refine XQ.region (by kernel_rfl) ?_
        refine XR.run E0_ok 1 3 [3, 4, 5, 6, 7, 8, 9, 10, 11, 49] rfl (σ' := [(3, .pointer (some ⟨0, 0, none⟩)), (4, .slice (some ⟨1, 0, none⟩) lh1_1.length lh1_1.length), (5, .int .i64 x5_1), (6, .int .i64 x6_1), (7, .slice (some ⟨2, 0, none⟩) lh2_1.length lh2_1.length), (8, .int .i64 x8_1), (9, .int .i64 (Int.tmod (w64 (x9_1 + xh0_1_1)) xh0_0_1)), (10, .int .i64 x10_1), (11, .int .i64 (iMin (Int.tmod (w64 (x9_1 + xh0_1_1)) xh0_0_1) (w64 (xh0_0_1 - (Int.tmod (w64 (x9_1 + xh0_1_1)) xh0_0_1))))), (49, .bool (decide ((iMin (Int.tmod (w64 (x9_1 + xh0_1_1)) xh0_0_1) (w64 (xh0_0_1 - (Int.tmod (w64 (x9_1 + xh0_1_1)) xh0_0_1)))) < x8_1)))]) (h' := [(2, .cells (rowC (encI .i64) lh2_1) 0 3 1), (1, .cells (rowC (encI .i64) lh1_1) 0 3 1), (0, .cells [.int .i64 xh0_0_1, .int .i64 xh0_1_1, .int .i64 xh0_2_1] 0 23 0)]) (c' := 3) (by kernel_rfl) ?_
        refine XR.done (by kernel_rfl) ?_
        show XQ _ _ _ _ _ _ _ _
        cases b4 : (decide ((iMin (Int.tmod (w64 (x9_1 + xh0_1_1)) xh0_0_1) (w64 (xh0_0_1 - (Int.tmod (w64 (x9_1 + xh0_1_1)) xh0_0_1)))) < x8_1) : Bool) with
        | true =>
          have h := cT b4 h
          refine XQ.cond (s := (.tmp 49)) (b := true) (by kernel_rfl) (by kernel_rfl) (fun _ => ?_) (fun q => by cases q)
          refine XQ.seq E0_ok (by kernel_rfl) ?_
          refine XQ.region (by kernel_rfl) ?_
          refine XR.run E0_ok 1 3 [3, 4, 5, 6, 9, 10, 11, 50, 52] rfl (σ' := [(3, .pointer (some ⟨0, 0, none⟩)), (4, .slice (some ⟨1, 0, none⟩) lh1_1.length lh1_1.length), (5, .int .i64 x5_1), (6, .int .i64 x6_1), (9, .int .i64 (Int.tmod (w64 (x9_1 + xh0_1_1)) xh0_0_1)), (10, .int .i64 x10_1), (11, .int .i64 (iMin (Int.tmod (w64 (x9_1 + xh0_1_1)) xh0_0_1) (w64 (xh0_0_1 - (Int.tmod (w64 (x9_1 + xh0_1_1)) xh0_0_1))))), (50, .slice (some ⟨2, 0, none⟩) lh2_1.length lh2_1.length), (52, .slice (some ⟨3, 0, none⟩) 1 1)]) (h' := [(3, .cells [.int .i64 x10_1] 0 3 1), (2, .cells (rowC (encI .i64) lh2_1) 0 3 1), (1, .cells (rowC (encI .i64) lh1_1) 0 3 1), (0, .cells [.int .i64 xh0_0_1, .int .i64 xh0_1_1, .int .i64 xh0_2_1] 0 23 0)]) (c' := 4) (by kernel_rfl) ?_
          cases b5 : (fitsB (lh2_1.length + 1) 8 : Bool) with
          | false => cases (cF b5 h)
          | true =>
            have h := cT b5 h
            refine XR.ef E0_ok [3, 4, 5, 6, 9, 10, 11, 53] rfl (e_append (encI_ok .i64) (bytes := 8) (e := 3) (x := (src 80 (.tmp 50))) (y := (src 80 (.tmp 52))) (b := 2) (len := lh2_1.length) (cap := lh2_1.length) (xs := lh2_1) (m := 0) (ys := [x10_1]) (d := (some (path 12 53))) (n' := (lh2_1 ++ [x10_1]).length) (h' := [(4, .cells (rowC (encI .i64) (lh2_1 ++ [x10_1])) 0 3 1), (3, .cells [.int .i64 x10_1] 0 3 1), (1, .cells (rowC (encI .i64) lh1_1) 0 3 1), (0, .cells [.int .i64 xh0_0_1, .int .i64 xh0_1_1, .int .i64 xh0_2_1] 0 23 0)]) (by kernel_rfl) (by kernel_rfl) (by kernel_rfl) (by kernel_rfl) rfl (by simp) (by simp) b5 (by simp) (by kernel_rfl)) (σ' := [(3, .pointer (some ⟨0, 0, none⟩)), (4, .slice (some ⟨1, 0, none⟩) lh1_1.length lh1_1.length), (5, .int .i64 x5_1), (6, .int .i64 x6_1), (9, .int .i64 (Int.tmod (w64 (x9_1 + xh0_1_1)) xh0_0_1)), (10, .int .i64 x10_1), (11, .int .i64 (iMin (Int.tmod (w64 (x9_1 + xh0_1_1)) xh0_0_1) (w64 (xh0_0_1 - (Int.tmod (w64 (x9_1 + xh0_1_1)) xh0_0_1))))), (53, .slice (some ⟨4, 0, none⟩) ((lh2_1 ++ [x10_1]).length) ((lh2_1 ++ [x10_1]).length))]) (by kernel_rfl) ?_
            refine XR.run E0_ok 1 1 [3, 4, 5, 6, 7, 9, 10, 11] rfl (σ' := [(3, .pointer (some ⟨0, 0, none⟩)), (4, .slice (some ⟨1, 0, none⟩) lh1_1.length lh1_1.length), (5, .int .i64 x5_1), (6, .int .i64 x6_1), (7, .slice (some ⟨4, 0, none⟩) ((lh2_1 ++ [x10_1]).length) ((lh2_1 ++ [x10_1]).length)), (9, .int .i64 (Int.tmod (w64 (x9_1 + xh0_1_1)) xh0_0_1)), (10, .int .i64 x10_1), (11, .int .i64 (iMin (Int.tmod (w64 (x9_1 + xh0_1_1)) xh0_0_1) (w64 (xh0_0_1 - (Int.tmod (w64 (x9_1 + xh0_1_1)) xh0_0_1)))))]) (h' := [(4, .cells (rowC (encI .i64) (lh2_1 ++ [x10_1])) 0 3 1), (3, .cells [.int .i64 x10_1] 0 3 1), (1, .cells (rowC (encI .i64) lh1_1) 0 3 1), (0, .cells [.int .i64 xh0_0_1, .int .i64 xh0_1_1, .int .i64 xh0_2_1] 0 23 0)]) (c' := 5) (by kernel_rfl) ?_
            refine XR.done (by kernel_rfl) ?_
            show XQ _ _ _ _ _ _ _ _
            refine XQ.region (by kernel_rfl) ?_
            refine XR.run E0_ok 1 2 [3, 4, 5, 6, 7, 8, 9, 10] rfl (σ' := [(3, .pointer (some ⟨0, 0, none⟩)), (4, .slice (some ⟨1, 0, none⟩) lh1_1.length lh1_1.length), (5, .int .i64 x5_1), (6, .int .i64 x6_1), (7, .slice (some ⟨4, 0, none⟩) ((lh2_1 ++ [x10_1]).length) ((lh2_1 ++ [x10_1]).length)), (8, .int .i64 (iMin (Int.tmod (w64 (x9_1 + xh0_1_1)) xh0_0_1) (w64 (xh0_0_1 - (Int.tmod (w64 (x9_1 + xh0_1_1)) xh0_0_1))))), (9, .int .i64 (Int.tmod (w64 (x9_1 + xh0_1_1)) xh0_0_1)), (10, .int .i64 x10_1)]) (h' := [(4, .cells (rowC (encI .i64) (lh2_1 ++ [x10_1])) 0 3 1), (3, .cells [.int .i64 x10_1] 0 3 1), (1, .cells (rowC (encI .i64) lh1_1) 0 3 1), (0, .cells [.int .i64 xh0_0_1, .int .i64 xh0_1_1, .int .i64 xh0_2_1] 0 23 0)]) (c' := 5) (by kernel_rfl) ?_
            refine XR.done (by kernel_rfl) ?_
            show XQ _ _ _ _ _ _ _ _
            refine XQ.region (by kernel_rfl) ?_
            refine XR.run E0_ok 1 3 [3, 4, 5, 6, 7, 8, 9, 10] rfl (σ' := [(3, .pointer (some ⟨0, 0, none⟩)), (4, .slice (some ⟨1, 0, none⟩) lh1_1.length lh1_1.length), (5, .int .i64 x5_1), (6, .int .i64 x6_1), (7, .slice (some ⟨4, 0, none⟩) ((lh2_1 ++ [x10_1]).length) ((lh2_1 ++ [x10_1]).length)), (8, .int .i64 (iMin (Int.tmod (w64 (x9_1 + xh0_1_1)) xh0_0_1) (w64 (xh0_0_1 - (Int.tmod (w64 (x9_1 + xh0_1_1)) xh0_0_1))))), (9, .int .i64 (Int.tmod (w64 (x9_1 + xh0_1_1)) xh0_0_1)), (10, .int .i64 (w64 (x10_1 + 1)))]) (h' := [(4, .cells (rowC (encI .i64) (lh2_1 ++ [x10_1])) 0 3 1), (3, .cells [.int .i64 x10_1] 0 3 1), (1, .cells (rowC (encI .i64) lh1_1) 0 3 1), (0, .cells [.int .i64 xh0_0_1, .int .i64 xh0_1_1, .int .i64 xh0_2_1] 0 23 0)]) (c' := 5) (by kernel_rfl) ?_
            refine XR.done (by kernel_rfl) ?_
            show XL _ _ _ _ _ _ _ _ _
            refine XL.ren (σ' := [(3, .pointer (some ⟨0, 0, none⟩)), (4, .slice (some ⟨1, 0, none⟩) lh1_1.length lh1_1.length), (5, .int .i64 x5_1), (6, .int .i64 x6_1), (7, .slice (some ⟨2, 0, none⟩) ((lh2_1 ++ [x10_1]).length) ((lh2_1 ++ [x10_1]).length)), (8, .int .i64 (iMin (Int.tmod (w64 (x9_1 + xh0_1_1)) xh0_0_1) (w64 (xh0_0_1 - (Int.tmod (w64 (x9_1 + xh0_1_1)) xh0_0_1))))), (9, .int .i64 (Int.tmod (w64 (x9_1 + xh0_1_1)) xh0_0_1)), (10, .int .i64 (w64 (x10_1 + 1)))]) (h' := [(2, .cells (rowC (encI .i64) (lh2_1 ++ [x10_1])) 0 3 1), (1, .cells (rowC (encI .i64) lh1_1) 0 3 1), (0, .cells [.int .i64 xh0_0_1, .int .i64 xh0_1_1, .int .i64 xh0_2_1] 0 23 0)]) (c' := 3) [0, 1, 4] (by decide) rfl ⟨by kernel_rfl, by kernel_rfl, by kernel_rfl, by kernel_rfl, by kernel_rfl, by kernel_rfl, by kernel_rfl, by kernel_rfl, trivial⟩ ⟨⟨_, _, rfl, rfl, .inl ⟨rfl, rowC_scal (encI_ok .i64) _⟩⟩, ⟨_, _, rfl, rfl, .inl ⟨rfl, rowC_scal (encI_ok .i64) _⟩⟩, ⟨_, _, rfl, rfl, .inr ⟨_, _, _, _, rfl, rfl⟩⟩, trivial⟩ rfl ?_
            refine XL.conv (f9_1_ok m fuel x5_1 x6_1 (iMin (Int.tmod (w64 (x9_1 + xh0_1_1)) xh0_0_1) (w64 (xh0_0_1 - (Int.tmod (w64 (x9_1 + xh0_1_1)) xh0_0_1)))) (Int.tmod (w64 (x9_1 + xh0_1_1)) xh0_0_1) (w64 (x10_1 + 1)) xh0_0_1 xh0_1_1 xh0_2_1 lh1_1 (lh2_1 ++ [x10_1]) o h Q hQ) (by first | rfl | simp)
        | false =>
          have h := cF b4 h
          refine XQ.cond (s := (.tmp 49)) (b := false) (by kernel_rfl) (by kernel_rfl) (fun q => by cases q) (fun _ => ?_)
          refine XQ.skip (by kernel_rfl) ?_
          show XQ _ _ _ _ _ _ _ _
          refine XQ.region (by kernel_rfl) ?_
          refine XR.run E0_ok 1 3 [3, 4, 5, 6, 7, 8, 9, 10] rfl (σ' := [(3, .pointer (some ⟨0, 0, none⟩)), (4, .slice (some ⟨1, 0, none⟩) lh1_1.length lh1_1.length), (5, .int .i64 x5_1), (6, .int .i64 x6_1), (7, .slice (some ⟨2, 0, none⟩) lh2_1.length lh2_1.length), (8, .int .i64 x8_1), (9, .int .i64 (Int.tmod (w64 (x9_1 + xh0_1_1)) xh0_0_1)), (10, .int .i64 (w64 (x10_1 + 1)))]) (h' := [(2, .cells (rowC (encI .i64) lh2_1) 0 3 1), (1, .cells (rowC (encI .i64) lh1_1) 0 3 1), (0, .cells [.int .i64 xh0_0_1, .int .i64 xh0_1_1, .int .i64 xh0_2_1] 0 23 0)]) (c' := 3) (by kernel_rfl) ?_
          refine XR.done (by kernel_rfl) ?_
          show XL _ _ _ _ _ _ _ _ _
          refine XL.ren (σ' := [(3, .pointer (some ⟨0, 0, none⟩)), (4, .slice (some ⟨1, 0, none⟩) lh1_1.length lh1_1.length), (5, .int .i64 x5_1), (6, .int .i64 x6_1), (7, .slice (some ⟨2, 0, none⟩) lh2_1.length lh2_1.length), (8, .int .i64 x8_1), (9, .int .i64 (Int.tmod (w64 (x9_1 + xh0_1_1)) xh0_0_1)), (10, .int .i64 (w64 (x10_1 + 1)))]) (h' := [(2, .cells (rowC (encI .i64) lh2_1) 0 3 1), (1, .cells (rowC (encI .i64) lh1_1) 0 3 1), (0, .cells [.int .i64 xh0_0_1, .int .i64 xh0_1_1, .int .i64 xh0_2_1] 0 23 0)]) (c' := 3) [0, 1, 2] (by decide) rfl ⟨by kernel_rfl, by kernel_rfl, by kernel_rfl, by kernel_rfl, by kernel_rfl, by kernel_rfl, by kernel_rfl, by kernel_rfl, trivial⟩ ⟨⟨_, _, rfl, rfl, .inl ⟨rfl, rowC_scal (encI_ok .i64) _⟩⟩, ⟨_, _, rfl, rfl, .inl ⟨rfl, rowC_scal (encI_ok .i64) _⟩⟩, ⟨_, _, rfl, rfl, .inr ⟨_, _, _, _, rfl, rfl⟩⟩, trivial⟩ rfl ?_
          refine XL.conv (f9_1_ok m fuel x5_1 x6_1 x8_1 (Int.tmod (w64 (x9_1 + xh0_1_1)) xh0_0_1) (w64 (x10_1 + 1)) xh0_0_1 xh0_1_1 xh0_2_1 lh1_1 lh2_1 o h Q hQ) (by first | rfl | simp)
    | false =>
      have h := cF b1 h
      refine XQ.cond (s := (.tmp 31)) (b := false) (by kernel_rfl) (by kernel_rfl) (fun q => by cases q) (fun _ => ?_)
      refine XQ.ren (σ' := [(4, .slice (some ⟨0, 0, none⟩) lh1_1.length lh1_1.length), (5, .int .i64 x5_1), (6, .int .i64 x6_1), (7, .slice (some ⟨1, 0, none⟩) lh2_1.length lh2_1.length)]) (h' := [(1, .cells (rowC (encI .i64) lh2_1) 0 3 1), (0, .cells (rowC (encI .i64) lh1_1) 0 3 1)]) (c' := 2) [1, 2] (by decide) rfl ⟨by kernel_rfl, by kernel_rfl, by kernel_rfl, by kernel_rfl, trivial⟩ ⟨⟨_, _, rfl, rfl, .inl ⟨rfl, rowC_scal (encI_ok .i64) _⟩⟩, ⟨_, _, rfl, rfl, .inl ⟨rfl, rowC_scal (encI_ok .i64) _⟩⟩, trivial⟩ rfl ?_
      refine XQ.exit (i := 0) (by kernel_rfl) ?_
      cases h
      exact hQ

def f9 (m : Nat) (a_Marks : Int) (a_Step : Int) (a_Turns : Int) : Option (Bool) :=
  cond ((w64 (1 + (Int.tmod (w64 a_Marks) 100))) != 0) (
    (f47 m (w64 (1 + (Int.tmod (w64 a_Marks) 100))) (Int.tmod (w64 a_Step) (w64 (1 + (Int.tmod (w64 a_Marks) 100))))).bind fun r1 =>
      cond (r1 != 0) (
        (f39 m (w64 (1 + (Int.tmod (w64 a_Marks) 100))) (Int.tmod (w64 a_Step) (w64 (1 + (Int.tmod (w64 a_Marks) 100))))).bind fun r2 =>
          (f47 m (w64 (1 + (Int.tmod (w64 a_Marks) 100))) (Int.tmod (w64 a_Step) (w64 (1 + (Int.tmod (w64 a_Marks) 100))))).bind fun r3 =>
            (f9_1 m m r2.2 r3 (w64 (1 + (Int.tmod (w64 a_Marks) 100))) 0 1 (w64 (1 + (Int.tmod (w64 a_Marks) 100))) (Int.tmod (w64 a_Step) (w64 (1 + (Int.tmod (w64 a_Marks) 100)))) (w64 (1 + (Int.tmod (w64 a_Turns) r1))) r2.1 []).bind fun o1 =>
              cond (o1.1 == 0) (
                (f35 m o1.2.2.1 o1.2.2.2).bind fun r4 =>
                  cond (r4) (
                    cond (decide (((o1.2.2.1.length : Nat) : Int) > 0)) (
                      cond (inRow (w64 (((o1.2.2.1.length : Nat) : Int) - 1)) o1.2.2.1.length) (
                        cond ((List.getD o1.2.2.1 (Int.toNat (w64 (((o1.2.2.1.length : Nat) : Int) - 1))) 0) == o1.2.1) (
                          some (true)
                        ) (
                          some (false)
                        )
                      ) none
                    ) (
                      some (false)
                    )
                  ) (
                    some (false)
                  )
              ) (
                some (false)
              )
      ) none
  ) none

theorem f9_ok (m : Nat) (a_Marks : Int) (a_Step : Int) (a_Turns : Int) (o : Bool) (h : f9 m a_Marks a_Step a_Turns = some o) (w : World) (hI : anyInv w) : Calls Proofs.Try.prog 9 #[.agg #[.int .u8 a_Marks, .int .u8 a_Step, .int .u8 a_Turns]] w fun e w' => e = .returned (.bool o) ∧ Below w.heap.size w w' := by
  refine KC.calls (E := E0) (args := [.agg #[.int .u8 a_Marks, .int .u8 a_Step, .int .u8 a_Turns]]) (v := .bool o) rfl rfl (KC.bodyN E0_ok (F := Proofs.Try.f9) (by kernel_rfl) (code := f9_C9) (by kernel_rfl) (nt := 80) (by kernel_rfl) (rs := [.tmp 2]) (by kernel_rfl) (by kernel_rfl) (σ := [(0, .agg #[.int .u8 a_Marks, .int .u8 a_Step, .int .u8 a_Turns])]) (by kernel_rfl) ?_) w (anyInv_size hI) hI
  unfold f9 at h
  refine XQ.seq E0_ok (by kernel_rfl) ?_
  refine XQ.region (by kernel_rfl) ?_
  refine XR.run E0_ok 1 2 [1] rfl (σ' := [(1, .pointer (some ⟨0, 0, none⟩))]) (h' := [(0, .cells [.int .u8 a_Marks, .int .u8 a_Step, .int .u8 a_Turns] 0 52 0)]) (c' := 1) (by kernel_rfl) ?_
  refine XR.done (by kernel_rfl) ?_
  show XQ _ _ _ _ _ _ _ _
  refine XQ.seq E0_ok (by kernel_rfl) ?_
  refine XQ.region (by kernel_rfl) ?_
  refine XR.run E0_ok 1 1 [12] rfl (σ' := [(12, .agg #[.int .u8 a_Marks, .int .u8 a_Step, .int .u8 a_Turns])]) (h' := [(0, .cells [.int .u8 a_Marks, .int .u8 a_Step, .int .u8 a_Turns] 0 52 0)]) (c' := 1) (by kernel_rfl) ?_
  refine XR.callK E0_ok [13] rfl (K := 45) (args := [.agg #[.int .u8 a_Marks, .int .u8 a_Step, .int .u8 a_Turns], .int .i64 100]) (d := (some (path 12 13))) (by kernel_rfl) ?_
  refine KC.bodyN E0_ok (F := Proofs.Try.f45) (by kernel_rfl) (code := f9_C45) (by kernel_rfl) (nt := 32) (by kernel_rfl) (rs := [.cell 4 23]) (by kernel_rfl) (by kernel_rfl) (σ := [(0, .agg #[.int .u8 a_Marks, .int .u8 a_Step, .int .u8 a_Turns]), (1, .int .i64 100)]) (by kernel_rfl) ?_
  refine XQ.seq E0_ok (by kernel_rfl) ?_
  refine XQ.region (by kernel_rfl) ?_
  refine XR.run E0_ok 1 2 [1, 2, 4] rfl (σ' := [(1, .int .i64 100), (2, .pointer (some ⟨1, 0, none⟩)), (4, .pointer (some ⟨2, 0, none⟩))]) (h' := [(2, .cells [.int .i64 0, .int .i64 0, .int .i64 0] 0 23 0), (1, .cells [.int .u8 a_Marks, .int .u8 a_Step, .int .u8 a_Turns] 0 52 0), (0, .cells [.int .u8 a_Marks, .int .u8 a_Step, .int .u8 a_Turns] 0 52 0)]) (c' := 3) (by kernel_rfl) ?_
  refine XR.done (by kernel_rfl) ?_
  show XQ _ _ _ _ _ _ _ _
  refine XQ.seq E0_ok (by kernel_rfl) ?_
  refine XQ.region (by kernel_rfl) ?_
  refine XR.run E0_ok 1 9 [2, 4, 5] rfl (σ' := [(2, .pointer (some ⟨1, 0, none⟩)), (4, .pointer (some ⟨2, 0, none⟩)), (5, .pointer (some ⟨3, 0, none⟩))]) (h' := [(3, .cells [.int .i64 (w64 (1 + (Int.tmod (w64 a_Marks) 100))), .int .i64 0, .int .i64 0] 0 23 0), (2, .cells [.int .i64 0, .int .i64 0, .int .i64 0] 0 23 0), (1, .cells [.int .u8 a_Marks, .int .u8 a_Step, .int .u8 a_Turns] 0 52 0), (0, .cells [.int .u8 a_Marks, .int .u8 a_Step, .int .u8 a_Turns] 0 52 0)]) (c' := 4) (by kernel_rfl) ?_
  refine XR.done (by kernel_rfl) ?_
  show XQ _ _ _ _ _ _ _ _
  refine XQ.seq E0_ok (by kernel_rfl) ?_
  refine XQ.region (by kernel_rfl) ?_
  refine XR.run E0_ok 1 5 [2, 4, 5, 15, 17] rfl (σ' := [(2, .pointer (some ⟨1, 0, none⟩)), (4, .pointer (some ⟨2, 0, none⟩)), (5, .pointer (some ⟨3, 0, none⟩)), (15, .int .i64 (w64 a_Step)), (17, .int .i64 (w64 (1 + (Int.tmod (w64 a_Marks) 100))))]) (h' := [(3, .cells [.int .i64 (w64 (1 + (Int.tmod (w64 a_Marks) 100))), .int .i64 0, .int .i64 0] 0 23 0), (2, .cells [.int .i64 0, .int .i64 0, .int .i64 0] 0 23 0), (1, .cells [.int .u8 a_Marks, .int .u8 a_Step, .int .u8 a_Turns] 0 52 0), (0, .cells [.int .u8 a_Marks, .int .u8 a_Step, .int .u8 a_Turns] 0 52 0)]) (c' := 4) (by kernel_rfl) ?_
  cases b1 : ((w64 (1 + (Int.tmod (w64 a_Marks) 100))) != 0 : Bool) with
  | false => cases (cF b1 h)
  | true =>
    have h := cT b1 h
    have e2 : insV (headI ((gsOf E0 32 (opsOf (lft (rgt (rgt f9_C45))))).drop 5) (trS 32 [(2, .pointer (some ⟨1, 0, none⟩)), (4, .pointer (some ⟨2, 0, none⟩)), (5, .pointer (some ⟨3, 0, none⟩)), (15, .int .i64 (w64 a_Step)), (17, .int .i64 (w64 (1 + (Int.tmod (w64 a_Marks) 100))))])) (trS 32 [(2, .pointer (some ⟨1, 0, none⟩)), (4, .pointer (some ⟨2, 0, none⟩)), (5, .pointer (some ⟨3, 0, none⟩)), (15, .int .i64 (w64 a_Step)), (17, .int .i64 (w64 (1 + (Int.tmod (w64 a_Marks) 100))))]) [(3, .cells [.int .i64 (w64 (1 + (Int.tmod (w64 a_Marks) 100))), .int .i64 0, .int .i64 0] 0 23 0), (2, .cells [.int .i64 0, .int .i64 0, .int .i64 0] 0 23 0), (1, .cells [.int .u8 a_Marks, .int .u8 a_Step, .int .u8 a_Turns] 0 52 0), (0, .cells [.int .u8 a_Marks, .int .u8 a_Step, .int .u8 a_Turns] 0 52 0)] = (match ((w64 (1 + (Int.tmod (w64 a_Marks) 100))) != 0 : Bool) with | true => some (.int .i64 (Int.tmod (w64 a_Step) (w64 (1 + (Int.tmod (w64 a_Marks) 100))))) | false => none) := by kernel_rfl
    refine XR.rd E0_ok [2, 4, 5, 18] rfl (e2.trans (by rw [b1])) (σ' := [(2, .pointer (some ⟨1, 0, none⟩)), (4, .pointer (some ⟨2, 0, none⟩)), (5, .pointer (some ⟨3, 0, none⟩)), (18, .int .i64 (Int.tmod (w64 a_Step) (w64 (1 + (Int.tmod (w64 a_Marks) 100)))))]) (by kernel_rfl) ?_
    refine XR.run E0_ok 1 2 [2, 4, 5] rfl (σ' := [(2, .pointer (some ⟨1, 0, none⟩)), (4, .pointer (some ⟨2, 0, none⟩)), (5, .pointer (some ⟨3, 0, none⟩))]) (h' := [(3, .cells [.int .i64 (w64 (1 + (Int.tmod (w64 a_Marks) 100))), .int .i64 (Int.tmod (w64 a_Step) (w64 (1 + (Int.tmod (w64 a_Marks) 100)))), .int .i64 0] 0 23 0), (2, .cells [.int .i64 0, .int .i64 0, .int .i64 0] 0 23 0), (1, .cells [.int .u8 a_Marks, .int .u8 a_Step, .int .u8 a_Turns] 0 52 0), (0, .cells [.int .u8 a_Marks, .int .u8 a_Step, .int .u8 a_Turns] 0 52 0)]) (c' := 4) (by kernel_rfl) ?_
    refine XR.done (by kernel_rfl) ?_
    show XQ _ _ _ _ _ _ _ _
    refine XQ.seq E0_ok (by kernel_rfl) ?_
    refine XQ.qtail E0_ok [0, 1, 2, 3, 4, 5, 6, 7, 8, 9, 10] 11 [] (by kernel_rfl) (by kernel_rfl) (by kernel_rfl) ?_
    refine XU.run E0_ok 1 7 [4, 5, 22, 24, 26] rfl (σ' := [(4, .pointer (some ⟨2, 0, none⟩)), (5, .pointer (some ⟨3, 0, none⟩)), (22, .int .i64 (w64 a_Turns)), (24, .int .i64 (w64 (1 + (Int.tmod (w64 a_Marks) 100)))), (26, .int .i64 (Int.tmod (w64 a_Step) (w64 (1 + (Int.tmod (w64 a_Marks) 100)))))]) (by kernel_rfl) ?_
    obtain ⟨r1, r1_h, h⟩ := bS h
    refine XU.call E0_ok [4, 5, 22, 27] rfl (K := 47) (F := Proofs.Try.f47) (args := [.int .i64 (w64 (1 + (Int.tmod (w64 a_Marks) 100))), .int .i64 (Int.tmod (w64 a_Step) (w64 (1 + (Int.tmod (w64 a_Marks) 100))))]) (d := (some (path 12 27))) (v := .int .i64 r1) (by kernel_rfl) (by kernel_rfl) rfl rfl (fun w hI => f47_ok m (w64 (1 + (Int.tmod (w64 a_Marks) 100))) (Int.tmod (w64 a_Step) (w64 (1 + (Int.tmod (w64 a_Marks) 100)))) r1 r1_h w hI) (σ' := [(4, .pointer (some ⟨2, 0, none⟩)), (5, .pointer (some ⟨3, 0, none⟩)), (22, .int .i64 (w64 a_Turns)), (27, .int .i64 r1)]) (by kernel_rfl) ?_
    cases b3 : (r1 != 0 : Bool) with
    | false => cases (cF b3 h)
    | true =>
      have h := cT b3 h
      have e4 : insV (headI ((gsOf E0 32 (reOps (opsOf (lft (rgt (rgt (rgt f9_C45))))) [0, 1, 2, 3, 4, 5, 6, 7, 8, 9, 10])).drop 8) (trS 32 [(4, .pointer (some ⟨2, 0, none⟩)), (5, .pointer (some ⟨3, 0, none⟩)), (22, .int .i64 (w64 a_Turns)), (27, .int .i64 r1)])) (trS 32 [(4, .pointer (some ⟨2, 0, none⟩)), (5, .pointer (some ⟨3, 0, none⟩)), (22, .int .i64 (w64 a_Turns)), (27, .int .i64 r1)]) [(3, .cells [.int .i64 (w64 (1 + (Int.tmod (w64 a_Marks) 100))), .int .i64 (Int.tmod (w64 a_Step) (w64 (1 + (Int.tmod (w64 a_Marks) 100)))), .int .i64 0] 0 23 0), (2, .cells [.int .i64 0, .int .i64 0, .int .i64 0] 0 23 0), (1, .cells [.int .u8 a_Marks, .int .u8 a_Step, .int .u8 a_Turns] 0 52 0), (0, .cells [.int .u8 a_Marks, .int .u8 a_Step, .int .u8 a_Turns] 0 52 0)] = (match (r1 != 0 : Bool) with | true => some (.int .i64 (Int.tmod (w64 a_Turns) r1)) | false => none) := by kernel_rfl
      refine XU.rd E0_ok [4, 5, 28] rfl (e4.trans (by rw [b3])) (σ' := [(4, .pointer (some ⟨2, 0, none⟩)), (5, .pointer (some ⟨3, 0, none⟩)), (28, .int .i64 (Int.tmod (w64 a_Turns) r1))]) (by kernel_rfl) ?_
      refine XU.run E0_ok 1 2 [4, 5, 29, 30] rfl (σ' := [(4, .pointer (some ⟨2, 0, none⟩)), (5, .pointer (some ⟨3, 0, none⟩)), (29, .int .i64 (w64 (1 + (Int.tmod (w64 a_Turns) r1)))), (30, .pointer (some ⟨3, 2, none⟩))]) (by kernel_rfl) ?_
      refine XU.done (by kernel_rfl) ?_
      show XR _ _ _ _ _ _ _ _ _
      refine XR.run E0_ok 1 1 [4, 5] rfl (σ' := [(4, .pointer (some ⟨2, 0, none⟩)), (5, .pointer (some ⟨3, 0, none⟩))]) (h' := [(3, .cells [.int .i64 (w64 (1 + (Int.tmod (w64 a_Marks) 100))), .int .i64 (Int.tmod (w64 a_Step) (w64 (1 + (Int.tmod (w64 a_Marks) 100)))), .int .i64 (w64 (1 + (Int.tmod (w64 a_Turns) r1)))] 0 23 0), (2, .cells [.int .i64 0, .int .i64 0, .int .i64 0] 0 23 0), (1, .cells [.int .u8 a_Marks, .int .u8 a_Step, .int .u8 a_Turns] 0 52 0), (0, .cells [.int .u8 a_Marks, .int .u8 a_Step, .int .u8 a_Turns] 0 52 0)]) (c' := 4) (by kernel_rfl) ?_
      refine XR.done (by kernel_rfl) ?_
      show XQ _ _ _ _ _ _ _ _
      refine XQ.seq E0_ok (by kernel_rfl) ?_
      refine XQ.region (by kernel_rfl) ?_
      refine XR.run E0_ok 1 2 [4] rfl (σ' := [(4, .pointer (some ⟨2, 0, none⟩))]) (h' := [(3, .cells [.int .i64 (w64 (1 + (Int.tmod (w64 a_Marks) 100))), .int .i64 (Int.tmod (w64 a_Step) (w64 (1 + (Int.tmod (w64 a_Marks) 100)))), .int .i64 (w64 (1 + (Int.tmod (w64 a_Turns) r1)))] 0 23 0), (2, .cells [.int .i64 (w64 (1 + (Int.tmod (w64 a_Marks) 100))), .int .i64 (Int.tmod (w64 a_Step) (w64 (1 + (Int.tmod (w64 a_Marks) 100)))), .int .i64 (w64 (1 + (Int.tmod (w64 a_Turns) r1)))] 0 23 0), (1, .cells [.int .u8 a_Marks, .int .u8 a_Step, .int .u8 a_Turns] 0 52 0), (0, .cells [.int .u8 a_Marks, .int .u8 a_Step, .int .u8 a_Turns] 0 52 0)]) (c' := 4) (by kernel_rfl) ?_
      refine XR.done (by kernel_rfl) ?_
      show XQ _ _ _ _ _ _ _ _
      refine XQ.ret (by kernel_rfl) ?_
      refine ⟨fun i q => (by cases q), .agg #[.int .i64 (w64 (1 + (Int.tmod (w64 a_Marks) 100))), .int .i64 (Int.tmod (w64 a_Step) (w64 (1 + (Int.tmod (w64 a_Marks) 100)))), .int .i64 (w64 (1 + (Int.tmod (w64 a_Turns) r1)))], (by kernel_rfl), ?_⟩
      refine XR.conv (σ' := [(13, .agg #[.int .i64 (w64 (1 + (Int.tmod (w64 a_Marks) 100))), .int .i64 (Int.tmod (w64 a_Step) (w64 (1 + (Int.tmod (w64 a_Marks) 100)))), .int .i64 (w64 (1 + (Int.tmod (w64 a_Turns) r1)))])]) (h' := [(3, .cells [.int .i64 (w64 (1 + (Int.tmod (w64 a_Marks) 100))), .int .i64 (Int.tmod (w64 a_Step) (w64 (1 + (Int.tmod (w64 a_Marks) 100)))), .int .i64 (w64 (1 + (Int.tmod (w64 a_Turns) r1)))] 0 23 0), (2, .cells [.int .i64 (w64 (1 + (Int.tmod (w64 a_Marks) 100))), .int .i64 (Int.tmod (w64 a_Step) (w64 (1 + (Int.tmod (w64 a_Marks) 100)))), .int .i64 (w64 (1 + (Int.tmod (w64 a_Turns) r1)))] 0 23 0), (1, .cells [.int .u8 a_Marks, .int .u8 a_Step, .int .u8 a_Turns] 0 52 0), (0, .cells [.int .u8 a_Marks, .int .u8 a_Step, .int .u8 a_Turns] 0 52 0)]) (c' := 4) ?_ (by kernel_rfl)
      refine XR.run E0_ok 1 2 [3] rfl (σ' := [(3, .pointer (some ⟨4, 0, none⟩))]) (h' := [(4, .cells [.int .i64 (w64 (1 + (Int.tmod (w64 a_Marks) 100))), .int .i64 (Int.tmod (w64 a_Step) (w64 (1 + (Int.tmod (w64 a_Marks) 100)))), .int .i64 (w64 (1 + (Int.tmod (w64 a_Turns) r1)))] 0 23 0), (3, .cells [.int .i64 (w64 (1 + (Int.tmod (w64 a_Marks) 100))), .int .i64 (Int.tmod (w64 a_Step) (w64 (1 + (Int.tmod (w64 a_Marks) 100)))), .int .i64 (w64 (1 + (Int.tmod (w64 a_Turns) r1)))] 0 23 0), (2, .cells [.int .i64 (w64 (1 + (Int.tmod (w64 a_Marks) 100))), .int .i64 (Int.tmod (w64 a_Step) (w64 (1 + (Int.tmod (w64 a_Marks) 100)))), .int .i64 (w64 (1 + (Int.tmod (w64 a_Turns) r1)))] 0 23 0), (1, .cells [.int .u8 a_Marks, .int .u8 a_Step, .int .u8 a_Turns] 0 52 0), (0, .cells [.int .u8 a_Marks, .int .u8 a_Step, .int .u8 a_Turns] 0 52 0)]) (c' := 5) (by kernel_rfl) ?_
      refine XR.done (by kernel_rfl) ?_
      show XQ _ _ _ _ _ _ _ _
      refine XQ.seq E0_ok (by kernel_rfl) ?_
      refine XQ.region (by kernel_rfl) ?_
      refine XR.run E0_ok 1 4 [3, 16, 18] rfl (σ' := [(3, .pointer (some ⟨4, 0, none⟩)), (16, .int .i64 (w64 (1 + (Int.tmod (w64 a_Marks) 100)))), (18, .int .i64 (Int.tmod (w64 a_Step) (w64 (1 + (Int.tmod (w64 a_Marks) 100)))))]) (h' := [(4, .cells [.int .i64 (w64 (1 + (Int.tmod (w64 a_Marks) 100))), .int .i64 (Int.tmod (w64 a_Step) (w64 (1 + (Int.tmod (w64 a_Marks) 100)))), .int .i64 (w64 (1 + (Int.tmod (w64 a_Turns) r1)))] 0 23 0), (3, .cells [.int .i64 (w64 (1 + (Int.tmod (w64 a_Marks) 100))), .int .i64 (Int.tmod (w64 a_Step) (w64 (1 + (Int.tmod (w64 a_Marks) 100)))), .int .i64 (w64 (1 + (Int.tmod (w64 a_Turns) r1)))] 0 23 0), (2, .cells [.int .i64 (w64 (1 + (Int.tmod (w64 a_Marks) 100))), .int .i64 (Int.tmod (w64 a_Step) (w64 (1 + (Int.tmod (w64 a_Marks) 100)))), .int .i64 (w64 (1 + (Int.tmod (w64 a_Turns) r1)))] 0 23 0), (1, .cells [.int .u8 a_Marks, .int .u8 a_Step, .int .u8 a_Turns] 0 52 0), (0, .cells [.int .u8 a_Marks, .int .u8 a_Step, .int .u8 a_Turns] 0 52 0)]) (c' := 5) (by kernel_rfl) ?_
      obtain ⟨r2, r2_h, h⟩ := bS h
      refine XR.call E0_ok [3, 19] rfl (K := 39) (args := [.int .i64 (w64 (1 + (Int.tmod (w64 a_Marks) 100))), .int .i64 (Int.tmod (w64 a_Step) (w64 (1 + (Int.tmod (w64 a_Marks) 100))))]) (d := (some (path 12 19))) (by kernel_rfl) (KC.lift (V2 := .tuple #[.slice (some ⟨5, 0, none⟩) r2.1.length r2.1.length, .int .i64 r2.2]) (H2 := [(5, .cells (rowC (encI .i64) r2.1) 0 3 1)]) [1, 2, 3, 4, 5, 0] (f39_ok m (w64 (1 + (Int.tmod (w64 a_Marks) 100))) (Int.tmod (w64 a_Step) (w64 (1 + (Int.tmod (w64 a_Marks) 100)))) r2 r2_h) rfl (by decide) (by decide) (by kernel_rfl) ⟨⟨_, _, rfl, rfl, .inl ⟨rfl, rowC_scal (encI_ok .i64) _⟩⟩, trivial⟩ (by rfl)) ?_
      rintro _ _ _ ⟨rfl, rfl, rfl⟩
      refine XR.conv (σ' := [(3, .pointer (some ⟨4, 0, none⟩)), (19, .tuple #[.slice (some ⟨5, 0, none⟩) r2.1.length r2.1.length, .int .i64 r2.2])]) (h' := [(5, .cells (rowC (encI .i64) r2.1) 0 3 1), (4, .cells [.int .i64 (w64 (1 + (Int.tmod (w64 a_Marks) 100))), .int .i64 (Int.tmod (w64 a_Step) (w64 (1 + (Int.tmod (w64 a_Marks) 100)))), .int .i64 (w64 (1 + (Int.tmod (w64 a_Turns) r1)))] 0 23 0), (3, .cells [.int .i64 (w64 (1 + (Int.tmod (w64 a_Marks) 100))), .int .i64 (Int.tmod (w64 a_Step) (w64 (1 + (Int.tmod (w64 a_Marks) 100)))), .int .i64 (w64 (1 + (Int.tmod (w64 a_Turns) r1)))] 0 23 0), (2, .cells [.int .i64 (w64 (1 + (Int.tmod (w64 a_Marks) 100))), .int .i64 (Int.tmod (w64 a_Step) (w64 (1 + (Int.tmod (w64 a_Marks) 100)))), .int .i64 (w64 (1 + (Int.tmod (w64 a_Turns) r1)))] 0 23 0), (1, .cells [.int .u8 a_Marks, .int .u8 a_Step, .int .u8 a_Turns] 0 52 0), (0, .cells [.int .u8 a_Marks, .int .u8 a_Step, .int .u8 a_Turns] 0 52 0)]) (c' := 6) ?_ (by kernel_rfl)
      refine XR.run E0_ok 1 5 [3, 4, 5] rfl (σ' := [(3, .pointer (some ⟨4, 0, none⟩)), (4, .slice (some ⟨5, 0, none⟩) r2.1.length r2.1.length), (5, .int .i64 r2.2)]) (h' := [(5, .cells (rowC (encI .i64) r2.1) 0 3 1), (4, .cells [.int .i64 (w64 (1 + (Int.tmod (w64 a_Marks) 100))), .int .i64 (Int.tmod (w64 a_Step) (w64 (1 + (Int.tmod (w64 a_Marks) 100)))), .int .i64 (w64 (1 + (Int.tmod (w64 a_Turns) r1)))] 0 23 0), (3, .cells [.int .i64 (w64 (1 + (Int.tmod (w64 a_Marks) 100))), .int .i64 (Int.tmod (w64 a_Step) (w64 (1 + (Int.tmod (w64 a_Marks) 100)))), .int .i64 (w64 (1 + (Int.tmod (w64 a_Turns) r1)))] 0 23 0), (2, .cells [.int .i64 (w64 (1 + (Int.tmod (w64 a_Marks) 100))), .int .i64 (Int.tmod (w64 a_Step) (w64 (1 + (Int.tmod (w64 a_Marks) 100)))), .int .i64 (w64 (1 + (Int.tmod (w64 a_Turns) r1)))] 0 23 0), (1, .cells [.int .u8 a_Marks, .int .u8 a_Step, .int .u8 a_Turns] 0 52 0), (0, .cells [.int .u8 a_Marks, .int .u8 a_Step, .int .u8 a_Turns] 0 52 0)]) (c' := 6) (by kernel_rfl) ?_
      refine XR.done (by kernel_rfl) ?_
      show XQ _ _ _ _ _ _ _ _
      refine XQ.seq E0_ok (by kernel_rfl) ?_
      refine XQ.region (by kernel_rfl) ?_
      refine XR.run E0_ok 1 4 [3, 4, 5, 23, 25] rfl (σ' := [(3, .pointer (some ⟨4, 0, none⟩)), (4, .slice (some ⟨5, 0, none⟩) r2.1.length r2.1.length), (5, .int .i64 r2.2), (23, .int .i64 (w64 (1 + (Int.tmod (w64 a_Marks) 100)))), (25, .int .i64 (Int.tmod (w64 a_Step) (w64 (1 + (Int.tmod (w64 a_Marks) 100)))))]) (h' := [(5, .cells (rowC (encI .i64) r2.1) 0 3 1), (4, .cells [.int .i64 (w64 (1 + (Int.tmod (w64 a_Marks) 100))), .int .i64 (Int.tmod (w64 a_Step) (w64 (1 + (Int.tmod (w64 a_Marks) 100)))), .int .i64 (w64 (1 + (Int.tmod (w64 a_Turns) r1)))] 0 23 0), (3, .cells [.int .i64 (w64 (1 + (Int.tmod (w64 a_Marks) 100))), .int .i64 (Int.tmod (w64 a_Step) (w64 (1 + (Int.tmod (w64 a_Marks) 100)))), .int .i64 (w64 (1 + (Int.tmod (w64 a_Turns) r1)))] 0 23 0), (2, .cells [.int .i64 (w64 (1 + (Int.tmod (w64 a_Marks) 100))), .int .i64 (Int.tmod (w64 a_Step) (w64 (1 + (Int.tmod (w64 a_Marks) 100)))), .int .i64 (w64 (1 + (Int.tmod (w64 a_Turns) r1)))] 0 23 0), (1, .cells [.int .u8 a_Marks, .int .u8 a_Step, .int .u8 a_Turns] 0 52 0), (0, .cells [.int .u8 a_Marks, .int .u8 a_Step, .int .u8 a_Turns] 0 52 0)]) (c' := 6) (by kernel_rfl) ?_
      obtain ⟨r3, r3_h, h⟩ := bS h
      refine XR.call E0_ok [3, 4, 5, 26] rfl (K := 47) (args := [.int .i64 (w64 (1 + (Int.tmod (w64 a_Marks) 100))), .int .i64 (Int.tmod (w64 a_Step) (w64 (1 + (Int.tmod (w64 a_Marks) 100))))]) (d := (some (path 12 26))) (by kernel_rfl) (KC.of_calls E0_ok (F := Proofs.Try.f47) (v := .int .i64 r3) (by kernel_rfl) rfl rfl (fun w hI => f47_ok m (w64 (1 + (Int.tmod (w64 a_Marks) 100))) (Int.tmod (w64 a_Step) (w64 (1 + (Int.tmod (w64 a_Marks) 100)))) r3 r3_h w hI)) ?_
      rintro _ _ _ ⟨rfl, rfl, rfl⟩
      refine XR.conv (σ' := [(3, .pointer (some ⟨4, 0, none⟩)), (4, .slice (some ⟨5, 0, none⟩) r2.1.length r2.1.length), (5, .int .i64 r2.2), (26, .int .i64 r3)]) (h' := [(5, .cells (rowC (encI .i64) r2.1) 0 3 1), (4, .cells [.int .i64 (w64 (1 + (Int.tmod (w64 a_Marks) 100))), .int .i64 (Int.tmod (w64 a_Step) (w64 (1 + (Int.tmod (w64 a_Marks) 100)))), .int .i64 (w64 (1 + (Int.tmod (w64 a_Turns) r1)))] 0 23 0), (3, .cells [.int .i64 (w64 (1 + (Int.tmod (w64 a_Marks) 100))), .int .i64 (Int.tmod (w64 a_Step) (w64 (1 + (Int.tmod (w64 a_Marks) 100)))), .int .i64 (w64 (1 + (Int.tmod (w64 a_Turns) r1)))] 0 23 0), (2, .cells [.int .i64 (w64 (1 + (Int.tmod (w64 a_Marks) 100))), .int .i64 (Int.tmod (w64 a_Step) (w64 (1 + (Int.tmod (w64 a_Marks) 100)))), .int .i64 (w64 (1 + (Int.tmod (w64 a_Turns) r1)))] 0 23 0), (1, .cells [.int .u8 a_Marks, .int .u8 a_Step, .int .u8 a_Turns] 0 52 0), (0, .cells [.int .u8 a_Marks, .int .u8 a_Step, .int .u8 a_Turns] 0 52 0)]) (c' := 6) ?_ (by kernel_rfl)
      refine XR.run E0_ok 1 1 [3, 4, 5, 6] rfl (σ' := [(3, .pointer (some ⟨4, 0, none⟩)), (4, .slice (some ⟨5, 0, none⟩) r2.1.length r2.1.length), (5, .int .i64 r2.2), (6, .int .i64 r3)]) (h' := [(5, .cells (rowC (encI .i64) r2.1) 0 3 1), (4, .cells [.int .i64 (w64 (1 + (Int.tmod (w64 a_Marks) 100))), .int .i64 (Int.tmod (w64 a_Step) (w64 (1 + (Int.tmod (w64 a_Marks) 100)))), .int .i64 (w64 (1 + (Int.tmod (w64 a_Turns) r1)))] 0 23 0), (3, .cells [.int .i64 (w64 (1 + (Int.tmod (w64 a_Marks) 100))), .int .i64 (Int.tmod (w64 a_Step) (w64 (1 + (Int.tmod (w64 a_Marks) 100)))), .int .i64 (w64 (1 + (Int.tmod (w64 a_Turns) r1)))] 0 23 0), (2, .cells [.int .i64 (w64 (1 + (Int.tmod (w64 a_Marks) 100))), .int .i64 (Int.tmod (w64 a_Step) (w64 (1 + (Int.tmod (w64 a_Marks) 100)))), .int .i64 (w64 (1 + (Int.tmod (w64 a_Turns) r1)))] 0 23 0), (1, .cells [.int .u8 a_Marks, .int .u8 a_Step, .int .u8 a_Turns] 0 52 0), (0, .cells [.int .u8 a_Marks, .int .u8 a_Step, .int .u8 a_Turns] 0 52 0)]) (c' := 6) (by kernel_rfl) ?_
      refine XR.done (by kernel_rfl) ?_
      show XQ _ _ _ _ _ _ _ _
      refine XQ.seq E0_ok (by kernel_rfl) ?_
      refine XQ.region (by kernel_rfl) ?_
      refine XR.run E0_ok 1 1 [3, 4, 5, 6, 7] rfl (σ' := [(3, .pointer (some ⟨4, 0, none⟩)), (4, .slice (some ⟨5, 0, none⟩) r2.1.length r2.1.length), (5, .int .i64 r2.2), (6, .int .i64 r3), (7, .slice none 0 0)]) (h' := [(5, .cells (rowC (encI .i64) r2.1) 0 3 1), (4, .cells [.int .i64 (w64 (1 + (Int.tmod (w64 a_Marks) 100))), .int .i64 (Int.tmod (w64 a_Step) (w64 (1 + (Int.tmod (w64 a_Marks) 100)))), .int .i64 (w64 (1 + (Int.tmod (w64 a_Turns) r1)))] 0 23 0), (3, .cells [.int .i64 (w64 (1 + (Int.tmod (w64 a_Marks) 100))), .int .i64 (Int.tmod (w64 a_Step) (w64 (1 + (Int.tmod (w64 a_Marks) 100)))), .int .i64 (w64 (1 + (Int.tmod (w64 a_Turns) r1)))] 0 23 0), (2, .cells [.int .i64 (w64 (1 + (Int.tmod (w64 a_Marks) 100))), .int .i64 (Int.tmod (w64 a_Step) (w64 (1 + (Int.tmod (w64 a_Marks) 100)))), .int .i64 (w64 (1 + (Int.tmod (w64 a_Turns) r1)))] 0 23 0), (1, .cells [.int .u8 a_Marks, .int .u8 a_Step, .int .u8 a_Turns] 0 52 0), (0, .cells [.int .u8 a_Marks, .int .u8 a_Step, .int .u8 a_Turns] 0 52 0)]) (c' := 6) (by kernel_rfl) ?_
      refine XR.done (by kernel_rfl) ?_
      show XQ _ _ _ _ _ _ _ _
      refine XQ.ghost 3 1 rfl (σ' := [(3, .pointer (some ⟨4, 0, none⟩)), (4, .slice (some ⟨5, 0, none⟩) r2.1.length r2.1.length), (5, .int .i64 r2.2), (6, .int .i64 r3), (7, .slice (some ⟨6, 0, none⟩) 0 0)]) (h' := [(5, .cells (rowC (encI .i64) r2.1) 0 3 1), (4, .cells [.int .i64 (w64 (1 + (Int.tmod (w64 a_Marks) 100))), .int .i64 (Int.tmod (w64 a_Step) (w64 (1 + (Int.tmod (w64 a_Marks) 100)))), .int .i64 (w64 (1 + (Int.tmod (w64 a_Turns) r1)))] 0 23 0), (3, .cells [.int .i64 (w64 (1 + (Int.tmod (w64 a_Marks) 100))), .int .i64 (Int.tmod (w64 a_Step) (w64 (1 + (Int.tmod (w64 a_Marks) 100)))), .int .i64 (w64 (1 + (Int.tmod (w64 a_Turns) r1)))] 0 23 0), (2, .cells [.int .i64 (w64 (1 + (Int.tmod (w64 a_Marks) 100))), .int .i64 (Int.tmod (w64 a_Step) (w64 (1 + (Int.tmod (w64 a_Marks) 100)))), .int .i64 (w64 (1 + (Int.tmod (w64 a_Turns) r1)))] 0 23 0), (1, .cells [.int .u8 a_Marks, .int .u8 a_Step, .int .u8 a_Turns] 0 52 0), (0, .cells [.int .u8 a_Marks, .int .u8 a_Step, .int .u8 a_Turns] 0 52 0)]) ⟨by kernel_rfl, by kernel_rfl, by kernel_rfl, by kernel_rfl, by kernel_rfl, trivial⟩ ⟨⟨_, rfl, .inl rfl⟩, ⟨_, rfl, .inl rfl⟩, ⟨_, rfl, .inl rfl⟩, ⟨_, rfl, .inl rfl⟩, ⟨_, rfl, .inl rfl⟩, ⟨_, rfl, .inl rfl⟩, trivial⟩ ?_
      refine XQ.conv (σ' := [(3, .pointer (some ⟨4, 0, none⟩)), (4, .slice (some ⟨5, 0, none⟩) r2.1.length r2.1.length), (5, .int .i64 r2.2), (6, .int .i64 r3), (7, .slice (some ⟨6, 0, none⟩) 0 0)]) (h' := [(6, .cells (rowC (encI .i64) []) 0 3 1), (5, .cells (rowC (encI .i64) r2.1) 0 3 1), (4, .cells [.int .i64 (w64 (1 + (Int.tmod (w64 a_Marks) 100))), .int .i64 (Int.tmod (w64 a_Step) (w64 (1 + (Int.tmod (w64 a_Marks) 100)))), .int .i64 (w64 (1 + (Int.tmod (w64 a_Turns) r1)))] 0 23 0), (3, .cells [.int .i64 (w64 (1 + (Int.tmod (w64 a_Marks) 100))), .int .i64 (Int.tmod (w64 a_Step) (w64 (1 + (Int.tmod (w64 a_Marks) 100)))), .int .i64 (w64 (1 + (Int.tmod (w64 a_Turns) r1)))] 0 23 0), (2, .cells [.int .i64 (w64 (1 + (Int.tmod (w64 a_Marks) 100))), .int .i64 (Int.tmod (w64 a_Step) (w64 (1 + (Int.tmod (w64 a_Marks) 100)))), .int .i64 (w64 (1 + (Int.tmod (w64 a_Turns) r1)))] 0 23 0), (1, .cells [.int .u8 a_Marks, .int .u8 a_Step, .int .u8 a_Turns] 0 52 0), (0, .cells [.int .u8 a_Marks, .int .u8 a_Step, .int .u8 a_Turns] 0 52 0)]) (c' := 7) ?_ (by kernel_rfl)
      refine XQ.seq E0_ok (by kernel_rfl) ?_
      refine XQ.region (by kernel_rfl) ?_
      refine XR.run E0_ok 1 3 [3, 4, 5, 6, 7, 8] rfl (σ' := [(3, .pointer (some ⟨4, 0, none⟩)), (4, .slice (some ⟨5, 0, none⟩) r2.1.length r2.1.length), (5, .int .i64 r2.2), (6, .int .i64 r3), (7, .slice (some ⟨6, 0, none⟩) 0 0), (8, .int .i64 (w64 (1 + (Int.tmod (w64 a_Marks) 100))))]) (h' := [(6, .cells (rowC (encI .i64) []) 0 3 1), (5, .cells (rowC (encI .i64) r2.1) 0 3 1), (4, .cells [.int .i64 (w64 (1 + (Int.tmod (w64 a_Marks) 100))), .int .i64 (Int.tmod (w64 a_Step) (w64 (1 + (Int.tmod (w64 a_Marks) 100)))), .int .i64 (w64 (1 + (Int.tmod (w64 a_Turns) r1)))] 0 23 0), (3, .cells [.int .i64 (w64 (1 + (Int.tmod (w64 a_Marks) 100))), .int .i64 (Int.tmod (w64 a_Step) (w64 (1 + (Int.tmod (w64 a_Marks) 100)))), .int .i64 (w64 (1 + (Int.tmod (w64 a_Turns) r1)))] 0 23 0), (2, .cells [.int .i64 (w64 (1 + (Int.tmod (w64 a_Marks) 100))), .int .i64 (Int.tmod (w64 a_Step) (w64 (1 + (Int.tmod (w64 a_Marks) 100)))), .int .i64 (w64 (1 + (Int.tmod (w64 a_Turns) r1)))] 0 23 0), (1, .cells [.int .u8 a_Marks, .int .u8 a_Step, .int .u8 a_Turns] 0 52 0), (0, .cells [.int .u8 a_Marks, .int .u8 a_Step, .int .u8 a_Turns] 0 52 0)]) (c' := 7) (by kernel_rfl) ?_
      refine XR.done (by kernel_rfl) ?_
      show XQ _ _ _ _ _ _ _ _
      refine XQ.seq E0_ok (by kernel_rfl) ?_
      refine XQ.region (by kernel_rfl) ?_
      refine XR.run E0_ok 1 1 [3, 4, 5, 6, 7, 8, 9] rfl (σ' := [(3, .pointer (some ⟨4, 0, none⟩)), (4, .slice (some ⟨5, 0, none⟩) r2.1.length r2.1.length), (5, .int .i64 r2.2), (6, .int .i64 r3), (7, .slice (some ⟨6, 0, none⟩) 0 0), (8, .int .i64 (w64 (1 + (Int.tmod (w64 a_Marks) 100)))), (9, .int .i64 0)]) (h' := [(6, .cells (rowC (encI .i64) []) 0 3 1), (5, .cells (rowC (encI .i64) r2.1) 0 3 1), (4, .cells [.int .i64 (w64 (1 + (Int.tmod (w64 a_Marks) 100))), .int .i64 (Int.tmod (w64 a_Step) (w64 (1 + (Int.tmod (w64 a_Marks) 100)))), .int .i64 (w64 (1 + (Int.tmod (w64 a_Turns) r1)))] 0 23 0), (3, .cells [.int .i64 (w64 (1 + (Int.tmod (w64 a_Marks) 100))), .int .i64 (Int.tmod (w64 a_Step) (w64 (1 + (Int.tmod (w64 a_Marks) 100)))), .int .i64 (w64 (1 + (Int.tmod (w64 a_Turns) r1)))] 0 23 0), (2, .cells [.int .i64 (w64 (1 + (Int.tmod (w64 a_Marks) 100))), .int .i64 (Int.tmod (w64 a_Step) (w64 (1 + (Int.tmod (w64 a_Marks) 100)))), .int .i64 (w64 (1 + (Int.tmod (w64 a_Turns) r1)))] 0 23 0), (1, .cells [.int .u8 a_Marks, .int .u8 a_Step, .int .u8 a_Turns] 0 52 0), (0, .cells [.int .u8 a_Marks, .int .u8 a_Step, .int .u8 a_Turns] 0 52 0)]) (c' := 7) (by kernel_rfl) ?_
      refine XR.done (by kernel_rfl) ?_
      show XQ _ _ _ _ _ _ _ _
      refine XQ.seq E0_ok (by kernel_rfl) ?_
      refine XQ.seq E0_ok (by kernel_rfl) ?_
      refine XQ.region (by kernel_rfl) ?_
      refine XR.run E0_ok 1 1 [3, 4, 5, 6, 7, 8, 9, 10] rfl (σ' := [(3, .pointer (some ⟨4, 0, none⟩)), (4, .slice (some ⟨5, 0, none⟩) r2.1.length r2.1.length), (5, .int .i64 r2.2), (6, .int .i64 r3), (7, .slice (some ⟨6, 0, none⟩) 0 0), (8, .int .i64 (w64 (1 + (Int.tmod (w64 a_Marks) 100)))), (9, .int .i64 0), (10, .int .i64 1)]) (h' := [(6, .cells (rowC (encI .i64) []) 0 3 1), (5, .cells (rowC (encI .i64) r2.1) 0 3 1), (4, .cells [.int .i64 (w64 (1 + (Int.tmod (w64 a_Marks) 100))), .int .i64 (Int.tmod (w64 a_Step) (w64 (1 + (Int.tmod (w64 a_Marks) 100)))), .int .i64 (w64 (1 + (Int.tmod (w64 a_Turns) r1)))] 0 23 0), (3, .cells [.int .i64 (w64 (1 + (Int.tmod (w64 a_Marks) 100))), .int .i64 (Int.tmod (w64 a_Step) (w64 (1 + (Int.tmod (w64 a_Marks) 100)))), .int .i64 (w64 (1 + (Int.tmod (w64 a_Turns) r1)))] 0 23 0), (2, .cells [.int .i64 (w64 (1 + (Int.tmod (w64 a_Marks) 100))), .int .i64 (Int.tmod (w64 a_Step) (w64 (1 + (Int.tmod (w64 a_Marks) 100)))), .int .i64 (w64 (1 + (Int.tmod (w64 a_Turns) r1)))] 0 23 0), (1, .cells [.int .u8 a_Marks, .int .u8 a_Step, .int .u8 a_Turns] 0 52 0), (0, .cells [.int .u8 a_Marks, .int .u8 a_Step, .int .u8 a_Turns] 0 52 0)]) (c' := 7) (by kernel_rfl) ?_
      refine XR.done (by kernel_rfl) ?_
      show XQ _ _ _ _ _ _ _ _
      refine XQ.block (id := 0) (by kernel_rfl) ?_
      refine XQ.loop m (by kernel_rfl) ?_
      obtain ⟨o1, o1_h, h⟩ := bS h
      refine XL.ren (σ' := [(3, .pointer (some ⟨0, 0, none⟩)), (4, .slice (some ⟨1, 0, none⟩) r2.1.length r2.1.length), (5, .int .i64 r2.2), (6, .int .i64 r3), (7, .slice (some ⟨2, 0, none⟩) 0 0), (8, .int .i64 (w64 (1 + (Int.tmod (w64 a_Marks) 100)))), (9, .int .i64 0), (10, .int .i64 1)]) (h' := [(2, .cells (rowC (encI .i64) []) 0 3 1), (1, .cells (rowC (encI .i64) r2.1) 0 3 1), (0, .cells [.int .i64 (w64 (1 + (Int.tmod (w64 a_Marks) 100))), .int .i64 (Int.tmod (w64 a_Step) (w64 (1 + (Int.tmod (w64 a_Marks) 100)))), .int .i64 (w64 (1 + (Int.tmod (w64 a_Turns) r1)))] 0 23 0)]) (c' := 3) [4, 5, 6] (by decide) rfl ⟨by kernel_rfl, by kernel_rfl, by kernel_rfl, by kernel_rfl, by kernel_rfl, by kernel_rfl, by kernel_rfl, by kernel_rfl, trivial⟩ ⟨⟨_, _, rfl, rfl, .inl ⟨rfl, rowC_scal (encI_ok .i64) _⟩⟩, ⟨_, _, rfl, rfl, .inl ⟨rfl, rowC_scal (encI_ok .i64) _⟩⟩, ⟨_, _, rfl, rfl, .inr ⟨_, _, _, _, rfl, rfl⟩⟩, trivial⟩ rfl ?_
      refine XL.conv (f9_1_ok m m r2.2 r3 (w64 (1 + (Int.tmod (w64 a_Marks) 100))) 0 1 (w64 (1 + (Int.tmod (w64 a_Marks) 100))) (Int.tmod (w64 a_Step) (w64 (1 + (Int.tmod (w64 a_Marks) 100)))) (w64 (1 + (Int.tmod (w64 a_Turns) r1))) r2.1 [] o1 o1_h _ ?_) (by first | rfl | simp)
      show XQ _ _ _ _ _ _ _ _
      refine XQ.seq E0_ok (by kernel_rfl) ?_
      refine XQ.region (by kernel_rfl) ?_
      refine XR.run E0_ok 1 3 [4, 6, 7, 57] rfl (σ' := [(4, .slice (some ⟨0, 0, none⟩) o1.2.2.1.length o1.2.2.1.length), (6, .int .i64 o1.2.1), (7, .slice (some ⟨1, 0, none⟩) o1.2.2.2.length o1.2.2.2.length), (57, .bool (o1.1 == 0))]) (h' := [(1, .cells (rowC (encI .i64) o1.2.2.2) 0 3 1), (0, .cells (rowC (encI .i64) o1.2.2.1) 0 3 1)]) (c' := 2) (by kernel_rfl) ?_
      cases b6 : (o1.1 == 0 : Bool) with
      | true =>
        have h := cT b6 h
        refine XR.run E0_ok 1 2 [4, 6, 57, 58, 59] rfl (σ' := [(4, .slice (some ⟨0, 0, none⟩) o1.2.2.1.length o1.2.2.1.length), (6, .int .i64 o1.2.1), (57, .bool true), (58, .slice (some ⟨0, 0, none⟩) o1.2.2.1.length o1.2.2.1.length), (59, .slice (some ⟨1, 0, none⟩) o1.2.2.2.length o1.2.2.2.length)]) (h' := [(1, .cells (rowC (encI .i64) o1.2.2.2) 0 3 1), (0, .cells (rowC (encI .i64) o1.2.2.1) 0 3 1)]) (c' := 2) (by kernel_rfl) ?_
        obtain ⟨r4, r4_h, h⟩ := bS h
        refine XR.call E0_ok [4, 6, 57, 60] rfl (K := 35) (args := [.slice (some ⟨0, 0, none⟩) o1.2.2.1.length o1.2.2.1.length, .slice (some ⟨1, 0, none⟩) o1.2.2.2.length o1.2.2.2.length]) (d := (some (path 12 60))) (by kernel_rfl) (KQ.call (KC.quiet E0_ok (args0 := [.slice (some ⟨0, 0, none⟩) o1.2.2.1.length o1.2.2.1.length, .slice (some ⟨1, 0, none⟩) o1.2.2.2.length o1.2.2.2.length]) (h0 := [(1, .cells (rowC (encI .i64) o1.2.2.2) (0 + ((rowC (encI .i64) o1.2.2.2).length + 1)) 3 1), (0, .cells (rowC (encI .i64) o1.2.2.1) (0 + ((rowC (encI .i64) o1.2.2.1).length + 1)) 3 1)]) (n := 2) (V := .bool r4) [0, 1] (f35_ok m (0 + ((rowC (encI .i64) o1.2.2.1).length + 1)) (0 + ((rowC (encI .i64) o1.2.2.2).length + 1)) o1.2.2.1 o1.2.2.2 r4 r4_h) rfl (by rfl) (by decide) rfl (by kernel_rfl) ⟨⟨_, _, rfl, rfl, .inl ⟨rfl, rowC_scal (encI_ok .i64) _⟩⟩, ⟨_, _, rfl, rfl, .inl ⟨rfl, rowC_scal (encI_ok .i64) _⟩⟩, trivial⟩) rfl) ?_
        rintro _ _ _ ⟨rfl, rfl, rfl⟩
        refine XR.conv (σ' := [(4, .slice (some ⟨0, 0, none⟩) o1.2.2.1.length o1.2.2.1.length), (6, .int .i64 o1.2.1), (57, .bool true), (60, .bool r4)]) (h' := [(1, .cells (rowC (encI .i64) o1.2.2.2) 0 3 1), (0, .cells (rowC (encI .i64) o1.2.2.1) 0 3 1)]) (c' := 2) ?_ (by kernel_rfl)
        refine XR.run E0_ok 1 2 [4, 6, 62] rfl (σ' := [(4, .slice (some ⟨0, 0, none⟩) o1.2.2.1.length o1.2.2.1.length), (6, .int .i64 o1.2.1), (62, .bool r4)]) (h' := [(1, .cells (rowC (encI .i64) o1.2.2.2) 0 3 1), (0, .cells (rowC (encI .i64) o1.2.2.1) 0 3 1)]) (c' := 2) (by kernel_rfl) ?_
        cases b7 : (r4 : Bool) with
        | true =>
          have h := cT b7 h
          refine XR.run E0_ok 1 5 [4, 6, 67] rfl (σ' := [(4, .slice (some ⟨0, 0, none⟩) o1.2.2.1.length o1.2.2.1.length), (6, .int .i64 o1.2.1), (67, .bool (decide (((o1.2.2.1.length : Nat) : Int) > 0)))]) (h' := [(1, .cells (rowC (encI .i64) o1.2.2.2) 0 3 1), (0, .cells (rowC (encI .i64) o1.2.2.1) 0 3 1)]) (c' := 2) (by kernel_rfl) ?_
          cases b8 : (decide (((o1.2.2.1.length : Nat) : Int) > 0) : Bool) with
          | true =>
            have h := cT b8 h
            refine XR.run E0_ok 1 4 [6, 67, 68, 71] rfl (σ' := [(6, .int .i64 o1.2.1), (67, .bool true), (68, .slice (some ⟨0, 0, none⟩) o1.2.2.1.length o1.2.2.1.length), (71, .int .i64 (w64 (((o1.2.2.1.length : Nat) : Int) - 1)))]) (h' := [(1, .cells (rowC (encI .i64) o1.2.2.2) 0 3 1), (0, .cells (rowC (encI .i64) o1.2.2.1) 0 3 1)]) (c' := 2) (by kernel_rfl) ?_
            cases b9 : (inRow (w64 (((o1.2.2.1.length : Nat) : Int) - 1)) o1.2.2.1.length : Bool) with
            | false => cases (cF b9 h)
            | true =>
              have h := cT b9 h
              refine XR.rd E0_ok [6, 67, 72] rfl (v := .pointer (some ⟨0, (Int.toNat (w64 (((o1.2.2.1.length : Nat) : Int) - 1))) * 1, none⟩)) (v_idx (s := 1) (x := (src 80 (.tmp 68))) (y := (src 80 (.tmp 71))) (b := 0) (o := 0) (len := o1.2.2.1.length) (cap := o1.2.2.1.length) (ik := .i64) (i := w64 (((o1.2.2.1.length : Nat) : Int) - 1)) (off := (Int.toNat (w64 (((o1.2.2.1.length : Nat) : Int) - 1))) * 1) (d := (some (path 12 72))) (by kernel_rfl) (by kernel_rfl) (by kernel_rfl) b9 (by omega)) (σ' := [(6, .int .i64 o1.2.1), (67, .bool true), (72, .pointer (some ⟨0, (Int.toNat (w64 (((o1.2.2.1.length : Nat) : Int) - 1))) * 1, none⟩))]) (by kernel_rfl) ?_
              refine XR.rd E0_ok [6, 67, 73] rfl (v := .int .i64 (List.getD o1.2.2.1 (Int.toNat (w64 (((o1.2.2.1.length : Nat) : Int) - 1))) 0)) (v_load1 (encI_ok .i64) (x := (src 80 (.tmp 72))) (b := 0) (off := (Int.toNat (w64 (((o1.2.2.1.length : Nat) : Int) - 1))) * 1) (xs := o1.2.2.1) (fz := 0) (e := 3) (es := 1) (d := (some (path 12 73))) (by kernel_rfl) (by kernel_rfl) (by kernel_rfl) (Int.toNat (w64 (((o1.2.2.1.length : Nat) : Int) - 1))) 0 0 (by first | rfl | omega) (row_len (inRow_toNat b9) (by simp)) rfl rfl) (σ' := [(6, .int .i64 o1.2.1), (67, .bool true), (73, .int .i64 (List.getD o1.2.2.1 (Int.toNat (w64 (((o1.2.2.1.length : Nat) : Int) - 1))) 0))]) (by kernel_rfl) ?_
              refine XR.run E0_ok 1 4 [77] rfl (σ' := [(77, .bool ((List.getD o1.2.2.1 (Int.toNat (w64 (((o1.2.2.1.length : Nat) : Int) - 1))) 0) == o1.2.1))]) (h' := [(1, .cells (rowC (encI .i64) o1.2.2.2) 0 3 1), (0, .cells (rowC (encI .i64) o1.2.2.1) 0 3 1)]) (c' := 2) (by kernel_rfl) ?_
              cases b10 : ((List.getD o1.2.2.1 (Int.toNat (w64 (((o1.2.2.1.length : Nat) : Int) - 1))) 0) == o1.2.1 : Bool) with
              | true =>
                have h := cT b10 h
                refine XR.call E0_ok [77, 78] rfl (K := 28) (args := []) (d := (some (path 12 78))) (by kernel_rfl) (KC.of_calls E0_ok (F := Proofs.Try.f28) (v := .bool true) (by kernel_rfl) rfl rfl (works_ok)) ?_
                rintro _ _ _ ⟨rfl, rfl, rfl⟩
                refine XR.conv (σ' := [(77, .bool true), (78, .bool true)]) (h' := [(1, .cells (rowC (encI .i64) o1.2.2.2) 0 3 1), (0, .cells (rowC (encI .i64) o1.2.2.1) 0 3 1)]) (c' := 2) ?_ (by kernel_rfl)
                refine XR.run E0_ok 1 2 [2] rfl (σ' := [(2, .bool true)]) (h' := [(1, .cells (rowC (encI .i64) o1.2.2.2) 0 3 1), (0, .cells (rowC (encI .i64) o1.2.2.1) 0 3 1)]) (c' := 2) (by kernel_rfl) ?_
                refine XR.done (by kernel_rfl) ?_
                show XQ _ _ _ _ _ _ _ _
                refine XQ.ret (by kernel_rfl) ?_
                have h := Option.some.inj h
                subst h
                exact ⟨fun i q => (by cases q), .bool true, (by kernel_rfl), rfl⟩
              | false =>
                have h := cF b10 h
                refine XR.run E0_ok 1 3 [2] rfl (σ' := [(2, .bool false)]) (h' := [(1, .cells (rowC (encI .i64) o1.2.2.2) 0 3 1), (0, .cells (rowC (encI .i64) o1.2.2.1) 0 3 1)]) (c' := 2) (by kernel_rfl) ?_
                refine XR.done (by kernel_rfl) ?_
                show XQ _ _ _ _ _ _ _ _
                refine XQ.ret (by kernel_rfl) ?_
                have h := Option.some.inj h
                subst h
                exact ⟨fun i q => (by cases q), .bool false, (by kernel_rfl), rfl⟩
          | false =>
            have h := cF b8 h
            refine XR.run E0_ok 1 13 [2] rfl (σ' := [(2, .bool false)]) (h' := [(1, .cells (rowC (encI .i64) o1.2.2.2) 0 3 1), (0, .cells (rowC (encI .i64) o1.2.2.1) 0 3 1)]) (c' := 2) (by kernel_rfl) ?_
            refine XR.done (by kernel_rfl) ?_
            show XQ _ _ _ _ _ _ _ _
            refine XQ.ret (by kernel_rfl) ?_
            have h := Option.some.inj h
            subst h
            exact ⟨fun i q => (by cases q), .bool false, (by kernel_rfl), rfl⟩
        | false =>
          have h := cF b7 h
          refine XR.run E0_ok 1 18 [2] rfl (σ' := [(2, .bool false)]) (h' := [(1, .cells (rowC (encI .i64) o1.2.2.2) 0 3 1), (0, .cells (rowC (encI .i64) o1.2.2.1) 0 3 1)]) (c' := 2) (by kernel_rfl) ?_
          refine XR.done (by kernel_rfl) ?_
          show XQ _ _ _ _ _ _ _ _
          refine XQ.ret (by kernel_rfl) ?_
          have h := Option.some.inj h
          subst h
          exact ⟨fun i q => (by cases q), .bool false, (by kernel_rfl), rfl⟩
      | false =>
        have h := cF b6 h
        refine XR.run E0_ok 1 23 [2] rfl (σ' := [(2, .bool false)]) (h' := [(1, .cells (rowC (encI .i64) o1.2.2.2) 0 3 1), (0, .cells (rowC (encI .i64) o1.2.2.1) 0 3 1)]) (c' := 2) (by kernel_rfl) ?_
        refine XR.done (by kernel_rfl) ?_
        show XQ _ _ _ _ _ _ _ _
        refine XQ.ret (by kernel_rfl) ?_
        have h := Option.some.inj h
        subst h
        exact ⟨fun i q => (by cases q), .bool false, (by kernel_rfl), rfl⟩

end Go.Xm
