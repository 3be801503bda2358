/- What these functions of the program compute, as functions in Lean, and the proofs that they do: band.Against, vitolaref08.Against. Conditions: the library's variable MaxLen holds some int. -/
import Derived.Test.YtdijjdkaojbolaaDb
namespace Go.Xm
open Go.RowKit
set_option linter.unusedVariables false
set_option linter.unusedSimpArgs false

/-! vitola/band.Against -/
noncomputable def f15_C15 : Code := Proofs.Try.f15.body.getD .skip
noncomputable def f15_C45 : Code := Proofs.Try.f45.body.getD .skip
noncomputable def f15_C44 : Code := Proofs.Try.f44.body.getD .skip
noncomputable def f15_C48 : Code := Proofs.Try.f48.body.getD .skip
noncomputable def f15_C66 : Code := Proofs.Try.f66.body.getD .skip
noncomputable def f15_C49 : Code := Proofs.Try.f49.body.getD .skip
noncomputable def f15_L1 : Code := lft (lft (rgt (lft (rgt (rgt f15_C48)))))
noncomputable def f15_L2 : Code := lft (lft (rgt (lft (rgt (rgt f15_C44)))))
noncomputable def f15_L3 : Code := lft (lft (rgt (lft (rgt (rgt (lft (lft (rgt (rgt f15_L2)))))))))
noncomputable def f15_L4 : Code := lft (lft (rgt (rgt (rgt (rgt (lft (lft (rgt (rgt f15_L2)))))))))
noncomputable def f15_L5 : Code := lft (lft (rgt (rgt (rgt (rgt (lft (lft (rgt (rgt f15_L4)))))))))

def f15_1 (m : Nat) : Nat → ByteArray → List Int → ByteArray → Nat → Option (List Int)
  | 0, _, _, _, _ => none
  | fuel + 1, a, lh2_1, sh3_1, ph3_1 =>
    cond (Nat.blt ph3_1 sh3_1.size) (
      cond (inRow (w64 (((lh2_1.length : Nat) : Int) - 1)) lh2_1.length) (
        cond (fitsB (lh2_1.length + 1) 8) (
          f15_1 m fuel a (lh2_1 ++ [cond ((Int.ofNat (Utf8.decode sh3_1 ph3_1).1) == 98) (w64 ((List.getD lh2_1 (Int.toNat (w64 (((lh2_1.length : Nat) : Int) - 1))) 0) + 1)) (List.getD lh2_1 (Int.toNat (w64 (((lh2_1.length : Nat) : Int) - 1))) 0)]) sh3_1 (ph3_1 + (Utf8.decode sh3_1 ph3_1).2)
        ) none
      ) none
    ) (
      some (lh2_1)
    )

theorem f15_1_ok (m : Nat) : ∀ (fuel : Nat) (a : ByteArray) (lh2_1 : List Int) (sh3_1 : ByteArray) (ph3_1 : Nat) (o : (List Int)), f15_1 m fuel a lh2_1 sh3_1 ph3_1 = some o → ∀ Q : QP, Q (.exit 0) [(3, .slice (some ⟨2, 0, none⟩) o.length o.length)] [(2, .cells (rowC (encI .i64) o) 0 3 1), (1, .cells [.int .i64 0, .int .i64 0, .int .i64 0] 0 56 0), (0, .cells [.string a] 0 9 0)] 3 → XL E0 30 2 fuel f15_L1 [(3, .slice (some ⟨2, 0, none⟩) lh2_1.length lh2_1.length), (11, .pointer (some ⟨3, 0, none⟩))] [(3, .iter sh3_1 ph3_1), (2, .cells (rowC (encI .i64) lh2_1) 0 3 1), (1, .cells [.int .i64 0, .int .i64 0, .int .i64 0] 0 56 0), (0, .cells [.string a] 0 9 0)] 4 Q
  | 0, a, lh2_1, sh3_1, ph3_1, o, h, Q, hQ => by cases h
  | fuel + 1, a, lh2_1, sh3_1, ph3_1, o, h, Q, hQ => by
    unfold f15_1 at h
    refine XL.succ E0_ok ?_
    refine XQ.seq E0_ok (by kernel_rfl) ?_
    refine XQ.region (by kernel_rfl) ?_
    have e1 : insE (headI ((gsOf E0 30 (opsOf (lft f15_L1))).drop 0) (trS 30 [(3, .slice (some ⟨2, 0, none⟩) lh2_1.length lh2_1.length), (11, .pointer (some ⟨3, 0, none⟩))])) (trS 30 [(3, .slice (some ⟨2, 0, none⟩) lh2_1.length lh2_1.length), (11, .pointer (some ⟨3, 0, none⟩))]) [(3, .iter sh3_1 ph3_1), (2, .cells (rowC (encI .i64) lh2_1) 0 3 1), (1, .cells [.int .i64 0, .int .i64 0, .int .i64 0] 0 56 0), (0, .cells [.string a] 0 9 0)] 4 = (match (Nat.blt ph3_1 sh3_1.size : Bool) with | true => some (.tuple #[.bool true, .int .i64 (Int.ofNat ph3_1), .int .i32 (Int.ofNat (Utf8.decode sh3_1 ph3_1).1)], [(3, .iter sh3_1 (ph3_1 + (Utf8.decode sh3_1 ph3_1).2)), (2, .cells (rowC (encI .i64) lh2_1) 0 3 1), (1, .cells [.int .i64 0, .int .i64 0, .int .i64 0] 0 56 0), (0, .cells [.string a] 0 9 0)], 4) | false => some (.tuple #[.bool false], [(3, .iter sh3_1 ph3_1), (2, .cells (rowC (encI .i64) lh2_1) 0 3 1), (1, .cells [.int .i64 0, .int .i64 0, .int .i64 0] 0 56 0), (0, .cells [.string a] 0 9 0)], 4)) := by kernel_rfl
    cases b2 : (Nat.blt ph3_1 sh3_1.size : Bool) with
    | true =>
      have h := cT b2 h
      refine XR.ef E0_ok [3, 11, 12] rfl (e1.trans (by rw [b2])) (σ' := [(3, .slice (some ⟨2, 0, none⟩) lh2_1.length lh2_1.length), (11, .pointer (some ⟨3, 0, none⟩)), (12, .tuple #[.bool true, .int .i64 (Int.ofNat ph3_1), .int .i32 (Int.ofNat (Utf8.decode sh3_1 ph3_1).1)])]) (by kernel_rfl) ?_
      refine XR.run E0_ok 1 1 [3, 11, 12, 13] rfl (σ' := [(3, .slice (some ⟨2, 0, none⟩) lh2_1.length lh2_1.length), (11, .pointer (some ⟨3, 0, none⟩)), (12, .tuple #[.bool true, .int .i64 (Int.ofNat ph3_1), .int .i32 (Int.ofNat (Utf8.decode sh3_1 ph3_1).1)]), (13, .bool true)]) (h' := [(3, .iter sh3_1 (ph3_1 + (Utf8.decode sh3_1 ph3_1).2)), (2, .cells (rowC (encI .i64) lh2_1) 0 3 1), (1, .cells [.int .i64 0, .int .i64 0, .int .i64 0] 0 56 0), (0, .cells [.string a] 0 9 0)]) (c' := 4) (by kernel_rfl) ?_
      refine XR.done (by kernel_rfl) ?_
      show XQ _ _ _ _ _ _ _ _
      refine XQ.seq E0_ok (by kernel_rfl) ?_
      refine XQ.cond (s := (.tmp 13)) (b := true) (by kernel_rfl) (by kernel_rfl) (fun _ => ?_) (fun q => by cases q)
      refine XQ.skip (by kernel_rfl) ?_
      show XQ _ _ _ _ _ _ _ _
      refine XQ.block (id := 1) (by kernel_rfl) ?_
      refine XQ.seq E0_ok (by kernel_rfl) ?_
      refine XQ.region (by kernel_rfl) ?_
      refine XR.run E0_ok 1 2 [3, 5, 11] rfl (σ' := [(3, .slice (some ⟨2, 0, none⟩) lh2_1.length lh2_1.length), (5, .int .i32 (Int.ofNat (Utf8.decode sh3_1 ph3_1).1)), (11, .pointer (some ⟨3, 0, none⟩))]) (h' := [(3, .iter sh3_1 (ph3_1 + (Utf8.decode sh3_1 ph3_1).2)), (2, .cells (rowC (encI .i64) lh2_1) 0 3 1), (1, .cells [.int .i64 0, .int .i64 0, .int .i64 0] 0 56 0), (0, .cells [.string a] 0 9 0)]) (c' := 4) (by kernel_rfl) ?_
      refine XR.done (by kernel_rfl) ?_
      show XQ _ _ _ _ _ _ _ _
      refine XQ.seq E0_ok (by kernel_rfl) ?_
      refine XQ.region (by kernel_rfl) ?_
      refine XR.run E0_ok 1 4 [3, 5, 11, 15, 18] rfl (σ' := [(3, .slice (some ⟨2, 0, none⟩) lh2_1.length lh2_1.length), (5, .int .i32 (Int.ofNat (Utf8.decode sh3_1 ph3_1).1)), (11, .pointer (some ⟨3, 0, none⟩)), (15, .slice (some ⟨2, 0, none⟩) lh2_1.length lh2_1.length), (18, .int .i64 (w64 (((lh2_1.length : Nat) : Int) - 1)))]) (h' := [(3, .iter sh3_1 (ph3_1 + (Utf8.decode sh3_1 ph3_1).2)), (2, .cells (rowC (encI .i64) lh2_1) 0 3 1), (1, .cells [.int .i64 0, .int .i64 0, .int .i64 0] 0 56 0), (0, .cells [.string a] 0 9 0)]) (c' := 4) (by kernel_rfl) ?_
      cases b3 : (inRow (w64 (((lh2_1.length : Nat) : Int) - 1)) lh2_1.length : Bool) with
      | false => cases (cF b3 h)
      | true =>
        have h := cT b3 h
        refine XR.rd E0_ok [3, 5, 11, 19] rfl (v := .pointer (some ⟨2, (Int.toNat (w64 (((lh2_1.length : Nat) : Int) - 1))) * 1, none⟩)) (v_idx (s := 1) (x := (src 30 (.tmp 15))) (y := (src 30 (.tmp 18))) (b := 2) (o := 0) (len := lh2_1.length) (cap := lh2_1.length) (ik := .i64) (i := w64 (((lh2_1.length : Nat) : Int) - 1)) (off := (Int.toNat (w64 (((lh2_1.length : Nat) : Int) - 1))) * 1) (d := (some (path 12 19))) (by kernel_rfl) (by kernel_rfl) (by kernel_rfl) b3 (by omega)) (σ' := [(3, .slice (some ⟨2, 0, none⟩) lh2_1.length lh2_1.length), (5, .int .i32 (Int.ofNat (Utf8.decode sh3_1 ph3_1).1)), (11, .pointer (some ⟨3, 0, none⟩)), (19, .pointer (some ⟨2, (Int.toNat (w64 (((lh2_1.length : Nat) : Int) - 1))) * 1, none⟩))]) (by kernel_rfl) ?_
        refine XR.rd E0_ok [3, 5, 11, 20] rfl (v := .int .i64 (List.getD lh2_1 (Int.toNat (w64 (((lh2_1.length : Nat) : Int) - 1))) 0)) (v_load1 (encI_ok .i64) (x := (src 30 (.tmp 19))) (b := 2) (off := (Int.toNat (w64 (((lh2_1.length : Nat) : Int) - 1))) * 1) (xs := lh2_1) (fz := 0) (e := 3) (es := 1) (d := (some (path 12 20))) (by kernel_rfl) (by kernel_rfl) (by kernel_rfl) (Int.toNat (w64 (((lh2_1.length : Nat) : Int) - 1))) 0 0 (by first | rfl | omega) (row_len (inRow_toNat b3) (by simp)) rfl rfl) (σ' := [(3, .slice (some ⟨2, 0, none⟩) lh2_1.length lh2_1.length), (5, .int .i32 (Int.ofNat (Utf8.decode sh3_1 ph3_1).1)), (11, .pointer (some ⟨3, 0, none⟩)), (20, .int .i64 (List.getD lh2_1 (Int.toNat (w64 (((lh2_1.length : Nat) : Int) - 1))) 0))]) (by kernel_rfl) ?_
        refine XR.run E0_ok 1 1 [3, 5, 6, 11] rfl (σ' := [(3, .slice (some ⟨2, 0, none⟩) lh2_1.length lh2_1.length), (5, .int .i32 (Int.ofNat (Utf8.decode sh3_1 ph3_1).1)), (6, .int .i64 (List.getD lh2_1 (Int.toNat (w64 (((lh2_1.length : Nat) : Int) - 1))) 0)), (11, .pointer (some ⟨3, 0, none⟩))]) (h' := [(3, .iter sh3_1 (ph3_1 + (Utf8.decode sh3_1 ph3_1).2)), (2, .cells (rowC (encI .i64) lh2_1) 0 3 1), (1, .cells [.int .i64 0, .int .i64 0, .int .i64 0] 0 56 0), (0, .cells [.string a] 0 9 0)]) (c' := 4) (by kernel_rfl) ?_
        refine XR.done (by kernel_rfl) ?_
        show XQ _ _ _ _ _ _ _ _
        refine XQ.seq E0_ok (by kernel_rfl) ?_
        refine XQ.seq E0_ok (by kernel_rfl) ?_
        refine XQ.region (by kernel_rfl) ?_
        refine XR.run E0_ok 1 2 [3, 6, 11, 22] rfl (σ' := [(3, .slice (some ⟨2, 0, none⟩) lh2_1.length lh2_1.length), (6, .int .i64 (List.getD lh2_1 (Int.toNat (w64 (((lh2_1.length : Nat) : Int) - 1))) 0)), (11, .pointer (some ⟨3, 0, none⟩)), (22, .bool ((Int.ofNat (Utf8.decode sh3_1 ph3_1).1) == 98))]) (h' := [(3, .iter sh3_1 (ph3_1 + (Utf8.decode sh3_1 ph3_1).2)), (2, .cells (rowC (encI .i64) lh2_1) 0 3 1), (1, .cells [.int .i64 0, .int .i64 0, .int .i64 0] 0 56 0), (0, .cells [.string a] 0 9 0)]) (c' := 4) (by kernel_rfl) ?_
        refine XR.done (by kernel_rfl) ?_
        show XQ _ _ _ _ _ _ _ _
        refine XQ.meetC (σ' := [(3, .slice (some ⟨2, 0, none⟩) lh2_1.length lh2_1.length), (6, .int .i64 (cond ((Int.ofNat (Utf8.decode sh3_1 ph3_1).1) == 98) (w64 ((List.getD lh2_1 (Int.toNat (w64 (((lh2_1.length : Nat) : Int) - 1))) 0) + 1)) (List.getD lh2_1 (Int.toNat (w64 (((lh2_1.length : Nat) : Int) - 1))) 0))), (11, .pointer (some ⟨3, 0, none⟩))]) (h' := [(3, .iter sh3_1 (ph3_1 + (Utf8.decode sh3_1 ph3_1).2)), (2, .cells (rowC (encI .i64) lh2_1) 0 3 1), (1, .cells [.int .i64 0, .int .i64 0, .int .i64 0] 0 56 0), (0, .cells [.string a] 0 9 0)]) (c' := 4) ?_ ?_
        rotate_left
        · refine XQ.cond (s := (.tmp 22)) (b := (Int.ofNat (Utf8.decode sh3_1 ph3_1).1) == 98) (by kernel_rfl) (by kernel_rfl) (fun b4 => ?_) (fun b4 => ?_)
          · refine XQ.region (by kernel_rfl) ?_
            refine XR.run E0_ok 1 3 [3, 6, 11] rfl (σ' := [(3, .slice (some ⟨2, 0, none⟩) lh2_1.length lh2_1.length), (6, .int .i64 (w64 ((List.getD lh2_1 (Int.toNat (w64 (((lh2_1.length : Nat) : Int) - 1))) 0) + 1))), (11, .pointer (some ⟨3, 0, none⟩))]) (h' := [(3, .iter sh3_1 (ph3_1 + (Utf8.decode sh3_1 ph3_1).2)), (2, .cells (rowC (encI .i64) lh2_1) 0 3 1), (1, .cells [.int .i64 0, .int .i64 0, .int .i64 0] 0 56 0), (0, .cells [.string a] 0 9 0)]) (c' := 4) (by kernel_rfl) ?_
            refine XR.done (by kernel_rfl) ?_
            refine ⟨rfl, ?_, ?_⟩
            · try rw [b4]
              exact ⟨by kernel_rfl, by kernel_rfl, by kernel_rfl, trivial⟩
            · try rw [b4]
              kernel_rfl
          · refine XQ.skip (by kernel_rfl) ?_
            refine ⟨rfl, ?_, ?_⟩
            · try rw [b4]
              exact ⟨by kernel_rfl, by kernel_rfl, by kernel_rfl, trivial⟩
            · try rw [b4]
              kernel_rfl
        show XQ _ _ _ _ _ _ _ _
        refine XQ.region (by kernel_rfl) ?_
        refine XR.run E0_ok 1 3 [11, 25, 27] rfl (σ' := [(11, .pointer (some ⟨3, 0, none⟩)), (25, .slice (some ⟨2, 0, none⟩) lh2_1.length lh2_1.length), (27, .slice (some ⟨4, 0, none⟩) 1 1)]) (h' := [(4, .cells [.int .i64 (cond ((Int.ofNat (Utf8.decode sh3_1 ph3_1).1) == 98) (w64 ((List.getD lh2_1 (Int.toNat (w64 (((lh2_1.length : Nat) : Int) - 1))) 0) + 1)) (List.getD lh2_1 (Int.toNat (w64 (((lh2_1.length : Nat) : Int) - 1))) 0))] 0 3 1), (3, .iter sh3_1 (ph3_1 + (Utf8.decode sh3_1 ph3_1).2)), (2, .cells (rowC (encI .i64) lh2_1) 0 3 1), (1, .cells [.int .i64 0, .int .i64 0, .int .i64 0] 0 56 0), (0, .cells [.string a] 0 9 0)]) (c' := 5) (by kernel_rfl) ?_
        cases b5 : (fitsB (lh2_1.length + 1) 8 : Bool) with
        | false => cases (cF b5 h)
        | true =>
          have h := cT b5 h
          refine XR.ef E0_ok [11, 28] rfl (e_append (encI_ok .i64) (bytes := 8) (e := 3) (x := (src 30 (.tmp 25))) (y := (src 30 (.tmp 27))) (b := 2) (len := lh2_1.length) (cap := lh2_1.length) (xs := lh2_1) (m := 0) (ys := [cond ((Int.ofNat (Utf8.decode sh3_1 ph3_1).1) == 98) (w64 ((List.getD lh2_1 (Int.toNat (w64 (((lh2_1.length : Nat) : Int) - 1))) 0) + 1)) (List.getD lh2_1 (Int.toNat (w64 (((lh2_1.length : Nat) : Int) - 1))) 0)]) (d := (some (path 12 28))) (n' := (lh2_1 ++ [cond ((Int.ofNat (Utf8.decode sh3_1 ph3_1).1) == 98) (w64 ((List.getD lh2_1 (Int.toNat (w64 (((lh2_1.length : Nat) : Int) - 1))) 0) + 1)) (List.getD lh2_1 (Int.toNat (w64 (((lh2_1.length : Nat) : Int) - 1))) 0)]).length) (h' := [(5, .cells (rowC (encI .i64) (lh2_1 ++ [cond ((Int.ofNat (Utf8.decode sh3_1 ph3_1).1) == 98) (w64 ((List.getD lh2_1 (Int.toNat (w64 (((lh2_1.length : Nat) : Int) - 1))) 0) + 1)) (List.getD lh2_1 (Int.toNat (w64 (((lh2_1.length : Nat) : Int) - 1))) 0)])) 0 3 1), (4, .cells [.int .i64 (cond ((Int.ofNat (Utf8.decode sh3_1 ph3_1).1) == 98) (w64 ((List.getD lh2_1 (Int.toNat (w64 (((lh2_1.length : Nat) : Int) - 1))) 0) + 1)) (List.getD lh2_1 (Int.toNat (w64 (((lh2_1.length : Nat) : Int) - 1))) 0))] 0 3 1), (3, .iter sh3_1 (ph3_1 + (Utf8.decode sh3_1 ph3_1).2)), (1, .cells [.int .i64 0, .int .i64 0, .int .i64 0] 0 56 0), (0, .cells [.string a] 0 9 0)]) (by kernel_rfl) (by kernel_rfl) (by kernel_rfl) (by kernel_rfl) rfl (by simp) (by simp) b5 (by simp) (by kernel_rfl)) (σ' := [(11, .pointer (some ⟨3, 0, none⟩)), (28, .slice (some ⟨5, 0, none⟩) ((lh2_1 ++ [cond ((Int.ofNat (Utf8.decode sh3_1 ph3_1).1) == 98) (w64 ((List.getD lh2_1 (Int.toNat (w64 (((lh2_1.length : Nat) : Int) - 1))) 0) + 1)) (List.getD lh2_1 (Int.toNat (w64 (((lh2_1.length : Nat) : Int) - 1))) 0)]).length) ((lh2_1 ++ [cond ((Int.ofNat (Utf8.decode sh3_1 ph3_1).1) == 98) (w64 ((List.getD lh2_1 (Int.toNat (w64 (((lh2_1.length : Nat) : Int) - 1))) 0) + 1)) (List.getD lh2_1 (Int.toNat (w64 (((lh2_1.length : Nat) : Int) - 1))) 0)]).length))]) (by kernel_rfl) ?_
          refine XR.run E0_ok 1 1 [3, 11] rfl (σ' := [(3, .slice (some ⟨5, 0, none⟩) ((lh2_1 ++ [cond ((Int.ofNat (Utf8.decode sh3_1 ph3_1).1) == 98) (w64 ((List.getD lh2_1 (Int.toNat (w64 (((lh2_1.length : Nat) : Int) - 1))) 0) + 1)) (List.getD lh2_1 (Int.toNat (w64 (((lh2_1.length : Nat) : Int) - 1))) 0)]).length) ((lh2_1 ++ [cond ((Int.ofNat (Utf8.decode sh3_1 ph3_1).1) == 98) (w64 ((List.getD lh2_1 (Int.toNat (w64 (((lh2_1.length : Nat) : Int) - 1))) 0) + 1)) (List.getD lh2_1 (Int.toNat (w64 (((lh2_1.length : Nat) : Int) - 1))) 0)]).length)), (11, .pointer (some ⟨3, 0, none⟩))]) (h' := [(5, .cells (rowC (encI .i64) (lh2_1 ++ [cond ((Int.ofNat (Utf8.decode sh3_1 ph3_1).1) == 98) (w64 ((List.getD lh2_1 (Int.toNat (w64 (((lh2_1.length : Nat) : Int) - 1))) 0) + 1)) (List.getD lh2_1 (Int.toNat (w64 (((lh2_1.length : Nat) : Int) - 1))) 0)])) 0 3 1), (4, .cells [.int .i64 (cond ((Int.ofNat (Utf8.decode sh3_1 ph3_1).1) == 98) (w64 ((List.getD lh2_1 (Int.toNat (w64 (((lh2_1.length : Nat) : Int) - 1))) 0) + 1)) (List.getD lh2_1 (Int.toNat (w64 (((lh2_1.length : Nat) : Int) - 1))) 0))] 0 3 1), (3, .iter sh3_1 (ph3_1 + (Utf8.decode sh3_1 ph3_1).2)), (1, .cells [.int .i64 0, .int .i64 0, .int .i64 0] 0 56 0), (0, .cells [.string a] 0 9 0)]) (c' := 6) (by kernel_rfl) ?_
          refine XR.done (by kernel_rfl) ?_
          show XL _ _ _ _ _ _ _ _ _
          refine XL.ren (σ' := [(3, .slice (some ⟨2, 0, none⟩) ((lh2_1 ++ [cond ((Int.ofNat (Utf8.decode sh3_1 ph3_1).1) == 98) (w64 ((List.getD lh2_1 (Int.toNat (w64 (((lh2_1.length : Nat) : Int) - 1))) 0) + 1)) (List.getD lh2_1 (Int.toNat (w64 (((lh2_1.length : Nat) : Int) - 1))) 0)]).length) ((lh2_1 ++ [cond ((Int.ofNat (Utf8.decode sh3_1 ph3_1).1) == 98) (w64 ((List.getD lh2_1 (Int.toNat (w64 (((lh2_1.length : Nat) : Int) - 1))) 0) + 1)) (List.getD lh2_1 (Int.toNat (w64 (((lh2_1.length : Nat) : Int) - 1))) 0)]).length)), (11, .pointer (some ⟨3, 0, none⟩))]) (h' := [(3, .iter sh3_1 (ph3_1 + (Utf8.decode sh3_1 ph3_1).2)), (2, .cells (rowC (encI .i64) (lh2_1 ++ [cond ((Int.ofNat (Utf8.decode sh3_1 ph3_1).1) == 98) (w64 ((List.getD lh2_1 (Int.toNat (w64 (((lh2_1.length : Nat) : Int) - 1))) 0) + 1)) (List.getD lh2_1 (Int.toNat (w64 (((lh2_1.length : Nat) : Int) - 1))) 0)])) 0 3 1), (1, .cells [.int .i64 0, .int .i64 0, .int .i64 0] 0 56 0), (0, .cells [.string a] 0 9 0)]) (c' := 4) [0, 1, 5, 3] (by decide) rfl ⟨by kernel_rfl, by kernel_rfl, trivial⟩ ⟨⟨_, _, rfl, rfl, .inl ⟨rfl, trivial⟩⟩, ⟨_, _, rfl, rfl, .inl ⟨rfl, rowC_scal (encI_ok .i64) _⟩⟩, ⟨_, _, rfl, rfl, .inr ⟨_, _, _, _, rfl, rfl⟩⟩, ⟨_, _, rfl, rfl, .inr ⟨_, _, _, _, rfl, rfl⟩⟩, trivial⟩ rfl ?_
          refine XL.conv (f15_1_ok m fuel a (lh2_1 ++ [cond ((Int.ofNat (Utf8.decode sh3_1 ph3_1).1) == 98) (w64 ((List.getD lh2_1 (Int.toNat (w64 (((lh2_1.length : Nat) : Int) - 1))) 0) + 1)) (List.getD lh2_1 (Int.toNat (w64 (((lh2_1.length : Nat) : Int) - 1))) 0)]) sh3_1 (ph3_1 + (Utf8.decode sh3_1 ph3_1).2) o h Q hQ) (by first | rfl | simp)
    | false =>
      have h := cF b2 h
      refine XR.ef E0_ok [3, 11, 12] rfl (e1.trans (by rw [b2])) (σ' := [(3, .slice (some ⟨2, 0, none⟩) lh2_1.length lh2_1.length), (11, .pointer (some ⟨3, 0, none⟩)), (12, .tuple #[.bool false])]) (by kernel_rfl) ?_
      refine XR.run E0_ok 1 1 [3, 11, 12, 13] rfl (σ' := [(3, .slice (some ⟨2, 0, none⟩) lh2_1.length lh2_1.length), (11, .pointer (some ⟨3, 0, none⟩)), (12, .tuple #[.bool false]), (13, .bool false)]) (h' := [(3, .iter sh3_1 ph3_1), (2, .cells (rowC (encI .i64) lh2_1) 0 3 1), (1, .cells [.int .i64 0, .int .i64 0, .int .i64 0] 0 56 0), (0, .cells [.string a] 0 9 0)]) (c' := 4) (by kernel_rfl) ?_
      refine XR.done (by kernel_rfl) ?_
      show XQ _ _ _ _ _ _ _ _
      refine XQ.seq E0_ok (by kernel_rfl) ?_
      refine XQ.cond (s := (.tmp 13)) (b := false) (by kernel_rfl) (by kernel_rfl) (fun q => by cases q) (fun _ => ?_)
      refine XQ.ren (σ' := [(3, .slice (some ⟨2, 0, none⟩) lh2_1.length lh2_1.length)]) (h' := [(2, .cells (rowC (encI .i64) lh2_1) 0 3 1), (1, .cells [.int .i64 0, .int .i64 0, .int .i64 0] 0 56 0), (0, .cells [.string a] 0 9 0)]) (c' := 3) [0, 1, 2] (by decide) rfl ⟨by kernel_rfl, trivial⟩ ⟨⟨_, _, rfl, rfl, .inl ⟨rfl, rowC_scal (encI_ok .i64) _⟩⟩, ⟨_, _, rfl, rfl, .inr ⟨_, _, _, _, rfl, rfl⟩⟩, ⟨_, _, rfl, rfl, .inr ⟨_, _, _, _, rfl, rfl⟩⟩, trivial⟩ rfl ?_
      refine XQ.exit (i := 0) (by kernel_rfl) ?_
      cases h
      exact hQ

def f15_3 (m : Nat) : Nat → ByteArray → (List Int) → Int → Int → Int → Int → Int → Int → Option (Int × Int)
  | 0, _, _, _, _, _, _, _, _ => none
  | fuel + 1, a, o1, x19_2, x20_2, x8_3, x9_3, x28_3, x29_3 =>
    cond (decide (x29_3 < x28_3)) (
      cond (inRow (w64 (x29_3 + x20_2)) o1.length) (
        cond (inRow x29_3 o1.length) (
          f15_3 m fuel a o1 x19_2 x20_2 (cond (decide ((w64 ((List.getD o1 (Int.toNat (w64 (x29_3 + x20_2))) 0) - (List.getD o1 (Int.toNat x29_3) 0))) < x9_3)) x29_3 x8_3) (cond (decide ((w64 ((List.getD o1 (Int.toNat (w64 (x29_3 + x20_2))) 0) - (List.getD o1 (Int.toNat x29_3) 0))) < x9_3)) (w64 ((List.getD o1 (Int.toNat (w64 (x29_3 + x20_2))) 0) - (List.getD o1 (Int.toNat x29_3) 0))) x9_3) x28_3 (w64 (x29_3 + 1))
        ) none
      ) none
    ) (
      some (x8_3, x9_3)
    )

theorem f15_3_ok (m : Nat) : ∀ (fuel : Nat) (a : ByteArray) (o1 : (List Int)) (x19_2 : Int) (x20_2 : Int) (x8_3 : Int) (x9_3 : Int) (x28_3 : Int) (x29_3 : Int) (o : (Int × Int)), f15_3 m fuel a o1 x19_2 x20_2 x8_3 x9_3 x28_3 x29_3 = some o → ∀ Q : QP, Q (.exit 2) [(0, .string a), (1, .func (.func 66) #[] #[.pointer (some ⟨0, 0, none⟩)]), (4, .pointer (some ⟨1, 0, none⟩)), (6, .slice (some ⟨2, 0, none⟩) o1.length o1.length), (7, .int .i64 x20_2), (8, .int .i64 o.1), (9, .int .i64 o.2), (19, .int .i64 x19_2), (20, .int .i64 x20_2)] [(2, .cells (rowC (encI .i64) o1) 0 3 1), (1, .cells [.int .i64 0, .int .i64 0, .int .i64 0] 0 56 0), (0, .cells [.string a] 0 9 0)] 3 → XL E0 76 1 fuel f15_L3 [(0, .string a), (1, .func (.func 66) #[] #[.pointer (some ⟨0, 0, none⟩)]), (4, .pointer (some ⟨1, 0, none⟩)), (6, .slice (some ⟨2, 0, none⟩) o1.length o1.length), (7, .int .i64 x20_2), (8, .int .i64 x8_3), (9, .int .i64 x9_3), (19, .int .i64 x19_2), (20, .int .i64 x20_2), (28, .int .i64 x28_3), (29, .int .i64 x29_3)] [(2, .cells (rowC (encI .i64) o1) 0 3 1), (1, .cells [.int .i64 0, .int .i64 0, .int .i64 0] 0 56 0), (0, .cells [.string a] 0 9 0)] 3 Q
  | 0, a, o1, x19_2, x20_2, x8_3, x9_3, x28_3, x29_3, o, h, Q, hQ => by cases h
  | fuel + 1, a, o1, x19_2, x20_2, x8_3, x9_3, x28_3, x29_3, o, h, Q, hQ => by
    unfold f15_3 at h
    refine XL.succ E0_ok ?_
    refine XQ.seq E0_ok (by kernel_rfl) ?_
    refine XQ.region (by kernel_rfl) ?_
    refine XR.run E0_ok 1 1 [0, 1, 4, 6, 7, 8, 9, 19, 20, 28, 29, 30] rfl (σ' := [(0, .string a), (1, .func (.func 66) #[] #[.pointer (some ⟨0, 0, none⟩)]), (4, .pointer (some ⟨1, 0, none⟩)), (6, .slice (some ⟨2, 0, none⟩) o1.length o1.length), (7, .int .i64 x20_2), (8, .int .i64 x8_3), (9, .int .i64 x9_3), (19, .int .i64 x19_2), (20, .int .i64 x20_2), (28, .int .i64 x28_3), (29, .int .i64 x29_3), (30, .bool (decide (x29_3 < x28_3)))]) (h' := [(2, .cells (rowC (encI .i64) o1) 0 3 1), (1, .cells [.int .i64 0, .int .i64 0, .int .i64 0] 0 56 0), (0, .cells [.string a] 0 9 0)]) (c' := 3) (by kernel_rfl) ?_
    refine XR.done (by kernel_rfl) ?_
    show XQ _ _ _ _ _ _ _ _
    refine XQ.seq E0_ok (by kernel_rfl) ?_
    cases b1 : (decide (x29_3 < x28_3) : Bool) with
    | true =>
      have h := cT b1 h
      refine XQ.cond (s := (.tmp 30)) (b := true) (by kernel_rfl) (by kernel_rfl) (fun _ => ?_) (fun q => by cases q)
      refine XQ.skip (by kernel_rfl) ?_
      show XQ _ _ _ _ _ _ _ _
      refine XQ.seq E0_ok (by kernel_rfl) ?_
      refine XQ.block (id := 3) (by kernel_rfl) ?_
      refine XQ.seq E0_ok (by kernel_rfl) ?_
      refine XQ.region (by kernel_rfl) ?_
      refine XR.run E0_ok 1 2 [0, 1, 4, 6, 7, 8, 9, 10, 19, 20, 28, 29] rfl (σ' := [(0, .string a), (1, .func (.func 66) #[] #[.pointer (some ⟨0, 0, none⟩)]), (4, .pointer (some ⟨1, 0, none⟩)), (6, .slice (some ⟨2, 0, none⟩) o1.length o1.length), (7, .int .i64 x20_2), (8, .int .i64 x8_3), (9, .int .i64 x9_3), (10, .int .i64 x29_3), (19, .int .i64 x19_2), (20, .int .i64 x20_2), (28, .int .i64 x28_3), (29, .int .i64 x29_3)]) (h' := [(2, .cells (rowC (encI .i64) o1) 0 3 1), (1, .cells [.int .i64 0, .int .i64 0, .int .i64 0] 0 56 0), (0, .cells [.string a] 0 9 0)]) (c' := 3) (by kernel_rfl) ?_
      refine XR.done (by kernel_rfl) ?_
      show XQ _ _ _ _ _ _ _ _
      refine XQ.seq E0_ok (by kernel_rfl) ?_
      refine XQ.region (by kernel_rfl) ?_
      refine XR.run E0_ok 1 3 [0, 1, 4, 6, 7, 8, 9, 10, 19, 20, 28, 29, 32, 33, 34] rfl (σ' := [(0, .string a), (1, .func (.func 66) #[] #[.pointer (some ⟨0, 0, none⟩)]), (4, .pointer (some ⟨1, 0, none⟩)), (6, .slice (some ⟨2, 0, none⟩) o1.length o1.length), (7, .int .i64 x20_2), (8, .int .i64 x8_3), (9, .int .i64 x9_3), (10, .int .i64 x29_3), (19, .int .i64 x19_2), (20, .int .i64 x20_2), (28, .int .i64 x28_3), (29, .int .i64 x29_3), (32, .slice (some ⟨2, 0, none⟩) o1.length o1.length), (33, .int .i64 x29_3), (34, .int .i64 x20_2)]) (h' := [(2, .cells (rowC (encI .i64) o1) 0 3 1), (1, .cells [.int .i64 0, .int .i64 0, .int .i64 0] 0 56 0), (0, .cells [.string a] 0 9 0)]) (c' := 3) (by kernel_rfl) ?_
      refine XR.callK E0_ok [0, 1, 4, 6, 7, 8, 9, 10, 19, 20, 28, 29, 35] rfl (K := 49) (args := [.slice (some ⟨2, 0, none⟩) o1.length o1.length, .int .i64 x29_3, .int .i64 x20_2]) (d := (some (path 12 35))) (by kernel_rfl) ?_
      refine KC.bodyN E0_ok (F := Proofs.Try.f49) (by kernel_rfl) (code := f15_C49) (by kernel_rfl) (nt := 18) (by kernel_rfl) (rs := [.tmp 6]) (by kernel_rfl) (by kernel_rfl) (σ := [(0, .slice (some ⟨2, 0, none⟩) o1.length o1.length), (1, .int .i64 x29_3), (2, .int .i64 x20_2)]) (by kernel_rfl) ?_
      refine XQ.seq E0_ok (by kernel_rfl) ?_
      refine XQ.region (by kernel_rfl) ?_
      refine XR.run E0_ok 1 1 [0, 1, 2] rfl (σ' := [(0, .slice (some ⟨2, 0, none⟩) o1.length o1.length), (1, .int .i64 x29_3), (2, .int .i64 x20_2)]) (h' := [(2, .cells (rowC (encI .i64) o1) 0 3 1), (1, .cells [.int .i64 0, .int .i64 0, .int .i64 0] 0 56 0), (0, .cells [.string a] 0 9 0)]) (c' := 3) (by kernel_rfl) ?_
      refine XR.done (by kernel_rfl) ?_
      show XQ _ _ _ _ _ _ _ _
      refine XQ.seq E0_ok (by kernel_rfl) ?_
      refine XQ.quiet E0_ok (by kernel_rfl) (by kernel_rfl) ?_
      refine XU.run E0_ok 1 4 [0, 1, 7, 10] rfl (σ' := [(0, .slice (some ⟨2, 0, none⟩) o1.length o1.length), (1, .int .i64 x29_3), (7, .slice (some ⟨2, 0, none⟩) o1.length o1.length), (10, .int .i64 (w64 (x29_3 + x20_2)))]) (by kernel_rfl) ?_
      cases b2 : (inRow (w64 (x29_3 + x20_2)) o1.length : Bool) with
      | false => cases (cF b2 h)
      | true =>
        have h := cT b2 h
        refine XU.rd E0_ok [0, 1, 11] rfl (v := .pointer (some ⟨2, (Int.toNat (w64 (x29_3 + x20_2))) * 1, none⟩)) (v_idx (s := 1) (x := (src 18 (.tmp 7))) (y := (src 18 (.tmp 10))) (b := 2) (o := 0) (len := o1.length) (cap := o1.length) (ik := .i64) (i := w64 (x29_3 + x20_2)) (off := (Int.toNat (w64 (x29_3 + x20_2))) * 1) (d := (some (path 12 11))) (by kernel_rfl) (by kernel_rfl) (by kernel_rfl) b2 (by omega)) (σ' := [(0, .slice (some ⟨2, 0, none⟩) o1.length o1.length), (1, .int .i64 x29_3), (11, .pointer (some ⟨2, (Int.toNat (w64 (x29_3 + x20_2))) * 1, none⟩))]) (by kernel_rfl) ?_
        refine XU.rd E0_ok [0, 1, 12] rfl (v := .int .i64 (List.getD o1 (Int.toNat (w64 (x29_3 + x20_2))) 0)) (v_load1 (encI_ok .i64) (x := (src 18 (.tmp 11))) (b := 2) (off := (Int.toNat (w64 (x29_3 + x20_2))) * 1) (xs := o1) (fz := 0) (e := 3) (es := 1) (d := (some (path 12 12))) (by kernel_rfl) (by kernel_rfl) (by kernel_rfl) (Int.toNat (w64 (x29_3 + x20_2))) 0 0 (by first | rfl | omega) (row_len (inRow_toNat b2) (by simp)) rfl rfl) (σ' := [(0, .slice (some ⟨2, 0, none⟩) o1.length o1.length), (1, .int .i64 x29_3), (12, .int .i64 (List.getD o1 (Int.toNat (w64 (x29_3 + x20_2))) 0))]) (by kernel_rfl) ?_
        refine XU.run E0_ok 1 2 [12, 13, 14] rfl (σ' := [(12, .int .i64 (List.getD o1 (Int.toNat (w64 (x29_3 + x20_2))) 0)), (13, .slice (some ⟨2, 0, none⟩) o1.length o1.length), (14, .int .i64 x29_3)]) (by kernel_rfl) ?_
        cases b3 : (inRow x29_3 o1.length : Bool) with
        | false => cases (cF b3 h)
        | true =>
          have h := cT b3 h
          refine XU.rd E0_ok [12, 15] rfl (v := .pointer (some ⟨2, (Int.toNat x29_3) * 1, none⟩)) (v_idx (s := 1) (x := (src 18 (.tmp 13))) (y := (src 18 (.tmp 14))) (b := 2) (o := 0) (len := o1.length) (cap := o1.length) (ik := .i64) (i := x29_3) (off := (Int.toNat x29_3) * 1) (d := (some (path 12 15))) (by kernel_rfl) (by kernel_rfl) (by kernel_rfl) b3 (by omega)) (σ' := [(12, .int .i64 (List.getD o1 (Int.toNat (w64 (x29_3 + x20_2))) 0)), (15, .pointer (some ⟨2, (Int.toNat x29_3) * 1, none⟩))]) (by kernel_rfl) ?_
          refine XU.rd E0_ok [12, 16] rfl (v := .int .i64 (List.getD o1 (Int.toNat x29_3) 0)) (v_load1 (encI_ok .i64) (x := (src 18 (.tmp 15))) (b := 2) (off := (Int.toNat x29_3) * 1) (xs := o1) (fz := 0) (e := 3) (es := 1) (d := (some (path 12 16))) (by kernel_rfl) (by kernel_rfl) (by kernel_rfl) (Int.toNat x29_3) 0 0 (by first | rfl | omega) (row_len (inRow_toNat b3) (by simp)) rfl rfl) (σ' := [(12, .int .i64 (List.getD o1 (Int.toNat (w64 (x29_3 + x20_2))) 0)), (16, .int .i64 (List.getD o1 (Int.toNat x29_3) 0))]) (by kernel_rfl) ?_
          refine XU.run E0_ok 1 2 [6] rfl (σ' := [(6, .int .i64 (w64 ((List.getD o1 (Int.toNat (w64 (x29_3 + x20_2))) 0) - (List.getD o1 (Int.toNat x29_3) 0))))]) (by kernel_rfl) ?_
          refine XU.done (by kernel_rfl) ?_
          show XQ _ _ _ _ _ _ _ _
          refine XQ.ret (by kernel_rfl) ?_
          refine ⟨fun i q => (by cases q), .int .i64 (w64 ((List.getD o1 (Int.toNat (w64 (x29_3 + x20_2))) 0) - (List.getD o1 (Int.toNat x29_3) 0))), (by kernel_rfl), ?_⟩
          refine XR.conv (σ' := [(0, .string a), (1, .func (.func 66) #[] #[.pointer (some ⟨0, 0, none⟩)]), (4, .pointer (some ⟨1, 0, none⟩)), (6, .slice (some ⟨2, 0, none⟩) o1.length o1.length), (7, .int .i64 x20_2), (8, .int .i64 x8_3), (9, .int .i64 x9_3), (10, .int .i64 x29_3), (19, .int .i64 x19_2), (20, .int .i64 x20_2), (28, .int .i64 x28_3), (29, .int .i64 x29_3), (35, .int .i64 (w64 ((List.getD o1 (Int.toNat (w64 (x29_3 + x20_2))) 0) - (List.getD o1 (Int.toNat x29_3) 0))))]) (h' := [(2, .cells (rowC (encI .i64) o1) 0 3 1), (1, .cells [.int .i64 0, .int .i64 0, .int .i64 0] 0 56 0), (0, .cells [.string a] 0 9 0)]) (c' := 3) ?_ (by kernel_rfl)
          refine XR.run E0_ok 1 1 [0, 1, 4, 6, 7, 8, 9, 10, 11, 19, 20, 28, 29] rfl (σ' := [(0, .string a), (1, .func (.func 66) #[] #[.pointer (some ⟨0, 0, none⟩)]), (4, .pointer (some ⟨1, 0, none⟩)), (6, .slice (some ⟨2, 0, none⟩) o1.length o1.length), (7, .int .i64 x20_2), (8, .int .i64 x8_3), (9, .int .i64 x9_3), (10, .int .i64 x29_3), (11, .int .i64 (w64 ((List.getD o1 (Int.toNat (w64 (x29_3 + x20_2))) 0) - (List.getD o1 (Int.toNat x29_3) 0)))), (19, .int .i64 x19_2), (20, .int .i64 x20_2), (28, .int .i64 x28_3), (29, .int .i64 x29_3)]) (h' := [(2, .cells (rowC (encI .i64) o1) 0 3 1), (1, .cells [.int .i64 0, .int .i64 0, .int .i64 0] 0 56 0), (0, .cells [.string a] 0 9 0)]) (c' := 3) (by kernel_rfl) ?_
          refine XR.done (by kernel_rfl) ?_
          show XQ _ _ _ _ _ _ _ _
          refine XQ.seq E0_ok (by kernel_rfl) ?_
          refine XQ.region (by kernel_rfl) ?_
          refine XR.run E0_ok 1 3 [0, 1, 4, 6, 7, 8, 9, 10, 11, 19, 20, 28, 29, 38] rfl (σ' := [(0, .string a), (1, .func (.func 66) #[] #[.pointer (some ⟨0, 0, none⟩)]), (4, .pointer (some ⟨1, 0, none⟩)), (6, .slice (some ⟨2, 0, none⟩) o1.length o1.length), (7, .int .i64 x20_2), (8, .int .i64 x8_3), (9, .int .i64 x9_3), (10, .int .i64 x29_3), (11, .int .i64 (w64 ((List.getD o1 (Int.toNat (w64 (x29_3 + x20_2))) 0) - (List.getD o1 (Int.toNat x29_3) 0)))), (19, .int .i64 x19_2), (20, .int .i64 x20_2), (28, .int .i64 x28_3), (29, .int .i64 x29_3), (38, .bool (decide ((w64 ((List.getD o1 (Int.toNat (w64 (x29_3 + x20_2))) 0) - (List.getD o1 (Int.toNat x29_3) 0))) < x9_3)))]) (h' := [(2, .cells (rowC (encI .i64) o1) 0 3 1), (1, .cells [.int .i64 0, .int .i64 0, .int .i64 0] 0 56 0), (0, .cells [.string a] 0 9 0)]) (c' := 3) (by kernel_rfl) ?_
          refine XR.done (by kernel_rfl) ?_
          show XQ _ _ _ _ _ _ _ _
          refine XQ.meetC (σ' := [(0, .string a), (1, .func (.func 66) #[] #[.pointer (some ⟨0, 0, none⟩)]), (4, .pointer (some ⟨1, 0, none⟩)), (6, .slice (some ⟨2, 0, none⟩) o1.length o1.length), (7, .int .i64 x20_2), (8, .int .i64 (cond (decide ((w64 ((List.getD o1 (Int.toNat (w64 (x29_3 + x20_2))) 0) - (List.getD o1 (Int.toNat x29_3) 0))) < x9_3)) x29_3 x8_3)), (9, .int .i64 (cond (decide ((w64 ((List.getD o1 (Int.toNat (w64 (x29_3 + x20_2))) 0) - (List.getD o1 (Int.toNat x29_3) 0))) < x9_3)) (w64 ((List.getD o1 (Int.toNat (w64 (x29_3 + x20_2))) 0) - (List.getD o1 (Int.toNat x29_3) 0))) x9_3)), (19, .int .i64 x19_2), (20, .int .i64 x20_2), (28, .int .i64 x28_3), (29, .int .i64 x29_3)]) (h' := [(2, .cells (rowC (encI .i64) o1) 0 3 1), (1, .cells [.int .i64 0, .int .i64 0, .int .i64 0] 0 56 0), (0, .cells [.string a] 0 9 0)]) (c' := 3) ?_ ?_
          rotate_left
          · refine XQ.cond (s := (.tmp 38)) (b := decide ((w64 ((List.getD o1 (Int.toNat (w64 (x29_3 + x20_2))) 0) - (List.getD o1 (Int.toNat x29_3) 0))) < x9_3)) (by kernel_rfl) (by kernel_rfl) (fun b4 => ?_) (fun b4 => ?_)
            · refine XQ.region (by kernel_rfl) ?_
              refine XR.run E0_ok 1 4 [0, 1, 4, 6, 7, 8, 9, 19, 20, 28, 29] rfl (σ' := [(0, .string a), (1, .func (.func 66) #[] #[.pointer (some ⟨0, 0, none⟩)]), (4, .pointer (some ⟨1, 0, none⟩)), (6, .slice (some ⟨2, 0, none⟩) o1.length o1.length), (7, .int .i64 x20_2), (8, .int .i64 x29_3), (9, .int .i64 (w64 ((List.getD o1 (Int.toNat (w64 (x29_3 + x20_2))) 0) - (List.getD o1 (Int.toNat x29_3) 0)))), (19, .int .i64 x19_2), (20, .int .i64 x20_2), (28, .int .i64 x28_3), (29, .int .i64 x29_3)]) (h' := [(2, .cells (rowC (encI .i64) o1) 0 3 1), (1, .cells [.int .i64 0, .int .i64 0, .int .i64 0] 0 56 0), (0, .cells [.string a] 0 9 0)]) (c' := 3) (by kernel_rfl) ?_
              refine XR.done (by kernel_rfl) ?_
              refine ⟨rfl, ?_, ?_⟩
              · try rw [b4]
                exact ⟨by kernel_rfl, by kernel_rfl, by kernel_rfl, by kernel_rfl, by kernel_rfl, by kernel_rfl, by kernel_rfl, by kernel_rfl, by kernel_rfl, by kernel_rfl, by kernel_rfl, trivial⟩
              · try rw [b4]
                kernel_rfl
            · refine XQ.skip (by kernel_rfl) ?_
              refine ⟨rfl, ?_, ?_⟩
              · try rw [b4]
                exact ⟨by kernel_rfl, by kernel_rfl, by kernel_rfl, by kernel_rfl, by kernel_rfl, by kernel_rfl, by kernel_rfl, by kernel_rfl, by kernel_rfl, by kernel_rfl, by kernel_rfl, trivial⟩
              · try rw [b4]
                kernel_rfl
          show XQ _ _ _ _ _ _ _ _
          refine XQ.region (by kernel_rfl) ?_
          refine XR.run E0_ok 1 2 [0, 1, 4, 6, 7, 8, 9, 19, 20, 28, 29] rfl (σ' := [(0, .string a), (1, .func (.func 66) #[] #[.pointer (some ⟨0, 0, none⟩)]), (4, .pointer (some ⟨1, 0, none⟩)), (6, .slice (some ⟨2, 0, none⟩) o1.length o1.length), (7, .int .i64 x20_2), (8, .int .i64 (cond (decide ((w64 ((List.getD o1 (Int.toNat (w64 (x29_3 + x20_2))) 0) - (List.getD o1 (Int.toNat x29_3) 0))) < x9_3)) x29_3 x8_3)), (9, .int .i64 (cond (decide ((w64 ((List.getD o1 (Int.toNat (w64 (x29_3 + x20_2))) 0) - (List.getD o1 (Int.toNat x29_3) 0))) < x9_3)) (w64 ((List.getD o1 (Int.toNat (w64 (x29_3 + x20_2))) 0) - (List.getD o1 (Int.toNat x29_3) 0))) x9_3)), (19, .int .i64 x19_2), (20, .int .i64 x20_2), (28, .int .i64 x28_3), (29, .int .i64 (w64 (x29_3 + 1)))]) (h' := [(2, .cells (rowC (encI .i64) o1) 0 3 1), (1, .cells [.int .i64 0, .int .i64 0, .int .i64 0] 0 56 0), (0, .cells [.string a] 0 9 0)]) (c' := 3) (by kernel_rfl) ?_
          refine XR.done (by kernel_rfl) ?_
          show XL _ _ _ _ _ _ _ _ _
          refine XL.ren (σ' := [(0, .string a), (1, .func (.func 66) #[] #[.pointer (some ⟨0, 0, none⟩)]), (4, .pointer (some ⟨1, 0, none⟩)), (6, .slice (some ⟨2, 0, none⟩) o1.length o1.length), (7, .int .i64 x20_2), (8, .int .i64 (cond (decide ((w64 ((List.getD o1 (Int.toNat (w64 (x29_3 + x20_2))) 0) - (List.getD o1 (Int.toNat x29_3) 0))) < x9_3)) x29_3 x8_3)), (9, .int .i64 (cond (decide ((w64 ((List.getD o1 (Int.toNat (w64 (x29_3 + x20_2))) 0) - (List.getD o1 (Int.toNat x29_3) 0))) < x9_3)) (w64 ((List.getD o1 (Int.toNat (w64 (x29_3 + x20_2))) 0) - (List.getD o1 (Int.toNat x29_3) 0))) x9_3)), (19, .int .i64 x19_2), (20, .int .i64 x20_2), (28, .int .i64 x28_3), (29, .int .i64 (w64 (x29_3 + 1)))]) (h' := [(2, .cells (rowC (encI .i64) o1) 0 3 1), (1, .cells [.int .i64 0, .int .i64 0, .int .i64 0] 0 56 0), (0, .cells [.string a] 0 9 0)]) (c' := 3) [0, 1, 2] (by decide) rfl ⟨by kernel_rfl, by kernel_rfl, by kernel_rfl, by kernel_rfl, by kernel_rfl, by kernel_rfl, by kernel_rfl, by kernel_rfl, by kernel_rfl, by kernel_rfl, by kernel_rfl, trivial⟩ ⟨⟨_, _, rfl, rfl, .inl ⟨rfl, rowC_scal (encI_ok .i64) _⟩⟩, ⟨_, _, rfl, rfl, .inr ⟨_, _, _, _, rfl, rfl⟩⟩, ⟨_, _, rfl, rfl, .inr ⟨_, _, _, _, rfl, rfl⟩⟩, trivial⟩ rfl ?_
          refine XL.conv (f15_3_ok m fuel a o1 x19_2 x20_2 (cond (decide ((w64 ((List.getD o1 (Int.toNat (w64 (x29_3 + x20_2))) 0) - (List.getD o1 (Int.toNat x29_3) 0))) < x9_3)) x29_3 x8_3) (cond (decide ((w64 ((List.getD o1 (Int.toNat (w64 (x29_3 + x20_2))) 0) - (List.getD o1 (Int.toNat x29_3) 0))) < x9_3)) (w64 ((List.getD o1 (Int.toNat (w64 (x29_3 + x20_2))) 0) - (List.getD o1 (Int.toNat x29_3) 0))) x9_3) x28_3 (w64 (x29_3 + 1)) o h Q hQ) (by first | rfl | simp)
    | false =>
      have h := cF b1 h
      refine XQ.cond (s := (.tmp 30)) (b := false) (by kernel_rfl) (by kernel_rfl) (fun q => by cases q) (fun _ => ?_)
      refine XQ.ren (σ' := [(0, .string a), (1, .func (.func 66) #[] #[.pointer (some ⟨0, 0, none⟩)]), (4, .pointer (some ⟨1, 0, none⟩)), (6, .slice (some ⟨2, 0, none⟩) o1.length o1.length), (7, .int .i64 x20_2), (8, .int .i64 x8_3), (9, .int .i64 x9_3), (19, .int .i64 x19_2), (20, .int .i64 x20_2)]) (h' := [(2, .cells (rowC (encI .i64) o1) 0 3 1), (1, .cells [.int .i64 0, .int .i64 0, .int .i64 0] 0 56 0), (0, .cells [.string a] 0 9 0)]) (c' := 3) [0, 1, 2] (by decide) rfl ⟨by kernel_rfl, by kernel_rfl, by kernel_rfl, by kernel_rfl, by kernel_rfl, by kernel_rfl, by kernel_rfl, by kernel_rfl, by kernel_rfl, trivial⟩ ⟨⟨_, _, rfl, rfl, .inl ⟨rfl, rowC_scal (encI_ok .i64) _⟩⟩, ⟨_, _, rfl, rfl, .inr ⟨_, _, _, _, rfl, rfl⟩⟩, ⟨_, _, rfl, rfl, .inr ⟨_, _, _, _, rfl, rfl⟩⟩, trivial⟩ rfl ?_
      refine XQ.exit (i := 2) (by kernel_rfl) ?_
      cases h
      exact hQ

inductive Of15_5 where
  | r (xh1_1_r5 : Int)
  | x6

def f15_5 (m : Nat) : Nat → ByteArray → (List Int) → Int → Int → Int → Int → Int → Int → Int → Int → Int → Option Of15_5
  | 0, _, _, _, _, _, _, _, _, _, _, _ => none
  | fuel + 1, a, o1, x19_2, x20_2, x8_4, x9_4, x44_4, x45_4, x13_5, x57_5, x58_5 =>
    cond (decide (x58_5 < x57_5)) (
      cond (inRow (w64 (x58_5 + x20_2)) o1.length) (
        cond (inRow x58_5 o1.length) (
          cond (decide ((w64 ((w64 ((List.getD o1 (Int.toNat (w64 (x58_5 + x20_2))) 0) - (List.getD o1 (Int.toNat x58_5) 0))) + 2)) ≤ x13_5)) (
            some (.r x58_5)
          ) (
            f15_5 m fuel a o1 x19_2 x20_2 x8_4 x9_4 x44_4 x45_4 x13_5 x57_5 (w64 (x58_5 + 1))
          )
        ) none
      ) none
    ) (
      some (.x6)
    )

theorem f15_5_ok (m : Nat) : ∀ (fuel : Nat) (a : ByteArray) (o1 : (List Int)) (x19_2 : Int) (x20_2 : Int) (x8_4 : Int) (x9_4 : Int) (x44_4 : Int) (x45_4 : Int) (x13_5 : Int) (x57_5 : Int) (x58_5 : Int) (o : Of15_5), f15_5 m fuel a o1 x19_2 x20_2 x8_4 x9_4 x44_4 x45_4 x13_5 x57_5 x58_5 = some o → ∀ Q : QP, (match o with | .r xh1_1_r5 => Q .ret [(4, .pointer (some ⟨1, 0, none⟩)), (5, .bool true)] [(1, .cells [.int .i64 x45_4, .int .i64 xh1_1_r5, .int .i64 x20_2] 0 56 0), (0, .cells [.string a] 0 9 0)] 2 | .x6 => Q (.exit 6) [(0, .string a), (1, .func (.func 66) #[] #[.pointer (some ⟨0, 0, none⟩)]), (4, .pointer (some ⟨1, 0, none⟩)), (6, .slice (some ⟨2, 0, none⟩) o1.length o1.length), (7, .int .i64 x20_2), (8, .int .i64 x8_4), (9, .int .i64 x9_4), (19, .int .i64 x19_2), (20, .int .i64 x20_2), (44, .int .i64 x44_4), (45, .int .i64 x45_4)] [(2, .cells (rowC (encI .i64) o1) 0 3 1), (1, .cells [.int .i64 0, .int .i64 0, .int .i64 0] 0 56 0), (0, .cells [.string a] 0 9 0)] 3) → XL E0 76 1 fuel f15_L5 [(0, .string a), (1, .func (.func 66) #[] #[.pointer (some ⟨0, 0, none⟩)]), (4, .pointer (some ⟨1, 0, none⟩)), (6, .slice (some ⟨2, 0, none⟩) o1.length o1.length), (7, .int .i64 x20_2), (8, .int .i64 x8_4), (9, .int .i64 x9_4), (12, .int .i64 x45_4), (13, .int .i64 x13_5), (19, .int .i64 x19_2), (20, .int .i64 x20_2), (44, .int .i64 x44_4), (45, .int .i64 x45_4), (57, .int .i64 x57_5), (58, .int .i64 x58_5)] [(2, .cells (rowC (encI .i64) o1) 0 3 1), (1, .cells [.int .i64 0, .int .i64 0, .int .i64 0] 0 56 0), (0, .cells [.string a] 0 9 0)] 3 Q
  | 0, a, o1, x19_2, x20_2, x8_4, x9_4, x44_4, x45_4, x13_5, x57_5, x58_5, o, h, Q, hQ => by cases h
  | fuel + 1, a, o1, x19_2, x20_2, x8_4, x9_4, x44_4, x45_4, x13_5, x57_5, x58_5, o, h, Q, hQ => by
    unfold f15_5 at h
    refine XL.succ E0_ok ?_
    refine XQ.seq E0_ok (by kernel_rfl) ?_
    refine XQ.region (by kernel_rfl) ?_
    refine XR.run E0_ok 1 1 [0, 1, 4, 6, 7, 8, 9, 12, 13, 19, 20, 44, 45, 57, 58, 59] rfl (σ' := [(0, .string a), (1, .func (.func 66) #[] #[.pointer (some ⟨0, 0, none⟩)]), (4, .pointer (some ⟨1, 0, none⟩)), (6, .slice (some ⟨2, 0, none⟩) o1.length o1.length), (7, .int .i64 x20_2), (8, .int .i64 x8_4), (9, .int .i64 x9_4), (12, .int .i64 x45_4), (13, .int .i64 x13_5), (19, .int .i64 x19_2), (20, .int .i64 x20_2), (44, .int .i64 x44_4), (45, .int .i64 x45_4), (57, .int .i64 x57_5), (58, .int .i64 x58_5), (59, .bool (decide (x58_5 < x57_5)))]) (h' := [(2, .cells (rowC (encI .i64) o1) 0 3 1), (1, .cells [.int .i64 0, .int .i64 0, .int .i64 0] 0 56 0), (0, .cells [.string a] 0 9 0)]) (c' := 3) (by kernel_rfl) ?_
    refine XR.done (by kernel_rfl) ?_
    show XQ _ _ _ _ _ _ _ _
    refine XQ.seq E0_ok (by kernel_rfl) ?_
    cases b1 : (decide (x58_5 < x57_5) : Bool) with
    | true =>
      have h := cT b1 h
      refine XQ.cond (s := (.tmp 59)) (b := true) (by kernel_rfl) (by kernel_rfl) (fun _ => ?_) (fun q => by cases q)
      refine XQ.skip (by kernel_rfl) ?_
      show XQ _ _ _ _ _ _ _ _
      refine XQ.seq E0_ok (by kernel_rfl) ?_
      refine XQ.block (id := 7) (by kernel_rfl) ?_
      refine XQ.seq E0_ok (by kernel_rfl) ?_
      refine XQ.region (by kernel_rfl) ?_
      refine XR.run E0_ok 1 2 [0, 1, 4, 6, 7, 8, 9, 12, 13, 14, 19, 20, 44, 45, 57, 58] rfl (σ' := [(0, .string a), (1, .func (.func 66) #[] #[.pointer (some ⟨0, 0, none⟩)]), (4, .pointer (some ⟨1, 0, none⟩)), (6, .slice (some ⟨2, 0, none⟩) o1.length o1.length), (7, .int .i64 x20_2), (8, .int .i64 x8_4), (9, .int .i64 x9_4), (12, .int .i64 x45_4), (13, .int .i64 x13_5), (14, .int .i64 x58_5), (19, .int .i64 x19_2), (20, .int .i64 x20_2), (44, .int .i64 x44_4), (45, .int .i64 x45_4), (57, .int .i64 x57_5), (58, .int .i64 x58_5)]) (h' := [(2, .cells (rowC (encI .i64) o1) 0 3 1), (1, .cells [.int .i64 0, .int .i64 0, .int .i64 0] 0 56 0), (0, .cells [.string a] 0 9 0)]) (c' := 3) (by kernel_rfl) ?_
      refine XR.done (by kernel_rfl) ?_
      show XQ _ _ _ _ _ _ _ _
      refine XQ.seq E0_ok (by kernel_rfl) ?_
      refine XQ.region (by kernel_rfl) ?_
      refine XR.run E0_ok 1 3 [0, 1, 4, 6, 7, 8, 9, 12, 13, 14, 19, 20, 44, 45, 57, 58, 61, 62, 63] rfl (σ' := [(0, .string a), (1, .func (.func 66) #[] #[.pointer (some ⟨0, 0, none⟩)]), (4, .pointer (some ⟨1, 0, none⟩)), (6, .slice (some ⟨2, 0, none⟩) o1.length o1.length), (7, .int .i64 x20_2), (8, .int .i64 x8_4), (9, .int .i64 x9_4), (12, .int .i64 x45_4), (13, .int .i64 x13_5), (14, .int .i64 x58_5), (19, .int .i64 x19_2), (20, .int .i64 x20_2), (44, .int .i64 x44_4), (45, .int .i64 x45_4), (57, .int .i64 x57_5), (58, .int .i64 x58_5), (61, .slice (some ⟨2, 0, none⟩) o1.length o1.length), (62, .int .i64 x58_5), (63, .int .i64 x20_2)]) (h' := [(2, .cells (rowC (encI .i64) o1) 0 3 1), (1, .cells [.int .i64 0, .int .i64 0, .int .i64 0] 0 56 0), (0, .cells [.string a] 0 9 0)]) (c' := 3) (by kernel_rfl) ?_
      refine XR.callK E0_ok [0, 1, 4, 6, 7, 8, 9, 12, 13, 14, 19, 20, 44, 45, 57, 58, 64] rfl (K := 49) (args := [.slice (some ⟨2, 0, none⟩) o1.length o1.length, .int .i64 x58_5, .int .i64 x20_2]) (d := (some (path 12 64))) (by kernel_rfl) ?_
      refine KC.bodyN E0_ok (F := Proofs.Try.f49) (by kernel_rfl) (code := f15_C49) (by kernel_rfl) (nt := 18) (by kernel_rfl) (rs := [.tmp 6]) (by kernel_rfl) (by kernel_rfl) (σ := [(0, .slice (some ⟨2, 0, none⟩) o1.length o1.length), (1, .int .i64 x58_5), (2, .int .i64 x20_2)]) (by kernel_rfl) ?_
      refine XQ.seq E0_ok (by kernel_rfl) ?_
      refine XQ.region (by kernel_rfl) ?_
      refine XR.run E0_ok 1 1 [0, 1, 2] rfl (σ' := [(0, .slice (some ⟨2, 0, none⟩) o1.length o1.length), (1, .int .i64 x58_5), (2, .int .i64 x20_2)]) (h' := [(2, .cells (rowC (encI .i64) o1) 0 3 1), (1, .cells [.int .i64 0, .int .i64 0, .int .i64 0] 0 56 0), (0, .cells [.string a] 0 9 0)]) (c' := 3) (by kernel_rfl) ?_
      refine XR.done (by kernel_rfl) ?_
      show XQ _ _ _ _ _ _ _ _
      refine XQ.seq E0_ok (by kernel_rfl) ?_
      refine XQ.quiet E0_ok (by kernel_rfl) (by kernel_rfl) ?_
      refine XU.run E0_ok 1 4 [0, 1, 7, 10] rfl (σ' := [(0, .slice (some ⟨2, 0, none⟩) o1.length o1.length), (1, .int .i64 x58_5), (7, .slice (some ⟨2, 0, none⟩) o1.length o1.length), (10, .int .i64 (w64 (x58_5 + x20_2)))]) (by kernel_rfl) ?_
      cases b2 : (inRow (w64 (x58_5 + x20_2)) o1.length : Bool) with
      | false => cases (cF b2 h)
      | true =>
        have h := cT b2 h
        refine XU.rd E0_ok [0, 1, 11] rfl (v := .pointer (some ⟨2, (Int.toNat (w64 (x58_5 + x20_2))) * 1, none⟩)) (v_idx (s := 1) (x := (src 18 (.tmp 7))) (y := (src 18 (.tmp 10))) (b := 2) (o := 0) (len := o1.length) (cap := o1.length) (ik := .i64) (i := w64 (x58_5 + x20_2)) (off := (Int.toNat (w64 (x58_5 + x20_2))) * 1) (d := (some (path 12 11))) (by kernel_rfl) (by kernel_rfl) (by kernel_rfl) b2 (by omega)) (σ' := [(0, .slice (some ⟨2, 0, none⟩) o1.length o1.length), (1, .int .i64 x58_5), (11, .pointer (some ⟨2, (Int.toNat (w64 (x58_5 + x20_2))) * 1, none⟩))]) (by kernel_rfl) ?_
        refine XU.rd E0_ok [0, 1, 12] rfl (v := .int .i64 (List.getD o1 (Int.toNat (w64 (x58_5 + x20_2))) 0)) (v_load1 (encI_ok .i64) (x := (src 18 (.tmp 11))) (b := 2) (off := (Int.toNat (w64 (x58_5 + x20_2))) * 1) (xs := o1) (fz := 0) (e := 3) (es := 1) (d := (some (path 12 12))) (by kernel_rfl) (by kernel_rfl) (by kernel_rfl) (Int.toNat (w64 (x58_5 + x20_2))) 0 0 (by first | rfl | omega) (row_len (inRow_toNat b2) (by simp)) rfl rfl) (σ' := [(0, .slice (some ⟨2, 0, none⟩) o1.length o1.length), (1, .int .i64 x58_5), (12, .int .i64 (List.getD o1 (Int.toNat (w64 (x58_5 + x20_2))) 0))]) (by kernel_rfl) ?_
        refine XU.run E0_ok 1 2 [12, 13, 14] rfl (σ' := [(12, .int .i64 (List.getD o1 (Int.toNat (w64 (x58_5 + x20_2))) 0)), (13, .slice (some ⟨2, 0, none⟩) o1.length o1.length), (14, .int .i64 x58_5)]) (by kernel_rfl) ?_
        cases b3 : (inRow x58_5 o1.length : Bool) with
        | false => cases (cF b3 h)
        | true =>
          have h := cT b3 h
          refine XU.rd E0_ok [12, 15] rfl (v := .pointer (some ⟨2, (Int.toNat x58_5) * 1, none⟩)) (v_idx (s := 1) (x := (src 18 (.tmp 13))) (y := (src 18 (.tmp 14))) (b := 2) (o := 0) (len := o1.length) (cap := o1.length) (ik := .i64) (i := x58_5) (off := (Int.toNat x58_5) * 1) (d := (some (path 12 15))) (by kernel_rfl) (by kernel_rfl) (by kernel_rfl) b3 (by omega)) (σ' := [(12, .int .i64 (List.getD o1 (Int.toNat (w64 (x58_5 + x20_2))) 0)), (15, .pointer (some ⟨2, (Int.toNat x58_5) * 1, none⟩))]) (by kernel_rfl) ?_
          refine XU.rd E0_ok [12, 16] rfl (v := .int .i64 (List.getD o1 (Int.toNat x58_5) 0)) (v_load1 (encI_ok .i64) (x := (src 18 (.tmp 15))) (b := 2) (off := (Int.toNat x58_5) * 1) (xs := o1) (fz := 0) (e := 3) (es := 1) (d := (some (path 12 16))) (by kernel_rfl) (by kernel_rfl) (by kernel_rfl) (Int.toNat x58_5) 0 0 (by first | rfl | omega) (row_len (inRow_toNat b3) (by simp)) rfl rfl) (σ' := [(12, .int .i64 (List.getD o1 (Int.toNat (w64 (x58_5 + x20_2))) 0)), (16, .int .i64 (List.getD o1 (Int.toNat x58_5) 0))]) (by kernel_rfl) ?_
          refine XU.run E0_ok 1 2 [6] rfl (σ' := [(6, .int .i64 (w64 ((List.getD o1 (Int.toNat (w64 (x58_5 + x20_2))) 0) - (List.getD o1 (Int.toNat x58_5) 0))))]) (by kernel_rfl) ?_
          refine XU.done (by kernel_rfl) ?_
          show XQ _ _ _ _ _ _ _ _
          refine XQ.ret (by kernel_rfl) ?_
          refine ⟨fun i q => (by cases q), .int .i64 (w64 ((List.getD o1 (Int.toNat (w64 (x58_5 + x20_2))) 0) - (List.getD o1 (Int.toNat x58_5) 0))), (by kernel_rfl), ?_⟩
          refine XR.conv (σ' := [(0, .string a), (1, .func (.func 66) #[] #[.pointer (some ⟨0, 0, none⟩)]), (4, .pointer (some ⟨1, 0, none⟩)), (6, .slice (some ⟨2, 0, none⟩) o1.length o1.length), (7, .int .i64 x20_2), (8, .int .i64 x8_4), (9, .int .i64 x9_4), (12, .int .i64 x45_4), (13, .int .i64 x13_5), (14, .int .i64 x58_5), (19, .int .i64 x19_2), (20, .int .i64 x20_2), (44, .int .i64 x44_4), (45, .int .i64 x45_4), (57, .int .i64 x57_5), (58, .int .i64 x58_5), (64, .int .i64 (w64 ((List.getD o1 (Int.toNat (w64 (x58_5 + x20_2))) 0) - (List.getD o1 (Int.toNat x58_5) 0))))]) (h' := [(2, .cells (rowC (encI .i64) o1) 0 3 1), (1, .cells [.int .i64 0, .int .i64 0, .int .i64 0] 0 56 0), (0, .cells [.string a] 0 9 0)]) (c' := 3) ?_ (by kernel_rfl)
          refine XR.run E0_ok 1 3 [0, 1, 4, 6, 7, 8, 9, 12, 13, 14, 19, 20, 44, 45, 57, 58, 67] rfl (σ' := [(0, .string a), (1, .func (.func 66) #[] #[.pointer (some ⟨0, 0, none⟩)]), (4, .pointer (some ⟨1, 0, none⟩)), (6, .slice (some ⟨2, 0, none⟩) o1.length o1.length), (7, .int .i64 x20_2), (8, .int .i64 x8_4), (9, .int .i64 x9_4), (12, .int .i64 x45_4), (13, .int .i64 x13_5), (14, .int .i64 x58_5), (19, .int .i64 x19_2), (20, .int .i64 x20_2), (44, .int .i64 x44_4), (45, .int .i64 x45_4), (57, .int .i64 x57_5), (58, .int .i64 x58_5), (67, .bool (decide ((w64 ((w64 ((List.getD o1 (Int.toNat (w64 (x58_5 + x20_2))) 0) - (List.getD o1 (Int.toNat x58_5) 0))) + 2)) ≤ x13_5)))]) (h' := [(2, .cells (rowC (encI .i64) o1) 0 3 1), (1, .cells [.int .i64 0, .int .i64 0, .int .i64 0] 0 56 0), (0, .cells [.string a] 0 9 0)]) (c' := 3) (by kernel_rfl) ?_
          refine XR.done (by kernel_rfl) ?_
          show XQ _ _ _ _ _ _ _ _
          cases b4 : (decide ((w64 ((w64 ((List.getD o1 (Int.toNat (w64 (x58_5 + x20_2))) 0) - (List.getD o1 (Int.toNat x58_5) 0))) + 2)) ≤ x13_5) : Bool) with
          | true =>
            have h := cT b4 h
            refine XQ.cond (s := (.tmp 67)) (b := true) (by kernel_rfl) (by kernel_rfl) (fun _ => ?_) (fun q => by cases q)
            refine XQ.seq E0_ok (by kernel_rfl) ?_
            refine XQ.region (by kernel_rfl) ?_
            refine XR.run E0_ok 1 6 [4, 5] rfl (σ' := [(4, .pointer (some ⟨1, 0, none⟩)), (5, .bool true)]) (h' := [(2, .cells (rowC (encI .i64) o1) 0 3 1), (1, .cells [.int .i64 x45_4, .int .i64 x58_5, .int .i64 x20_2] 0 56 0), (0, .cells [.string a] 0 9 0)]) (c' := 3) (by kernel_rfl) ?_
            refine XR.done (by kernel_rfl) ?_
            show XQ _ _ _ _ _ _ _ _
            refine XQ.ren (σ' := [(4, .pointer (some ⟨1, 0, none⟩)), (5, .bool true)]) (h' := [(1, .cells [.int .i64 x45_4, .int .i64 x58_5, .int .i64 x20_2] 0 56 0), (0, .cells [.string a] 0 9 0)]) (c' := 2) [0, 1] (by decide) rfl ⟨by kernel_rfl, by kernel_rfl, trivial⟩ ⟨⟨_, _, rfl, rfl, .inr ⟨_, _, _, _, rfl, rfl⟩⟩, ⟨_, _, rfl, rfl, .inr ⟨_, _, _, _, rfl, rfl⟩⟩, trivial⟩ rfl ?_
            refine XQ.ret (by kernel_rfl) ?_
            cases h
            exact hQ
          | false =>
            have h := cF b4 h
            refine XQ.cond (s := (.tmp 67)) (b := false) (by kernel_rfl) (by kernel_rfl) (fun q => by cases q) (fun _ => ?_)
            refine XQ.skip (by kernel_rfl) ?_
            show XQ _ _ _ _ _ _ _ _
            refine XQ.region (by kernel_rfl) ?_
            refine XR.run E0_ok 1 2 [0, 1, 4, 6, 7, 8, 9, 12, 13, 19, 20, 44, 45, 57, 58] rfl (σ' := [(0, .string a), (1, .func (.func 66) #[] #[.pointer (some ⟨0, 0, none⟩)]), (4, .pointer (some ⟨1, 0, none⟩)), (6, .slice (some ⟨2, 0, none⟩) o1.length o1.length), (7, .int .i64 x20_2), (8, .int .i64 x8_4), (9, .int .i64 x9_4), (12, .int .i64 x45_4), (13, .int .i64 x13_5), (19, .int .i64 x19_2), (20, .int .i64 x20_2), (44, .int .i64 x44_4), (45, .int .i64 x45_4), (57, .int .i64 x57_5), (58, .int .i64 (w64 (x58_5 + 1)))]) (h' := [(2, .cells (rowC (encI .i64) o1) 0 3 1), (1, .cells [.int .i64 0, .int .i64 0, .int .i64 0] 0 56 0), (0, .cells [.string a] 0 9 0)]) (c' := 3) (by kernel_rfl) ?_
            refine XR.done (by kernel_rfl) ?_
            show XL _ _ _ _ _ _ _ _ _
            refine XL.ren (σ' := [(0, .string a), (1, .func (.func 66) #[] #[.pointer (some ⟨0, 0, none⟩)]), (4, .pointer (some ⟨1, 0, none⟩)), (6, .slice (some ⟨2, 0, none⟩) o1.length o1.length), (7, .int .i64 x20_2), (8, .int .i64 x8_4), (9, .int .i64 x9_4), (12, .int .i64 x45_4), (13, .int .i64 x13_5), (19, .int .i64 x19_2), (20, .int .i64 x20_2), (44, .int .i64 x44_4), (45, .int .i64 x45_4), (57, .int .i64 x57_5), (58, .int .i64 (w64 (x58_5 + 1)))]) (h' := [(2, .cells (rowC (encI .i64) o1) 0 3 1), (1, .cells [.int .i64 0, .int .i64 0, .int .i64 0] 0 56 0), (0, .cells [.string a] 0 9 0)]) (c' := 3) [0, 1, 2] (by decide) rfl ⟨by kernel_rfl, by kernel_rfl, by kernel_rfl, by kernel_rfl, by kernel_rfl, by kernel_rfl, by kernel_rfl, by kernel_rfl, by kernel_rfl, by kernel_rfl, by kernel_rfl, by kernel_rfl, by kernel_rfl, by kernel_rfl, by kernel_rfl, trivial⟩ ⟨⟨_, _, rfl, rfl, .inl ⟨rfl, rowC_scal (encI_ok .i64) _⟩⟩, ⟨_, _, rfl, rfl, .inr ⟨_, _, _, _, rfl, rfl⟩⟩, ⟨_, _, rfl, rfl, .inr ⟨_, _, _, _, rfl, rfl⟩⟩, trivial⟩ rfl ?_
            refine XL.conv (f15_5_ok m fuel a o1 x19_2 x20_2 x8_4 x9_4 x44_4 x45_4 x13_5 x57_5 (w64 (x58_5 + 1)) o h Q hQ) (by first | rfl | simp)
    | false =>
      have h := cF b1 h
      refine XQ.cond (s := (.tmp 59)) (b := false) (by kernel_rfl) (by kernel_rfl) (fun q => by cases q) (fun _ => ?_)
      refine XQ.ren (σ' := [(0, .string a), (1, .func (.func 66) #[] #[.pointer (some ⟨0, 0, none⟩)]), (4, .pointer (some ⟨1, 0, none⟩)), (6, .slice (some ⟨2, 0, none⟩) o1.length o1.length), (7, .int .i64 x20_2), (8, .int .i64 x8_4), (9, .int .i64 x9_4), (19, .int .i64 x19_2), (20, .int .i64 x20_2), (44, .int .i64 x44_4), (45, .int .i64 x45_4)]) (h' := [(2, .cells (rowC (encI .i64) o1) 0 3 1), (1, .cells [.int .i64 0, .int .i64 0, .int .i64 0] 0 56 0), (0, .cells [.string a] 0 9 0)]) (c' := 3) [0, 1, 2] (by decide) rfl ⟨by kernel_rfl, by kernel_rfl, by kernel_rfl, by kernel_rfl, by kernel_rfl, by kernel_rfl, by kernel_rfl, by kernel_rfl, by kernel_rfl, by kernel_rfl, by kernel_rfl, trivial⟩ ⟨⟨_, _, rfl, rfl, .inl ⟨rfl, rowC_scal (encI_ok .i64) _⟩⟩, ⟨_, _, rfl, rfl, .inr ⟨_, _, _, _, rfl, rfl⟩⟩, ⟨_, _, rfl, rfl, .inr ⟨_, _, _, _, rfl, rfl⟩⟩, trivial⟩ rfl ?_
      refine XQ.exit (i := 6) (by kernel_rfl) ?_
      cases h
      exact hQ

inductive Of15_4 where
  | r (xh1_0_r4 : Int) (xh1_1_r4 : Int)
  | x4

def f15_4 (m : Nat) : Nat → ByteArray → (List Int) → Int → Int → Int → Int → Int → Int → Option Of15_4
  | 0, _, _, _, _, _, _, _, _ => none
  | fuel + 1, a, o1, x19_2, x20_2, x8_4, x9_4, x44_4, x45_4 =>
    cond (decide (x45_4 < x44_4)) (
      cond (inRow (w64 (x45_4 + x20_2)) o1.length) (
        cond (inRow x45_4 o1.length) (
          cond (decide ((w64 ((List.getD o1 (Int.toNat (w64 (x45_4 + x20_2))) 0) - (List.getD o1 (Int.toNat x45_4) 0))) < (w64 (x9_4 + 2)))) (
            f15_4 m fuel a o1 x19_2 x20_2 x8_4 x9_4 x44_4 (w64 (x45_4 + 1))
          ) (
            (f15_5 m m a o1 x19_2 x20_2 x8_4 x9_4 x44_4 x45_4 (w64 ((List.getD o1 (Int.toNat (w64 (x45_4 + x20_2))) 0) - (List.getD o1 (Int.toNat x45_4) 0))) (w64 (x8_4 + 1)) 0).bind fun o5 =>
              match o5 with
              | .r xh1_1_r5 =>
                some (.r x45_4 xh1_1_r5)
              | .x6 =>
                f15_4 m fuel a o1 x19_2 x20_2 x8_4 x9_4 x44_4 (w64 (x45_4 + 1))
          )
        ) none
      ) none
    ) (
      some (.x4)
    )

theorem f15_4_ok (m : Nat) : ∀ (fuel : Nat) (a : ByteArray) (o1 : (List Int)) (x19_2 : Int) (x20_2 : Int) (x8_4 : Int) (x9_4 : Int) (x44_4 : Int) (x45_4 : Int) (o : Of15_4), f15_4 m fuel a o1 x19_2 x20_2 x8_4 x9_4 x44_4 x45_4 = some o → ∀ Q : QP, (match o with | .r xh1_0_r4 xh1_1_r4 => Q .ret [(4, .pointer (some ⟨1, 0, none⟩)), (5, .bool true)] [(1, .cells [.int .i64 xh1_0_r4, .int .i64 xh1_1_r4, .int .i64 x20_2] 0 56 0), (0, .cells [.string a] 0 9 0)] 2 | .x4 => Q (.exit 4) [(0, .string a), (1, .func (.func 66) #[] #[.pointer (some ⟨0, 0, none⟩)]), (4, .pointer (some ⟨1, 0, none⟩)), (6, .slice (some ⟨2, 0, none⟩) o1.length o1.length), (19, .int .i64 x19_2), (20, .int .i64 x20_2)] [(2, .cells (rowC (encI .i64) o1) 0 3 1), (1, .cells [.int .i64 0, .int .i64 0, .int .i64 0] 0 56 0), (0, .cells [.string a] 0 9 0)] 3) → XL E0 76 1 fuel f15_L4 [(0, .string a), (1, .func (.func 66) #[] #[.pointer (some ⟨0, 0, none⟩)]), (4, .pointer (some ⟨1, 0, none⟩)), (6, .slice (some ⟨2, 0, none⟩) o1.length o1.length), (7, .int .i64 x20_2), (8, .int .i64 x8_4), (9, .int .i64 x9_4), (19, .int .i64 x19_2), (20, .int .i64 x20_2), (44, .int .i64 x44_4), (45, .int .i64 x45_4)] [(2, .cells (rowC (encI .i64) o1) 0 3 1), (1, .cells [.int .i64 0, .int .i64 0, .int .i64 0] 0 56 0), (0, .cells [.string a] 0 9 0)] 3 Q
  | 0, a, o1, x19_2, x20_2, x8_4, x9_4, x44_4, x45_4, o, h, Q, hQ => by cases h
  | fuel + 1, a, o1, x19_2, x20_2, x8_4, x9_4, x44_4, x45_4, o, h, Q, hQ => by
    unfold f15_4 at h
    refine XL.succ E0_ok ?_
    refine XQ.seq E0_ok (by kernel_rfl) ?_
    refine XQ.region (by kernel_rfl) ?_
    refine XR.run E0_ok 1 1 [0, 1, 4, 6, 7, 8, 9, 19, 20, 44, 45, 46] rfl (σ' := [(0, .string a), (1, .func (.func 66) #[] #[.pointer (some ⟨0, 0, none⟩)]), (4, .pointer (some ⟨1, 0, none⟩)), (6, .slice (some ⟨2, 0, none⟩) o1.length o1.length), (7, .int .i64 x20_2), (8, .int .i64 x8_4), (9, .int .i64 x9_4), (19, .int .i64 x19_2), (20, .int .i64 x20_2), (44, .int .i64 x44_4), (45, .int .i64 x45_4), (46, .bool (decide (x45_4 < x44_4)))]) (h' := [(2, .cells (rowC (encI .i64) o1) 0 3 1), (1, .cells [.int .i64 0, .int .i64 0, .int .i64 0] 0 56 0), (0, .cells [.string a] 0 9 0)]) (c' := 3) (by kernel_rfl) ?_
    refine XR.done (by kernel_rfl) ?_
    show XQ _ _ _ _ _ _ _ _
    refine XQ.seq E0_ok (by kernel_rfl) ?_
    cases b1 : (decide (x45_4 < x44_4) : Bool) with
    | true =>
      have h := cT b1 h
      refine XQ.cond (s := (.tmp 46)) (b := true) (by kernel_rfl) (by kernel_rfl) (fun _ => ?_) (fun q => by cases q)
      refine XQ.skip (by kernel_rfl) ?_
      show XQ _ _ _ _ _ _ _ _
      refine XQ.seq E0_ok (by kernel_rfl) ?_
      refine XQ.block (id := 5) (by kernel_rfl) ?_
      refine XQ.seq E0_ok (by kernel_rfl) ?_
      refine XQ.region (by kernel_rfl) ?_
      refine XR.run E0_ok 1 2 [0, 1, 4, 6, 7, 8, 9, 12, 19, 20, 44, 45] rfl (σ' := [(0, .string a), (1, .func (.func 66) #[] #[.pointer (some ⟨0, 0, none⟩)]), (4, .pointer (some ⟨1, 0, none⟩)), (6, .slice (some ⟨2, 0, none⟩) o1.length o1.length), (7, .int .i64 x20_2), (8, .int .i64 x8_4), (9, .int .i64 x9_4), (12, .int .i64 x45_4), (19, .int .i64 x19_2), (20, .int .i64 x20_2), (44, .int .i64 x44_4), (45, .int .i64 x45_4)]) (h' := [(2, .cells (rowC (encI .i64) o1) 0 3 1), (1, .cells [.int .i64 0, .int .i64 0, .int .i64 0] 0 56 0), (0, .cells [.string a] 0 9 0)]) (c' := 3) (by kernel_rfl) ?_
      refine XR.done (by kernel_rfl) ?_
      show XQ _ _ _ _ _ _ _ _
      refine XQ.seq E0_ok (by kernel_rfl) ?_
      refine XQ.region (by kernel_rfl) ?_
      refine XR.run E0_ok 1 3 [0, 1, 4, 6, 7, 8, 9, 12, 19, 20, 44, 45, 48, 49, 50] rfl (σ' := [(0, .string a), (1, .func (.func 66) #[] #[.pointer (some ⟨0, 0, none⟩)]), (4, .pointer (some ⟨1, 0, none⟩)), (6, .slice (some ⟨2, 0, none⟩) o1.length o1.length), (7, .int .i64 x20_2), (8, .int .i64 x8_4), (9, .int .i64 x9_4), (12, .int .i64 x45_4), (19, .int .i64 x19_2), (20, .int .i64 x20_2), (44, .int .i64 x44_4), (45, .int .i64 x45_4), (48, .slice (some ⟨2, 0, none⟩) o1.length o1.length), (49, .int .i64 x45_4), (50, .int .i64 x20_2)]) (h' := [(2, .cells (rowC (encI .i64) o1) 0 3 1), (1, .cells [.int .i64 0, .int .i64 0, .int .i64 0] 0 56 0), (0, .cells [.string a] 0 9 0)]) (c' := 3) (by kernel_rfl) ?_
      refine XR.callK E0_ok [0, 1, 4, 6, 7, 8, 9, 12, 19, 20, 44, 45, 51] rfl (K := 49) (args := [.slice (some ⟨2, 0, none⟩) o1.length o1.length, .int .i64 x45_4, .int .i64 x20_2]) (d := (some (path 12 51))) (by kernel_rfl) ?_
      refine KC.bodyN E0_ok (F := Proofs.Try.f49) (by kernel_rfl) (code := f15_C49) (by kernel_rfl) (nt := 18) (by kernel_rfl) (rs := [.tmp 6]) (by kernel_rfl) (by kernel_rfl) (σ := [(0, .slice (some ⟨2, 0, none⟩) o1.length o1.length), (1, .int .i64 x45_4), (2, .int .i64 x20_2)]) (by kernel_rfl) ?_
      refine XQ.seq E0_ok (by kernel_rfl) ?_
      refine XQ.region (by kernel_rfl) ?_
      refine XR.run E0_ok 1 1 [0, 1, 2] rfl (σ' := [(0, .slice (some ⟨2, 0, none⟩) o1.length o1.length), (1, .int .i64 x45_4), (2, .int .i64 x20_2)]) (h' := [(2, .cells (rowC (encI .i64) o1) 0 3 1), (1, .cells [.int .i64 0, .int .i64 0, .int .i64 0] 0 56 0), (0, .cells [.string a] 0 9 0)]) (c' := 3) (by kernel_rfl) ?_
      refine XR.done (by kernel_rfl) ?_
      show XQ _ _ _ _ _ _ _ _
      refine XQ.seq E0_ok (by kernel_rfl) ?_
      refine XQ.quiet E0_ok (by kernel_rfl) (by kernel_rfl) ?_
      refine XU.run E0_ok 1 4 [0, 1, 7, 10] rfl (σ' := [(0, .slice (some ⟨2, 0, none⟩) o1.length o1.length), (1, .int .i64 x45_4), (7, .slice (some ⟨2, 0, none⟩) o1.length o1.length), (10, .int .i64 (w64 (x45_4 + x20_2)))]) (by kernel_rfl) ?_
      cases b2 : (inRow (w64 (x45_4 + x20_2)) o1.length : Bool) with
      | false => cases (cF b2 h)
      | true =>
        have h := cT b2 h
        refine XU.rd E0_ok [0, 1, 11] rfl (v := .pointer (some ⟨2, (Int.toNat (w64 (x45_4 + x20_2))) * 1, none⟩)) (v_idx (s := 1) (x := (src 18 (.tmp 7))) (y := (src 18 (.tmp 10))) (b := 2) (o := 0) (len := o1.length) (cap := o1.length) (ik := .i64) (i := w64 (x45_4 + x20_2)) (off := (Int.toNat (w64 (x45_4 + x20_2))) * 1) (d := (some (path 12 11))) (by kernel_rfl) (by kernel_rfl) (by kernel_rfl) b2 (by omega)) (σ' := [(0, .slice (some ⟨2, 0, none⟩) o1.length o1.length), (1, .int .i64 x45_4), (11, .pointer (some ⟨2, (Int.toNat (w64 (x45_4 + x20_2))) * 1, none⟩))]) (by kernel_rfl) ?_
        refine XU.rd E0_ok [0, 1, 12] rfl (v := .int .i64 (List.getD o1 (Int.toNat (w64 (x45_4 + x20_2))) 0)) (v_load1 (encI_ok .i64) (x := (src 18 (.tmp 11))) (b := 2) (off := (Int.toNat (w64 (x45_4 + x20_2))) * 1) (xs := o1) (fz := 0) (e := 3) (es := 1) (d := (some (path 12 12))) (by kernel_rfl) (by kernel_rfl) (by kernel_rfl) (Int.toNat (w64 (x45_4 + x20_2))) 0 0 (by first | rfl | omega) (row_len (inRow_toNat b2) (by simp)) rfl rfl) (σ' := [(0, .slice (some ⟨2, 0, none⟩) o1.length o1.length), (1, .int .i64 x45_4), (12, .int .i64 (List.getD o1 (Int.toNat (w64 (x45_4 + x20_2))) 0))]) (by kernel_rfl) ?_
        refine XU.run E0_ok 1 2 [12, 13, 14] rfl (σ' := [(12, .int .i64 (List.getD o1 (Int.toNat (w64 (x45_4 + x20_2))) 0)), (13, .slice (some ⟨2, 0, none⟩) o1.length o1.length), (14, .int .i64 x45_4)]) (by kernel_rfl) ?_
        cases b3 : (inRow x45_4 o1.length : Bool) with
        | false => cases (cF b3 h)
        | true =>
          have h := cT b3 h
          refine XU.rd E0_ok [12, 15] rfl (v := .pointer (some ⟨2, (Int.toNat x45_4) * 1, none⟩)) (v_idx (s := 1) (x := (src 18 (.tmp 13))) (y := (src 18 (.tmp 14))) (b := 2) (o := 0) (len := o1.length) (cap := o1.length) (ik := .i64) (i := x45_4) (off := (Int.toNat x45_4) * 1) (d := (some (path 12 15))) (by kernel_rfl) (by kernel_rfl) (by kernel_rfl) b3 (by omega)) (σ' := [(12, .int .i64 (List.getD o1 (Int.toNat (w64 (x45_4 + x20_2))) 0)), (15, .pointer (some ⟨2, (Int.toNat x45_4) * 1, none⟩))]) (by kernel_rfl) ?_
          refine XU.rd E0_ok [12, 16] rfl (v := .int .i64 (List.getD o1 (Int.toNat x45_4) 0)) (v_load1 (encI_ok .i64) (x := (src 18 (.tmp 15))) (b := 2) (off := (Int.toNat x45_4) * 1) (xs := o1) (fz := 0) (e := 3) (es := 1) (d := (some (path 12 16))) (by kernel_rfl) (by kernel_rfl) (by kernel_rfl) (Int.toNat x45_4) 0 0 (by first | rfl | omega) (row_len (inRow_toNat b3) (by simp)) rfl rfl) (σ' := [(12, .int .i64 (List.getD o1 (Int.toNat (w64 (x45_4 + x20_2))) 0)), (16, .int .i64 (List.getD o1 (Int.toNat x45_4) 0))]) (by kernel_rfl) ?_
          refine XU.run E0_ok 1 2 [6] rfl (σ' := [(6, .int .i64 (w64 ((List.getD o1 (Int.toNat (w64 (x45_4 + x20_2))) 0) - (List.getD o1 (Int.toNat x45_4) 0))))]) (by kernel_rfl) ?_
          refine XU.done (by kernel_rfl) ?_
          show XQ _ _ _ _ _ _ _ _
          refine XQ.ret (by kernel_rfl) ?_
          refine ⟨fun i q => (by cases q), .int .i64 (w64 ((List.getD o1 (Int.toNat (w64 (x45_4 + x20_2))) 0) - (List.getD o1 (Int.toNat x45_4) 0))), (by kernel_rfl), ?_⟩
          refine XR.conv (σ' := [(0, .string a), (1, .func (.func 66) #[] #[.pointer (some ⟨0, 0, none⟩)]), (4, .pointer (some ⟨1, 0, none⟩)), (6, .slice (some ⟨2, 0, none⟩) o1.length o1.length), (7, .int .i64 x20_2), (8, .int .i64 x8_4), (9, .int .i64 x9_4), (12, .int .i64 x45_4), (19, .int .i64 x19_2), (20, .int .i64 x20_2), (44, .int .i64 x44_4), (45, .int .i64 x45_4), (51, .int .i64 (w64 ((List.getD o1 (Int.toNat (w64 (x45_4 + x20_2))) 0) - (List.getD o1 (Int.toNat x45_4) 0))))]) (h' := [(2, .cells (rowC (encI .i64) o1) 0 3 1), (1, .cells [.int .i64 0, .int .i64 0, .int .i64 0] 0 56 0), (0, .cells [.string a] 0 9 0)]) (c' := 3) ?_ (by kernel_rfl)
          refine XR.run E0_ok 1 1 [0, 1, 4, 6, 7, 8, 9, 12, 13, 19, 20, 44, 45] rfl (σ' := [(0, .string a), (1, .func (.func 66) #[] #[.pointer (some ⟨0, 0, none⟩)]), (4, .pointer (some ⟨1, 0, none⟩)), (6, .slice (some ⟨2, 0, none⟩) o1.length o1.length), (7, .int .i64 x20_2), (8, .int .i64 x8_4), (9, .int .i64 x9_4), (12, .int .i64 x45_4), (13, .int .i64 (w64 ((List.getD o1 (Int.toNat (w64 (x45_4 + x20_2))) 0) - (List.getD o1 (Int.toNat x45_4) 0)))), (19, .int .i64 x19_2), (20, .int .i64 x20_2), (44, .int .i64 x44_4), (45, .int .i64 x45_4)]) (h' := [(2, .cells (rowC (encI .i64) o1) 0 3 1), (1, .cells [.int .i64 0, .int .i64 0, .int .i64 0] 0 56 0), (0, .cells [.string a] 0 9 0)]) (c' := 3) (by kernel_rfl) ?_
          refine XR.done (by kernel_rfl) ?_
          show XQ _ _ _ _ _ _ _ _
          refine XQ.seq E0_ok (by kernel_rfl) ?_
          refine XQ.seq E0_ok (by kernel_rfl) ?_
          refine XQ.region (by kernel_rfl) ?_
          refine XR.run E0_ok 1 4 [0, 1, 4, 6, 7, 8, 9, 12, 13, 19, 20, 44, 45, 55] rfl (σ' := [(0, .string a), (1, .func (.func 66) #[] #[.pointer (some ⟨0, 0, none⟩)]), (4, .pointer (some ⟨1, 0, none⟩)), (6, .slice (some ⟨2, 0, none⟩) o1.length o1.length), (7, .int .i64 x20_2), (8, .int .i64 x8_4), (9, .int .i64 x9_4), (12, .int .i64 x45_4), (13, .int .i64 (w64 ((List.getD o1 (Int.toNat (w64 (x45_4 + x20_2))) 0) - (List.getD o1 (Int.toNat x45_4) 0)))), (19, .int .i64 x19_2), (20, .int .i64 x20_2), (44, .int .i64 x44_4), (45, .int .i64 x45_4), (55, .bool (decide ((w64 ((List.getD o1 (Int.toNat (w64 (x45_4 + x20_2))) 0) - (List.getD o1 (Int.toNat x45_4) 0))) < (w64 (x9_4 + 2)))))]) (h' := [(2, .cells (rowC (encI .i64) o1) 0 3 1), (1, .cells [.int .i64 0, .int .i64 0, .int .i64 0] 0 56 0), (0, .cells [.string a] 0 9 0)]) (c' := 3) (by kernel_rfl) ?_
          refine XR.done (by kernel_rfl) ?_
          show XQ _ _ _ _ _ _ _ _
          cases b4 : (decide ((w64 ((List.getD o1 (Int.toNat (w64 (x45_4 + x20_2))) 0) - (List.getD o1 (Int.toNat x45_4) 0))) < (w64 (x9_4 + 2))) : Bool) with
          | true =>
            have h := cT b4 h
            refine XQ.cond (s := (.tmp 55)) (b := true) (by kernel_rfl) (by kernel_rfl) (fun _ => ?_) (fun q => by cases q)
            refine XQ.exit (i := 5) (by kernel_rfl) ?_
            show XQ _ _ _ _ _ _ _ _
            refine XQ.region (by kernel_rfl) ?_
            refine XR.run E0_ok 1 2 [0, 1, 4, 6, 7, 8, 9, 19, 20, 44, 45] rfl (σ' := [(0, .string a), (1, .func (.func 66) #[] #[.pointer (some ⟨0, 0, none⟩)]), (4, .pointer (some ⟨1, 0, none⟩)), (6, .slice (some ⟨2, 0, none⟩) o1.length o1.length), (7, .int .i64 x20_2), (8, .int .i64 x8_4), (9, .int .i64 x9_4), (19, .int .i64 x19_2), (20, .int .i64 x20_2), (44, .int .i64 x44_4), (45, .int .i64 (w64 (x45_4 + 1)))]) (h' := [(2, .cells (rowC (encI .i64) o1) 0 3 1), (1, .cells [.int .i64 0, .int .i64 0, .int .i64 0] 0 56 0), (0, .cells [.string a] 0 9 0)]) (c' := 3) (by kernel_rfl) ?_
            refine XR.done (by kernel_rfl) ?_
            show XL _ _ _ _ _ _ _ _ _
            refine XL.ren (σ' := [(0, .string a), (1, .func (.func 66) #[] #[.pointer (some ⟨0, 0, none⟩)]), (4, .pointer (some ⟨1, 0, none⟩)), (6, .slice (some ⟨2, 0, none⟩) o1.length o1.length), (7, .int .i64 x20_2), (8, .int .i64 x8_4), (9, .int .i64 x9_4), (19, .int .i64 x19_2), (20, .int .i64 x20_2), (44, .int .i64 x44_4), (45, .int .i64 (w64 (x45_4 + 1)))]) (h' := [(2, .cells (rowC (encI .i64) o1) 0 3 1), (1, .cells [.int .i64 0, .int .i64 0, .int .i64 0] 0 56 0), (0, .cells [.string a] 0 9 0)]) (c' := 3) [0, 1, 2] (by decide) rfl ⟨by kernel_rfl, by kernel_rfl, by kernel_rfl, by kernel_rfl, by kernel_rfl, by kernel_rfl, by kernel_rfl, by kernel_rfl, by kernel_rfl, by kernel_rfl, by kernel_rfl, trivial⟩ ⟨⟨_, _, rfl, rfl, .inl ⟨rfl, rowC_scal (encI_ok .i64) _⟩⟩, ⟨_, _, rfl, rfl, .inr ⟨_, _, _, _, rfl, rfl⟩⟩, ⟨_, _, rfl, rfl, .inr ⟨_, _, _, _, rfl, rfl⟩⟩, trivial⟩ rfl ?_
            refine XL.conv (f15_4_ok m fuel a o1 x19_2 x20_2 x8_4 x9_4 x44_4 (w64 (x45_4 + 1)) o h Q hQ) (by first | rfl | simp)
          | false =>
            have h := cF b4 h
            refine XQ.cond (s := (.tmp 55)) (b := false) (by kernel_rfl) (by kernel_rfl) (fun q => by cases q) (fun _ => ?_)
            refine XQ.skip (by kernel_rfl) ?_
            show XQ _ _ _ _ _ _ _ _
            refine XQ.seq E0_ok (by kernel_rfl) ?_
            refine XQ.region (by kernel_rfl) ?_
            refine XR.run E0_ok 1 3 [0, 1, 4, 6, 7, 8, 9, 12, 13, 19, 20, 44, 45, 57, 58] rfl (σ' := [(0, .string a), (1, .func (.func 66) #[] #[.pointer (some ⟨0, 0, none⟩)]), (4, .pointer (some ⟨1, 0, none⟩)), (6, .slice (some ⟨2, 0, none⟩) o1.length o1.length), (7, .int .i64 x20_2), (8, .int .i64 x8_4), (9, .int .i64 x9_4), (12, .int .i64 x45_4), (13, .int .i64 (w64 ((List.getD o1 (Int.toNat (w64 (x45_4 + x20_2))) 0) - (List.getD o1 (Int.toNat x45_4) 0)))), (19, .int .i64 x19_2), (20, .int .i64 x20_2), (44, .int .i64 x44_4), (45, .int .i64 x45_4), (57, .int .i64 (w64 (x8_4 + 1))), (58, .int .i64 0)]) (h' := [(2, .cells (rowC (encI .i64) o1) 0 3 1), (1, .cells [.int .i64 0, .int .i64 0, .int .i64 0] 0 56 0), (0, .cells [.string a] 0 9 0)]) (c' := 3) (by kernel_rfl) ?_
            refine XR.done (by kernel_rfl) ?_
            show XQ _ _ _ _ _ _ _ _
            refine XQ.block (id := 6) (by kernel_rfl) ?_
            refine XQ.loop m (by kernel_rfl) ?_
            obtain ⟨o5, o5_h, h⟩ := bS h
            refine XL.ren (σ' := [(0, .string a), (1, .func (.func 66) #[] #[.pointer (some ⟨0, 0, none⟩)]), (4, .pointer (some ⟨1, 0, none⟩)), (6, .slice (some ⟨2, 0, none⟩) o1.length o1.length), (7, .int .i64 x20_2), (8, .int .i64 x8_4), (9, .int .i64 x9_4), (12, .int .i64 x45_4), (13, .int .i64 (w64 ((List.getD o1 (Int.toNat (w64 (x45_4 + x20_2))) 0) - (List.getD o1 (Int.toNat x45_4) 0)))), (19, .int .i64 x19_2), (20, .int .i64 x20_2), (44, .int .i64 x44_4), (45, .int .i64 x45_4), (57, .int .i64 (w64 (x8_4 + 1))), (58, .int .i64 0)]) (h' := [(2, .cells (rowC (encI .i64) o1) 0 3 1), (1, .cells [.int .i64 0, .int .i64 0, .int .i64 0] 0 56 0), (0, .cells [.string a] 0 9 0)]) (c' := 3) [0, 1, 2] (by decide) rfl ⟨by kernel_rfl, by kernel_rfl, by kernel_rfl, by kernel_rfl, by kernel_rfl, by kernel_rfl, by kernel_rfl, by kernel_rfl, by kernel_rfl, by kernel_rfl, by kernel_rfl, by kernel_rfl, by kernel_rfl, by kernel_rfl, by kernel_rfl, trivial⟩ ⟨⟨_, _, rfl, rfl, .inl ⟨rfl, rowC_scal (encI_ok .i64) _⟩⟩, ⟨_, _, rfl, rfl, .inr ⟨_, _, _, _, rfl, rfl⟩⟩, ⟨_, _, rfl, rfl, .inr ⟨_, _, _, _, rfl, rfl⟩⟩, trivial⟩ rfl ?_
            cases o5 with
            | r xh1_1_r5 =>
              dsimp only at h
              refine XL.conv (f15_5_ok m m a o1 x19_2 x20_2 x8_4 x9_4 x44_4 x45_4 (w64 ((List.getD o1 (Int.toNat (w64 (x45_4 + x20_2))) 0) - (List.getD o1 (Int.toNat x45_4) 0))) (w64 (x8_4 + 1)) 0 (.r xh1_1_r5) o5_h _ ?_) (by first | rfl | simp)
              cases h
              exact hQ
            | x6 =>
              dsimp only at h
              refine XL.conv (f15_5_ok m m a o1 x19_2 x20_2 x8_4 x9_4 x44_4 x45_4 (w64 ((List.getD o1 (Int.toNat (w64 (x45_4 + x20_2))) 0) - (List.getD o1 (Int.toNat x45_4) 0))) (w64 (x8_4 + 1)) 0 (.x6) o5_h _ ?_) (by first | rfl | simp)
              show XQ _ _ _ _ _ _ _ _
              refine XQ.region (by kernel_rfl) ?_
              refine XR.run E0_ok 1 2 [0, 1, 4, 6, 7, 8, 9, 19, 20, 44, 45] rfl (σ' := [(0, .string a), (1, .func (.func 66) #[] #[.pointer (some ⟨0, 0, none⟩)]), (4, .pointer (some ⟨1, 0, none⟩)), (6, .slice (some ⟨2, 0, none⟩) o1.length o1.length), (7, .int .i64 x20_2), (8, .int .i64 x8_4), (9, .int .i64 x9_4), (19, .int .i64 x19_2), (20, .int .i64 x20_2), (44, .int .i64 x44_4), (45, .int .i64 (w64 (x45_4 + 1)))]) (h' := [(2, .cells (rowC (encI .i64) o1) 0 3 1), (1, .cells [.int .i64 0, .int .i64 0, .int .i64 0] 0 56 0), (0, .cells [.string a] 0 9 0)]) (c' := 3) (by kernel_rfl) ?_
              refine XR.done (by kernel_rfl) ?_
              show XL _ _ _ _ _ _ _ _ _
              refine XL.ren (σ' := [(0, .string a), (1, .func (.func 66) #[] #[.pointer (some ⟨0, 0, none⟩)]), (4, .pointer (some ⟨1, 0, none⟩)), (6, .slice (some ⟨2, 0, none⟩) o1.length o1.length), (7, .int .i64 x20_2), (8, .int .i64 x8_4), (9, .int .i64 x9_4), (19, .int .i64 x19_2), (20, .int .i64 x20_2), (44, .int .i64 x44_4), (45, .int .i64 (w64 (x45_4 + 1)))]) (h' := [(2, .cells (rowC (encI .i64) o1) 0 3 1), (1, .cells [.int .i64 0, .int .i64 0, .int .i64 0] 0 56 0), (0, .cells [.string a] 0 9 0)]) (c' := 3) [0, 1, 2] (by decide) rfl ⟨by kernel_rfl, by kernel_rfl, by kernel_rfl, by kernel_rfl, by kernel_rfl, by kernel_rfl, by kernel_rfl, by kernel_rfl, by kernel_rfl, by kernel_rfl, by kernel_rfl, trivial⟩ ⟨⟨_, _, rfl, rfl, .inl ⟨rfl, rowC_scal (encI_ok .i64) _⟩⟩, ⟨_, _, rfl, rfl, .inr ⟨_, _, _, _, rfl, rfl⟩⟩, ⟨_, _, rfl, rfl, .inr ⟨_, _, _, _, rfl, rfl⟩⟩, trivial⟩ rfl ?_
              refine XL.conv (f15_4_ok m fuel a o1 x19_2 x20_2 x8_4 x9_4 x44_4 (w64 (x45_4 + 1)) o h Q hQ) (by first | rfl | simp)
    | false =>
      have h := cF b1 h
      refine XQ.cond (s := (.tmp 46)) (b := false) (by kernel_rfl) (by kernel_rfl) (fun q => by cases q) (fun _ => ?_)
      refine XQ.ren (σ' := [(0, .string a), (1, .func (.func 66) #[] #[.pointer (some ⟨0, 0, none⟩)]), (4, .pointer (some ⟨1, 0, none⟩)), (6, .slice (some ⟨2, 0, none⟩) o1.length o1.length), (19, .int .i64 x19_2), (20, .int .i64 x20_2)]) (h' := [(2, .cells (rowC (encI .i64) o1) 0 3 1), (1, .cells [.int .i64 0, .int .i64 0, .int .i64 0] 0 56 0), (0, .cells [.string a] 0 9 0)]) (c' := 3) [0, 1, 2] (by decide) rfl ⟨by kernel_rfl, by kernel_rfl, by kernel_rfl, by kernel_rfl, by kernel_rfl, by kernel_rfl, trivial⟩ ⟨⟨_, _, rfl, rfl, .inl ⟨rfl, rowC_scal (encI_ok .i64) _⟩⟩, ⟨_, _, rfl, rfl, .inr ⟨_, _, _, _, rfl, rfl⟩⟩, ⟨_, _, rfl, rfl, .inr ⟨_, _, _, _, rfl, rfl⟩⟩, trivial⟩ rfl ?_
      refine XQ.exit (i := 4) (by kernel_rfl) ?_
      cases h
      exact hQ

inductive Of15_2 where
  | r (xh1_0_r2 : Int) (xh1_1_r2 : Int) (xh1_2_r2 : Int)
  | x0

def f15_2 (m : Nat) : Nat → ByteArray → (List Int) → Int → Int → Option Of15_2
  | 0, _, _, _, _ => none
  | fuel + 1, a, o1, x19_2, x20_2 =>
    cond (decide (x20_2 < x19_2)) (
      (f15_3 m m a o1 x19_2 x20_2 0 (w64 (((a.size : Nat) : Int) + 1)) ((a.size : Nat) : Int) 0).bind fun o3 =>
        (f15_4 m m a o1 x19_2 x20_2 o3.1 o3.2 ((a.size : Nat) : Int) 0).bind fun o4 =>
          match o4 with
          | .r xh1_0_r4 xh1_1_r4 =>
            some (.r xh1_0_r4 xh1_1_r4 x20_2)
          | .x4 =>
            f15_2 m fuel a o1 x19_2 (w64 (x20_2 + 1))
    ) (
      some (.x0)
    )

theorem f15_2_ok (m : Nat) : ∀ (fuel : Nat) (a : ByteArray) (o1 : (List Int)) (x19_2 : Int) (x20_2 : Int) (o : Of15_2), f15_2 m fuel a o1 x19_2 x20_2 = some o → ∀ Q : QP, (match o with | .r xh1_0_r2 xh1_1_r2 xh1_2_r2 => Q .ret [(4, .pointer (some ⟨1, 0, none⟩)), (5, .bool true)] [(1, .cells [.int .i64 xh1_0_r2, .int .i64 xh1_1_r2, .int .i64 xh1_2_r2] 0 56 0), (0, .cells [.string a] 0 9 0)] 2 | .x0 => Q (.exit 0) [(4, .pointer (some ⟨1, 0, none⟩))] [(1, .cells [.int .i64 0, .int .i64 0, .int .i64 0] 0 56 0), (0, .cells [.string a] 0 9 0)] 2) → XL E0 76 1 fuel f15_L2 [(0, .string a), (1, .func (.func 66) #[] #[.pointer (some ⟨0, 0, none⟩)]), (4, .pointer (some ⟨1, 0, none⟩)), (6, .slice (some ⟨2, 0, none⟩) o1.length o1.length), (19, .int .i64 x19_2), (20, .int .i64 x20_2)] [(2, .cells (rowC (encI .i64) o1) 0 3 1), (1, .cells [.int .i64 0, .int .i64 0, .int .i64 0] 0 56 0), (0, .cells [.string a] 0 9 0)] 3 Q
  | 0, a, o1, x19_2, x20_2, o, h, Q, hQ => by cases h
  | fuel + 1, a, o1, x19_2, x20_2, o, h, Q, hQ => by
    unfold f15_2 at h
    refine XL.succ E0_ok ?_
    refine XQ.seq E0_ok (by kernel_rfl) ?_
    refine XQ.region (by kernel_rfl) ?_
    refine XR.run E0_ok 1 1 [0, 1, 4, 6, 19, 20, 21] rfl (σ' := [(0, .string a), (1, .func (.func 66) #[] #[.pointer (some ⟨0, 0, none⟩)]), (4, .pointer (some ⟨1, 0, none⟩)), (6, .slice (some ⟨2, 0, none⟩) o1.length o1.length), (19, .int .i64 x19_2), (20, .int .i64 x20_2), (21, .bool (decide (x20_2 < x19_2)))]) (h' := [(2, .cells (rowC (encI .i64) o1) 0 3 1), (1, .cells [.int .i64 0, .int .i64 0, .int .i64 0] 0 56 0), (0, .cells [.string a] 0 9 0)]) (c' := 3) (by kernel_rfl) ?_
    refine XR.done (by kernel_rfl) ?_
    show XQ _ _ _ _ _ _ _ _
    refine XQ.seq E0_ok (by kernel_rfl) ?_
    cases b1 : (decide (x20_2 < x19_2) : Bool) with
    | true =>
      have h := cT b1 h
      refine XQ.cond (s := (.tmp 21)) (b := true) (by kernel_rfl) (by kernel_rfl) (fun _ => ?_) (fun q => by cases q)
      refine XQ.skip (by kernel_rfl) ?_
      show XQ _ _ _ _ _ _ _ _
      refine XQ.seq E0_ok (by kernel_rfl) ?_
      refine XQ.block (id := 1) (by kernel_rfl) ?_
      refine XQ.seq E0_ok (by kernel_rfl) ?_
      refine XQ.region (by kernel_rfl) ?_
      refine XR.run E0_ok 1 2 [0, 1, 4, 6, 7, 19, 20] rfl (σ' := [(0, .string a), (1, .func (.func 66) #[] #[.pointer (some ⟨0, 0, none⟩)]), (4, .pointer (some ⟨1, 0, none⟩)), (6, .slice (some ⟨2, 0, none⟩) o1.length o1.length), (7, .int .i64 x20_2), (19, .int .i64 x19_2), (20, .int .i64 x20_2)]) (h' := [(2, .cells (rowC (encI .i64) o1) 0 3 1), (1, .cells [.int .i64 0, .int .i64 0, .int .i64 0] 0 56 0), (0, .cells [.string a] 0 9 0)]) (c' := 3) (by kernel_rfl) ?_
      refine XR.done (by kernel_rfl) ?_
      show XQ _ _ _ _ _ _ _ _
      refine XQ.seq E0_ok (by kernel_rfl) ?_
      refine XQ.region (by kernel_rfl) ?_
      refine XR.run E0_ok 1 5 [0, 1, 4, 6, 7, 8, 9, 19, 20] rfl (σ' := [(0, .string a), (1, .func (.func 66) #[] #[.pointer (some ⟨0, 0, none⟩)]), (4, .pointer (some ⟨1, 0, none⟩)), (6, .slice (some ⟨2, 0, none⟩) o1.length o1.length), (7, .int .i64 x20_2), (8, .int .i64 0), (9, .int .i64 (w64 (((a.size : Nat) : Int) + 1))), (19, .int .i64 x19_2), (20, .int .i64 x20_2)]) (h' := [(2, .cells (rowC (encI .i64) o1) 0 3 1), (1, .cells [.int .i64 0, .int .i64 0, .int .i64 0] 0 56 0), (0, .cells [.string a] 0 9 0)]) (c' := 3) (by kernel_rfl) ?_
      refine XR.done (by kernel_rfl) ?_
      show XQ _ _ _ _ _ _ _ _
      refine XQ.seq E0_ok (by kernel_rfl) ?_
      refine XQ.seq E0_ok (by kernel_rfl) ?_
      refine XQ.region (by kernel_rfl) ?_
      refine XR.run E0_ok 1 2 [0, 1, 4, 6, 7, 8, 9, 19, 20, 26, 27] rfl (σ' := [(0, .string a), (1, .func (.func 66) #[] #[.pointer (some ⟨0, 0, none⟩)]), (4, .pointer (some ⟨1, 0, none⟩)), (6, .slice (some ⟨2, 0, none⟩) o1.length o1.length), (7, .int .i64 x20_2), (8, .int .i64 0), (9, .int .i64 (w64 (((a.size : Nat) : Int) + 1))), (19, .int .i64 x19_2), (20, .int .i64 x20_2), (26, .func (.func 66) #[] #[.pointer (some ⟨0, 0, none⟩)]), (27, .int .i64 x20_2)]) (h' := [(2, .cells (rowC (encI .i64) o1) 0 3 1), (1, .cells [.int .i64 0, .int .i64 0, .int .i64 0] 0 56 0), (0, .cells [.string a] 0 9 0)]) (c' := 3) (by kernel_rfl) ?_
      refine XR.callK E0_ok [0, 1, 4, 6, 7, 8, 9, 19, 20, 28] rfl (K := 66) (args := [.int .i64 x20_2, .pointer (some ⟨0, 0, none⟩)]) (d := (some (path 12 28))) (by kernel_rfl) ?_
      refine KC.bodyN E0_ok (F := Proofs.Try.f66) (by kernel_rfl) (code := f15_C66) (by kernel_rfl) (nt := 6) (by kernel_rfl) (rs := [.tmp 3]) (by kernel_rfl) (by kernel_rfl) (σ := [(0, .int .i64 x20_2), (1, .pointer (some ⟨0, 0, none⟩))]) (by kernel_rfl) ?_
      refine XQ.drop (σ' := [(1, .pointer (some ⟨0, 0, none⟩))]) ⟨by kernel_rfl, trivial⟩ ?_
      refine XQ.seq E0_ok (by kernel_rfl) ?_
      refine XQ.region (by kernel_rfl) ?_
      refine XR.run E0_ok 1 1 [1] rfl (σ' := [(1, .pointer (some ⟨0, 0, none⟩))]) (h' := [(2, .cells (rowC (encI .i64) o1) 0 3 1), (1, .cells [.int .i64 0, .int .i64 0, .int .i64 0] 0 56 0), (0, .cells [.string a] 0 9 0)]) (c' := 3) (by kernel_rfl) ?_
      refine XR.done (by kernel_rfl) ?_
      show XQ _ _ _ _ _ _ _ _
      refine XQ.seq E0_ok (by kernel_rfl) ?_
      refine XQ.region (by kernel_rfl) ?_
      refine XR.run E0_ok 1 3 [3] rfl (σ' := [(3, .int .i64 ((a.size : Nat) : Int))]) (h' := [(2, .cells (rowC (encI .i64) o1) 0 3 1), (1, .cells [.int .i64 0, .int .i64 0, .int .i64 0] 0 56 0), (0, .cells [.string a] 0 9 0)]) (c' := 3) (by kernel_rfl) ?_
      refine XR.done (by kernel_rfl) ?_
      show XQ _ _ _ _ _ _ _ _
      refine XQ.ret (by kernel_rfl) ?_
      refine ⟨fun i q => (by cases q), .int .i64 ((a.size : Nat) : Int), (by kernel_rfl), ?_⟩
      refine XR.conv (σ' := [(0, .string a), (1, .func (.func 66) #[] #[.pointer (some ⟨0, 0, none⟩)]), (4, .pointer (some ⟨1, 0, none⟩)), (6, .slice (some ⟨2, 0, none⟩) o1.length o1.length), (7, .int .i64 x20_2), (8, .int .i64 0), (9, .int .i64 (w64 (((a.size : Nat) : Int) + 1))), (19, .int .i64 x19_2), (20, .int .i64 x20_2), (28, .int .i64 ((a.size : Nat) : Int))]) (h' := [(2, .cells (rowC (encI .i64) o1) 0 3 1), (1, .cells [.int .i64 0, .int .i64 0, .int .i64 0] 0 56 0), (0, .cells [.string a] 0 9 0)]) (c' := 3) ?_ (by kernel_rfl)
      refine XR.run E0_ok 1 1 [0, 1, 4, 6, 7, 8, 9, 19, 20, 28, 29] rfl (σ' := [(0, .string a), (1, .func (.func 66) #[] #[.pointer (some ⟨0, 0, none⟩)]), (4, .pointer (some ⟨1, 0, none⟩)), (6, .slice (some ⟨2, 0, none⟩) o1.length o1.length), (7, .int .i64 x20_2), (8, .int .i64 0), (9, .int .i64 (w64 (((a.size : Nat) : Int) + 1))), (19, .int .i64 x19_2), (20, .int .i64 x20_2), (28, .int .i64 ((a.size : Nat) : Int)), (29, .int .i64 0)]) (h' := [(2, .cells (rowC (encI .i64) o1) 0 3 1), (1, .cells [.int .i64 0, .int .i64 0, .int .i64 0] 0 56 0), (0, .cells [.string a] 0 9 0)]) (c' := 3) (by kernel_rfl) ?_
      refine XR.done (by kernel_rfl) ?_
      show XQ _ _ _ _ _ _ _ _
      refine XQ.block (id := 2) (by kernel_rfl) ?_
      refine XQ.loop m (by kernel_rfl) ?_
      obtain ⟨o3, o3_h, h⟩ := bS h
      refine XL.ren (σ' := [(0, .string a), (1, .func (.func 66) #[] #[.pointer (some ⟨0, 0, none⟩)]), (4, .pointer (some ⟨1, 0, none⟩)), (6, .slice (some ⟨2, 0, none⟩) o1.length o1.length), (7, .int .i64 x20_2), (8, .int .i64 0), (9, .int .i64 (w64 (((a.size : Nat) : Int) + 1))), (19, .int .i64 x19_2), (20, .int .i64 x20_2), (28, .int .i64 ((a.size : Nat) : Int)), (29, .int .i64 0)]) (h' := [(2, .cells (rowC (encI .i64) o1) 0 3 1), (1, .cells [.int .i64 0, .int .i64 0, .int .i64 0] 0 56 0), (0, .cells [.string a] 0 9 0)]) (c' := 3) [0, 1, 2] (by decide) rfl ⟨by kernel_rfl, by kernel_rfl, by kernel_rfl, by kernel_rfl, by kernel_rfl, by kernel_rfl, by kernel_rfl, by kernel_rfl, by kernel_rfl, by kernel_rfl, by kernel_rfl, trivial⟩ ⟨⟨_, _, rfl, rfl, .inl ⟨rfl, rowC_scal (encI_ok .i64) _⟩⟩, ⟨_, _, rfl, rfl, .inr ⟨_, _, _, _, rfl, rfl⟩⟩, ⟨_, _, rfl, rfl, .inr ⟨_, _, _, _, rfl, rfl⟩⟩, trivial⟩ rfl ?_
      refine XL.conv (f15_3_ok m m a o1 x19_2 x20_2 0 (w64 (((a.size : Nat) : Int) + 1)) ((a.size : Nat) : Int) 0 o3 o3_h _ ?_) (by first | rfl | simp)
      show XQ _ _ _ _ _ _ _ _
      refine XQ.seq E0_ok (by kernel_rfl) ?_
      refine XQ.region (by kernel_rfl) ?_
      refine XR.run E0_ok 1 2 [0, 1, 4, 6, 7, 8, 9, 19, 20, 42, 43] rfl (σ' := [(0, .string a), (1, .func (.func 66) #[] #[.pointer (some ⟨0, 0, none⟩)]), (4, .pointer (some ⟨1, 0, none⟩)), (6, .slice (some ⟨2, 0, none⟩) o1.length o1.length), (7, .int .i64 x20_2), (8, .int .i64 o3.1), (9, .int .i64 o3.2), (19, .int .i64 x19_2), (20, .int .i64 x20_2), (42, .func (.func 66) #[] #[.pointer (some ⟨0, 0, none⟩)]), (43, .int .i64 x20_2)]) (h' := [(2, .cells (rowC (encI .i64) o1) 0 3 1), (1, .cells [.int .i64 0, .int .i64 0, .int .i64 0] 0 56 0), (0, .cells [.string a] 0 9 0)]) (c' := 3) (by kernel_rfl) ?_
      refine XR.callK E0_ok [0, 1, 4, 6, 7, 8, 9, 19, 20, 44] rfl (K := 66) (args := [.int .i64 x20_2, .pointer (some ⟨0, 0, none⟩)]) (d := (some (path 12 44))) (by kernel_rfl) ?_
      refine KC.bodyN E0_ok (F := Proofs.Try.f66) (by kernel_rfl) (code := f15_C66) (by kernel_rfl) (nt := 6) (by kernel_rfl) (rs := [.tmp 3]) (by kernel_rfl) (by kernel_rfl) (σ := [(0, .int .i64 x20_2), (1, .pointer (some ⟨0, 0, none⟩))]) (by kernel_rfl) ?_
      refine XQ.drop (σ' := [(1, .pointer (some ⟨0, 0, none⟩))]) ⟨by kernel_rfl, trivial⟩ ?_
      refine XQ.seq E0_ok (by kernel_rfl) ?_
      refine XQ.region (by kernel_rfl) ?_
      refine XR.run E0_ok 1 1 [1] rfl (σ' := [(1, .pointer (some ⟨0, 0, none⟩))]) (h' := [(2, .cells (rowC (encI .i64) o1) 0 3 1), (1, .cells [.int .i64 0, .int .i64 0, .int .i64 0] 0 56 0), (0, .cells [.string a] 0 9 0)]) (c' := 3) (by kernel_rfl) ?_
      refine XR.done (by kernel_rfl) ?_
      show XQ _ _ _ _ _ _ _ _
      refine XQ.seq E0_ok (by kernel_rfl) ?_
      refine XQ.region (by kernel_rfl) ?_
      refine XR.run E0_ok 1 3 [3] rfl (σ' := [(3, .int .i64 ((a.size : Nat) : Int))]) (h' := [(2, .cells (rowC (encI .i64) o1) 0 3 1), (1, .cells [.int .i64 0, .int .i64 0, .int .i64 0] 0 56 0), (0, .cells [.string a] 0 9 0)]) (c' := 3) (by kernel_rfl) ?_
      refine XR.done (by kernel_rfl) ?_
      show XQ _ _ _ _ _ _ _ _
      refine XQ.ret (by kernel_rfl) ?_
      refine ⟨fun i q => (by cases q), .int .i64 ((a.size : Nat) : Int), (by kernel_rfl), ?_⟩
      refine XR.conv (σ' := [(0, .string a), (1, .func (.func 66) #[] #[.pointer (some ⟨0, 0, none⟩)]), (4, .pointer (some ⟨1, 0, none⟩)), (6, .slice (some ⟨2, 0, none⟩) o1.length o1.length), (7, .int .i64 x20_2), (8, .int .i64 o3.1), (9, .int .i64 o3.2), (19, .int .i64 x19_2), (20, .int .i64 x20_2), (44, .int .i64 ((a.size : Nat) : Int))]) (h' := [(2, .cells (rowC (encI .i64) o1) 0 3 1), (1, .cells [.int .i64 0, .int .i64 0, .int .i64 0] 0 56 0), (0, .cells [.string a] 0 9 0)]) (c' := 3) ?_ (by kernel_rfl)
      refine XR.run E0_ok 1 1 [0, 1, 4, 6, 7, 8, 9, 19, 20, 44, 45] rfl (σ' := [(0, .string a), (1, .func (.func 66) #[] #[.pointer (some ⟨0, 0, none⟩)]), (4, .pointer (some ⟨1, 0, none⟩)), (6, .slice (some ⟨2, 0, none⟩) o1.length o1.length), (7, .int .i64 x20_2), (8, .int .i64 o3.1), (9, .int .i64 o3.2), (19, .int .i64 x19_2), (20, .int .i64 x20_2), (44, .int .i64 ((a.size : Nat) : Int)), (45, .int .i64 0)]) (h' := [(2, .cells (rowC (encI .i64) o1) 0 3 1), (1, .cells [.int .i64 0, .int .i64 0, .int .i64 0] 0 56 0), (0, .cells [.string a] 0 9 0)]) (c' := 3) (by kernel_rfl) ?_
      refine XR.done (by kernel_rfl) ?_
      show XQ _ _ _ _ _ _ _ _
      refine XQ.block (id := 4) (by kernel_rfl) ?_
      refine XQ.loop m (by kernel_rfl) ?_
      obtain ⟨o4, o4_h, h⟩ := bS h
      refine XL.ren (σ' := [(0, .string a), (1, .func (.func 66) #[] #[.pointer (some ⟨0, 0, none⟩)]), (4, .pointer (some ⟨1, 0, none⟩)), (6, .slice (some ⟨2, 0, none⟩) o1.length o1.length), (7, .int .i64 x20_2), (8, .int .i64 o3.1), (9, .int .i64 o3.2), (19, .int .i64 x19_2), (20, .int .i64 x20_2), (44, .int .i64 ((a.size : Nat) : Int)), (45, .int .i64 0)]) (h' := [(2, .cells (rowC (encI .i64) o1) 0 3 1), (1, .cells [.int .i64 0, .int .i64 0, .int .i64 0] 0 56 0), (0, .cells [.string a] 0 9 0)]) (c' := 3) [0, 1, 2] (by decide) rfl ⟨by kernel_rfl, by kernel_rfl, by kernel_rfl, by kernel_rfl, by kernel_rfl, by kernel_rfl, by kernel_rfl, by kernel_rfl, by kernel_rfl, by kernel_rfl, by kernel_rfl, trivial⟩ ⟨⟨_, _, rfl, rfl, .inl ⟨rfl, rowC_scal (encI_ok .i64) _⟩⟩, ⟨_, _, rfl, rfl, .inr ⟨_, _, _, _, rfl, rfl⟩⟩, ⟨_, _, rfl, rfl, .inr ⟨_, _, _, _, rfl, rfl⟩⟩, trivial⟩ rfl ?_
      cases o4 with
      | r xh1_0_r4 xh1_1_r4 =>
        dsimp only at h
        refine XL.conv (f15_4_ok m m a o1 x19_2 x20_2 o3.1 o3.2 ((a.size : Nat) : Int) 0 (.r xh1_0_r4 xh1_1_r4) o4_h _ ?_) (by first | rfl | simp)
        cases h
        exact hQ
      | x4 =>
        dsimp only at h
        refine XL.conv (f15_4_ok m m a o1 x19_2 x20_2 o3.1 o3.2 ((a.size : Nat) : Int) 0 (.x4) o4_h _ ?_) (by first | rfl | simp)
        show XQ _ _ _ _ _ _ _ _
        refine XQ.region (by kernel_rfl) ?_
        refine XR.run E0_ok 1 2 [0, 1, 4, 6, 19, 20] rfl (σ' := [(0, .string a), (1, .func (.func 66) #[] #[.pointer (some ⟨0, 0, none⟩)]), (4, .pointer (some ⟨1, 0, none⟩)), (6, .slice (some ⟨2, 0, none⟩) o1.length o1.length), (19, .int .i64 x19_2), (20, .int .i64 (w64 (x20_2 + 1)))]) (h' := [(2, .cells (rowC (encI .i64) o1) 0 3 1), (1, .cells [.int .i64 0, .int .i64 0, .int .i64 0] 0 56 0), (0, .cells [.string a] 0 9 0)]) (c' := 3) (by kernel_rfl) ?_
        refine XR.done (by kernel_rfl) ?_
        show XL _ _ _ _ _ _ _ _ _
        refine XL.ren (σ' := [(0, .string a), (1, .func (.func 66) #[] #[.pointer (some ⟨0, 0, none⟩)]), (4, .pointer (some ⟨1, 0, none⟩)), (6, .slice (some ⟨2, 0, none⟩) o1.length o1.length), (19, .int .i64 x19_2), (20, .int .i64 (w64 (x20_2 + 1)))]) (h' := [(2, .cells (rowC (encI .i64) o1) 0 3 1), (1, .cells [.int .i64 0, .int .i64 0, .int .i64 0] 0 56 0), (0, .cells [.string a] 0 9 0)]) (c' := 3) [0, 1, 2] (by decide) rfl ⟨by kernel_rfl, by kernel_rfl, by kernel_rfl, by kernel_rfl, by kernel_rfl, by kernel_rfl, trivial⟩ ⟨⟨_, _, rfl, rfl, .inl ⟨rfl, rowC_scal (encI_ok .i64) _⟩⟩, ⟨_, _, rfl, rfl, .inr ⟨_, _, _, _, rfl, rfl⟩⟩, ⟨_, _, rfl, rfl, .inr ⟨_, _, _, _, rfl, rfl⟩⟩, trivial⟩ rfl ?_
        refine XL.conv (f15_2_ok m fuel a o1 x19_2 (w64 (x20_2 + 1)) o h Q hQ) (by first | rfl | simp)
    | false =>
      have h := cF b1 h
      refine XQ.cond (s := (.tmp 21)) (b := false) (by kernel_rfl) (by kernel_rfl) (fun q => by cases q) (fun _ => ?_)
      refine XQ.ren (σ' := [(4, .pointer (some ⟨1, 0, none⟩))]) (h' := [(1, .cells [.int .i64 0, .int .i64 0, .int .i64 0] 0 56 0), (0, .cells [.string a] 0 9 0)]) (c' := 2) [0, 1] (by decide) rfl ⟨by kernel_rfl, trivial⟩ ⟨⟨_, _, rfl, rfl, .inr ⟨_, _, _, _, rfl, rfl⟩⟩, ⟨_, _, rfl, rfl, .inr ⟨_, _, _, _, rfl, rfl⟩⟩, trivial⟩ rfl ?_
      refine XQ.exit (i := 0) (by kernel_rfl) ?_
      cases h
      exact hQ

def f15 (m : Nat) (a : ByteArray) : Option (Int × Int × Int × Int) :=
  (f19 m a).bind fun r1 =>
    cond (r1 != 0) (
      some (0, 0, 0, r1)
    ) (
      cond (Nat.ble (a.size + a.size) 9223372036854775807) (
        (f15_1 m m a [0] (catS a a) 0).bind fun o1 =>
          (f15_2 m m a o1 (w64 (((a.size : Nat) : Int) + 1)) 0).bind fun o2 =>
            match o2 with
            | .r xh1_0_r2 xh1_1_r2 xh1_2_r2 =>
              some (xh1_0_r2, xh1_1_r2, xh1_2_r2, 0)
            | .x0 =>
              some (0, 0, 0, 13)
      ) none
    )

theorem f15_ok (m : Nat) (a : ByteArray) (o : Int × Int × Int × Int) (h : f15 m a = some o) (w : World) (hI : maxInv w) : Calls Proofs.Try.prog 15 #[.string a] w fun e w' => e = .returned (.tuple #[.int .i64 o.1, .int .i64 o.2.1, .int .i64 o.2.2.1, .int .i64 o.2.2.2]) ∧ Below w.heap.size w w' := by
  refine KC.calls (E := E0) (args := [.string a]) (v := .tuple #[.int .i64 o.1, .int .i64 o.2.1, .int .i64 o.2.2.1, .int .i64 o.2.2.2]) rfl rfl (KC.bodyN E0_ok (F := Proofs.Try.f15) (by kernel_rfl) (code := f15_C15) (by kernel_rfl) (nt := 29) (by kernel_rfl) (rs := [.tmp 2, .tmp 3, .tmp 4, .tmp 5]) (by kernel_rfl) (by kernel_rfl) (σ := [(0, .string a)]) (by kernel_rfl) ?_) w (maxInv_size hI) hI
  unfold f15 at h
  refine XQ.seq E0_ok (by kernel_rfl) ?_
  refine XQ.region (by kernel_rfl) ?_
  refine XR.run E0_ok 1 4 [0] rfl (σ' := [(0, .string a)]) (h' := []) (c' := 0) (by kernel_rfl) ?_
  refine XR.done (by kernel_rfl) ?_
  show XQ _ _ _ _ _ _ _ _
  refine XQ.seq E0_ok (by kernel_rfl) ?_
  refine XQ.seq E0_ok (by kernel_rfl) ?_
  refine XQ.region (by kernel_rfl) ?_
  refine XR.run E0_ok 1 1 [0, 9] rfl (σ' := [(0, .string a), (9, .string a)]) (h' := []) (c' := 0) (by kernel_rfl) ?_
  obtain ⟨r1, r1_h, h⟩ := bS h
  refine XR.call E0_ok [0, 10] rfl (K := 19) (args := [.string a]) (d := (some (path 12 10))) (by kernel_rfl) (KC.of_calls E0_ok (F := Proofs.Try.f19) (v := .int .i64 r1) (by kernel_rfl) rfl rfl (fun w hI => f19_ok m a r1 r1_h w hI)) ?_
  rintro _ _ _ ⟨rfl, rfl, rfl⟩
  refine XR.conv (σ' := [(0, .string a), (10, .int .i64 r1)]) (h' := []) (c' := 0) ?_ (by kernel_rfl)
  refine XR.run E0_ok 1 1 [0, 6] rfl (σ' := [(0, .string a), (6, .int .i64 r1)]) (h' := []) (c' := 0) (by kernel_rfl) ?_
  refine XR.done (by kernel_rfl) ?_
  show XQ _ _ _ _ _ _ _ _
  refine XQ.seq E0_ok (by kernel_rfl) ?_
  refine XQ.region (by kernel_rfl) ?_
  refine XR.run E0_ok 1 2 [0, 6, 12] rfl (σ' := [(0, .string a), (6, .int .i64 r1), (12, .bool (r1 != 0))]) (h' := []) (c' := 0) (by kernel_rfl) ?_
  refine XR.done (by kernel_rfl) ?_
  show XQ _ _ _ _ _ _ _ _
  cases b1 : (r1 != 0 : Bool) with
  | true =>
    have h := cT b1 h
    refine XQ.cond (s := (.tmp 12)) (b := true) (by kernel_rfl) (by kernel_rfl) (fun _ => ?_) (fun q => by cases q)
    refine XQ.seq E0_ok (by kernel_rfl) ?_
    refine XQ.region (by kernel_rfl) ?_
    refine XR.run E0_ok 1 5 [2, 3, 4, 5] rfl (σ' := [(2, .int .i64 0), (3, .int .i64 0), (4, .int .i64 0), (5, .int .i64 r1)]) (h' := []) (c' := 0) (by kernel_rfl) ?_
    refine XR.done (by kernel_rfl) ?_
    show XQ _ _ _ _ _ _ _ _
    refine XQ.ret (by kernel_rfl) ?_
    have h := Option.some.inj h
    subst h
    exact ⟨fun i q => (by cases q), .tuple #[.int .i64 0, .int .i64 0, .int .i64 0, .int .i64 r1], (by kernel_rfl), rfl⟩
  | false =>
    have h := cF b1 h
    refine XQ.cond (s := (.tmp 12)) (b := false) (by kernel_rfl) (by kernel_rfl) (fun q => by cases q) (fun _ => ?_)
    refine XQ.skip (by kernel_rfl) ?_
    show XQ _ _ _ _ _ _ _ _
    refine XQ.seq E0_ok (by kernel_rfl) ?_
    refine XQ.region (by kernel_rfl) ?_
    refine XR.run E0_ok 1 2 [15, 16] rfl (σ' := [(15, .string a), (16, .string a)]) (h' := []) (c' := 0) (by kernel_rfl) ?_
    refine XR.callK E0_ok [15, 17] rfl (K := 45) (args := [.string a]) (d := (some (path 12 17))) (by kernel_rfl) ?_
    refine KC.bodyN E0_ok (F := Proofs.Try.f45) (by kernel_rfl) (code := f15_C45) (by kernel_rfl) (nt := 4) (by kernel_rfl) (rs := [.tmp 2]) (by kernel_rfl) (by kernel_rfl) (σ := [(0, .string a)]) (by kernel_rfl) ?_
    refine XQ.seq E0_ok (by kernel_rfl) ?_
    refine XQ.region (by kernel_rfl) ?_
    refine XR.run E0_ok 1 2 [1] rfl (σ' := [(1, .pointer (some ⟨0, 0, none⟩))]) (h' := [(0, .cells [.string a] 0 9 0)]) (c' := 1) (by kernel_rfl) ?_
    refine XR.done (by kernel_rfl) ?_
    show XQ _ _ _ _ _ _ _ _
    refine XQ.seq E0_ok (by kernel_rfl) ?_
    refine XQ.region (by kernel_rfl) ?_
    refine XR.run E0_ok 1 2 [2] rfl (σ' := [(2, .func (.func 66) #[] #[.pointer (some ⟨0, 0, none⟩)])]) (h' := [(0, .cells [.string a] 0 9 0)]) (c' := 1) (by kernel_rfl) ?_
    refine XR.done (by kernel_rfl) ?_
    show XQ _ _ _ _ _ _ _ _
    refine XQ.ret (by kernel_rfl) ?_
    refine ⟨fun i q => (by cases q), .func (.func 66) #[] #[.pointer (some ⟨0, 0, none⟩)], (by kernel_rfl), ?_⟩
    refine XR.conv (σ' := [(15, .string a), (17, .func (.func 66) #[] #[.pointer (some ⟨0, 0, none⟩)])]) (h' := [(0, .cells [.string a] 0 9 0)]) (c' := 1) ?_ (by kernel_rfl)
    refine XR.callK E0_ok [18] rfl (K := 44) (args := [.string a, .func (.func 66) #[] #[.pointer (some ⟨0, 0, none⟩)]]) (d := (some (path 12 18))) (by kernel_rfl) ?_
    refine KC.bodyN E0_ok (F := Proofs.Try.f44) (by kernel_rfl) (code := f15_C44) (by kernel_rfl) (nt := 76) (by kernel_rfl) (rs := [.cell 4 56, .tmp 5]) (by kernel_rfl) (by kernel_rfl) (σ := [(0, .string a), (1, .func (.func 66) #[] #[.pointer (some ⟨0, 0, none⟩)])]) (by kernel_rfl) ?_
    refine XQ.seq E0_ok (by kernel_rfl) ?_
    refine XQ.region (by kernel_rfl) ?_
    refine XR.run E0_ok 1 2 [0, 1, 4] rfl (σ' := [(0, .string a), (1, .func (.func 66) #[] #[.pointer (some ⟨0, 0, none⟩)]), (4, .pointer (some ⟨1, 0, none⟩))]) (h' := [(1, .cells [.int .i64 0, .int .i64 0, .int .i64 0] 0 56 0), (0, .cells [.string a] 0 9 0)]) (c' := 2) (by kernel_rfl) ?_
    refine XR.done (by kernel_rfl) ?_
    show XQ _ _ _ _ _ _ _ _
    refine XQ.seq E0_ok (by kernel_rfl) ?_
    refine XQ.region (by kernel_rfl) ?_
    refine XR.run E0_ok 1 1 [0, 1, 4, 15] rfl (σ' := [(0, .string a), (1, .func (.func 66) #[] #[.pointer (some ⟨0, 0, none⟩)]), (4, .pointer (some ⟨1, 0, none⟩)), (15, .string a)]) (h' := [(1, .cells [.int .i64 0, .int .i64 0, .int .i64 0] 0 56 0), (0, .cells [.string a] 0 9 0)]) (c' := 2) (by kernel_rfl) ?_
    refine XR.callK E0_ok [0, 1, 4, 16] rfl (K := 48) (args := [.string a]) (d := (some (path 12 16))) (by kernel_rfl) ?_
    refine KC.bodyN E0_ok (F := Proofs.Try.f48) (by kernel_rfl) (code := f15_C48) (by kernel_rfl) (nt := 30) (by kernel_rfl) (rs := [.tmp 2]) (by kernel_rfl) (by kernel_rfl) (σ := [(0, .string a)]) (by kernel_rfl) ?_
    refine XQ.seq E0_ok (by kernel_rfl) ?_
    refine XQ.region (by kernel_rfl) ?_
    refine XR.run E0_ok 1 1 [0] rfl (σ' := [(0, .string a)]) (h' := [(1, .cells [.int .i64 0, .int .i64 0, .int .i64 0] 0 56 0), (0, .cells [.string a] 0 9 0)]) (c' := 2) (by kernel_rfl) ?_
    refine XR.done (by kernel_rfl) ?_
    show XQ _ _ _ _ _ _ _ _
    refine XQ.seq E0_ok (by kernel_rfl) ?_
    refine XQ.region (by kernel_rfl) ?_
    refine XR.run E0_ok 1 2 [0, 3] rfl (σ' := [(0, .string a), (3, .slice (some ⟨2, 0, none⟩) 1 1)]) (h' := [(2, .cells [.int .i64 0] 0 3 1), (1, .cells [.int .i64 0, .int .i64 0, .int .i64 0] 0 56 0), (0, .cells [.string a] 0 9 0)]) (c' := 3) (by kernel_rfl) ?_
    refine XR.done (by kernel_rfl) ?_
    show XQ _ _ _ _ _ _ _ _
    refine XQ.seq E0_ok (by kernel_rfl) ?_
    refine XQ.seq E0_ok (by kernel_rfl) ?_
    refine XQ.region (by kernel_rfl) ?_
    refine XR.run E0_ok 1 2 [3, 8, 9] rfl (σ' := [(3, .slice (some ⟨2, 0, none⟩) 1 1), (8, .string a), (9, .string a)]) (h' := [(2, .cells [.int .i64 0] 0 3 1), (1, .cells [.int .i64 0, .int .i64 0, .int .i64 0] 0 56 0), (0, .cells [.string a] 0 9 0)]) (c' := 3) (by kernel_rfl) ?_
    cases b2 : (Nat.ble (a.size + a.size) 9223372036854775807 : Bool) with
    | false => cases (cF b2 h)
    | true =>
      have h := cT b2 h
      have e3 : insV (headI ((gsOf E0 30 (opsOf (lft (lft (rgt (rgt f15_C48)))))).drop 2) (trS 30 [(3, .slice (some ⟨2, 0, none⟩) 1 1), (8, .string a), (9, .string a)])) (trS 30 [(3, .slice (some ⟨2, 0, none⟩) 1 1), (8, .string a), (9, .string a)]) [(2, .cells [.int .i64 0] 0 3 1), (1, .cells [.int .i64 0, .int .i64 0, .int .i64 0] 0 56 0), (0, .cells [.string a] 0 9 0)] = (match (Nat.ble (a.size + a.size) 9223372036854775807 : Bool) with | true => some (.string (catS a a)) | false => none) := by kernel_rfl
      refine XR.rd E0_ok [3, 10] rfl (e3.trans (by rw [b2])) (σ' := [(3, .slice (some ⟨2, 0, none⟩) 1 1), (10, .string (catS a a))]) (by kernel_rfl) ?_
      refine XR.run E0_ok 1 1 [3, 11] rfl (σ' := [(3, .slice (some ⟨2, 0, none⟩) 1 1), (11, .pointer (some ⟨3, 0, none⟩))]) (h' := [(3, .iter (catS a a) 0), (2, .cells [.int .i64 0] 0 3 1), (1, .cells [.int .i64 0, .int .i64 0, .int .i64 0] 0 56 0), (0, .cells [.string a] 0 9 0)]) (c' := 4) (by kernel_rfl) ?_
      refine XR.done (by kernel_rfl) ?_
      show XQ _ _ _ _ _ _ _ _
      refine XQ.block (id := 0) (by kernel_rfl) ?_
      refine XQ.loop m (by kernel_rfl) ?_
      obtain ⟨o1, o1_h, h⟩ := bS h
      refine XL.ren (σ' := [(3, .slice (some ⟨2, 0, none⟩) 1 1), (11, .pointer (some ⟨3, 0, none⟩))]) (h' := [(3, .iter (catS a a) 0), (2, .cells [.int .i64 0] 0 3 1), (1, .cells [.int .i64 0, .int .i64 0, .int .i64 0] 0 56 0), (0, .cells [.string a] 0 9 0)]) (c' := 4) [0, 1, 2, 3] (by decide) rfl ⟨by kernel_rfl, by kernel_rfl, trivial⟩ ⟨⟨_, _, rfl, rfl, .inl ⟨rfl, trivial⟩⟩, ⟨_, _, rfl, rfl, .inr ⟨_, _, _, _, rfl, rfl⟩⟩, ⟨_, _, rfl, rfl, .inr ⟨_, _, _, _, rfl, rfl⟩⟩, ⟨_, _, rfl, rfl, .inr ⟨_, _, _, _, rfl, rfl⟩⟩, trivial⟩ rfl ?_
      refine XL.conv (σ' := [(3, .slice (some ⟨2, 0, none⟩) 1 1), (11, .pointer (some ⟨3, 0, none⟩))]) (h' := [(3, .iter (catS a a) 0), (2, .cells (rowC (encI .i64) [0]) 0 3 1), (1, .cells [.int .i64 0, .int .i64 0, .int .i64 0] 0 56 0), (0, .cells [.string a] 0 9 0)]) (c' := 4) ?_ (by kernel_rfl)
      refine XL.conv (f15_1_ok m m a [0] (catS a a) 0 o1 o1_h _ ?_) (by first | rfl | simp)
      show XQ _ _ _ _ _ _ _ _
      refine XQ.seq E0_ok (by kernel_rfl) ?_
      refine XQ.region (by kernel_rfl) ?_
      refine XR.run E0_ok 1 2 [2] rfl (σ' := [(2, .slice (some ⟨2, 0, none⟩) o1.length o1.length)]) (h' := [(2, .cells (rowC (encI .i64) o1) 0 3 1), (1, .cells [.int .i64 0, .int .i64 0, .int .i64 0] 0 56 0), (0, .cells [.string a] 0 9 0)]) (c' := 3) (by kernel_rfl) ?_
      refine XR.done (by kernel_rfl) ?_
      show XQ _ _ _ _ _ _ _ _
      refine XQ.ret (by kernel_rfl) ?_
      refine ⟨fun i q => (by cases q), .slice (some ⟨2, 0, none⟩) o1.length o1.length, (by kernel_rfl), ?_⟩
      refine XR.conv (σ' := [(0, .string a), (1, .func (.func 66) #[] #[.pointer (some ⟨0, 0, none⟩)]), (4, .pointer (some ⟨1, 0, none⟩)), (16, .slice (some ⟨2, 0, none⟩) o1.length o1.length)]) (h' := [(2, .cells (rowC (encI .i64) o1) 0 3 1), (1, .cells [.int .i64 0, .int .i64 0, .int .i64 0] 0 56 0), (0, .cells [.string a] 0 9 0)]) (c' := 3) ?_ (by kernel_rfl)
      refine XR.run E0_ok 1 1 [0, 1, 4, 6] rfl (σ' := [(0, .string a), (1, .func (.func 66) #[] #[.pointer (some ⟨0, 0, none⟩)]), (4, .pointer (some ⟨1, 0, none⟩)), (6, .slice (some ⟨2, 0, none⟩) o1.length o1.length)]) (h' := [(2, .cells (rowC (encI .i64) o1) 0 3 1), (1, .cells [.int .i64 0, .int .i64 0, .int .i64 0] 0 56 0), (0, .cells [.string a] 0 9 0)]) (c' := 3) (by kernel_rfl) ?_
      refine XR.done (by kernel_rfl) ?_
      show XQ _ _ _ _ _ _ _ _
      refine XQ.seq E0_ok (by kernel_rfl) ?_
      refine XQ.seq E0_ok (by kernel_rfl) ?_
      refine XQ.region (by kernel_rfl) ?_
      refine XR.run E0_ok 1 4 [0, 1, 4, 6, 19, 20] rfl (σ' := [(0, .string a), (1, .func (.func 66) #[] #[.pointer (some ⟨0, 0, none⟩)]), (4, .pointer (some ⟨1, 0, none⟩)), (6, .slice (some ⟨2, 0, none⟩) o1.length o1.length), (19, .int .i64 (w64 (((a.size : Nat) : Int) + 1))), (20, .int .i64 0)]) (h' := [(2, .cells (rowC (encI .i64) o1) 0 3 1), (1, .cells [.int .i64 0, .int .i64 0, .int .i64 0] 0 56 0), (0, .cells [.string a] 0 9 0)]) (c' := 3) (by kernel_rfl) ?_
      refine XR.done (by kernel_rfl) ?_
      show XQ _ _ _ _ _ _ _ _
      refine XQ.block (id := 0) (by kernel_rfl) ?_
      refine XQ.loop m (by kernel_rfl) ?_
      obtain ⟨o2, o2_h, h⟩ := bS h
      refine XL.ren (σ' := [(0, .string a), (1, .func (.func 66) #[] #[.pointer (some ⟨0, 0, none⟩)]), (4, .pointer (some ⟨1, 0, none⟩)), (6, .slice (some ⟨2, 0, none⟩) o1.length o1.length), (19, .int .i64 (w64 (((a.size : Nat) : Int) + 1))), (20, .int .i64 0)]) (h' := [(2, .cells (rowC (encI .i64) o1) 0 3 1), (1, .cells [.int .i64 0, .int .i64 0, .int .i64 0] 0 56 0), (0, .cells [.string a] 0 9 0)]) (c' := 3) [0, 1, 2] (by decide) rfl ⟨by kernel_rfl, by kernel_rfl, by kernel_rfl, by kernel_rfl, by kernel_rfl, by kernel_rfl, trivial⟩ ⟨⟨_, _, rfl, rfl, .inl ⟨rfl, rowC_scal (encI_ok .i64) _⟩⟩, ⟨_, _, rfl, rfl, .inr ⟨_, _, _, _, rfl, rfl⟩⟩, ⟨_, _, rfl, rfl, .inr ⟨_, _, _, _, rfl, rfl⟩⟩, trivial⟩ rfl ?_
      cases o2 with
      | r xh1_0_r2 xh1_1_r2 xh1_2_r2 =>
        dsimp only at h
        refine XL.conv (f15_2_ok m m a o1 (w64 (((a.size : Nat) : Int) + 1)) 0 (.r xh1_0_r2 xh1_1_r2 xh1_2_r2) o2_h _ ?_) (by first | rfl | simp)
        refine ⟨fun i q => (by cases q), .tuple #[.agg #[.int .i64 xh1_0_r2, .int .i64 xh1_1_r2, .int .i64 xh1_2_r2], .bool true], (by kernel_rfl), ?_⟩
        refine XR.conv (σ' := [(18, .tuple #[.agg #[.int .i64 xh1_0_r2, .int .i64 xh1_1_r2, .int .i64 xh1_2_r2], .bool true])]) (h' := [(1, .cells [.int .i64 xh1_0_r2, .int .i64 xh1_1_r2, .int .i64 xh1_2_r2] 0 56 0), (0, .cells [.string a] 0 9 0)]) (c' := 2) ?_ (by kernel_rfl)
        refine XR.run E0_ok 1 6 [7, 8] rfl (σ' := [(7, .pointer (some ⟨2, 0, none⟩)), (8, .bool true)]) (h' := [(2, .cells [.int .i64 xh1_0_r2, .int .i64 xh1_1_r2, .int .i64 xh1_2_r2] 0 56 0), (1, .cells [.int .i64 xh1_0_r2, .int .i64 xh1_1_r2, .int .i64 xh1_2_r2] 0 56 0), (0, .cells [.string a] 0 9 0)]) (c' := 3) (by kernel_rfl) ?_
        refine XR.done (by kernel_rfl) ?_
        show XQ _ _ _ _ _ _ _ _
        refine XQ.seq E0_ok (by kernel_rfl) ?_
        refine XQ.seq E0_ok (by kernel_rfl) ?_
        refine XQ.region (by kernel_rfl) ?_
        refine XR.run E0_ok 1 2 [7, 22] rfl (σ' := [(7, .pointer (some ⟨2, 0, none⟩)), (22, .bool false)]) (h' := [(2, .cells [.int .i64 xh1_0_r2, .int .i64 xh1_1_r2, .int .i64 xh1_2_r2] 0 56 0), (1, .cells [.int .i64 xh1_0_r2, .int .i64 xh1_1_r2, .int .i64 xh1_2_r2] 0 56 0), (0, .cells [.string a] 0 9 0)]) (c' := 3) (by kernel_rfl) ?_
        refine XR.done (by kernel_rfl) ?_
        show XQ _ _ _ _ _ _ _ _
        refine XQ.cond (s := (.tmp 22)) (b := false) (by kernel_rfl) (by kernel_rfl) (fun q => by cases q) (fun _ => ?_)
        refine XQ.skip (by kernel_rfl) ?_
        show XQ _ _ _ _ _ _ _ _
        refine XQ.seq E0_ok (by kernel_rfl) ?_
        refine XQ.quiet E0_ok (by kernel_rfl) (by kernel_rfl) ?_
        refine XU.run E0_ok 1 10 [2, 3, 4, 5] rfl (σ' := [(2, .int .i64 xh1_0_r2), (3, .int .i64 xh1_1_r2), (4, .int .i64 xh1_2_r2), (5, .int .i64 0)]) (by kernel_rfl) ?_
        refine XU.done (by kernel_rfl) ?_
        show XQ _ _ _ _ _ _ _ _
        refine XQ.ret (by kernel_rfl) ?_
        have h := Option.some.inj h
        subst h
        exact ⟨fun i q => (by cases q), .tuple #[.int .i64 xh1_0_r2, .int .i64 xh1_1_r2, .int .i64 xh1_2_r2, .int .i64 0], (by kernel_rfl), rfl⟩
      | x0 =>
        dsimp only at h
        refine XL.conv (f15_2_ok m m a o1 (w64 (((a.size : Nat) : Int) + 1)) 0 (.x0) o2_h _ ?_) (by first | rfl | simp)
        show XQ _ _ _ _ _ _ _ _
        refine XQ.seq E0_ok (by kernel_rfl) ?_
        refine XQ.region (by kernel_rfl) ?_
        refine XR.run E0_ok 1 3 [4, 5] rfl (σ' := [(4, .pointer (some ⟨1, 0, none⟩)), (5, .bool false)]) (h' := [(1, .cells [.int .i64 0, .int .i64 0, .int .i64 0] 0 56 0), (0, .cells [.string a] 0 9 0)]) (c' := 2) (by kernel_rfl) ?_
        refine XR.done (by kernel_rfl) ?_
        show XQ _ _ _ _ _ _ _ _
        refine XQ.ret (by kernel_rfl) ?_
        refine ⟨fun i q => (by cases q), .tuple #[.agg #[.int .i64 0, .int .i64 0, .int .i64 0], .bool false], (by kernel_rfl), ?_⟩
        refine XR.conv (σ' := [(18, .tuple #[.agg #[.int .i64 0, .int .i64 0, .int .i64 0], .bool false])]) (h' := [(1, .cells [.int .i64 0, .int .i64 0, .int .i64 0] 0 56 0), (0, .cells [.string a] 0 9 0)]) (c' := 2) ?_ (by kernel_rfl)
        refine XR.run E0_ok 1 6 [7, 8] rfl (σ' := [(7, .pointer (some ⟨2, 0, none⟩)), (8, .bool false)]) (h' := [(2, .cells [.int .i64 0, .int .i64 0, .int .i64 0] 0 56 0), (1, .cells [.int .i64 0, .int .i64 0, .int .i64 0] 0 56 0), (0, .cells [.string a] 0 9 0)]) (c' := 3) (by kernel_rfl) ?_
        refine XR.done (by kernel_rfl) ?_
        show XQ _ _ _ _ _ _ _ _
        refine XQ.seq E0_ok (by kernel_rfl) ?_
        refine XQ.seq E0_ok (by kernel_rfl) ?_
        refine XQ.region (by kernel_rfl) ?_
        refine XR.run E0_ok 1 2 [7, 22] rfl (σ' := [(7, .pointer (some ⟨2, 0, none⟩)), (22, .bool true)]) (h' := [(2, .cells [.int .i64 0, .int .i64 0, .int .i64 0] 0 56 0), (1, .cells [.int .i64 0, .int .i64 0, .int .i64 0] 0 56 0), (0, .cells [.string a] 0 9 0)]) (c' := 3) (by kernel_rfl) ?_
        refine XR.done (by kernel_rfl) ?_
        show XQ _ _ _ _ _ _ _ _
        refine XQ.cond (s := (.tmp 22)) (b := true) (by kernel_rfl) (by kernel_rfl) (fun _ => ?_) (fun q => by cases q)
        refine XQ.seq E0_ok (by kernel_rfl) ?_
        refine XQ.region (by kernel_rfl) ?_
        refine XR.run E0_ok 1 4 [2, 3, 4, 5] rfl (σ' := [(2, .int .i64 0), (3, .int .i64 0), (4, .int .i64 0), (5, .int .i64 13)]) (h' := [(2, .cells [.int .i64 0, .int .i64 0, .int .i64 0] 0 56 0), (1, .cells [.int .i64 0, .int .i64 0, .int .i64 0] 0 56 0), (0, .cells [.string a] 0 9 0)]) (c' := 3) (by kernel_rfl) ?_
        refine XR.done (by kernel_rfl) ?_
        show XQ _ _ _ _ _ _ _ _
        refine XQ.ret (by kernel_rfl) ?_
        have h := Option.some.inj h
        subst h
        exact ⟨fun i q => (by cases q), .tuple #[.int .i64 0, .int .i64 0, .int .i64 0, .int .i64 13], (by kernel_rfl), rfl⟩

/-! vitola/vitolaref08.Against -/
noncomputable def f16_C16 : Code := Proofs.Try.f16.body.getD .skip

def f16 (m : Nat) (a : ByteArray) : Option (Int × Int × Int × Int) :=
  (f20 m a).bind fun r1 =>
    cond (r1 != 0) (
      some (0, 0, 0, r1)
    ) (
      (f46 m a false).bind fun r2 =>
        cond (!r2.2.2.2) (
          some (0, 0, 0, 13)
        ) (
          some (r2.1, r2.2.1, r2.2.2.1, 0)
        )
    )

theorem f16_ok (m : Nat) (a : ByteArray) (o : Int × Int × Int × Int) (h : f16 m a = some o) (w : World) (hI : maxInv w) : Calls Proofs.Try.prog 16 #[.string a] w fun e w' => e = .returned (.tuple #[.int .i64 o.1, .int .i64 o.2.1, .int .i64 o.2.2.1, .int .i64 o.2.2.2]) ∧ Below w.heap.size w w' := by
  refine KC.calls (E := E0) (args := [.string a]) (v := .tuple #[.int .i64 o.1, .int .i64 o.2.1, .int .i64 o.2.2.1, .int .i64 o.2.2.2]) rfl rfl (KC.bodyN E0_ok (F := Proofs.Try.f16) (by kernel_rfl) (code := f16_C16) (by kernel_rfl) (nt := 28) (by kernel_rfl) (rs := [.tmp 2, .tmp 3, .tmp 4, .tmp 5]) (by kernel_rfl) (by kernel_rfl) (σ := [(0, .string a)]) (by kernel_rfl) ?_) w (maxInv_size hI) hI
  unfold f16 at h
  refine XQ.seq E0_ok (by kernel_rfl) ?_
  refine XQ.region (by kernel_rfl) ?_
  refine XR.run E0_ok 1 4 [0] rfl (σ' := [(0, .string a)]) (h' := []) (c' := 0) (by kernel_rfl) ?_
  refine XR.done (by kernel_rfl) ?_
  show XQ _ _ _ _ _ _ _ _
  refine XQ.seq E0_ok (by kernel_rfl) ?_
  refine XQ.region (by kernel_rfl) ?_
  refine XR.run E0_ok 1 1 [0, 11] rfl (σ' := [(0, .string a), (11, .string a)]) (h' := []) (c' := 0) (by kernel_rfl) ?_
  obtain ⟨r1, r1_h, h⟩ := bS h
  refine XR.call E0_ok [0, 12] rfl (K := 20) (args := [.string a]) (d := (some (path 12 12))) (by kernel_rfl) (KC.of_calls E0_ok (F := Proofs.Try.f20) (v := .int .i64 r1) (by kernel_rfl) rfl rfl (fun w hI => f20_ok m a r1 r1_h w hI)) ?_
  rintro _ _ _ ⟨rfl, rfl, rfl⟩
  refine XR.conv (σ' := [(0, .string a), (12, .int .i64 r1)]) (h' := []) (c' := 0) ?_ (by kernel_rfl)
  refine XR.run E0_ok 1 1 [0, 6] rfl (σ' := [(0, .string a), (6, .int .i64 r1)]) (h' := []) (c' := 0) (by kernel_rfl) ?_
  refine XR.done (by kernel_rfl) ?_
  show XQ _ _ _ _ _ _ _ _
  refine XQ.seq E0_ok (by kernel_rfl) ?_
  refine XQ.seq E0_ok (by kernel_rfl) ?_
  refine XQ.region (by kernel_rfl) ?_
  refine XR.run E0_ok 1 2 [0, 6, 14] rfl (σ' := [(0, .string a), (6, .int .i64 r1), (14, .bool (r1 != 0))]) (h' := []) (c' := 0) (by kernel_rfl) ?_
  refine XR.done (by kernel_rfl) ?_
  show XQ _ _ _ _ _ _ _ _
  cases b1 : (r1 != 0 : Bool) with
  | true =>
    have h := cT b1 h
    refine XQ.cond (s := (.tmp 14)) (b := true) (by kernel_rfl) (by kernel_rfl) (fun _ => ?_) (fun q => by cases q)
    refine XQ.seq E0_ok (by kernel_rfl) ?_
    refine XQ.region (by kernel_rfl) ?_
    refine XR.run E0_ok 1 5 [2, 3, 4, 5] rfl (σ' := [(2, .int .i64 0), (3, .int .i64 0), (4, .int .i64 0), (5, .int .i64 r1)]) (h' := []) (c' := 0) (by kernel_rfl) ?_
    refine XR.done (by kernel_rfl) ?_
    show XQ _ _ _ _ _ _ _ _
    refine XQ.ret (by kernel_rfl) ?_
    have h := Option.some.inj h
    subst h
    exact ⟨fun i q => (by cases q), .tuple #[.int .i64 0, .int .i64 0, .int .i64 0, .int .i64 r1], (by kernel_rfl), rfl⟩
  | false =>
    have h := cF b1 h
    refine XQ.cond (s := (.tmp 14)) (b := false) (by kernel_rfl) (by kernel_rfl) (fun q => by cases q) (fun _ => ?_)
    refine XQ.skip (by kernel_rfl) ?_
    show XQ _ _ _ _ _ _ _ _
    refine XQ.seq E0_ok (by kernel_rfl) ?_
    refine XQ.region (by kernel_rfl) ?_
    refine XR.run E0_ok 1 1 [17] rfl (σ' := [(17, .string a)]) (h' := []) (c' := 0) (by kernel_rfl) ?_
    obtain ⟨r2, r2_h, h⟩ := bS h
    refine XR.call E0_ok [18] rfl (K := 46) (args := [.string a, .bool false]) (d := (some (path 12 18))) (by kernel_rfl) (KC.of_calls E0_ok (F := Proofs.Try.f46) (v := .tuple #[.int .i64 r2.1, .int .i64 r2.2.1, .int .i64 r2.2.2.1, .bool r2.2.2.2]) (by kernel_rfl) rfl rfl (fun w hI => f46_ok m a false r2 r2_h w hI)) ?_
    rintro _ _ _ ⟨rfl, rfl, rfl⟩
    refine XR.conv (σ' := [(18, .tuple #[.int .i64 r2.1, .int .i64 r2.2.1, .int .i64 r2.2.2.1, .bool r2.2.2.2])]) (h' := []) (c' := 0) ?_ (by kernel_rfl)
    refine XR.run E0_ok 1 9 [7, 8, 9, 10] rfl (σ' := [(7, .int .i64 r2.1), (8, .int .i64 r2.2.1), (9, .int .i64 r2.2.2.1), (10, .bool r2.2.2.2)]) (h' := []) (c' := 0) (by kernel_rfl) ?_
    refine XR.done (by kernel_rfl) ?_
    show XQ _ _ _ _ _ _ _ _
    refine XQ.seq E0_ok (by kernel_rfl) ?_
    refine XQ.seq E0_ok (by kernel_rfl) ?_
    refine XQ.region (by kernel_rfl) ?_
    refine XR.run E0_ok 1 2 [7, 8, 9, 24] rfl (σ' := [(7, .int .i64 r2.1), (8, .int .i64 r2.2.1), (9, .int .i64 r2.2.2.1), (24, .bool (!r2.2.2.2))]) (h' := []) (c' := 0) (by kernel_rfl) ?_
    refine XR.done (by kernel_rfl) ?_
    show XQ _ _ _ _ _ _ _ _
    cases b2 : (!r2.2.2.2 : Bool) with
    | true =>
      have h := cT b2 h
      refine XQ.cond (s := (.tmp 24)) (b := true) (by kernel_rfl) (by kernel_rfl) (fun _ => ?_) (fun q => by cases q)
      refine XQ.seq E0_ok (by kernel_rfl) ?_
      refine XQ.region (by kernel_rfl) ?_
      refine XR.run E0_ok 1 4 [2, 3, 4, 5] rfl (σ' := [(2, .int .i64 0), (3, .int .i64 0), (4, .int .i64 0), (5, .int .i64 13)]) (h' := []) (c' := 0) (by kernel_rfl) ?_
      refine XR.done (by kernel_rfl) ?_
      show XQ _ _ _ _ _ _ _ _
      refine XQ.ret (by kernel_rfl) ?_
      have h := Option.some.inj h
      subst h
      exact ⟨fun i q => (by cases q), .tuple #[.int .i64 0, .int .i64 0, .int .i64 0, .int .i64 13], (by kernel_rfl), rfl⟩
    | false =>
      have h := cF b2 h
      refine XQ.cond (s := (.tmp 24)) (b := false) (by kernel_rfl) (by kernel_rfl) (fun q => by cases q) (fun _ => ?_)
      refine XQ.skip (by kernel_rfl) ?_
      show XQ _ _ _ _ _ _ _ _
      refine XQ.seq E0_ok (by kernel_rfl) ?_
      refine XQ.region (by kernel_rfl) ?_
      refine XR.run E0_ok 1 7 [2, 3, 4, 5] rfl (σ' := [(2, .int .i64 r2.1), (3, .int .i64 r2.2.1), (4, .int .i64 r2.2.2.1), (5, .int .i64 0)]) (h' := []) (c' := 0) (by kernel_rfl) ?_
      refine XR.done (by kernel_rfl) ?_
      show XQ _ _ _ _ _ _ _ _
      refine XQ.ret (by kernel_rfl) ?_
      have h := Option.some.inj h
      subst h
      exact ⟨fun i q => (by cases q), .tuple #[.int .i64 r2.1, .int .i64 r2.2.1, .int .i64 r2.2.2.1, .int .i64 0], (by kernel_rfl), rfl⟩

end Go.Xm
