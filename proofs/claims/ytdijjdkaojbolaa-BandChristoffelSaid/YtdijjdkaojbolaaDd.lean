/- What these functions of the program compute, as functions in Lean, and the proofs that they do: band.Proves, vitolaref08.Proves. Conditions: the library's variable MaxLen holds some int. -/
import Derived.Test.YtdijjdkaojbolaaDc
namespace Go.Xm
open Go.RowKit
set_option linter.unusedVariables false
set_option linter.unusedSimpArgs false

/-! vitola/band.Proves -/
noncomputable def f17_C17 : Code := Proofs.Try.f17.body.getD .skip
noncomputable def f17_C47 : Code := Proofs.Try.f47.body.getD .skip
noncomputable def f17_C48 : Code := Proofs.Try.f48.body.getD .skip
noncomputable def f17_C49 : Code := Proofs.Try.f49.body.getD .skip
noncomputable def f17_L1 : Code := lft (lft (rgt (lft (rgt (rgt f17_C48)))))

def f17_1 (m : Nat) : Nat → List Int → ByteArray → Nat → Option (List Int)
  | 0, _, _, _ => none
  | fuel + 1, lh0_1, sh1_1, ph1_1 =>
    cond (Nat.blt ph1_1 sh1_1.size) (
      cond (inRow (w64 (((lh0_1.length : Nat) : Int) - 1)) lh0_1.length) (
        cond (fitsB (lh0_1.length + 1) 8) (
          f17_1 m fuel (lh0_1 ++ [cond ((Int.ofNat (Utf8.decode sh1_1 ph1_1).1) == 98) (w64 ((List.getD lh0_1 (Int.toNat (w64 (((lh0_1.length : Nat) : Int) - 1))) 0) + 1)) (List.getD lh0_1 (Int.toNat (w64 (((lh0_1.length : Nat) : Int) - 1))) 0)]) sh1_1 (ph1_1 + (Utf8.decode sh1_1 ph1_1).2)
        ) none
      ) none
    ) (
      some (lh0_1)
    )

theorem f17_1_ok (m : Nat) : ∀ (fuel : Nat) (lh0_1 : List Int) (sh1_1 : ByteArray) (ph1_1 : Nat) (o : (List Int)), f17_1 m fuel lh0_1 sh1_1 ph1_1 = some o → ∀ Q : QP, Q (.exit 0) [(3, .slice (some ⟨0, 0, none⟩) o.length o.length)] [(0, .cells (rowC (encI .i64) o) 0 3 1)] 1 → XL E0 30 0 fuel f17_L1 [(3, .slice (some ⟨0, 0, none⟩) lh0_1.length lh0_1.length), (11, .pointer (some ⟨1, 0, none⟩))] [(1, .iter sh1_1 ph1_1), (0, .cells (rowC (encI .i64) lh0_1) 0 3 1)] 2 Q
  | 0, lh0_1, sh1_1, ph1_1, o, h, Q, hQ => by cases h
  | fuel + 1, lh0_1, sh1_1, ph1_1, o, h, Q, hQ => by
    unfold f17_1 at h
    refine XL.succ E0_ok ?_
    refine XQ.seq E0_ok (by kernel_rfl) ?_
    refine XQ.region (by kernel_rfl) ?_
    have e1 : insE (headI ((gsOf E0 30 (opsOf (lft f17_L1))).drop 0) (trS 30 [(3, .slice (some ⟨0, 0, none⟩) lh0_1.length lh0_1.length), (11, .pointer (some ⟨1, 0, none⟩))])) (trS 30 [(3, .slice (some ⟨0, 0, none⟩) lh0_1.length lh0_1.length), (11, .pointer (some ⟨1, 0, none⟩))]) [(1, .iter sh1_1 ph1_1), (0, .cells (rowC (encI .i64) lh0_1) 0 3 1)] 2 = (match (Nat.blt ph1_1 sh1_1.size : Bool) with | true => some (.tuple #[.bool true, .int .i64 (Int.ofNat ph1_1), .int .i32 (Int.ofNat (Utf8.decode sh1_1 ph1_1).1)], [(1, .iter sh1_1 (ph1_1 + (Utf8.decode sh1_1 ph1_1).2)), (0, .cells (rowC (encI .i64) lh0_1) 0 3 1)], 2) | false => some (.tuple #[.bool false], [(1, .iter sh1_1 ph1_1), (0, .cells (rowC (encI .i64) lh0_1) 0 3 1)], 2)) := by kernel_rfl
    cases b2 : (Nat.blt ph1_1 sh1_1.size : Bool) with
    | true =>
      have h := cT b2 h
      refine XR.ef E0_ok [3, 11, 12] rfl (e1.trans (by rw [b2])) (σ' := [(3, .slice (some ⟨0, 0, none⟩) lh0_1.length lh0_1.length), (11, .pointer (some ⟨1, 0, none⟩)), (12, .tuple #[.bool true, .int .i64 (Int.ofNat ph1_1), .int .i32 (Int.ofNat (Utf8.decode sh1_1 ph1_1).1)])]) (by kernel_rfl) ?_
      refine XR.run E0_ok 1 1 [3, 11, 12, 13] rfl (σ' := [(3, .slice (some ⟨0, 0, none⟩) lh0_1.length lh0_1.length), (11, .pointer (some ⟨1, 0, none⟩)), (12, .tuple #[.bool true, .int .i64 (Int.ofNat ph1_1), .int .i32 (Int.ofNat (Utf8.decode sh1_1 ph1_1).1)]), (13, .bool true)]) (h' := [(1, .iter sh1_1 (ph1_1 + (Utf8.decode sh1_1 ph1_1).2)), (0, .cells (rowC (encI .i64) lh0_1) 0 3 1)]) (c' := 2) (by kernel_rfl) ?_
      refine XR.done (by kernel_rfl) ?_
      show XQ _ _ _ _ _ _ _ _
      refine XQ.seq E0_ok (by kernel_rfl) ?_
      refine XQ.cond (s := (.tmp 13)) (b := true) (by kernel_rfl) (by kernel_rfl) (fun _ => ?_) (fun q => by cases q)
      refine XQ.skip (by kernel_rfl) ?_
      show XQ _ _ _ _ _ _ _ _
      refine XQ.block (id := 1) (by kernel_rfl) ?_
      refine XQ.seq E0_ok (by kernel_rfl) ?_
      refine XQ.region (by kernel_rfl) ?_
      refine XR.run E0_ok 1 2 [3, 5, 11] rfl (σ' := [(3, .slice (some ⟨0, 0, none⟩) lh0_1.length lh0_1.length), (5, .int .i32 (Int.ofNat (Utf8.decode sh1_1 ph1_1).1)), (11, .pointer (some ⟨1, 0, none⟩))]) (h' := [(1, .iter sh1_1 (ph1_1 + (Utf8.decode sh1_1 ph1_1).2)), (0, .cells (rowC (encI .i64) lh0_1) 0 3 1)]) (c' := 2) (by kernel_rfl) ?_
      refine XR.done (by kernel_rfl) ?_
      show XQ _ _ _ _ _ _ _ _
      refine XQ.seq E0_ok (by kernel_rfl) ?_
      refine XQ.region (by kernel_rfl) ?_
      refine XR.run E0_ok 1 4 [3, 5, 11, 15, 18] rfl (σ' := [(3, .slice (some ⟨0, 0, none⟩) lh0_1.length lh0_1.length), (5, .int .i32 (Int.ofNat (Utf8.decode sh1_1 ph1_1).1)), (11, .pointer (some ⟨1, 0, none⟩)), (15, .slice (some ⟨0, 0, none⟩) lh0_1.length lh0_1.length), (18, .int .i64 (w64 (((lh0_1.length : Nat) : Int) - 1)))]) (h' := [(1, .iter sh1_1 (ph1_1 + (Utf8.decode sh1_1 ph1_1).2)), (0, .cells (rowC (encI .i64) lh0_1) 0 3 1)]) (c' := 2) (by kernel_rfl) ?_
      cases b3 : (inRow (w64 (((lh0_1.length : Nat) : Int) - 1)) lh0_1.length : Bool) with
      | false => cases (cF b3 h)
      | true =>
        have h := cT b3 h
        refine XR.rd E0_ok [3, 5, 11, 19] rfl (v := .pointer (some ⟨0, (Int.toNat (w64 (((lh0_1.length : Nat) : Int) - 1))) * 1, none⟩)) (v_idx (s := 1) (x := (src 30 (.tmp 15))) (y := (src 30 (.tmp 18))) (b := 0) (o := 0) (len := lh0_1.length) (cap := lh0_1.length) (ik := .i64) (i := w64 (((lh0_1.length : Nat) : Int) - 1)) (off := (Int.toNat (w64 (((lh0_1.length : Nat) : Int) - 1))) * 1) (d := (some (path 12 19))) (by kernel_rfl) (by kernel_rfl) (by kernel_rfl) b3 (by omega)) (σ' := [(3, .slice (some ⟨0, 0, none⟩) lh0_1.length lh0_1.length), (5, .int .i32 (Int.ofNat (Utf8.decode sh1_1 ph1_1).1)), (11, .pointer (some ⟨1, 0, none⟩)), (19, .pointer (some ⟨0, (Int.toNat (w64 (((lh0_1.length : Nat) : Int) - 1))) * 1, none⟩))]) (by kernel_rfl) ?_
        refine XR.rd E0_ok [3, 5, 11, 20] rfl (v := .int .i64 (List.getD lh0_1 (Int.toNat (w64 (((lh0_1.length : Nat) : Int) - 1))) 0)) (v_load1 (encI_ok .i64) (x := (src 30 (.tmp 19))) (b := 0) (off := (Int.toNat (w64 (((lh0_1.length : Nat) : Int) - 1))) * 1) (xs := lh0_1) (fz := 0) (e := 3) (es := 1) (d := (some (path 12 20))) (by kernel_rfl) (by kernel_rfl) (by kernel_rfl) (Int.toNat (w64 (((lh0_1.length : Nat) : Int) - 1))) 0 0 (by first | rfl | omega) (row_len (inRow_toNat b3) (by simp)) rfl rfl) (σ' := [(3, .slice (some ⟨0, 0, none⟩) lh0_1.length lh0_1.length), (5, .int .i32 (Int.ofNat (Utf8.decode sh1_1 ph1_1).1)), (11, .pointer (some ⟨1, 0, none⟩)), (20, .int .i64 (List.getD lh0_1 (Int.toNat (w64 (((lh0_1.length : Nat) : Int) - 1))) 0))]) (by kernel_rfl) ?_
        refine XR.run E0_ok 1 1 [3, 5, 6, 11] rfl (σ' := [(3, .slice (some ⟨0, 0, none⟩) lh0_1.length lh0_1.length), (5, .int .i32 (Int.ofNat (Utf8.decode sh1_1 ph1_1).1)), (6, .int .i64 (List.getD lh0_1 (Int.toNat (w64 (((lh0_1.length : Nat) : Int) - 1))) 0)), (11, .pointer (some ⟨1, 0, none⟩))]) (h' := [(1, .iter sh1_1 (ph1_1 + (Utf8.decode sh1_1 ph1_1).2)), (0, .cells (rowC (encI .i64) lh0_1) 0 3 1)]) (c' := 2) (by kernel_rfl) ?_
        refine XR.done (by kernel_rfl) ?_
        show XQ _ _ _ _ _ _ _ _
        refine XQ.seq E0_ok (by kernel_rfl) ?_
        refine XQ.seq E0_ok (by kernel_rfl) ?_
        refine XQ.region (by kernel_rfl) ?_
        refine XR.run E0_ok 1 2 [3, 6, 11, 22] rfl (σ' := [(3, .slice (some ⟨0, 0, none⟩) lh0_1.length lh0_1.length), (6, .int .i64 (List.getD lh0_1 (Int.toNat (w64 (((lh0_1.length : Nat) : Int) - 1))) 0)), (11, .pointer (some ⟨1, 0, none⟩)), (22, .bool ((Int.ofNat (Utf8.decode sh1_1 ph1_1).1) == 98))]) (h' := [(1, .iter sh1_1 (ph1_1 + (Utf8.decode sh1_1 ph1_1).2)), (0, .cells (rowC (encI .i64) lh0_1) 0 3 1)]) (c' := 2) (by kernel_rfl) ?_
        refine XR.done (by kernel_rfl) ?_
        show XQ _ _ _ _ _ _ _ _
        refine XQ.meetC (σ' := [(3, .slice (some ⟨0, 0, none⟩) lh0_1.length lh0_1.length), (6, .int .i64 (cond ((Int.ofNat (Utf8.decode sh1_1 ph1_1).1) == 98) (w64 ((List.getD lh0_1 (Int.toNat (w64 (((lh0_1.length : Nat) : Int) - 1))) 0) + 1)) (List.getD lh0_1 (Int.toNat (w64 (((lh0_1.length : Nat) : Int) - 1))) 0))), (11, .pointer (some ⟨1, 0, none⟩))]) (h' := [(1, .iter sh1_1 (ph1_1 + (Utf8.decode sh1_1 ph1_1).2)), (0, .cells (rowC (encI .i64) lh0_1) 0 3 1)]) (c' := 2) ?_ ?_
        rotate_left
        · refine XQ.cond (s := (.tmp 22)) (b := (Int.ofNat (Utf8.decode sh1_1 ph1_1).1) == 98) (by kernel_rfl) (by kernel_rfl) (fun b4 => ?_) (fun b4 => ?_)
          · refine XQ.region (by kernel_rfl) ?_
            refine XR.run E0_ok 1 3 [3, 6, 11] rfl (σ' := [(3, .slice (some ⟨0, 0, none⟩) lh0_1.length lh0_1.length), (6, .int .i64 (w64 ((List.getD lh0_1 (Int.toNat (w64 (((lh0_1.length : Nat) : Int) - 1))) 0) + 1))), (11, .pointer (some ⟨1, 0, none⟩))]) (h' := [(1, .iter sh1_1 (ph1_1 + (Utf8.decode sh1_1 ph1_1).2)), (0, .cells (rowC (encI .i64) lh0_1) 0 3 1)]) (c' := 2) (by kernel_rfl) ?_
            refine XR.done (by kernel_rfl) ?_
            refine ⟨rfl, ?_, ?_⟩
            · try rw [b4]
              exact ⟨by kernel_rfl, by kernel_rfl, by kernel_rfl, trivial⟩
            · try rw [b4]
              kernel_rfl
          · refine XQ.skip (by kernel_rfl) ?_
            refine ⟨rfl, ?_, ?_⟩
            · try rw [b4]
              exact ⟨by kernel_rfl, by kernel_rfl, by kernel_rfl, trivial⟩
            · try rw [b4]
              kernel_rfl
        show XQ _ _ _ _ _ _ _ _
        refine XQ.region (by kernel_rfl) ?_
        refine XR.run E0_ok 1 3 [11, 25, 27] rfl (σ' := [(11, .pointer (some ⟨1, 0, none⟩)), (25, .slice (some ⟨0, 0, none⟩) lh0_1.length lh0_1.length), (27, .slice (some ⟨2, 0, none⟩) 1 1)]) (h' := [(2, .cells [.int .i64 (cond ((Int.ofNat (Utf8.decode sh1_1 ph1_1).1) == 98) (w64 ((List.getD lh0_1 (Int.toNat (w64 (((lh0_1.length : Nat) : Int) - 1))) 0) + 1)) (List.getD lh0_1 (Int.toNat (w64 (((lh0_1.length : Nat) : Int) - 1))) 0))] 0 3 1), (1, .iter sh1_1 (ph1_1 + (Utf8.decode sh1_1 ph1_1).2)), (0, .cells (rowC (encI .i64) lh0_1) 0 3 1)]) (c' := 3) (by kernel_rfl) ?_
        cases b5 : (fitsB (lh0_1.length + 1) 8 : Bool) with
        | false => cases (cF b5 h)
        | true =>
          have h := cT b5 h
          refine XR.ef E0_ok [11, 28] rfl (e_append (encI_ok .i64) (bytes := 8) (e := 3) (x := (src 30 (.tmp 25))) (y := (src 30 (.tmp 27))) (b := 0) (len := lh0_1.length) (cap := lh0_1.length) (xs := lh0_1) (m := 0) (ys := [cond ((Int.ofNat (Utf8.decode sh1_1 ph1_1).1) == 98) (w64 ((List.getD lh0_1 (Int.toNat (w64 (((lh0_1.length : Nat) : Int) - 1))) 0) + 1)) (List.getD lh0_1 (Int.toNat (w64 (((lh0_1.length : Nat) : Int) - 1))) 0)]) (d := (some (path 12 28))) (n' := (lh0_1 ++ [cond ((Int.ofNat (Utf8.decode sh1_1 ph1_1).1) == 98) (w64 ((List.getD lh0_1 (Int.toNat (w64 (((lh0_1.length : Nat) : Int) - 1))) 0) + 1)) (List.getD lh0_1 (Int.toNat (w64 (((lh0_1.length : Nat) : Int) - 1))) 0)]).length) (h' := [(3, .cells (rowC (encI .i64) (lh0_1 ++ [cond ((Int.ofNat (Utf8.decode sh1_1 ph1_1).1) == 98) (w64 ((List.getD lh0_1 (Int.toNat (w64 (((lh0_1.length : Nat) : Int) - 1))) 0) + 1)) (List.getD lh0_1 (Int.toNat (w64 (((lh0_1.length : Nat) : Int) - 1))) 0)])) 0 3 1), (2, .cells [.int .i64 (cond ((Int.ofNat (Utf8.decode sh1_1 ph1_1).1) == 98) (w64 ((List.getD lh0_1 (Int.toNat (w64 (((lh0_1.length : Nat) : Int) - 1))) 0) + 1)) (List.getD lh0_1 (Int.toNat (w64 (((lh0_1.length : Nat) : Int) - 1))) 0))] 0 3 1), (1, .iter sh1_1 (ph1_1 + (Utf8.decode sh1_1 ph1_1).2))]) (by kernel_rfl) (by kernel_rfl) (by kernel_rfl) (by kernel_rfl) rfl (by simp) (by simp) b5 (by simp) (by kernel_rfl)) (σ' := [(11, .pointer (some ⟨1, 0, none⟩)), (28, .slice (some ⟨3, 0, none⟩) ((lh0_1 ++ [cond ((Int.ofNat (Utf8.decode sh1_1 ph1_1).1) == 98) (w64 ((List.getD lh0_1 (Int.toNat (w64 (((lh0_1.length : Nat) : Int) - 1))) 0) + 1)) (List.getD lh0_1 (Int.toNat (w64 (((lh0_1.length : Nat) : Int) - 1))) 0)]).length) ((lh0_1 ++ [cond ((Int.ofNat (Utf8.decode sh1_1 ph1_1).1) == 98) (w64 ((List.getD lh0_1 (Int.toNat (w64 (((lh0_1.length : Nat) : Int) - 1))) 0) + 1)) (List.getD lh0_1 (Int.toNat (w64 (((lh0_1.length : Nat) : Int) - 1))) 0)]).length))]) (by kernel_rfl) ?_
          refine XR.run E0_ok 1 1 [3, 11] rfl (σ' := [(3, .slice (some ⟨3, 0, none⟩) ((lh0_1 ++ [cond ((Int.ofNat (Utf8.decode sh1_1 ph1_1).1) == 98) (w64 ((List.getD lh0_1 (Int.toNat (w64 (((lh0_1.length : Nat) : Int) - 1))) 0) + 1)) (List.getD lh0_1 (Int.toNat (w64 (((lh0_1.length : Nat) : Int) - 1))) 0)]).length) ((lh0_1 ++ [cond ((Int.ofNat (Utf8.decode sh1_1 ph1_1).1) == 98) (w64 ((List.getD lh0_1 (Int.toNat (w64 (((lh0_1.length : Nat) : Int) - 1))) 0) + 1)) (List.getD lh0_1 (Int.toNat (w64 (((lh0_1.length : Nat) : Int) - 1))) 0)]).length)), (11, .pointer (some ⟨1, 0, none⟩))]) (h' := [(3, .cells (rowC (encI .i64) (lh0_1 ++ [cond ((Int.ofNat (Utf8.decode sh1_1 ph1_1).1) == 98) (w64 ((List.getD lh0_1 (Int.toNat (w64 (((lh0_1.length : Nat) : Int) - 1))) 0) + 1)) (List.getD lh0_1 (Int.toNat (w64 (((lh0_1.length : Nat) : Int) - 1))) 0)])) 0 3 1), (2, .cells [.int .i64 (cond ((Int.ofNat (Utf8.decode sh1_1 ph1_1).1) == 98) (w64 ((List.getD lh0_1 (Int.toNat (w64 (((lh0_1.length : Nat) : Int) - 1))) 0) + 1)) (List.getD lh0_1 (Int.toNat (w64 (((lh0_1.length : Nat) : Int) - 1))) 0))] 0 3 1), (1, .iter sh1_1 (ph1_1 + (Utf8.decode sh1_1 ph1_1).2))]) (c' := 4) (by kernel_rfl) ?_
          refine XR.done (by kernel_rfl) ?_
          show XL _ _ _ _ _ _ _ _ _
          refine XL.ren (σ' := [(3, .slice (some ⟨0, 0, none⟩) ((lh0_1 ++ [cond ((Int.ofNat (Utf8.decode sh1_1 ph1_1).1) == 98) (w64 ((List.getD lh0_1 (Int.toNat (w64 (((lh0_1.length : Nat) : Int) - 1))) 0) + 1)) (List.getD lh0_1 (Int.toNat (w64 (((lh0_1.length : Nat) : Int) - 1))) 0)]).length) ((lh0_1 ++ [cond ((Int.ofNat (Utf8.decode sh1_1 ph1_1).1) == 98) (w64 ((List.getD lh0_1 (Int.toNat (w64 (((lh0_1.length : Nat) : Int) - 1))) 0) + 1)) (List.getD lh0_1 (Int.toNat (w64 (((lh0_1.length : Nat) : Int) - 1))) 0)]).length)), (11, .pointer (some ⟨1, 0, none⟩))]) (h' := [(1, .iter sh1_1 (ph1_1 + (Utf8.decode sh1_1 ph1_1).2)), (0, .cells (rowC (encI .i64) (lh0_1 ++ [cond ((Int.ofNat (Utf8.decode sh1_1 ph1_1).1) == 98) (w64 ((List.getD lh0_1 (Int.toNat (w64 (((lh0_1.length : Nat) : Int) - 1))) 0) + 1)) (List.getD lh0_1 (Int.toNat (w64 (((lh0_1.length : Nat) : Int) - 1))) 0)])) 0 3 1)]) (c' := 2) [3, 1] (by decide) rfl ⟨by kernel_rfl, by kernel_rfl, trivial⟩ ⟨⟨_, _, rfl, rfl, .inl ⟨rfl, trivial⟩⟩, ⟨_, _, rfl, rfl, .inl ⟨rfl, rowC_scal (encI_ok .i64) _⟩⟩, trivial⟩ rfl ?_
          refine XL.conv (f17_1_ok m fuel (lh0_1 ++ [cond ((Int.ofNat (Utf8.decode sh1_1 ph1_1).1) == 98) (w64 ((List.getD lh0_1 (Int.toNat (w64 (((lh0_1.length : Nat) : Int) - 1))) 0) + 1)) (List.getD lh0_1 (Int.toNat (w64 (((lh0_1.length : Nat) : Int) - 1))) 0)]) sh1_1 (ph1_1 + (Utf8.decode sh1_1 ph1_1).2) o h Q hQ) (by first | rfl | simp)
    | false =>
      have h := cF b2 h
      refine XR.ef E0_ok [3, 11, 12] rfl (e1.trans (by rw [b2])) (σ' := [(3, .slice (some ⟨0, 0, none⟩) lh0_1.length lh0_1.length), (11, .pointer (some ⟨1, 0, none⟩)), (12, .tuple #[.bool false])]) (by kernel_rfl) ?_
      refine XR.run E0_ok 1 1 [3, 11, 12, 13] rfl (σ' := [(3, .slice (some ⟨0, 0, none⟩) lh0_1.length lh0_1.length), (11, .pointer (some ⟨1, 0, none⟩)), (12, .tuple #[.bool false]), (13, .bool false)]) (h' := [(1, .iter sh1_1 ph1_1), (0, .cells (rowC (encI .i64) lh0_1) 0 3 1)]) (c' := 2) (by kernel_rfl) ?_
      refine XR.done (by kernel_rfl) ?_
      show XQ _ _ _ _ _ _ _ _
      refine XQ.seq E0_ok (by kernel_rfl) ?_
      refine XQ.cond (s := (.tmp 13)) (b := false) (by kernel_rfl) (by kernel_rfl) (fun q => by cases q) (fun _ => ?_)
      refine XQ.ren (σ' := [(3, .slice (some ⟨0, 0, none⟩) lh0_1.length lh0_1.length)]) (h' := [(0, .cells (rowC (encI .i64) lh0_1) 0 3 1)]) (c' := 1) [0] (by decide) rfl ⟨by kernel_rfl, trivial⟩ ⟨⟨_, _, rfl, rfl, .inl ⟨rfl, rowC_scal (encI_ok .i64) _⟩⟩, trivial⟩ rfl ?_
      refine XQ.exit (i := 0) (by kernel_rfl) ?_
      cases h
      exact hQ

def f17 (m : Nat) (a : ByteArray) (b : Int) (c : Int) (d : Int) : Option (Int) :=
  (f19 m a).bind fun r1 =>
    cond (r1 != 0) (
      some (r1)
    ) (
      cond (decide ((0 : Int) ≤ b)) (
        cond (!(decide (b ≤ (w64 (((a.size : Nat) : Int) - 1))))) (
          some (2)
        ) (
          cond (decide ((0 : Int) ≤ c)) (
            cond (!(decide (c ≤ (w64 (((a.size : Nat) : Int) - 1))))) (
              some (2)
            ) (
              cond (decide ((1 : Int) ≤ d)) (
                cond (!(decide (d ≤ ((a.size : Nat) : Int)))) (
                  some (1)
                ) (
                  cond (Nat.ble (a.size + a.size) 9223372036854775807) (
                    (f17_1 m m [0] (catS a a) 0).bind fun o1 =>
                      cond (inRow (w64 (b + d)) o1.length) (
                        cond (inRow b o1.length) (
                          cond (inRow (w64 (c + d)) o1.length) (
                            cond (inRow c o1.length) (
                              cond (decide ((w64 ((List.getD o1 (Int.toNat (w64 (b + d))) 0) - (List.getD o1 (Int.toNat b) 0))) < (w64 ((w64 ((List.getD o1 (Int.toNat (w64 (c + d))) 0) - (List.getD o1 (Int.toNat c) 0))) + 2)))) (
                                some (14)
                              ) (
                                some (0)
                              )
                            ) none
                          ) none
                        ) none
                      ) none
                  ) none
                )
              ) (
                some (1)
              )
            )
          ) (
            some (2)
          )
        )
      ) (
        some (2)
      )
    )

theorem f17_ok (m : Nat) (a : ByteArray) (b : Int) (c : Int) (d : Int) (o : Int) (h : f17 m a b c d = some o) (w : World) (hI : maxInv w) : Calls Proofs.Try.prog 17 #[.string a, .int .i64 b, .int .i64 c, .int .i64 d] w fun e w' => e = .returned (.int .i64 o) ∧ Below w.heap.size w w' := by
  refine KC.calls (E := E0) (args := [.string a, .int .i64 b, .int .i64 c, .int .i64 d]) (v := .int .i64 o) rfl rfl (KC.bodyN E0_ok (F := Proofs.Try.f17) (by kernel_rfl) (code := f17_C17) (by kernel_rfl) (nt := 50) (by kernel_rfl) (rs := [.tmp 8]) (by kernel_rfl) (by kernel_rfl) (σ := [(0, .string a), (1, .int .i64 b), (2, .int .i64 c), (3, .int .i64 d)]) (by kernel_rfl) ?_) w (maxInv_size hI) hI
  unfold f17 at h
  refine XQ.seq E0_ok (by kernel_rfl) ?_
  refine XQ.region (by kernel_rfl) ?_
  refine XR.run E0_ok 1 1 [0, 1, 2, 3] rfl (σ' := [(0, .string a), (1, .int .i64 b), (2, .int .i64 c), (3, .int .i64 d)]) (h' := []) (c' := 0) (by kernel_rfl) ?_
  refine XR.done (by kernel_rfl) ?_
  show XQ _ _ _ _ _ _ _ _
  refine XQ.seq E0_ok (by kernel_rfl) ?_
  refine XQ.region (by kernel_rfl) ?_
  refine XR.run E0_ok 1 1 [0, 1, 2, 3, 12] rfl (σ' := [(0, .string a), (1, .int .i64 b), (2, .int .i64 c), (3, .int .i64 d), (12, .string a)]) (h' := []) (c' := 0) (by kernel_rfl) ?_
  obtain ⟨r1, r1_h, h⟩ := bS h
  refine XR.call E0_ok [0, 1, 2, 3, 13] rfl (K := 19) (args := [.string a]) (d := (some (path 12 13))) (by kernel_rfl) (KC.of_calls E0_ok (F := Proofs.Try.f19) (v := .int .i64 r1) (by kernel_rfl) rfl rfl (fun w hI => f19_ok m a r1 r1_h w hI)) ?_
  rintro _ _ _ ⟨rfl, rfl, rfl⟩
  refine XR.conv (σ' := [(0, .string a), (1, .int .i64 b), (2, .int .i64 c), (3, .int .i64 d), (13, .int .i64 r1)]) (h' := []) (c' := 0) ?_ (by kernel_rfl)
  refine XR.run E0_ok 1 1 [0, 1, 2, 3, 9] rfl (σ' := [(0, .string a), (1, .int .i64 b), (2, .int .i64 c), (3, .int .i64 d), (9, .int .i64 r1)]) (h' := []) (c' := 0) (by kernel_rfl) ?_
  refine XR.done (by kernel_rfl) ?_
  show XQ _ _ _ _ _ _ _ _
  refine XQ.seq E0_ok (by kernel_rfl) ?_
  refine XQ.region (by kernel_rfl) ?_
  refine XR.run E0_ok 1 3 [0, 1, 2, 3, 9, 10] rfl (σ' := [(0, .string a), (1, .int .i64 b), (2, .int .i64 c), (3, .int .i64 d), (9, .int .i64 r1), (10, .int .i64 ((a.size : Nat) : Int))]) (h' := []) (c' := 0) (by kernel_rfl) ?_
  refine XR.done (by kernel_rfl) ?_
  show XQ _ _ _ _ _ _ _ _
  refine XQ.seq E0_ok (by kernel_rfl) ?_
  refine XQ.block (id := 0) (by kernel_rfl) ?_
  refine XQ.seq E0_ok (by kernel_rfl) ?_
  refine XQ.region (by kernel_rfl) ?_
  refine XR.run E0_ok 1 3 [0, 1, 2, 3, 9, 10, 16] rfl (σ' := [(0, .string a), (1, .int .i64 b), (2, .int .i64 c), (3, .int .i64 d), (9, .int .i64 r1), (10, .int .i64 ((a.size : Nat) : Int)), (16, .bool (r1 != 0))]) (h' := []) (c' := 0) (by kernel_rfl) ?_
  refine XR.done (by kernel_rfl) ?_
  show XQ _ _ _ _ _ _ _ _
  cases b1 : (r1 != 0 : Bool) with
  | true =>
    have h := cT b1 h
    refine XQ.cond (s := (.tmp 16)) (b := true) (by kernel_rfl) (by kernel_rfl) (fun _ => ?_) (fun q => by cases q)
    refine XQ.seq E0_ok (by kernel_rfl) ?_
    refine XQ.region (by kernel_rfl) ?_
    refine XR.run E0_ok 1 2 [8] rfl (σ' := [(8, .int .i64 r1)]) (h' := []) (c' := 0) (by kernel_rfl) ?_
    refine XR.done (by kernel_rfl) ?_
    show XQ _ _ _ _ _ _ _ _
    refine XQ.ret (by kernel_rfl) ?_
    have h := Option.some.inj h
    subst h
    exact ⟨fun i q => (by cases q), .int .i64 r1, (by kernel_rfl), rfl⟩
  | false =>
    have h := cF b1 h
    refine XQ.cond (s := (.tmp 16)) (b := false) (by kernel_rfl) (by kernel_rfl) (fun q => by cases q) (fun _ => ?_)
    refine XQ.seq E0_ok (by kernel_rfl) ?_
    refine XQ.region (by kernel_rfl) ?_
    refine XR.run E0_ok 1 3 [0, 1, 2, 3, 10, 21, 23] rfl (σ' := [(0, .string a), (1, .int .i64 b), (2, .int .i64 c), (3, .int .i64 d), (10, .int .i64 ((a.size : Nat) : Int)), (21, .int .i64 b), (23, .int .i64 (w64 (((a.size : Nat) : Int) - 1)))]) (h' := []) (c' := 0) (by kernel_rfl) ?_
    refine XR.callK E0_ok [0, 1, 2, 3, 10, 24] rfl (K := 47) (args := [.int .i64 b, .int .i64 0, .int .i64 (w64 (((a.size : Nat) : Int) - 1))]) (d := (some (path 12 24))) (by kernel_rfl) ?_
    refine KC.bodyN E0_ok (F := Proofs.Try.f47) (by kernel_rfl) (code := f17_C47) (by kernel_rfl) (nt := 15) (by kernel_rfl) (rs := [.tmp 6]) (by kernel_rfl) (by kernel_rfl) (σ := [(0, .int .i64 b), (1, .int .i64 0), (2, .int .i64 (w64 (((a.size : Nat) : Int) - 1)))]) (by kernel_rfl) ?_
    refine XQ.seq E0_ok (by kernel_rfl) ?_
    refine XQ.region (by kernel_rfl) ?_
    refine XR.run E0_ok 1 1 [0, 1, 2] rfl (σ' := [(0, .int .i64 b), (1, .int .i64 0), (2, .int .i64 (w64 (((a.size : Nat) : Int) - 1)))]) (h' := []) (c' := 0) (by kernel_rfl) ?_
    refine XR.done (by kernel_rfl) ?_
    show XQ _ _ _ _ _ _ _ _
    refine XQ.seq E0_ok (by kernel_rfl) ?_
    refine XQ.region (by kernel_rfl) ?_
    refine XR.run E0_ok 1 4 [0, 2, 10] rfl (σ' := [(0, .int .i64 b), (2, .int .i64 (w64 (((a.size : Nat) : Int) - 1))), (10, .bool (decide ((0 : Int) ≤ b)))]) (h' := []) (c' := 0) (by kernel_rfl) ?_
    cases b2 : (decide ((0 : Int) ≤ b) : Bool) with
    | true =>
      have h := cT b2 h
      refine XR.run E0_ok 1 5 [6] rfl (σ' := [(6, .bool (decide (b ≤ (w64 (((a.size : Nat) : Int) - 1)))))]) (h' := []) (c' := 0) (by kernel_rfl) ?_
      refine XR.done (by kernel_rfl) ?_
      show XQ _ _ _ _ _ _ _ _
      refine XQ.ret (by kernel_rfl) ?_
      refine ⟨fun i q => (by cases q), .bool (decide (b ≤ (w64 (((a.size : Nat) : Int) - 1)))), (by kernel_rfl), ?_⟩
      refine XR.conv (σ' := [(0, .string a), (1, .int .i64 b), (2, .int .i64 c), (3, .int .i64 d), (10, .int .i64 ((a.size : Nat) : Int)), (24, .bool (decide (b ≤ (w64 (((a.size : Nat) : Int) - 1)))))]) (h' := []) (c' := 0) ?_ (by kernel_rfl)
      refine XR.run E0_ok 1 2 [0, 1, 2, 3, 10, 26] rfl (σ' := [(0, .string a), (1, .int .i64 b), (2, .int .i64 c), (3, .int .i64 d), (10, .int .i64 ((a.size : Nat) : Int)), (26, .bool (!(decide (b ≤ (w64 (((a.size : Nat) : Int) - 1))))))]) (h' := []) (c' := 0) (by kernel_rfl) ?_
      cases b3 : (!(decide (b ≤ (w64 (((a.size : Nat) : Int) - 1)))) : Bool) with
      | true =>
        have h := cT b3 h
        refine XR.run E0_ok 1 7 [0, 1, 2, 3, 10, 20] rfl (σ' := [(0, .string a), (1, .int .i64 b), (2, .int .i64 c), (3, .int .i64 d), (10, .int .i64 ((a.size : Nat) : Int)), (20, .bool true)]) (h' := []) (c' := 0) (by kernel_rfl) ?_
        refine XR.done (by kernel_rfl) ?_
        show XQ _ _ _ _ _ _ _ _
        refine XQ.cond (s := (.tmp 20)) (b := true) (by kernel_rfl) (by kernel_rfl) (fun _ => ?_) (fun q => by cases q)
        refine XQ.seq E0_ok (by kernel_rfl) ?_
        refine XQ.region (by kernel_rfl) ?_
        refine XR.run E0_ok 1 1 [8] rfl (σ' := [(8, .int .i64 2)]) (h' := []) (c' := 0) (by kernel_rfl) ?_
        refine XR.done (by kernel_rfl) ?_
        show XQ _ _ _ _ _ _ _ _
        refine XQ.ret (by kernel_rfl) ?_
        have h := Option.some.inj h
        subst h
        exact ⟨fun i q => (by cases q), .int .i64 2, (by kernel_rfl), rfl⟩
      | false =>
        have h := cF b3 h
        refine XR.run E0_ok 1 3 [0, 1, 2, 3, 10, 26, 27, 29] rfl (σ' := [(0, .string a), (1, .int .i64 b), (2, .int .i64 c), (3, .int .i64 d), (10, .int .i64 ((a.size : Nat) : Int)), (26, .bool false), (27, .int .i64 c), (29, .int .i64 (w64 (((a.size : Nat) : Int) - 1)))]) (h' := []) (c' := 0) (by kernel_rfl) ?_
        refine XR.callK E0_ok [0, 1, 2, 3, 10, 26, 30] rfl (K := 47) (args := [.int .i64 c, .int .i64 0, .int .i64 (w64 (((a.size : Nat) : Int) - 1))]) (d := (some (path 12 30))) (by kernel_rfl) ?_
        refine KC.bodyN E0_ok (F := Proofs.Try.f47) (by kernel_rfl) (code := f17_C47) (by kernel_rfl) (nt := 15) (by kernel_rfl) (rs := [.tmp 6]) (by kernel_rfl) (by kernel_rfl) (σ := [(0, .int .i64 c), (1, .int .i64 0), (2, .int .i64 (w64 (((a.size : Nat) : Int) - 1)))]) (by kernel_rfl) ?_
        refine XQ.seq E0_ok (by kernel_rfl) ?_
        refine XQ.region (by kernel_rfl) ?_
        refine XR.run E0_ok 1 1 [0, 1, 2] rfl (σ' := [(0, .int .i64 c), (1, .int .i64 0), (2, .int .i64 (w64 (((a.size : Nat) : Int) - 1)))]) (h' := []) (c' := 0) (by kernel_rfl) ?_
        refine XR.done (by kernel_rfl) ?_
        show XQ _ _ _ _ _ _ _ _
        refine XQ.seq E0_ok (by kernel_rfl) ?_
        refine XQ.region (by kernel_rfl) ?_
        refine XR.run E0_ok 1 4 [0, 2, 10] rfl (σ' := [(0, .int .i64 c), (2, .int .i64 (w64 (((a.size : Nat) : Int) - 1))), (10, .bool (decide ((0 : Int) ≤ c)))]) (h' := []) (c' := 0) (by kernel_rfl) ?_
        cases b4 : (decide ((0 : Int) ≤ c) : Bool) with
        | true =>
          have h := cT b4 h
          refine XR.run E0_ok 1 5 [6] rfl (σ' := [(6, .bool (decide (c ≤ (w64 (((a.size : Nat) : Int) - 1)))))]) (h' := []) (c' := 0) (by kernel_rfl) ?_
          refine XR.done (by kernel_rfl) ?_
          show XQ _ _ _ _ _ _ _ _
          refine XQ.ret (by kernel_rfl) ?_
          refine ⟨fun i q => (by cases q), .bool (decide (c ≤ (w64 (((a.size : Nat) : Int) - 1)))), (by kernel_rfl), ?_⟩
          refine XR.conv (σ' := [(0, .string a), (1, .int .i64 b), (2, .int .i64 c), (3, .int .i64 d), (10, .int .i64 ((a.size : Nat) : Int)), (26, .bool false), (30, .bool (decide (c ≤ (w64 (((a.size : Nat) : Int) - 1)))))]) (h' := []) (c' := 0) ?_ (by kernel_rfl)
          refine XR.run E0_ok 1 3 [0, 1, 2, 3, 10, 20] rfl (σ' := [(0, .string a), (1, .int .i64 b), (2, .int .i64 c), (3, .int .i64 d), (10, .int .i64 ((a.size : Nat) : Int)), (20, .bool (!(decide (c ≤ (w64 (((a.size : Nat) : Int) - 1))))))]) (h' := []) (c' := 0) (by kernel_rfl) ?_
          refine XR.done (by kernel_rfl) ?_
          show XQ _ _ _ _ _ _ _ _
          cases b5 : (!(decide (c ≤ (w64 (((a.size : Nat) : Int) - 1)))) : Bool) with
          | true =>
            have h := cT b5 h
            refine XQ.cond (s := (.tmp 20)) (b := true) (by kernel_rfl) (by kernel_rfl) (fun _ => ?_) (fun q => by cases q)
            refine XQ.seq E0_ok (by kernel_rfl) ?_
            refine XQ.region (by kernel_rfl) ?_
            refine XR.run E0_ok 1 1 [8] rfl (σ' := [(8, .int .i64 2)]) (h' := []) (c' := 0) (by kernel_rfl) ?_
            refine XR.done (by kernel_rfl) ?_
            show XQ _ _ _ _ _ _ _ _
            refine XQ.ret (by kernel_rfl) ?_
            have h := Option.some.inj h
            subst h
            exact ⟨fun i q => (by cases q), .int .i64 2, (by kernel_rfl), rfl⟩
          | false =>
            have h := cF b5 h
            refine XQ.cond (s := (.tmp 20)) (b := false) (by kernel_rfl) (by kernel_rfl) (fun q => by cases q) (fun _ => ?_)
            refine XQ.seq E0_ok (by kernel_rfl) ?_
            refine XQ.region (by kernel_rfl) ?_
            refine XR.run E0_ok 1 2 [0, 1, 2, 3, 34, 35] rfl (σ' := [(0, .string a), (1, .int .i64 b), (2, .int .i64 c), (3, .int .i64 d), (34, .int .i64 d), (35, .int .i64 ((a.size : Nat) : Int))]) (h' := []) (c' := 0) (by kernel_rfl) ?_
            refine XR.callK E0_ok [0, 1, 2, 3, 36] rfl (K := 47) (args := [.int .i64 d, .int .i64 1, .int .i64 ((a.size : Nat) : Int)]) (d := (some (path 12 36))) (by kernel_rfl) ?_
            refine KC.bodyN E0_ok (F := Proofs.Try.f47) (by kernel_rfl) (code := f17_C47) (by kernel_rfl) (nt := 15) (by kernel_rfl) (rs := [.tmp 6]) (by kernel_rfl) (by kernel_rfl) (σ := [(0, .int .i64 d), (1, .int .i64 1), (2, .int .i64 ((a.size : Nat) : Int))]) (by kernel_rfl) ?_
            refine XQ.seq E0_ok (by kernel_rfl) ?_
            refine XQ.region (by kernel_rfl) ?_
            refine XR.run E0_ok 1 1 [0, 1, 2] rfl (σ' := [(0, .int .i64 d), (1, .int .i64 1), (2, .int .i64 ((a.size : Nat) : Int))]) (h' := []) (c' := 0) (by kernel_rfl) ?_
            refine XR.done (by kernel_rfl) ?_
            show XQ _ _ _ _ _ _ _ _
            refine XQ.seq E0_ok (by kernel_rfl) ?_
            refine XQ.region (by kernel_rfl) ?_
            refine XR.run E0_ok 1 4 [0, 2, 10] rfl (σ' := [(0, .int .i64 d), (2, .int .i64 ((a.size : Nat) : Int)), (10, .bool (decide ((1 : Int) ≤ d)))]) (h' := []) (c' := 0) (by kernel_rfl) ?_
            cases b6 : (decide ((1 : Int) ≤ d) : Bool) with
            | true =>
              have h := cT b6 h
              refine XR.run E0_ok 1 5 [6] rfl (σ' := [(6, .bool (decide (d ≤ ((a.size : Nat) : Int))))]) (h' := []) (c' := 0) (by kernel_rfl) ?_
              refine XR.done (by kernel_rfl) ?_
              show XQ _ _ _ _ _ _ _ _
              refine XQ.ret (by kernel_rfl) ?_
              refine ⟨fun i q => (by cases q), .bool (decide (d ≤ ((a.size : Nat) : Int))), (by kernel_rfl), ?_⟩
              refine XR.conv (σ' := [(0, .string a), (1, .int .i64 b), (2, .int .i64 c), (3, .int .i64 d), (36, .bool (decide (d ≤ ((a.size : Nat) : Int))))]) (h' := []) (c' := 0) ?_ (by kernel_rfl)
              refine XR.run E0_ok 1 2 [0, 1, 2, 3, 33] rfl (σ' := [(0, .string a), (1, .int .i64 b), (2, .int .i64 c), (3, .int .i64 d), (33, .bool (!(decide (d ≤ ((a.size : Nat) : Int)))))]) (h' := []) (c' := 0) (by kernel_rfl) ?_
              refine XR.done (by kernel_rfl) ?_
              show XQ _ _ _ _ _ _ _ _
              cases b7 : (!(decide (d ≤ ((a.size : Nat) : Int))) : Bool) with
              | true =>
                have h := cT b7 h
                refine XQ.cond (s := (.tmp 33)) (b := true) (by kernel_rfl) (by kernel_rfl) (fun _ => ?_) (fun q => by cases q)
                refine XQ.seq E0_ok (by kernel_rfl) ?_
                refine XQ.region (by kernel_rfl) ?_
                refine XR.run E0_ok 1 1 [8] rfl (σ' := [(8, .int .i64 1)]) (h' := []) (c' := 0) (by kernel_rfl) ?_
                refine XR.done (by kernel_rfl) ?_
                show XQ _ _ _ _ _ _ _ _
                refine XQ.ret (by kernel_rfl) ?_
                have h := Option.some.inj h
                subst h
                exact ⟨fun i q => (by cases q), .int .i64 1, (by kernel_rfl), rfl⟩
              | false =>
                have h := cF b7 h
                refine XQ.cond (s := (.tmp 33)) (b := false) (by kernel_rfl) (by kernel_rfl) (fun q => by cases q) (fun _ => ?_)
                refine XQ.skip (by kernel_rfl) ?_
                show XQ _ _ _ _ _ _ _ _
                refine XQ.seq E0_ok (by kernel_rfl) ?_
                refine XQ.seq E0_ok (by kernel_rfl) ?_
                refine XQ.region (by kernel_rfl) ?_
                refine XR.run E0_ok 1 1 [1, 2, 3, 38] rfl (σ' := [(1, .int .i64 b), (2, .int .i64 c), (3, .int .i64 d), (38, .string a)]) (h' := []) (c' := 0) (by kernel_rfl) ?_
                refine XR.callK E0_ok [1, 2, 3, 39] rfl (K := 48) (args := [.string a]) (d := (some (path 12 39))) (by kernel_rfl) ?_
                refine KC.bodyN E0_ok (F := Proofs.Try.f48) (by kernel_rfl) (code := f17_C48) (by kernel_rfl) (nt := 30) (by kernel_rfl) (rs := [.tmp 2]) (by kernel_rfl) (by kernel_rfl) (σ := [(0, .string a)]) (by kernel_rfl) ?_
                refine XQ.seq E0_ok (by kernel_rfl) ?_
                refine XQ.region (by kernel_rfl) ?_
                refine XR.run E0_ok 1 1 [0] rfl (σ' := [(0, .string a)]) (h' := []) (c' := 0) (by kernel_rfl) ?_
                refine XR.done (by kernel_rfl) ?_
                show XQ _ _ _ _ _ _ _ _
                refine XQ.seq E0_ok (by kernel_rfl) ?_
                refine XQ.region (by kernel_rfl) ?_
                refine XR.run E0_ok 1 2 [0, 3] rfl (σ' := [(0, .string a), (3, .slice (some ⟨0, 0, none⟩) 1 1)]) (h' := [(0, .cells [.int .i64 0] 0 3 1)]) (c' := 1) (by kernel_rfl) ?_
                refine XR.done (by kernel_rfl) ?_
                show XQ _ _ _ _ _ _ _ _
                refine XQ.seq E0_ok (by kernel_rfl) ?_
                refine XQ.seq E0_ok (by kernel_rfl) ?_
                refine XQ.region (by kernel_rfl) ?_
                refine XR.run E0_ok 1 2 [3, 8, 9] rfl (σ' := [(3, .slice (some ⟨0, 0, none⟩) 1 1), (8, .string a), (9, .string a)]) (h' := [(0, .cells [.int .i64 0] 0 3 1)]) (c' := 1) (by kernel_rfl) ?_
                cases b8 : (Nat.ble (a.size + a.size) 9223372036854775807 : Bool) with
                | false => cases (cF b8 h)
                | true =>
                  have h := cT b8 h
                  have e9 : insV (headI ((gsOf E0 30 (opsOf (lft (lft (rgt (rgt f17_C48)))))).drop 2) (trS 30 [(3, .slice (some ⟨0, 0, none⟩) 1 1), (8, .string a), (9, .string a)])) (trS 30 [(3, .slice (some ⟨0, 0, none⟩) 1 1), (8, .string a), (9, .string a)]) [(0, .cells [.int .i64 0] 0 3 1)] = (match (Nat.ble (a.size + a.size) 9223372036854775807 : Bool) with | true => some (.string (catS a a)) | false => none) := by kernel_rfl
                  refine XR.rd E0_ok [3, 10] rfl (e9.trans (by rw [b8])) (σ' := [(3, .slice (some ⟨0, 0, none⟩) 1 1), (10, .string (catS a a))]) (by kernel_rfl) ?_
                  refine XR.run E0_ok 1 1 [3, 11] rfl (σ' := [(3, .slice (some ⟨0, 0, none⟩) 1 1), (11, .pointer (some ⟨1, 0, none⟩))]) (h' := [(1, .iter (catS a a) 0), (0, .cells [.int .i64 0] 0 3 1)]) (c' := 2) (by kernel_rfl) ?_
                  refine XR.done (by kernel_rfl) ?_
                  show XQ _ _ _ _ _ _ _ _
                  refine XQ.block (id := 0) (by kernel_rfl) ?_
                  refine XQ.loop m (by kernel_rfl) ?_
                  obtain ⟨o1, o1_h, h⟩ := bS h
                  refine XL.ren (σ' := [(3, .slice (some ⟨0, 0, none⟩) 1 1), (11, .pointer (some ⟨1, 0, none⟩))]) (h' := [(1, .iter (catS a a) 0), (0, .cells [.int .i64 0] 0 3 1)]) (c' := 2) [0, 1] (by decide) rfl ⟨by kernel_rfl, by kernel_rfl, trivial⟩ ⟨⟨_, _, rfl, rfl, .inl ⟨rfl, trivial⟩⟩, ⟨_, _, rfl, rfl, .inr ⟨_, _, _, _, rfl, rfl⟩⟩, trivial⟩ rfl ?_
                  refine XL.conv (σ' := [(3, .slice (some ⟨0, 0, none⟩) 1 1), (11, .pointer (some ⟨1, 0, none⟩))]) (h' := [(1, .iter (catS a a) 0), (0, .cells (rowC (encI .i64) [0]) 0 3 1)]) (c' := 2) ?_ (by kernel_rfl)
                  refine XL.conv (f17_1_ok m m [0] (catS a a) 0 o1 o1_h _ ?_) (by first | rfl | simp)
                  show XQ _ _ _ _ _ _ _ _
                  refine XQ.seq E0_ok (by kernel_rfl) ?_
                  refine XQ.region (by kernel_rfl) ?_
                  refine XR.run E0_ok 1 2 [2] rfl (σ' := [(2, .slice (some ⟨0, 0, none⟩) o1.length o1.length)]) (h' := [(0, .cells (rowC (encI .i64) o1) 0 3 1)]) (c' := 1) (by kernel_rfl) ?_
                  refine XR.done (by kernel_rfl) ?_
                  show XQ _ _ _ _ _ _ _ _
                  refine XQ.ret (by kernel_rfl) ?_
                  refine ⟨fun i q => (by cases q), .slice (some ⟨0, 0, none⟩) o1.length o1.length, (by kernel_rfl), ?_⟩
                  refine XR.conv (σ' := [(1, .int .i64 b), (2, .int .i64 c), (3, .int .i64 d), (39, .slice (some ⟨0, 0, none⟩) o1.length o1.length)]) (h' := [(0, .cells (rowC (encI .i64) o1) 0 3 1)]) (c' := 1) ?_ (by kernel_rfl)
                  refine XR.run E0_ok 1 1 [1, 2, 3, 11] rfl (σ' := [(1, .int .i64 b), (2, .int .i64 c), (3, .int .i64 d), (11, .slice (some ⟨0, 0, none⟩) o1.length o1.length)]) (h' := [(0, .cells (rowC (encI .i64) o1) 0 3 1)]) (c' := 1) (by kernel_rfl) ?_
                  refine XR.done (by kernel_rfl) ?_
                  show XQ _ _ _ _ _ _ _ _
                  refine XQ.seq E0_ok (by kernel_rfl) ?_
                  refine XQ.region (by kernel_rfl) ?_
                  refine XR.run E0_ok 1 3 [2, 3, 11, 40, 41, 42] rfl (σ' := [(2, .int .i64 c), (3, .int .i64 d), (11, .slice (some ⟨0, 0, none⟩) o1.length o1.length), (40, .slice (some ⟨0, 0, none⟩) o1.length o1.length), (41, .int .i64 b), (42, .int .i64 d)]) (h' := [(0, .cells (rowC (encI .i64) o1) 0 3 1)]) (c' := 1) (by kernel_rfl) ?_
                  refine XR.callK E0_ok [2, 3, 11, 43] rfl (K := 49) (args := [.slice (some ⟨0, 0, none⟩) o1.length o1.length, .int .i64 b, .int .i64 d]) (d := (some (path 12 43))) (by kernel_rfl) ?_
                  refine KC.bodyN E0_ok (F := Proofs.Try.f49) (by kernel_rfl) (code := f17_C49) (by kernel_rfl) (nt := 18) (by kernel_rfl) (rs := [.tmp 6]) (by kernel_rfl) (by kernel_rfl) (σ := [(0, .slice (some ⟨0, 0, none⟩) o1.length o1.length), (1, .int .i64 b), (2, .int .i64 d)]) (by kernel_rfl) ?_
                  refine XQ.seq E0_ok (by kernel_rfl) ?_
                  refine XQ.region (by kernel_rfl) ?_
                  refine XR.run E0_ok 1 1 [0, 1, 2] rfl (σ' := [(0, .slice (some ⟨0, 0, none⟩) o1.length o1.length), (1, .int .i64 b), (2, .int .i64 d)]) (h' := [(0, .cells (rowC (encI .i64) o1) 0 3 1)]) (c' := 1) (by kernel_rfl) ?_
                  refine XR.done (by kernel_rfl) ?_
                  show XQ _ _ _ _ _ _ _ _
                  refine XQ.seq E0_ok (by kernel_rfl) ?_
                  refine XQ.quiet E0_ok (by kernel_rfl) (by kernel_rfl) ?_
                  refine XU.run E0_ok 1 4 [0, 1, 7, 10] rfl (σ' := [(0, .slice (some ⟨0, 0, none⟩) o1.length o1.length), (1, .int .i64 b), (7, .slice (some ⟨0, 0, none⟩) o1.length o1.length), (10, .int .i64 (w64 (b + d)))]) (by kernel_rfl) ?_
                  cases b11 : (inRow (w64 (b + d)) o1.length : Bool) with
                  | false => cases (cF b11 h)
                  | true =>
                    have h := cT b11 h
                    refine XU.rd E0_ok [0, 1, 11] rfl (v := .pointer (some ⟨0, (Int.toNat (w64 (b + d))) * 1, none⟩)) (v_idx (s := 1) (x := (src 18 (.tmp 7))) (y := (src 18 (.tmp 10))) (b := 0) (o := 0) (len := o1.length) (cap := o1.length) (ik := .i64) (i := w64 (b + d)) (off := (Int.toNat (w64 (b + d))) * 1) (d := (some (path 12 11))) (by kernel_rfl) (by kernel_rfl) (by kernel_rfl) b11 (by omega)) (σ' := [(0, .slice (some ⟨0, 0, none⟩) o1.length o1.length), (1, .int .i64 b), (11, .pointer (some ⟨0, (Int.toNat (w64 (b + d))) * 1, none⟩))]) (by kernel_rfl) ?_
                    refine XU.rd E0_ok [0, 1, 12] rfl (v := .int .i64 (List.getD o1 (Int.toNat (w64 (b + d))) 0)) (v_load1 (encI_ok .i64) (x := (src 18 (.tmp 11))) (b := 0) (off := (Int.toNat (w64 (b + d))) * 1) (xs := o1) (fz := 0) (e := 3) (es := 1) (d := (some (path 12 12))) (by kernel_rfl) (by kernel_rfl) (by kernel_rfl) (Int.toNat (w64 (b + d))) 0 0 (by first | rfl | omega) (row_len (inRow_toNat b11) (by simp)) rfl rfl) (σ' := [(0, .slice (some ⟨0, 0, none⟩) o1.length o1.length), (1, .int .i64 b), (12, .int .i64 (List.getD o1 (Int.toNat (w64 (b + d))) 0))]) (by kernel_rfl) ?_
                    refine XU.run E0_ok 1 2 [12, 13, 14] rfl (σ' := [(12, .int .i64 (List.getD o1 (Int.toNat (w64 (b + d))) 0)), (13, .slice (some ⟨0, 0, none⟩) o1.length o1.length), (14, .int .i64 b)]) (by kernel_rfl) ?_
                    cases b12 : (inRow b o1.length : Bool) with
                    | false => cases (cF b12 h)
                    | true =>
                      have h := cT b12 h
                      refine XU.rd E0_ok [12, 15] rfl (v := .pointer (some ⟨0, (Int.toNat b) * 1, none⟩)) (v_idx (s := 1) (x := (src 18 (.tmp 13))) (y := (src 18 (.tmp 14))) (b := 0) (o := 0) (len := o1.length) (cap := o1.length) (ik := .i64) (i := b) (off := (Int.toNat b) * 1) (d := (some (path 12 15))) (by kernel_rfl) (by kernel_rfl) (by kernel_rfl) b12 (by omega)) (σ' := [(12, .int .i64 (List.getD o1 (Int.toNat (w64 (b + d))) 0)), (15, .pointer (some ⟨0, (Int.toNat b) * 1, none⟩))]) (by kernel_rfl) ?_
                      refine XU.rd E0_ok [12, 16] rfl (v := .int .i64 (List.getD o1 (Int.toNat b) 0)) (v_load1 (encI_ok .i64) (x := (src 18 (.tmp 15))) (b := 0) (off := (Int.toNat b) * 1) (xs := o1) (fz := 0) (e := 3) (es := 1) (d := (some (path 12 16))) (by kernel_rfl) (by kernel_rfl) (by kernel_rfl) (Int.toNat b) 0 0 (by first | rfl | omega) (row_len (inRow_toNat b12) (by simp)) rfl rfl) (σ' := [(12, .int .i64 (List.getD o1 (Int.toNat (w64 (b + d))) 0)), (16, .int .i64 (List.getD o1 (Int.toNat b) 0))]) (by kernel_rfl) ?_
                      refine XU.run E0_ok 1 2 [6] rfl (σ' := [(6, .int .i64 (w64 ((List.getD o1 (Int.toNat (w64 (b + d))) 0) - (List.getD o1 (Int.toNat b) 0))))]) (by kernel_rfl) ?_
                      refine XU.done (by kernel_rfl) ?_
                      show XQ _ _ _ _ _ _ _ _
                      refine XQ.ret (by kernel_rfl) ?_
                      refine ⟨fun i q => (by cases q), .int .i64 (w64 ((List.getD o1 (Int.toNat (w64 (b + d))) 0) - (List.getD o1 (Int.toNat b) 0))), (by kernel_rfl), ?_⟩
                      refine XR.conv (σ' := [(2, .int .i64 c), (3, .int .i64 d), (11, .slice (some ⟨0, 0, none⟩) o1.length o1.length), (43, .int .i64 (w64 ((List.getD o1 (Int.toNat (w64 (b + d))) 0) - (List.getD o1 (Int.toNat b) 0))))]) (h' := [(0, .cells (rowC (encI .i64) o1) 0 3 1)]) (c' := 1) ?_ (by kernel_rfl)
                      refine XR.run E0_ok 1 3 [43, 44, 45, 46] rfl (σ' := [(43, .int .i64 (w64 ((List.getD o1 (Int.toNat (w64 (b + d))) 0) - (List.getD o1 (Int.toNat b) 0)))), (44, .slice (some ⟨0, 0, none⟩) o1.length o1.length), (45, .int .i64 c), (46, .int .i64 d)]) (h' := [(0, .cells (rowC (encI .i64) o1) 0 3 1)]) (c' := 1) (by kernel_rfl) ?_
                      refine XR.callK E0_ok [43, 47] rfl (K := 49) (args := [.slice (some ⟨0, 0, none⟩) o1.length o1.length, .int .i64 c, .int .i64 d]) (d := (some (path 12 47))) (by kernel_rfl) ?_
                      refine KC.bodyN E0_ok (F := Proofs.Try.f49) (by kernel_rfl) (code := f17_C49) (by kernel_rfl) (nt := 18) (by kernel_rfl) (rs := [.tmp 6]) (by kernel_rfl) (by kernel_rfl) (σ := [(0, .slice (some ⟨0, 0, none⟩) o1.length o1.length), (1, .int .i64 c), (2, .int .i64 d)]) (by kernel_rfl) ?_
                      refine XQ.seq E0_ok (by kernel_rfl) ?_
                      refine XQ.region (by kernel_rfl) ?_
                      refine XR.run E0_ok 1 1 [0, 1, 2] rfl (σ' := [(0, .slice (some ⟨0, 0, none⟩) o1.length o1.length), (1, .int .i64 c), (2, .int .i64 d)]) (h' := [(0, .cells (rowC (encI .i64) o1) 0 3 1)]) (c' := 1) (by kernel_rfl) ?_
                      refine XR.done (by kernel_rfl) ?_
                      show XQ _ _ _ _ _ _ _ _
                      refine XQ.seq E0_ok (by kernel_rfl) ?_
                      refine XQ.quiet E0_ok (by kernel_rfl) (by kernel_rfl) ?_
                      refine XU.run E0_ok 1 4 [0, 1, 7, 10] rfl (σ' := [(0, .slice (some ⟨0, 0, none⟩) o1.length o1.length), (1, .int .i64 c), (7, .slice (some ⟨0, 0, none⟩) o1.length o1.length), (10, .int .i64 (w64 (c + d)))]) (by kernel_rfl) ?_
                      cases b13 : (inRow (w64 (c + d)) o1.length : Bool) with
                      | false => cases (cF b13 h)
                      | true =>
                        have h := cT b13 h
                        refine XU.rd E0_ok [0, 1, 11] rfl (v := .pointer (some ⟨0, (Int.toNat (w64 (c + d))) * 1, none⟩)) (v_idx (s := 1) (x := (src 18 (.tmp 7))) (y := (src 18 (.tmp 10))) (b := 0) (o := 0) (len := o1.length) (cap := o1.length) (ik := .i64) (i := w64 (c + d)) (off := (Int.toNat (w64 (c + d))) * 1) (d := (some (path 12 11))) (by kernel_rfl) (by kernel_rfl) (by kernel_rfl) b13 (by omega)) (σ' := [(0, .slice (some ⟨0, 0, none⟩) o1.length o1.length), (1, .int .i64 c), (11, .pointer (some ⟨0, (Int.toNat (w64 (c + d))) * 1, none⟩))]) (by kernel_rfl) ?_
                        refine XU.rd E0_ok [0, 1, 12] rfl (v := .int .i64 (List.getD o1 (Int.toNat (w64 (c + d))) 0)) (v_load1 (encI_ok .i64) (x := (src 18 (.tmp 11))) (b := 0) (off := (Int.toNat (w64 (c + d))) * 1) (xs := o1) (fz := 0) (e := 3) (es := 1) (d := (some (path 12 12))) (by kernel_rfl) (by kernel_rfl) (by kernel_rfl) (Int.toNat (w64 (c + d))) 0 0 (by first | rfl | omega) (row_len (inRow_toNat b13) (by simp)) rfl rfl) (σ' := [(0, .slice (some ⟨0, 0, none⟩) o1.length o1.length), (1, .int .i64 c), (12, .int .i64 (List.getD o1 (Int.toNat (w64 (c + d))) 0))]) (by kernel_rfl) ?_
                        refine XU.run E0_ok 1 2 [12, 13, 14] rfl (σ' := [(12, .int .i64 (List.getD o1 (Int.toNat (w64 (c + d))) 0)), (13, .slice (some ⟨0, 0, none⟩) o1.length o1.length), (14, .int .i64 c)]) (by kernel_rfl) ?_
                        cases b14 : (inRow c o1.length : Bool) with
                        | false => cases (cF b14 h)
                        | true =>
                          have h := cT b14 h
                          refine XU.rd E0_ok [12, 15] rfl (v := .pointer (some ⟨0, (Int.toNat c) * 1, none⟩)) (v_idx (s := 1) (x := (src 18 (.tmp 13))) (y := (src 18 (.tmp 14))) (b := 0) (o := 0) (len := o1.length) (cap := o1.length) (ik := .i64) (i := c) (off := (Int.toNat c) * 1) (d := (some (path 12 15))) (by kernel_rfl) (by kernel_rfl) (by kernel_rfl) b14 (by omega)) (σ' := [(12, .int .i64 (List.getD o1 (Int.toNat (w64 (c + d))) 0)), (15, .pointer (some ⟨0, (Int.toNat c) * 1, none⟩))]) (by kernel_rfl) ?_
                          refine XU.rd E0_ok [12, 16] rfl (v := .int .i64 (List.getD o1 (Int.toNat c) 0)) (v_load1 (encI_ok .i64) (x := (src 18 (.tmp 15))) (b := 0) (off := (Int.toNat c) * 1) (xs := o1) (fz := 0) (e := 3) (es := 1) (d := (some (path 12 16))) (by kernel_rfl) (by kernel_rfl) (by kernel_rfl) (Int.toNat c) 0 0 (by first | rfl | omega) (row_len (inRow_toNat b14) (by simp)) rfl rfl) (σ' := [(12, .int .i64 (List.getD o1 (Int.toNat (w64 (c + d))) 0)), (16, .int .i64 (List.getD o1 (Int.toNat c) 0))]) (by kernel_rfl) ?_
                          refine XU.run E0_ok 1 2 [6] rfl (σ' := [(6, .int .i64 (w64 ((List.getD o1 (Int.toNat (w64 (c + d))) 0) - (List.getD o1 (Int.toNat c) 0))))]) (by kernel_rfl) ?_
                          refine XU.done (by kernel_rfl) ?_
                          show XQ _ _ _ _ _ _ _ _
                          refine XQ.ret (by kernel_rfl) ?_
                          refine ⟨fun i q => (by cases q), .int .i64 (w64 ((List.getD o1 (Int.toNat (w64 (c + d))) 0) - (List.getD o1 (Int.toNat c) 0))), (by kernel_rfl), ?_⟩
                          refine XR.conv (σ' := [(43, .int .i64 (w64 ((List.getD o1 (Int.toNat (w64 (b + d))) 0) - (List.getD o1 (Int.toNat b) 0)))), (47, .int .i64 (w64 ((List.getD o1 (Int.toNat (w64 (c + d))) 0) - (List.getD o1 (Int.toNat c) 0))))]) (h' := [(0, .cells (rowC (encI .i64) o1) 0 3 1)]) (c' := 1) ?_ (by kernel_rfl)
                          refine XR.run E0_ok 1 2 [49] rfl (σ' := [(49, .bool (decide ((w64 ((List.getD o1 (Int.toNat (w64 (b + d))) 0) - (List.getD o1 (Int.toNat b) 0))) < (w64 ((w64 ((List.getD o1 (Int.toNat (w64 (c + d))) 0) - (List.getD o1 (Int.toNat c) 0))) + 2)))))]) (h' := [(0, .cells (rowC (encI .i64) o1) 0 3 1)]) (c' := 1) (by kernel_rfl) ?_
                          refine XR.done (by kernel_rfl) ?_
                          show XQ _ _ _ _ _ _ _ _
                          cases b15 : (decide ((w64 ((List.getD o1 (Int.toNat (w64 (b + d))) 0) - (List.getD o1 (Int.toNat b) 0))) < (w64 ((w64 ((List.getD o1 (Int.toNat (w64 (c + d))) 0) - (List.getD o1 (Int.toNat c) 0))) + 2))) : Bool) with
                          | true =>
                            have h := cT b15 h
                            refine XQ.cond (s := (.tmp 49)) (b := true) (by kernel_rfl) (by kernel_rfl) (fun _ => ?_) (fun q => by cases q)
                            refine XQ.seq E0_ok (by kernel_rfl) ?_
                            refine XQ.region (by kernel_rfl) ?_
                            refine XR.run E0_ok 1 1 [8] rfl (σ' := [(8, .int .i64 14)]) (h' := [(0, .cells (rowC (encI .i64) o1) 0 3 1)]) (c' := 1) (by kernel_rfl) ?_
                            refine XR.done (by kernel_rfl) ?_
                            show XQ _ _ _ _ _ _ _ _
                            refine XQ.ret (by kernel_rfl) ?_
                            have h := Option.some.inj h
                            subst h
                            exact ⟨fun i q => (by cases q), .int .i64 14, (by kernel_rfl), rfl⟩
                          | false =>
                            have h := cF b15 h
                            refine XQ.cond (s := (.tmp 49)) (b := false) (by kernel_rfl) (by kernel_rfl) (fun q => by cases q) (fun _ => ?_)
                            refine XQ.skip (by kernel_rfl) ?_
                            show XQ _ _ _ _ _ _ _ _
                            refine XQ.seq E0_ok (by kernel_rfl) ?_
                            refine XQ.region (by kernel_rfl) ?_
                            refine XR.run E0_ok 1 1 [8] rfl (σ' := [(8, .int .i64 0)]) (h' := [(0, .cells (rowC (encI .i64) o1) 0 3 1)]) (c' := 1) (by kernel_rfl) ?_
                            refine XR.done (by kernel_rfl) ?_
                            show XQ _ _ _ _ _ _ _ _
                            refine XQ.ret (by kernel_rfl) ?_
                            have h := Option.some.inj h
                            subst h
                            exact ⟨fun i q => (by cases q), .int .i64 0, (by kernel_rfl), rfl⟩
            | false =>
              have h := cF b6 h
              refine XR.run E0_ok 1 5 [6] rfl (σ' := [(6, .bool false)]) (h' := []) (c' := 0) (by kernel_rfl) ?_
              refine XR.done (by kernel_rfl) ?_
              show XQ _ _ _ _ _ _ _ _
              refine XQ.ret (by kernel_rfl) ?_
              refine ⟨fun i q => (by cases q), .bool false, (by kernel_rfl), ?_⟩
              refine XR.conv (σ' := [(0, .string a), (1, .int .i64 b), (2, .int .i64 c), (3, .int .i64 d), (36, .bool false)]) (h' := []) (c' := 0) ?_ (by kernel_rfl)
              refine XR.run E0_ok 1 2 [0, 1, 2, 3, 33] rfl (σ' := [(0, .string a), (1, .int .i64 b), (2, .int .i64 c), (3, .int .i64 d), (33, .bool true)]) (h' := []) (c' := 0) (by kernel_rfl) ?_
              refine XR.done (by kernel_rfl) ?_
              show XQ _ _ _ _ _ _ _ _
              refine XQ.cond (s := (.tmp 33)) (b := true) (by kernel_rfl) (by kernel_rfl) (fun _ => ?_) (fun q => by cases q)
              refine XQ.seq E0_ok (by kernel_rfl) ?_
              refine XQ.region (by kernel_rfl) ?_
              refine XR.run E0_ok 1 1 [8] rfl (σ' := [(8, .int .i64 1)]) (h' := []) (c' := 0) (by kernel_rfl) ?_
              refine XR.done (by kernel_rfl) ?_
              show XQ _ _ _ _ _ _ _ _
              refine XQ.ret (by kernel_rfl) ?_
              have h := Option.some.inj h
              subst h
              exact ⟨fun i q => (by cases q), .int .i64 1, (by kernel_rfl), rfl⟩
        | false =>
          have h := cF b4 h
          refine XR.run E0_ok 1 5 [6] rfl (σ' := [(6, .bool false)]) (h' := []) (c' := 0) (by kernel_rfl) ?_
          refine XR.done (by kernel_rfl) ?_
          show XQ _ _ _ _ _ _ _ _
          refine XQ.ret (by kernel_rfl) ?_
          refine ⟨fun i q => (by cases q), .bool false, (by kernel_rfl), ?_⟩
          refine XR.conv (σ' := [(0, .string a), (1, .int .i64 b), (2, .int .i64 c), (3, .int .i64 d), (10, .int .i64 ((a.size : Nat) : Int)), (26, .bool false), (30, .bool false)]) (h' := []) (c' := 0) ?_ (by kernel_rfl)
          refine XR.run E0_ok 1 3 [0, 1, 2, 3, 10, 20] rfl (σ' := [(0, .string a), (1, .int .i64 b), (2, .int .i64 c), (3, .int .i64 d), (10, .int .i64 ((a.size : Nat) : Int)), (20, .bool true)]) (h' := []) (c' := 0) (by kernel_rfl) ?_
          refine XR.done (by kernel_rfl) ?_
          show XQ _ _ _ _ _ _ _ _
          refine XQ.cond (s := (.tmp 20)) (b := true) (by kernel_rfl) (by kernel_rfl) (fun _ => ?_) (fun q => by cases q)
          refine XQ.seq E0_ok (by kernel_rfl) ?_
          refine XQ.region (by kernel_rfl) ?_
          refine XR.run E0_ok 1 1 [8] rfl (σ' := [(8, .int .i64 2)]) (h' := []) (c' := 0) (by kernel_rfl) ?_
          refine XR.done (by kernel_rfl) ?_
          show XQ _ _ _ _ _ _ _ _
          refine XQ.ret (by kernel_rfl) ?_
          have h := Option.some.inj h
          subst h
          exact ⟨fun i q => (by cases q), .int .i64 2, (by kernel_rfl), rfl⟩
    | false =>
      have h := cF b2 h
      refine XR.run E0_ok 1 5 [6] rfl (σ' := [(6, .bool false)]) (h' := []) (c' := 0) (by kernel_rfl) ?_
      refine XR.done (by kernel_rfl) ?_
      show XQ _ _ _ _ _ _ _ _
      refine XQ.ret (by kernel_rfl) ?_
      refine ⟨fun i q => (by cases q), .bool false, (by kernel_rfl), ?_⟩
      refine XR.conv (σ' := [(0, .string a), (1, .int .i64 b), (2, .int .i64 c), (3, .int .i64 d), (10, .int .i64 ((a.size : Nat) : Int)), (24, .bool false)]) (h' := []) (c' := 0) ?_ (by kernel_rfl)
      refine XR.run E0_ok 1 9 [0, 1, 2, 3, 10, 20] rfl (σ' := [(0, .string a), (1, .int .i64 b), (2, .int .i64 c), (3, .int .i64 d), (10, .int .i64 ((a.size : Nat) : Int)), (20, .bool true)]) (h' := []) (c' := 0) (by kernel_rfl) ?_
      refine XR.done (by kernel_rfl) ?_
      show XQ _ _ _ _ _ _ _ _
      refine XQ.cond (s := (.tmp 20)) (b := true) (by kernel_rfl) (by kernel_rfl) (fun _ => ?_) (fun q => by cases q)
      refine XQ.seq E0_ok (by kernel_rfl) ?_
      refine XQ.region (by kernel_rfl) ?_
      refine XR.run E0_ok 1 1 [8] rfl (σ' := [(8, .int .i64 2)]) (h' := []) (c' := 0) (by kernel_rfl) ?_
      refine XR.done (by kernel_rfl) ?_
      show XQ _ _ _ _ _ _ _ _
      refine XQ.ret (by kernel_rfl) ?_
      have h := Option.some.inj h
      subst h
      exact ⟨fun i q => (by cases q), .int .i64 2, (by kernel_rfl), rfl⟩

/-! vitola/vitolaref08.Proves -/
noncomputable def f18_C18 : Code := Proofs.Try.f18.body.getD .skip
noncomputable def f18_C50 : Code := Proofs.Try.f50.body.getD .skip

def f18 (m : Nat) (a : ByteArray) (b : Int) (c : Int) (d : Int) : Option (Int) :=
  (f20 m a).bind fun r1 =>
    cond (r1 == 0) (
      cond (decide (b ≥ 0)) (
        cond (!(decide (b ≤ (w64 (((a.size : Nat) : Int) - 1))))) (
          some (2)
        ) (
          cond (decide (c ≥ 0)) (
            cond ((cond (!(decide (c ≤ (w64 (((a.size : Nat) : Int) - 1))))) 2 r1 : Int) == 0) (
              cond (decide (d ≥ 1)) (
                cond ((cond (!(decide (d ≤ ((a.size : Nat) : Int)))) 1 (cond (!(decide (c ≤ (w64 (((a.size : Nat) : Int) - 1))))) 2 r1) : Int) == 0) (
                  (f51 m a b d).bind fun r2 =>
                    (f51 m a c d).bind fun r3 =>
                      some (cond (decide (r2 < (w64 (r3 + 2)))) 14 (cond (!(decide (d ≤ ((a.size : Nat) : Int)))) 1 (cond (!(decide (c ≤ (w64 (((a.size : Nat) : Int) - 1))))) 2 r1)))
                ) (
                  some (cond (!(decide (d ≤ ((a.size : Nat) : Int)))) 1 (cond (!(decide (c ≤ (w64 (((a.size : Nat) : Int) - 1))))) 2 r1))
                )
              ) (
                some (1)
              )
            ) (
              some (cond (!(decide (c ≤ (w64 (((a.size : Nat) : Int) - 1))))) 2 r1)
            )
          ) (
            some (2)
          )
        )
      ) (
        some (2)
      )
    ) (
      some (r1)
    )

theorem f18_ok (m : Nat) (a : ByteArray) (b : Int) (c : Int) (d : Int) (o : Int) (h : f18 m a b c d = some o) (w : World) (hI : maxInv w) : Calls Proofs.Try.prog 18 #[.string a, .int .i64 b, .int .i64 c, .int .i64 d] w fun e w' => e = .returned (.int .i64 o) ∧ Below w.heap.size w w' := by
  refine KC.calls (E := E0) (args := [.string a, .int .i64 b, .int .i64 c, .int .i64 d]) (v := .int .i64 o) rfl rfl (KC.bodyN E0_ok (F := Proofs.Try.f18) (by kernel_rfl) (code := f18_C18) (by kernel_rfl) (nt := 54) (by kernel_rfl) (rs := [.tmp 8]) (by kernel_rfl) (by kernel_rfl) (σ := [(0, .string a), (1, .int .i64 b), (2, .int .i64 c), (3, .int .i64 d)]) (by kernel_rfl) ?_) w (maxInv_size hI) hI
  unfold f18 at h
  refine XQ.seq E0_ok (by kernel_rfl) ?_
  refine XQ.region (by kernel_rfl) ?_
  refine XR.run E0_ok 1 1 [0, 1, 2, 3] rfl (σ' := [(0, .string a), (1, .int .i64 b), (2, .int .i64 c), (3, .int .i64 d)]) (h' := []) (c' := 0) (by kernel_rfl) ?_
  refine XR.done (by kernel_rfl) ?_
  show XQ _ _ _ _ _ _ _ _
  refine XQ.seq E0_ok (by kernel_rfl) ?_
  refine XQ.region (by kernel_rfl) ?_
  refine XR.run E0_ok 1 1 [0, 1, 2, 3, 11] rfl (σ' := [(0, .string a), (1, .int .i64 b), (2, .int .i64 c), (3, .int .i64 d), (11, .string a)]) (h' := []) (c' := 0) (by kernel_rfl) ?_
  obtain ⟨r1, r1_h, h⟩ := bS h
  refine XR.call E0_ok [0, 1, 2, 3, 12] rfl (K := 20) (args := [.string a]) (d := (some (path 12 12))) (by kernel_rfl) (KC.of_calls E0_ok (F := Proofs.Try.f20) (v := .int .i64 r1) (by kernel_rfl) rfl rfl (fun w hI => f20_ok m a r1 r1_h w hI)) ?_
  rintro _ _ _ ⟨rfl, rfl, rfl⟩
  refine XR.conv (σ' := [(0, .string a), (1, .int .i64 b), (2, .int .i64 c), (3, .int .i64 d), (12, .int .i64 r1)]) (h' := []) (c' := 0) ?_ (by kernel_rfl)
  refine XR.run E0_ok 1 1 [0, 1, 2, 3, 9] rfl (σ' := [(0, .string a), (1, .int .i64 b), (2, .int .i64 c), (3, .int .i64 d), (9, .int .i64 r1)]) (h' := []) (c' := 0) (by kernel_rfl) ?_
  refine XR.done (by kernel_rfl) ?_
  show XQ _ _ _ _ _ _ _ _
  refine XQ.seq E0_ok (by kernel_rfl) ?_
  refine XQ.region (by kernel_rfl) ?_
  refine XR.run E0_ok 1 3 [0, 1, 2, 3, 9, 10] rfl (σ' := [(0, .string a), (1, .int .i64 b), (2, .int .i64 c), (3, .int .i64 d), (9, .int .i64 r1), (10, .int .i64 ((a.size : Nat) : Int))]) (h' := []) (c' := 0) (by kernel_rfl) ?_
  refine XR.done (by kernel_rfl) ?_
  show XQ _ _ _ _ _ _ _ _
  refine XQ.seq E0_ok (by kernel_rfl) ?_
  refine XQ.seq E0_ok (by kernel_rfl) ?_
  refine XQ.region (by kernel_rfl) ?_
  refine XR.run E0_ok 1 3 [0, 1, 2, 3, 9, 10, 17] rfl (σ' := [(0, .string a), (1, .int .i64 b), (2, .int .i64 c), (3, .int .i64 d), (9, .int .i64 r1), (10, .int .i64 ((a.size : Nat) : Int)), (17, .bool (r1 == 0))]) (h' := []) (c' := 0) (by kernel_rfl) ?_
  cases b1 : (r1 == 0 : Bool) with
  | true =>
    have h := cT b1 h
    refine XR.run E0_ok 1 3 [0, 1, 2, 3, 9, 10, 17, 18, 20] rfl (σ' := [(0, .string a), (1, .int .i64 b), (2, .int .i64 c), (3, .int .i64 d), (9, .int .i64 r1), (10, .int .i64 ((a.size : Nat) : Int)), (17, .bool true), (18, .int .i64 b), (20, .int .i64 (w64 (((a.size : Nat) : Int) - 1)))]) (h' := []) (c' := 0) (by kernel_rfl) ?_
    refine XR.callK E0_ok [0, 1, 2, 3, 9, 10, 17, 21] rfl (K := 50) (args := [.int .i64 b, .int .i64 0, .int .i64 (w64 (((a.size : Nat) : Int) - 1))]) (d := (some (path 12 21))) (by kernel_rfl) ?_
    refine KC.bodyN E0_ok (F := Proofs.Try.f50) (by kernel_rfl) (code := f18_C50) (by kernel_rfl) (nt := 15) (by kernel_rfl) (rs := [.tmp 6]) (by kernel_rfl) (by kernel_rfl) (σ := [(0, .int .i64 b), (1, .int .i64 0), (2, .int .i64 (w64 (((a.size : Nat) : Int) - 1)))]) (by kernel_rfl) ?_
    refine XQ.seq E0_ok (by kernel_rfl) ?_
    refine XQ.region (by kernel_rfl) ?_
    refine XR.run E0_ok 1 1 [0, 1, 2] rfl (σ' := [(0, .int .i64 b), (1, .int .i64 0), (2, .int .i64 (w64 (((a.size : Nat) : Int) - 1)))]) (h' := []) (c' := 0) (by kernel_rfl) ?_
    refine XR.done (by kernel_rfl) ?_
    show XQ _ _ _ _ _ _ _ _
    refine XQ.seq E0_ok (by kernel_rfl) ?_
    refine XQ.region (by kernel_rfl) ?_
    refine XR.run E0_ok 1 4 [0, 2, 10] rfl (σ' := [(0, .int .i64 b), (2, .int .i64 (w64 (((a.size : Nat) : Int) - 1))), (10, .bool (decide (b ≥ 0)))]) (h' := []) (c' := 0) (by kernel_rfl) ?_
    cases b2 : (decide (b ≥ 0) : Bool) with
    | true =>
      have h := cT b2 h
      refine XR.run E0_ok 1 5 [6] rfl (σ' := [(6, .bool (decide (b ≤ (w64 (((a.size : Nat) : Int) - 1)))))]) (h' := []) (c' := 0) (by kernel_rfl) ?_
      refine XR.done (by kernel_rfl) ?_
      show XQ _ _ _ _ _ _ _ _
      refine XQ.ret (by kernel_rfl) ?_
      refine ⟨fun i q => (by cases q), .bool (decide (b ≤ (w64 (((a.size : Nat) : Int) - 1)))), (by kernel_rfl), ?_⟩
      refine XR.conv (σ' := [(0, .string a), (1, .int .i64 b), (2, .int .i64 c), (3, .int .i64 d), (9, .int .i64 r1), (10, .int .i64 ((a.size : Nat) : Int)), (17, .bool true), (21, .bool (decide (b ≤ (w64 (((a.size : Nat) : Int) - 1)))))]) (h' := []) (c' := 0) ?_ (by kernel_rfl)
      refine XR.run E0_ok 1 2 [0, 1, 2, 3, 9, 10, 17, 23] rfl (σ' := [(0, .string a), (1, .int .i64 b), (2, .int .i64 c), (3, .int .i64 d), (9, .int .i64 r1), (10, .int .i64 ((a.size : Nat) : Int)), (17, .bool true), (23, .bool (!(decide (b ≤ (w64 (((a.size : Nat) : Int) - 1))))))]) (h' := []) (c' := 0) (by kernel_rfl) ?_
      cases b3 : (!(decide (b ≤ (w64 (((a.size : Nat) : Int) - 1)))) : Bool) with
      | true =>
        have h := cT b3 h
        refine XR.run E0_ok 1 7 [0, 1, 2, 3, 9, 10, 30] rfl (σ' := [(0, .string a), (1, .int .i64 b), (2, .int .i64 c), (3, .int .i64 d), (9, .int .i64 r1), (10, .int .i64 ((a.size : Nat) : Int)), (30, .bool true)]) (h' := []) (c' := 0) (by kernel_rfl) ?_
        refine XR.done (by kernel_rfl) ?_
        show XQ _ _ _ _ _ _ _ _
        refine XQ.cond (s := (.tmp 30)) (b := true) (by kernel_rfl) (by kernel_rfl) (fun _ => ?_) (fun q => by cases q)
        refine XQ.region (by kernel_rfl) ?_
        refine XR.run E0_ok 1 1 [0, 1, 2, 3, 9, 10] rfl (σ' := [(0, .string a), (1, .int .i64 b), (2, .int .i64 c), (3, .int .i64 d), (9, .int .i64 2), (10, .int .i64 ((a.size : Nat) : Int))]) (h' := []) (c' := 0) (by kernel_rfl) ?_
        refine XR.done (by kernel_rfl) ?_
        show XQ _ _ _ _ _ _ _ _
        refine XQ.seq E0_ok (by kernel_rfl) ?_
        refine XQ.seq E0_ok (by kernel_rfl) ?_
        refine XQ.region (by kernel_rfl) ?_
        refine XR.run E0_ok 1 8 [0, 1, 2, 3, 9, 38] rfl (σ' := [(0, .string a), (1, .int .i64 b), (2, .int .i64 c), (3, .int .i64 d), (9, .int .i64 2), (38, .bool false)]) (h' := []) (c' := 0) (by kernel_rfl) ?_
        refine XR.done (by kernel_rfl) ?_
        show XQ _ _ _ _ _ _ _ _
        refine XQ.cond (s := (.tmp 38)) (b := false) (by kernel_rfl) (by kernel_rfl) (fun q => by cases q) (fun _ => ?_)
        refine XQ.skip (by kernel_rfl) ?_
        show XQ _ _ _ _ _ _ _ _
        refine XQ.seq E0_ok (by kernel_rfl) ?_
        refine XQ.seq E0_ok (by kernel_rfl) ?_
        refine XQ.region (by kernel_rfl) ?_
        refine XR.run E0_ok 1 14 [9, 52] rfl (σ' := [(9, .int .i64 2), (52, .bool false)]) (h' := []) (c' := 0) (by kernel_rfl) ?_
        refine XR.done (by kernel_rfl) ?_
        show XQ _ _ _ _ _ _ _ _
        refine XQ.cond (s := (.tmp 52)) (b := false) (by kernel_rfl) (by kernel_rfl) (fun q => by cases q) (fun _ => ?_)
        refine XQ.skip (by kernel_rfl) ?_
        show XQ _ _ _ _ _ _ _ _
        refine XQ.seq E0_ok (by kernel_rfl) ?_
        refine XQ.region (by kernel_rfl) ?_
        refine XR.run E0_ok 1 2 [8] rfl (σ' := [(8, .int .i64 2)]) (h' := []) (c' := 0) (by kernel_rfl) ?_
        refine XR.done (by kernel_rfl) ?_
        show XQ _ _ _ _ _ _ _ _
        refine XQ.ret (by kernel_rfl) ?_
        have h := Option.some.inj h
        subst h
        exact ⟨fun i q => (by cases q), .int .i64 2, (by kernel_rfl), rfl⟩
      | false =>
        have h := cF b3 h
        refine XR.run E0_ok 1 3 [0, 1, 2, 3, 9, 10, 17, 23, 24, 26] rfl (σ' := [(0, .string a), (1, .int .i64 b), (2, .int .i64 c), (3, .int .i64 d), (9, .int .i64 r1), (10, .int .i64 ((a.size : Nat) : Int)), (17, .bool true), (23, .bool false), (24, .int .i64 c), (26, .int .i64 (w64 (((a.size : Nat) : Int) - 1)))]) (h' := []) (c' := 0) (by kernel_rfl) ?_
        refine XR.callK E0_ok [0, 1, 2, 3, 9, 10, 17, 23, 27] rfl (K := 50) (args := [.int .i64 c, .int .i64 0, .int .i64 (w64 (((a.size : Nat) : Int) - 1))]) (d := (some (path 12 27))) (by kernel_rfl) ?_
        refine KC.bodyN E0_ok (F := Proofs.Try.f50) (by kernel_rfl) (code := f18_C50) (by kernel_rfl) (nt := 15) (by kernel_rfl) (rs := [.tmp 6]) (by kernel_rfl) (by kernel_rfl) (σ := [(0, .int .i64 c), (1, .int .i64 0), (2, .int .i64 (w64 (((a.size : Nat) : Int) - 1)))]) (by kernel_rfl) ?_
        refine XQ.seq E0_ok (by kernel_rfl) ?_
        refine XQ.region (by kernel_rfl) ?_
        refine XR.run E0_ok 1 1 [0, 1, 2] rfl (σ' := [(0, .int .i64 c), (1, .int .i64 0), (2, .int .i64 (w64 (((a.size : Nat) : Int) - 1)))]) (h' := []) (c' := 0) (by kernel_rfl) ?_
        refine XR.done (by kernel_rfl) ?_
        show XQ _ _ _ _ _ _ _ _
        refine XQ.seq E0_ok (by kernel_rfl) ?_
        refine XQ.region (by kernel_rfl) ?_
        refine XR.run E0_ok 1 4 [0, 2, 10] rfl (σ' := [(0, .int .i64 c), (2, .int .i64 (w64 (((a.size : Nat) : Int) - 1))), (10, .bool (decide (c ≥ 0)))]) (h' := []) (c' := 0) (by kernel_rfl) ?_
        cases b4 : (decide (c ≥ 0) : Bool) with
        | true =>
          have h := cT b4 h
          refine XR.run E0_ok 1 5 [6] rfl (σ' := [(6, .bool (decide (c ≤ (w64 (((a.size : Nat) : Int) - 1)))))]) (h' := []) (c' := 0) (by kernel_rfl) ?_
          refine XR.done (by kernel_rfl) ?_
          show XQ _ _ _ _ _ _ _ _
          refine XQ.ret (by kernel_rfl) ?_
          refine ⟨fun i q => (by cases q), .bool (decide (c ≤ (w64 (((a.size : Nat) : Int) - 1)))), (by kernel_rfl), ?_⟩
          refine XR.conv (σ' := [(0, .string a), (1, .int .i64 b), (2, .int .i64 c), (3, .int .i64 d), (9, .int .i64 r1), (10, .int .i64 ((a.size : Nat) : Int)), (17, .bool true), (23, .bool false), (27, .bool (decide (c ≤ (w64 (((a.size : Nat) : Int) - 1)))))]) (h' := []) (c' := 0) ?_ (by kernel_rfl)
          refine XR.run E0_ok 1 3 [0, 1, 2, 3, 9, 10, 30] rfl (σ' := [(0, .string a), (1, .int .i64 b), (2, .int .i64 c), (3, .int .i64 d), (9, .int .i64 r1), (10, .int .i64 ((a.size : Nat) : Int)), (30, .bool (!(decide (c ≤ (w64 (((a.size : Nat) : Int) - 1))))))]) (h' := []) (c' := 0) (by kernel_rfl) ?_
          refine XR.done (by kernel_rfl) ?_
          show XQ _ _ _ _ _ _ _ _
          refine XQ.meetC (σ' := [(0, .string a), (1, .int .i64 b), (2, .int .i64 c), (3, .int .i64 d), (9, .int .i64 (cond (!(decide (c ≤ (w64 (((a.size : Nat) : Int) - 1))))) 2 r1)), (10, .int .i64 ((a.size : Nat) : Int))]) (h' := []) (c' := 0) ?_ ?_
          rotate_left
          · refine XQ.cond (s := (.tmp 30)) (b := !(decide (c ≤ (w64 (((a.size : Nat) : Int) - 1))))) (by kernel_rfl) (by kernel_rfl) (fun b5 => ?_) (fun b5 => ?_)
            · refine XQ.region (by kernel_rfl) ?_
              refine XR.run E0_ok 1 1 [0, 1, 2, 3, 9, 10] rfl (σ' := [(0, .string a), (1, .int .i64 b), (2, .int .i64 c), (3, .int .i64 d), (9, .int .i64 2), (10, .int .i64 ((a.size : Nat) : Int))]) (h' := []) (c' := 0) (by kernel_rfl) ?_
              refine XR.done (by kernel_rfl) ?_
              refine ⟨rfl, ?_, ?_⟩
              · try rw [b5]
                exact ⟨by kernel_rfl, by kernel_rfl, by kernel_rfl, by kernel_rfl, by kernel_rfl, by kernel_rfl, trivial⟩
              · try rw [b5]
                kernel_rfl
            · refine XQ.skip (by kernel_rfl) ?_
              refine ⟨rfl, ?_, ?_⟩
              · try rw [b5]
                exact ⟨by kernel_rfl, by kernel_rfl, by kernel_rfl, by kernel_rfl, by kernel_rfl, by kernel_rfl, trivial⟩
              · try rw [b5]
                kernel_rfl
          show XQ _ _ _ _ _ _ _ _
          refine XQ.seq E0_ok (by kernel_rfl) ?_
          refine XQ.seq E0_ok (by kernel_rfl) ?_
          refine XQ.region (by kernel_rfl) ?_
          refine XR.run E0_ok 1 3 [0, 1, 2, 3, 9, 10, 33] rfl (σ' := [(0, .string a), (1, .int .i64 b), (2, .int .i64 c), (3, .int .i64 d), (9, .int .i64 (cond (!(decide (c ≤ (w64 (((a.size : Nat) : Int) - 1))))) 2 r1)), (10, .int .i64 ((a.size : Nat) : Int)), (33, .bool ((cond (!(decide (c ≤ (w64 (((a.size : Nat) : Int) - 1))))) 2 r1 : Int) == 0))]) (h' := []) (c' := 0) (by kernel_rfl) ?_
          cases b6 : ((cond (!(decide (c ≤ (w64 (((a.size : Nat) : Int) - 1))))) 2 r1 : Int) == 0 : Bool) with
          | true =>
            have h := cT b6 h
            refine XR.run E0_ok 1 2 [0, 1, 2, 3, 9, 33, 34, 35] rfl (σ' := [(0, .string a), (1, .int .i64 b), (2, .int .i64 c), (3, .int .i64 d), (9, .int .i64 (cond (!(decide (c ≤ (w64 (((a.size : Nat) : Int) - 1))))) 2 r1)), (33, .bool true), (34, .int .i64 d), (35, .int .i64 ((a.size : Nat) : Int))]) (h' := []) (c' := 0) (by kernel_rfl) ?_
            refine XR.callK E0_ok [0, 1, 2, 3, 9, 33, 36] rfl (K := 50) (args := [.int .i64 d, .int .i64 1, .int .i64 ((a.size : Nat) : Int)]) (d := (some (path 12 36))) (by kernel_rfl) ?_
            refine KC.bodyN E0_ok (F := Proofs.Try.f50) (by kernel_rfl) (code := f18_C50) (by kernel_rfl) (nt := 15) (by kernel_rfl) (rs := [.tmp 6]) (by kernel_rfl) (by kernel_rfl) (σ := [(0, .int .i64 d), (1, .int .i64 1), (2, .int .i64 ((a.size : Nat) : Int))]) (by kernel_rfl) ?_
            refine XQ.seq E0_ok (by kernel_rfl) ?_
            refine XQ.region (by kernel_rfl) ?_
            refine XR.run E0_ok 1 1 [0, 1, 2] rfl (σ' := [(0, .int .i64 d), (1, .int .i64 1), (2, .int .i64 ((a.size : Nat) : Int))]) (h' := []) (c' := 0) (by kernel_rfl) ?_
            refine XR.done (by kernel_rfl) ?_
            show XQ _ _ _ _ _ _ _ _
            refine XQ.seq E0_ok (by kernel_rfl) ?_
            refine XQ.region (by kernel_rfl) ?_
            refine XR.run E0_ok 1 4 [0, 2, 10] rfl (σ' := [(0, .int .i64 d), (2, .int .i64 ((a.size : Nat) : Int)), (10, .bool (decide (d ≥ 1)))]) (h' := []) (c' := 0) (by kernel_rfl) ?_
            cases b7 : (decide (d ≥ 1) : Bool) with
            | true =>
              have h := cT b7 h
              refine XR.run E0_ok 1 5 [6] rfl (σ' := [(6, .bool (decide (d ≤ ((a.size : Nat) : Int))))]) (h' := []) (c' := 0) (by kernel_rfl) ?_
              refine XR.done (by kernel_rfl) ?_
              show XQ _ _ _ _ _ _ _ _
              refine XQ.ret (by kernel_rfl) ?_
              refine ⟨fun i q => (by cases q), .bool (decide (d ≤ ((a.size : Nat) : Int))), (by kernel_rfl), ?_⟩
              refine XR.conv (σ' := [(0, .string a), (1, .int .i64 b), (2, .int .i64 c), (3, .int .i64 d), (9, .int .i64 (cond (!(decide (c ≤ (w64 (((a.size : Nat) : Int) - 1))))) 2 r1)), (33, .bool true), (36, .bool (decide (d ≤ ((a.size : Nat) : Int))))]) (h' := []) (c' := 0) ?_ (by kernel_rfl)
              refine XR.run E0_ok 1 2 [0, 1, 2, 3, 9, 38] rfl (σ' := [(0, .string a), (1, .int .i64 b), (2, .int .i64 c), (3, .int .i64 d), (9, .int .i64 (cond (!(decide (c ≤ (w64 (((a.size : Nat) : Int) - 1))))) 2 r1)), (38, .bool (!(decide (d ≤ ((a.size : Nat) : Int)))))]) (h' := []) (c' := 0) (by kernel_rfl) ?_
              refine XR.done (by kernel_rfl) ?_
              show XQ _ _ _ _ _ _ _ _
              refine XQ.meetC (σ' := [(0, .string a), (1, .int .i64 b), (2, .int .i64 c), (3, .int .i64 d), (9, .int .i64 (cond (!(decide (d ≤ ((a.size : Nat) : Int)))) 1 (cond (!(decide (c ≤ (w64 (((a.size : Nat) : Int) - 1))))) 2 r1)))]) (h' := []) (c' := 0) ?_ ?_
              rotate_left
              · refine XQ.cond (s := (.tmp 38)) (b := !(decide (d ≤ ((a.size : Nat) : Int)))) (by kernel_rfl) (by kernel_rfl) (fun b8 => ?_) (fun b8 => ?_)
                · refine XQ.region (by kernel_rfl) ?_
                  refine XR.run E0_ok 1 1 [0, 1, 2, 3, 9] rfl (σ' := [(0, .string a), (1, .int .i64 b), (2, .int .i64 c), (3, .int .i64 d), (9, .int .i64 1)]) (h' := []) (c' := 0) (by kernel_rfl) ?_
                  refine XR.done (by kernel_rfl) ?_
                  refine ⟨rfl, ?_, ?_⟩
                  · try rw [b8]
                    exact ⟨by kernel_rfl, by kernel_rfl, by kernel_rfl, by kernel_rfl, by kernel_rfl, trivial⟩
                  · try rw [b8]
                    kernel_rfl
                · refine XQ.skip (by kernel_rfl) ?_
                  refine ⟨rfl, ?_, ?_⟩
                  · try rw [b8]
                    exact ⟨by kernel_rfl, by kernel_rfl, by kernel_rfl, by kernel_rfl, by kernel_rfl, trivial⟩
                  · try rw [b8]
                    kernel_rfl
              show XQ _ _ _ _ _ _ _ _
              refine XQ.seq E0_ok (by kernel_rfl) ?_
              refine XQ.seq E0_ok (by kernel_rfl) ?_
              refine XQ.region (by kernel_rfl) ?_
              refine XR.run E0_ok 1 3 [0, 1, 2, 3, 9, 41] rfl (σ' := [(0, .string a), (1, .int .i64 b), (2, .int .i64 c), (3, .int .i64 d), (9, .int .i64 (cond (!(decide (d ≤ ((a.size : Nat) : Int)))) 1 (cond (!(decide (c ≤ (w64 (((a.size : Nat) : Int) - 1))))) 2 r1))), (41, .bool ((cond (!(decide (d ≤ ((a.size : Nat) : Int)))) 1 (cond (!(decide (c ≤ (w64 (((a.size : Nat) : Int) - 1))))) 2 r1) : Int) == 0))]) (h' := []) (c' := 0) (by kernel_rfl) ?_
              cases b9 : ((cond (!(decide (d ≤ ((a.size : Nat) : Int)))) 1 (cond (!(decide (c ≤ (w64 (((a.size : Nat) : Int) - 1))))) 2 r1) : Int) == 0 : Bool) with
              | true =>
                have h := cT b9 h
                refine XR.run E0_ok 1 3 [0, 2, 3, 9, 41, 42, 43, 44] rfl (σ' := [(0, .string a), (2, .int .i64 c), (3, .int .i64 d), (9, .int .i64 (cond (!(decide (d ≤ ((a.size : Nat) : Int)))) 1 (cond (!(decide (c ≤ (w64 (((a.size : Nat) : Int) - 1))))) 2 r1))), (41, .bool true), (42, .string a), (43, .int .i64 b), (44, .int .i64 d)]) (h' := []) (c' := 0) (by kernel_rfl) ?_
                obtain ⟨r2, r2_h, h⟩ := bS h
                refine XR.call E0_ok [0, 2, 3, 9, 41, 45] rfl (K := 51) (args := [.string a, .int .i64 b, .int .i64 d]) (d := (some (path 12 45))) (by kernel_rfl) (KC.of_calls E0_ok (F := Proofs.Try.f51) (v := .int .i64 r2) (by kernel_rfl) rfl rfl (fun w hI => f51_ok m a b d r2 r2_h w hI)) ?_
                rintro _ _ _ ⟨rfl, rfl, rfl⟩
                refine XR.conv (σ' := [(0, .string a), (2, .int .i64 c), (3, .int .i64 d), (9, .int .i64 (cond (!(decide (d ≤ ((a.size : Nat) : Int)))) 1 (cond (!(decide (c ≤ (w64 (((a.size : Nat) : Int) - 1))))) 2 r1))), (41, .bool true), (45, .int .i64 r2)]) (h' := []) (c' := 0) ?_ (by kernel_rfl)
                refine XR.run E0_ok 1 3 [9, 41, 45, 46, 47, 48] rfl (σ' := [(9, .int .i64 (cond (!(decide (d ≤ ((a.size : Nat) : Int)))) 1 (cond (!(decide (c ≤ (w64 (((a.size : Nat) : Int) - 1))))) 2 r1))), (41, .bool true), (45, .int .i64 r2), (46, .string a), (47, .int .i64 c), (48, .int .i64 d)]) (h' := []) (c' := 0) (by kernel_rfl) ?_
                obtain ⟨r3, r3_h, h⟩ := bS h
                refine XR.call E0_ok [9, 41, 45, 49] rfl (K := 51) (args := [.string a, .int .i64 c, .int .i64 d]) (d := (some (path 12 49))) (by kernel_rfl) (KC.of_calls E0_ok (F := Proofs.Try.f51) (v := .int .i64 r3) (by kernel_rfl) rfl rfl (fun w hI => f51_ok m a c d r3 r3_h w hI)) ?_
                rintro _ _ _ ⟨rfl, rfl, rfl⟩
                refine XR.conv (σ' := [(9, .int .i64 (cond (!(decide (d ≤ ((a.size : Nat) : Int)))) 1 (cond (!(decide (c ≤ (w64 (((a.size : Nat) : Int) - 1))))) 2 r1))), (41, .bool true), (45, .int .i64 r2), (49, .int .i64 r3)]) (h' := []) (c' := 0) ?_ (by kernel_rfl)
                refine XR.run E0_ok 1 3 [9, 52] rfl (σ' := [(9, .int .i64 (cond (!(decide (d ≤ ((a.size : Nat) : Int)))) 1 (cond (!(decide (c ≤ (w64 (((a.size : Nat) : Int) - 1))))) 2 r1))), (52, .bool (decide (r2 < (w64 (r3 + 2)))))]) (h' := []) (c' := 0) (by kernel_rfl) ?_
                refine XR.done (by kernel_rfl) ?_
                show XQ _ _ _ _ _ _ _ _
                refine XQ.meetC (σ' := [(9, .int .i64 (cond (decide (r2 < (w64 (r3 + 2)))) 14 (cond (!(decide (d ≤ ((a.size : Nat) : Int)))) 1 (cond (!(decide (c ≤ (w64 (((a.size : Nat) : Int) - 1))))) 2 r1))))]) (h' := []) (c' := 0) ?_ ?_
                rotate_left
                · refine XQ.cond (s := (.tmp 52)) (b := decide (r2 < (w64 (r3 + 2)))) (by kernel_rfl) (by kernel_rfl) (fun b10 => ?_) (fun b10 => ?_)
                  · refine XQ.region (by kernel_rfl) ?_
                    refine XR.run E0_ok 1 1 [9] rfl (σ' := [(9, .int .i64 14)]) (h' := []) (c' := 0) (by kernel_rfl) ?_
                    refine XR.done (by kernel_rfl) ?_
                    refine ⟨rfl, ?_, ?_⟩
                    · try rw [b10]
                      exact ⟨by kernel_rfl, trivial⟩
                    · try rw [b10]
                      kernel_rfl
                  · refine XQ.skip (by kernel_rfl) ?_
                    refine ⟨rfl, ?_, ?_⟩
                    · try rw [b10]
                      exact ⟨by kernel_rfl, trivial⟩
                    · try rw [b10]
                      kernel_rfl
                show XQ _ _ _ _ _ _ _ _
                refine XQ.seq E0_ok (by kernel_rfl) ?_
                refine XQ.region (by kernel_rfl) ?_
                refine XR.run E0_ok 1 2 [8] rfl (σ' := [(8, .int .i64 (cond (decide (r2 < (w64 (r3 + 2)))) 14 (cond (!(decide (d ≤ ((a.size : Nat) : Int)))) 1 (cond (!(decide (c ≤ (w64 (((a.size : Nat) : Int) - 1))))) 2 r1))))]) (h' := []) (c' := 0) (by kernel_rfl) ?_
                refine XR.done (by kernel_rfl) ?_
                show XQ _ _ _ _ _ _ _ _
                refine XQ.ret (by kernel_rfl) ?_
                have h := Option.some.inj h
                subst h
                exact ⟨fun i q => (by cases q), .int .i64 (cond (decide (r2 < (w64 (r3 + 2)))) 14 (cond (!(decide (d ≤ ((a.size : Nat) : Int)))) 1 (cond (!(decide (c ≤ (w64 (((a.size : Nat) : Int) - 1))))) 2 r1))), (by kernel_rfl), rfl⟩
              | false =>
                have h := cF b9 h
                refine XR.run E0_ok 1 11 [9, 52] rfl (σ' := [(9, .int .i64 (cond (!(decide (d ≤ ((a.size : Nat) : Int)))) 1 (cond (!(decide (c ≤ (w64 (((a.size : Nat) : Int) - 1))))) 2 r1))), (52, .bool false)]) (h' := []) (c' := 0) (by kernel_rfl) ?_
                refine XR.done (by kernel_rfl) ?_
                show XQ _ _ _ _ _ _ _ _
                refine XQ.cond (s := (.tmp 52)) (b := false) (by kernel_rfl) (by kernel_rfl) (fun q => by cases q) (fun _ => ?_)
                refine XQ.skip (by kernel_rfl) ?_
                show XQ _ _ _ _ _ _ _ _
                refine XQ.seq E0_ok (by kernel_rfl) ?_
                refine XQ.region (by kernel_rfl) ?_
                refine XR.run E0_ok 1 2 [8] rfl (σ' := [(8, .int .i64 (cond (!(decide (d ≤ ((a.size : Nat) : Int)))) 1 (cond (!(decide (c ≤ (w64 (((a.size : Nat) : Int) - 1))))) 2 r1)))]) (h' := []) (c' := 0) (by kernel_rfl) ?_
                refine XR.done (by kernel_rfl) ?_
                show XQ _ _ _ _ _ _ _ _
                refine XQ.ret (by kernel_rfl) ?_
                have h := Option.some.inj h
                subst h
                exact ⟨fun i q => (by cases q), .int .i64 (cond (!(decide (d ≤ ((a.size : Nat) : Int)))) 1 (cond (!(decide (c ≤ (w64 (((a.size : Nat) : Int) - 1))))) 2 r1)), (by kernel_rfl), rfl⟩
            | false =>
              have h := cF b7 h
              refine XR.run E0_ok 1 5 [6] rfl (σ' := [(6, .bool false)]) (h' := []) (c' := 0) (by kernel_rfl) ?_
              refine XR.done (by kernel_rfl) ?_
              show XQ _ _ _ _ _ _ _ _
              refine XQ.ret (by kernel_rfl) ?_
              refine ⟨fun i q => (by cases q), .bool false, (by kernel_rfl), ?_⟩
              refine XR.conv (σ' := [(0, .string a), (1, .int .i64 b), (2, .int .i64 c), (3, .int .i64 d), (9, .int .i64 (cond (!(decide (c ≤ (w64 (((a.size : Nat) : Int) - 1))))) 2 r1)), (33, .bool true), (36, .bool false)]) (h' := []) (c' := 0) ?_ (by kernel_rfl)
              refine XR.run E0_ok 1 2 [0, 1, 2, 3, 9, 38] rfl (σ' := [(0, .string a), (1, .int .i64 b), (2, .int .i64 c), (3, .int .i64 d), (9, .int .i64 (cond (!(decide (c ≤ (w64 (((a.size : Nat) : Int) - 1))))) 2 r1)), (38, .bool true)]) (h' := []) (c' := 0) (by kernel_rfl) ?_
              refine XR.done (by kernel_rfl) ?_
              show XQ _ _ _ _ _ _ _ _
              refine XQ.cond (s := (.tmp 38)) (b := true) (by kernel_rfl) (by kernel_rfl) (fun _ => ?_) (fun q => by cases q)
              refine XQ.region (by kernel_rfl) ?_
              refine XR.run E0_ok 1 1 [0, 1, 2, 3, 9] rfl (σ' := [(0, .string a), (1, .int .i64 b), (2, .int .i64 c), (3, .int .i64 d), (9, .int .i64 1)]) (h' := []) (c' := 0) (by kernel_rfl) ?_
              refine XR.done (by kernel_rfl) ?_
              show XQ _ _ _ _ _ _ _ _
              refine XQ.seq E0_ok (by kernel_rfl) ?_
              refine XQ.seq E0_ok (by kernel_rfl) ?_
              refine XQ.region (by kernel_rfl) ?_
              refine XR.run E0_ok 1 14 [9, 52] rfl (σ' := [(9, .int .i64 1), (52, .bool false)]) (h' := []) (c' := 0) (by kernel_rfl) ?_
              refine XR.done (by kernel_rfl) ?_
              show XQ _ _ _ _ _ _ _ _
              refine XQ.cond (s := (.tmp 52)) (b := false) (by kernel_rfl) (by kernel_rfl) (fun q => by cases q) (fun _ => ?_)
              refine XQ.skip (by kernel_rfl) ?_
              show XQ _ _ _ _ _ _ _ _
              refine XQ.seq E0_ok (by kernel_rfl) ?_
              refine XQ.region (by kernel_rfl) ?_
              refine XR.run E0_ok 1 2 [8] rfl (σ' := [(8, .int .i64 1)]) (h' := []) (c' := 0) (by kernel_rfl) ?_
              refine XR.done (by kernel_rfl) ?_
              show XQ _ _ _ _ _ _ _ _
              refine XQ.ret (by kernel_rfl) ?_
              have h := Option.some.inj h
              subst h
              exact ⟨fun i q => (by cases q), .int .i64 1, (by kernel_rfl), rfl⟩
          | false =>
            have h := cF b6 h
            refine XR.run E0_ok 1 5 [0, 1, 2, 3, 9, 38] rfl (σ' := [(0, .string a), (1, .int .i64 b), (2, .int .i64 c), (3, .int .i64 d), (9, .int .i64 (cond (!(decide (c ≤ (w64 (((a.size : Nat) : Int) - 1))))) 2 r1)), (38, .bool false)]) (h' := []) (c' := 0) (by kernel_rfl) ?_
            refine XR.done (by kernel_rfl) ?_
            show XQ _ _ _ _ _ _ _ _
            refine XQ.cond (s := (.tmp 38)) (b := false) (by kernel_rfl) (by kernel_rfl) (fun q => by cases q) (fun _ => ?_)
            refine XQ.skip (by kernel_rfl) ?_
            show XQ _ _ _ _ _ _ _ _
            refine XQ.seq E0_ok (by kernel_rfl) ?_
            refine XQ.seq E0_ok (by kernel_rfl) ?_
            refine XQ.region (by kernel_rfl) ?_
            refine XR.run E0_ok 1 3 [0, 1, 2, 3, 9, 41] rfl (σ' := [(0, .string a), (1, .int .i64 b), (2, .int .i64 c), (3, .int .i64 d), (9, .int .i64 (cond (!(decide (c ≤ (w64 (((a.size : Nat) : Int) - 1))))) 2 r1)), (41, .bool ((cond (!(decide (c ≤ (w64 (((a.size : Nat) : Int) - 1))))) 2 r1 : Int) == 0))]) (h' := []) (c' := 0) (by kernel_rfl) ?_
            rw [b6]
            refine XR.run E0_ok 1 11 [9, 52] rfl (σ' := [(9, .int .i64 (cond (!(decide (c ≤ (w64 (((a.size : Nat) : Int) - 1))))) 2 r1)), (52, .bool false)]) (h' := []) (c' := 0) (by kernel_rfl) ?_
            refine XR.done (by kernel_rfl) ?_
            show XQ _ _ _ _ _ _ _ _
            refine XQ.cond (s := (.tmp 52)) (b := false) (by kernel_rfl) (by kernel_rfl) (fun q => by cases q) (fun _ => ?_)
            refine XQ.skip (by kernel_rfl) ?_
            show XQ _ _ _ _ _ _ _ _
            refine XQ.seq E0_ok (by kernel_rfl) ?_
            refine XQ.region (by kernel_rfl) ?_
            refine XR.run E0_ok 1 2 [8] rfl (σ' := [(8, .int .i64 (cond (!(decide (c ≤ (w64 (((a.size : Nat) : Int) - 1))))) 2 r1))]) (h' := []) (c' := 0) (by kernel_rfl) ?_
            refine XR.done (by kernel_rfl) ?_
            show XQ _ _ _ _ _ _ _ _
            refine XQ.ret (by kernel_rfl) ?_
            have h := Option.some.inj h
            subst h
            exact ⟨fun i q => (by cases q), .int .i64 (cond (!(decide (c ≤ (w64 (((a.size : Nat) : Int) - 1))))) 2 r1), (by kernel_rfl), rfl⟩
        | false =>
          have h := cF b4 h
          refine XR.run E0_ok 1 5 [6] rfl (σ' := [(6, .bool false)]) (h' := []) (c' := 0) (by kernel_rfl) ?_
          refine XR.done (by kernel_rfl) ?_
          show XQ _ _ _ _ _ _ _ _
          refine XQ.ret (by kernel_rfl) ?_
          refine ⟨fun i q => (by cases q), .bool false, (by kernel_rfl), ?_⟩
          refine XR.conv (σ' := [(0, .string a), (1, .int .i64 b), (2, .int .i64 c), (3, .int .i64 d), (9, .int .i64 r1), (10, .int .i64 ((a.size : Nat) : Int)), (17, .bool true), (23, .bool false), (27, .bool false)]) (h' := []) (c' := 0) ?_ (by kernel_rfl)
          refine XR.run E0_ok 1 3 [0, 1, 2, 3, 9, 10, 30] rfl (σ' := [(0, .string a), (1, .int .i64 b), (2, .int .i64 c), (3, .int .i64 d), (9, .int .i64 r1), (10, .int .i64 ((a.size : Nat) : Int)), (30, .bool true)]) (h' := []) (c' := 0) (by kernel_rfl) ?_
          refine XR.done (by kernel_rfl) ?_
          show XQ _ _ _ _ _ _ _ _
          refine XQ.cond (s := (.tmp 30)) (b := true) (by kernel_rfl) (by kernel_rfl) (fun _ => ?_) (fun q => by cases q)
          refine XQ.region (by kernel_rfl) ?_
          refine XR.run E0_ok 1 1 [0, 1, 2, 3, 9, 10] rfl (σ' := [(0, .string a), (1, .int .i64 b), (2, .int .i64 c), (3, .int .i64 d), (9, .int .i64 2), (10, .int .i64 ((a.size : Nat) : Int))]) (h' := []) (c' := 0) (by kernel_rfl) ?_
          refine XR.done (by kernel_rfl) ?_
          show XQ _ _ _ _ _ _ _ _
          refine XQ.seq E0_ok (by kernel_rfl) ?_
          refine XQ.seq E0_ok (by kernel_rfl) ?_
          refine XQ.region (by kernel_rfl) ?_
          refine XR.run E0_ok 1 8 [0, 1, 2, 3, 9, 38] rfl (σ' := [(0, .string a), (1, .int .i64 b), (2, .int .i64 c), (3, .int .i64 d), (9, .int .i64 2), (38, .bool false)]) (h' := []) (c' := 0) (by kernel_rfl) ?_
          refine XR.done (by kernel_rfl) ?_
          show XQ _ _ _ _ _ _ _ _
          refine XQ.cond (s := (.tmp 38)) (b := false) (by kernel_rfl) (by kernel_rfl) (fun q => by cases q) (fun _ => ?_)
          refine XQ.skip (by kernel_rfl) ?_
          show XQ _ _ _ _ _ _ _ _
          refine XQ.seq E0_ok (by kernel_rfl) ?_
          refine XQ.seq E0_ok (by kernel_rfl) ?_
          refine XQ.region (by kernel_rfl) ?_
          refine XR.run E0_ok 1 14 [9, 52] rfl (σ' := [(9, .int .i64 2), (52, .bool false)]) (h' := []) (c' := 0) (by kernel_rfl) ?_
          refine XR.done (by kernel_rfl) ?_
          show XQ _ _ _ _ _ _ _ _
          refine XQ.cond (s := (.tmp 52)) (b := false) (by kernel_rfl) (by kernel_rfl) (fun q => by cases q) (fun _ => ?_)
          refine XQ.skip (by kernel_rfl) ?_
          show XQ _ _ _ _ _ _ _ _
          refine XQ.seq E0_ok (by kernel_rfl) ?_
          refine XQ.region (by kernel_rfl) ?_
          refine XR.run E0_ok 1 2 [8] rfl (σ' := [(8, .int .i64 2)]) (h' := []) (c' := 0) (by kernel_rfl) ?_
          refine XR.done (by kernel_rfl) ?_
          show XQ _ _ _ _ _ _ _ _
          refine XQ.ret (by kernel_rfl) ?_
          have h := Option.some.inj h
          subst h
          exact ⟨fun i q => (by cases q), .int .i64 2, (by kernel_rfl), rfl⟩
    | false =>
      have h := cF b2 h
      refine XR.run E0_ok 1 5 [6] rfl (σ' := [(6, .bool false)]) (h' := []) (c' := 0) (by kernel_rfl) ?_
      refine XR.done (by kernel_rfl) ?_
      show XQ _ _ _ _ _ _ _ _
      refine XQ.ret (by kernel_rfl) ?_
      refine ⟨fun i q => (by cases q), .bool false, (by kernel_rfl), ?_⟩
      refine XR.conv (σ' := [(0, .string a), (1, .int .i64 b), (2, .int .i64 c), (3, .int .i64 d), (9, .int .i64 r1), (10, .int .i64 ((a.size : Nat) : Int)), (17, .bool true), (21, .bool false)]) (h' := []) (c' := 0) ?_ (by kernel_rfl)
      refine XR.run E0_ok 1 9 [0, 1, 2, 3, 9, 10, 30] rfl (σ' := [(0, .string a), (1, .int .i64 b), (2, .int .i64 c), (3, .int .i64 d), (9, .int .i64 r1), (10, .int .i64 ((a.size : Nat) : Int)), (30, .bool true)]) (h' := []) (c' := 0) (by kernel_rfl) ?_
      refine XR.done (by kernel_rfl) ?_
      show XQ _ _ _ _ _ _ _ _
      refine XQ.cond (s := (.tmp 30)) (b := true) (by kernel_rfl) (by kernel_rfl) (fun _ => ?_) (fun q => by cases q)
      refine XQ.region (by kernel_rfl) ?_
      refine XR.run E0_ok 1 1 [0, 1, 2, 3, 9, 10] rfl (σ' := [(0, .string a), (1, .int .i64 b), (2, .int .i64 c), (3, .int .i64 d), (9, .int .i64 2), (10, .int .i64 ((a.size : Nat) : Int))]) (h' := []) (c' := 0) (by kernel_rfl) ?_
      refine XR.done (by kernel_rfl) ?_
      show XQ _ _ _ _ _ _ _ _
      refine XQ.seq E0_ok (by kernel_rfl) ?_
      refine XQ.seq E0_ok (by kernel_rfl) ?_
      refine XQ.region (by kernel_rfl) ?_
      refine XR.run E0_ok 1 8 [0, 1, 2, 3, 9, 38] rfl (σ' := [(0, .string a), (1, .int .i64 b), (2, .int .i64 c), (3, .int .i64 d), (9, .int .i64 2), (38, .bool false)]) (h' := []) (c' := 0) (by kernel_rfl) ?_
      refine XR.done (by kernel_rfl) ?_
      show XQ _ _ _ _ _ _ _ _
      refine XQ.cond (s := (.tmp 38)) (b := false) (by kernel_rfl) (by kernel_rfl) (fun q => by cases q) (fun _ => ?_)
      refine XQ.skip (by kernel_rfl) ?_
      show XQ _ _ _ _ _ _ _ _
      refine XQ.seq E0_ok (by kernel_rfl) ?_
      refine XQ.seq E0_ok (by kernel_rfl) ?_
      refine XQ.region (by kernel_rfl) ?_
      refine XR.run E0_ok 1 14 [9, 52] rfl (σ' := [(9, .int .i64 2), (52, .bool false)]) (h' := []) (c' := 0) (by kernel_rfl) ?_
      refine XR.done (by kernel_rfl) ?_
      show XQ _ _ _ _ _ _ _ _
      refine XQ.cond (s := (.tmp 52)) (b := false) (by kernel_rfl) (by kernel_rfl) (fun q => by cases q) (fun _ => ?_)
      refine XQ.skip (by kernel_rfl) ?_
      show XQ _ _ _ _ _ _ _ _
      refine XQ.seq E0_ok (by kernel_rfl) ?_
      refine XQ.region (by kernel_rfl) ?_
      refine XR.run E0_ok 1 2 [8] rfl (σ' := [(8, .int .i64 2)]) (h' := []) (c' := 0) (by kernel_rfl) ?_
      refine XR.done (by kernel_rfl) ?_
      show XQ _ _ _ _ _ _ _ _
      refine XQ.ret (by kernel_rfl) ?_
      have h := Option.some.inj h
      subst h
      exact ⟨fun i q => (by cases q), .int .i64 2, (by kernel_rfl), rfl⟩
  | false =>
    have h := cF b1 h
    refine XR.run E0_ok 1 13 [0, 1, 2, 3, 9, 10, 30] rfl (σ' := [(0, .string a), (1, .int .i64 b), (2, .int .i64 c), (3, .int .i64 d), (9, .int .i64 r1), (10, .int .i64 ((a.size : Nat) : Int)), (30, .bool false)]) (h' := []) (c' := 0) (by kernel_rfl) ?_
    refine XR.done (by kernel_rfl) ?_
    show XQ _ _ _ _ _ _ _ _
    refine XQ.cond (s := (.tmp 30)) (b := false) (by kernel_rfl) (by kernel_rfl) (fun q => by cases q) (fun _ => ?_)
    refine XQ.skip (by kernel_rfl) ?_
    show XQ _ _ _ _ _ _ _ _
    refine XQ.seq E0_ok (by kernel_rfl) ?_
    refine XQ.seq E0_ok (by kernel_rfl) ?_
    refine XQ.region (by kernel_rfl) ?_
    refine XR.run E0_ok 1 3 [0, 1, 2, 3, 9, 10, 33] rfl (σ' := [(0, .string a), (1, .int .i64 b), (2, .int .i64 c), (3, .int .i64 d), (9, .int .i64 r1), (10, .int .i64 ((a.size : Nat) : Int)), (33, .bool (r1 == 0))]) (h' := []) (c' := 0) (by kernel_rfl) ?_
    rw [b1]
    refine XR.run E0_ok 1 5 [0, 1, 2, 3, 9, 38] rfl (σ' := [(0, .string a), (1, .int .i64 b), (2, .int .i64 c), (3, .int .i64 d), (9, .int .i64 r1), (38, .bool false)]) (h' := []) (c' := 0) (by kernel_rfl) ?_
    refine XR.done (by kernel_rfl) ?_
    show XQ _ _ _ _ _ _ _ _
    refine XQ.cond (s := (.tmp 38)) (b := false) (by kernel_rfl) (by kernel_rfl) (fun q => by cases q) (fun _ => ?_)
    refine XQ.skip (by kernel_rfl) ?_
    show XQ _ _ _ _ _ _ _ _
    refine XQ.seq E0_ok (by kernel_rfl) ?_
    refine XQ.seq E0_ok (by kernel_rfl) ?_
    refine XQ.region (by kernel_rfl) ?_
    refine XR.run E0_ok 1 3 [0, 1, 2, 3, 9, 41] rfl (σ' := [(0, .string a), (1, .int .i64 b), (2, .int .i64 c), (3, .int .i64 d), (9, .int .i64 r1), (41, .bool (r1 == 0))]) (h' := []) (c' := 0) (by kernel_rfl) ?_
    rw [b1]
    refine XR.run E0_ok 1 11 [9, 52] rfl (σ' := [(9, .int .i64 r1), (52, .bool false)]) (h' := []) (c' := 0) (by kernel_rfl) ?_
    refine XR.done (by kernel_rfl) ?_
    show XQ _ _ _ _ _ _ _ _
    refine XQ.cond (s := (.tmp 52)) (b := false) (by kernel_rfl) (by kernel_rfl) (fun q => by cases q) (fun _ => ?_)
    refine XQ.skip (by kernel_rfl) ?_
    show XQ _ _ _ _ _ _ _ _
    refine XQ.seq E0_ok (by kernel_rfl) ?_
    refine XQ.region (by kernel_rfl) ?_
    refine XR.run E0_ok 1 2 [8] rfl (σ' := [(8, .int .i64 r1)]) (h' := []) (c' := 0) (by kernel_rfl) ?_
    refine XR.done (by kernel_rfl) ?_
    show XQ _ _ _ _ _ _ _ _
    refine XQ.ret (by kernel_rfl) ?_
    have h := Option.some.inj h
    subst h
    exact ⟨fun i q => (by cases q), .int .i64 r1, (by kernel_rfl), rfl⟩

end Go.Xm
