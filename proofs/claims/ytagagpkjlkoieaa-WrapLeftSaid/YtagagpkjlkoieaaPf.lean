/- What these functions of the program compute, as functions in Lean, and the proofs that they do: wrap.Nearer. Conditions: none. -/
import Derived.Test.YtagagpkjlkoieaaPa
namespace Go.Xm
open Go.RowKit
set_option linter.unusedVariables false
set_option linter.unusedSimpArgs false
set_option maxRecDepth 20000

/-! vitola/wrap.Nearer -/
noncomputable def f39_C39 : Code := Proofs.Try.f39.body.getD .skip
noncomputable def f39_L1 : Code := lft (lft (rgt (lft (rgt (rgt (rgt (rgt (lft (rgt f39_C39)))))))))

def f39_1 (m : Nat) : Nat → Int → Int → Int → Int → Int → List Int → Option (List Int)
  | 0, _, _, _, _, _, _ => none
  | fuel + 1, a, b, x7_1, x8_1, x9_1, lh0_1 =>
    cond (decide ((iMin (cond (decide ((w64 (x7_1 + b)) ≥ a)) (w64 ((w64 (x7_1 + b)) - a)) (w64 (x7_1 + b))) (w64 (a - (cond (decide ((w64 (x7_1 + b)) ≥ a)) (w64 ((w64 (x7_1 + b)) - a)) (w64 (x7_1 + b))))) : Int) ≥ x8_1)) (
      f39_1 m fuel a b (cond (decide ((w64 (x7_1 + b)) ≥ a)) (w64 ((w64 (x7_1 + b)) - a)) (w64 (x7_1 + b))) x8_1 (w64 (x9_1 + 1)) lh0_1
    ) (
      cond (fitsB (lh0_1.length + 1) 8) (
        cond ((iMin (cond (decide ((w64 (x7_1 + b)) ≥ a)) (w64 ((w64 (x7_1 + b)) - a)) (w64 (x7_1 + b))) (w64 (a - (cond (decide ((w64 (x7_1 + b)) ≥ a)) (w64 ((w64 (x7_1 + b)) - a)) (w64 (x7_1 + b))))) : Int) == 0) (
          some (lh0_1 ++ [x9_1])
        ) (
          f39_1 m fuel a b (cond (decide ((w64 (x7_1 + b)) ≥ a)) (w64 ((w64 (x7_1 + b)) - a)) (w64 (x7_1 + b))) (iMin (cond (decide ((w64 (x7_1 + b)) ≥ a)) (w64 ((w64 (x7_1 + b)) - a)) (w64 (x7_1 + b))) (w64 (a - (cond (decide ((w64 (x7_1 + b)) ≥ a)) (w64 ((w64 (x7_1 + b)) - a)) (w64 (x7_1 + b)))))) (w64 (x9_1 + 1)) (lh0_1 ++ [x9_1])
        )
      ) none
    )

theorem f39_1_ok (m : Nat) : ∀ (fuel : Nat) (a : Int) (b : Int) (x7_1 : Int) (x8_1 : Int) (x9_1 : Int) (lh0_1 : List Int) (o : (List Int)), f39_1 m fuel a b x7_1 x8_1 x9_1 lh0_1 = some o → ∀ Q : QP, Q (.exit 0) [(6, .slice (some ⟨0, 0, none⟩) o.length o.length)] [(0, .cells (rowC (encI .i64) o) 0 3 1)] 1 → XL E0 43 0 fuel f39_L1 [(0, .int .i64 a), (1, .int .i64 b), (6, .slice (some ⟨0, 0, none⟩) lh0_1.length lh0_1.length), (7, .int .i64 x7_1), (8, .int .i64 x8_1), (9, .int .i64 x9_1)] [(0, .cells (rowC (encI .i64) lh0_1) 0 3 1)] 1 Q
  | 0, a, b, x7_1, x8_1, x9_1, lh0_1, o, h, Q, hQ => by cases h
  | fuel + 1, a, b, x7_1, x8_1, x9_1, lh0_1, o, h, Q, hQ => by
    unfold f39_1 at h
    refine XL.succ E0_ok ?_
    refine XQ.seq E0_ok (by kernel_rfl) ?_
    refine XQ.block (id := 1) (by kernel_rfl) ?_
    refine XQ.seq E0_ok (by kernel_rfl) ?_
    refine XQ.region (by kernel_rfl) ?_
    refine XR.run E0_ok 1 4 [0, 1, 6, 7, 8, 9] rfl (σ' := [(0, .int .i64 a), (1, .int .i64 b), (6, .slice (some ⟨0, 0, none⟩) lh0_1.length lh0_1.length), (7, .int .i64 (w64 (x7_1 + b))), (8, .int .i64 x8_1), (9, .int .i64 x9_1)]) (h' := [(0, .cells (rowC (encI .i64) lh0_1) 0 3 1)]) (c' := 1) (by kernel_rfl) ?_
    refine XR.done (by kernel_rfl) ?_
    show XQ _ _ _ _ _ _ _ _
    refine XQ.seq E0_ok (by kernel_rfl) ?_
    refine XQ.seq E0_ok (by kernel_rfl) ?_
    refine XQ.region (by kernel_rfl) ?_
    refine XR.run E0_ok 1 3 [0, 1, 6, 7, 8, 9, 23] rfl (σ' := [(0, .int .i64 a), (1, .int .i64 b), (6, .slice (some ⟨0, 0, none⟩) lh0_1.length lh0_1.length), (7, .int .i64 (w64 (x7_1 + b))), (8, .int .i64 x8_1), (9, .int .i64 x9_1), (23, .bool (decide ((w64 (x7_1 + b)) ≥ a)))]) (h' := [(0, .cells (rowC (encI .i64) lh0_1) 0 3 1)]) (c' := 1) (by kernel_rfl) ?_
    refine XR.done (by kernel_rfl) ?_
    show XQ _ _ _ _ _ _ _ _
    refine XQ.meetC (σ' := [(0, .int .i64 a), (1, .int .i64 b), (6, .slice (some ⟨0, 0, none⟩) lh0_1.length lh0_1.length), (7, .int .i64 (cond (decide ((w64 (x7_1 + b)) ≥ a)) (w64 ((w64 (x7_1 + b)) - a)) (w64 (x7_1 + b)))), (8, .int .i64 x8_1), (9, .int .i64 x9_1)]) (h' := [(0, .cells (rowC (encI .i64) lh0_1) 0 3 1)]) (c' := 1) ?_ ?_
    rotate_left
    · refine XQ.cond (s := (.tmp 23)) (b := decide ((w64 (x7_1 + b)) ≥ a)) (by kernel_rfl) (by kernel_rfl) (fun b1 => ?_) (fun b1 => ?_)
      · refine XQ.region (by kernel_rfl) ?_
        refine XR.run E0_ok 1 4 [0, 1, 6, 7, 8, 9] rfl (σ' := [(0, .int .i64 a), (1, .int .i64 b), (6, .slice (some ⟨0, 0, none⟩) lh0_1.length lh0_1.length), (7, .int .i64 (w64 ((w64 (x7_1 + b)) - a))), (8, .int .i64 x8_1), (9, .int .i64 x9_1)]) (h' := [(0, .cells (rowC (encI .i64) lh0_1) 0 3 1)]) (c' := 1) (by kernel_rfl) ?_
        refine XR.done (by kernel_rfl) ?_
        refine ⟨rfl, ?_, ?_⟩
        · try rw [b1]
          exact ⟨by kernel_rfl, by kernel_rfl, by kernel_rfl, by kernel_rfl, by kernel_rfl, by kernel_rfl, trivial⟩
        · try rw [b1]
          kernel_rfl
      · refine XQ.skip (by kernel_rfl) ?_
        refine ⟨rfl, ?_, ?_⟩
        · try rw [b1]
          exact ⟨by kernel_rfl, by kernel_rfl, by kernel_rfl, by kernel_rfl, by kernel_rfl, by kernel_rfl, trivial⟩
        · try rw [b1]
          kernel_rfl
    show XQ _ _ _ _ _ _ _ _
    refine XQ.seq E0_ok (by kernel_rfl) ?_
    refine XQ.region (by kernel_rfl) ?_
    refine XR.run E0_ok 1 6 [0, 1, 6, 7, 8, 9, 10] rfl (σ' := [(0, .int .i64 a), (1, .int .i64 b), (6, .slice (some ⟨0, 0, none⟩) lh0_1.length lh0_1.length), (7, .int .i64 (cond (decide ((w64 (x7_1 + b)) ≥ a)) (w64 ((w64 (x7_1 + b)) - a)) (w64 (x7_1 + b)))), (8, .int .i64 x8_1), (9, .int .i64 x9_1), (10, .int .i64 (iMin (cond (decide ((w64 (x7_1 + b)) ≥ a)) (w64 ((w64 (x7_1 + b)) - a)) (w64 (x7_1 + b))) (w64 (a - (cond (decide ((w64 (x7_1 + b)) ≥ a)) (w64 ((w64 (x7_1 + b)) - a)) (w64 (x7_1 + b)))))))]) (h' := [(0, .cells (rowC (encI .i64) lh0_1) 0 3 1)]) (c' := 1) (by kernel_rfl) ?_
    refine XR.done (by kernel_rfl) ?_
    show XQ _ _ _ _ _ _ _ _
    refine XQ.seq E0_ok (by kernel_rfl) ?_
    refine XQ.seq E0_ok (by kernel_rfl) ?_
    refine XQ.region (by kernel_rfl) ?_
    refine XR.run E0_ok 1 3 [0, 1, 6, 7, 8, 9, 10, 34] rfl (σ' := [(0, .int .i64 a), (1, .int .i64 b), (6, .slice (some ⟨0, 0, none⟩) lh0_1.length lh0_1.length), (7, .int .i64 (cond (decide ((w64 (x7_1 + b)) ≥ a)) (w64 ((w64 (x7_1 + b)) - a)) (w64 (x7_1 + b)))), (8, .int .i64 x8_1), (9, .int .i64 x9_1), (10, .int .i64 (iMin (cond (decide ((w64 (x7_1 + b)) ≥ a)) (w64 ((w64 (x7_1 + b)) - a)) (w64 (x7_1 + b))) (w64 (a - (cond (decide ((w64 (x7_1 + b)) ≥ a)) (w64 ((w64 (x7_1 + b)) - a)) (w64 (x7_1 + b))))))), (34, .bool (decide ((iMin (cond (decide ((w64 (x7_1 + b)) ≥ a)) (w64 ((w64 (x7_1 + b)) - a)) (w64 (x7_1 + b))) (w64 (a - (cond (decide ((w64 (x7_1 + b)) ≥ a)) (w64 ((w64 (x7_1 + b)) - a)) (w64 (x7_1 + b))))) : Int) ≥ x8_1)))]) (h' := [(0, .cells (rowC (encI .i64) lh0_1) 0 3 1)]) (c' := 1) (by kernel_rfl) ?_
    refine XR.done (by kernel_rfl) ?_
    show XQ _ _ _ _ _ _ _ _
    cases b2 : (decide ((iMin (cond (decide ((w64 (x7_1 + b)) ≥ a)) (w64 ((w64 (x7_1 + b)) - a)) (w64 (x7_1 + b))) (w64 (a - (cond (decide ((w64 (x7_1 + b)) ≥ a)) (w64 ((w64 (x7_1 + b)) - a)) (w64 (x7_1 + b))))) : Int) ≥ x8_1) : Bool) with
    | true =>
      have h := cT b2 h
      refine XQ.cond (s := (.tmp 34)) (b := true) (by kernel_rfl) (by kernel_rfl) (fun _ => ?_) (fun q => by cases q)
      refine XQ.exit (i := 1) (by kernel_rfl) ?_
      show XQ _ _ _ _ _ _ _ _
      refine XQ.region (by kernel_rfl) ?_
      refine XR.run E0_ok 1 3 [0, 1, 6, 7, 8, 9] rfl (σ' := [(0, .int .i64 a), (1, .int .i64 b), (6, .slice (some ⟨0, 0, none⟩) lh0_1.length lh0_1.length), (7, .int .i64 (cond (decide ((w64 (x7_1 + b)) ≥ a)) (w64 ((w64 (x7_1 + b)) - a)) (w64 (x7_1 + b)))), (8, .int .i64 x8_1), (9, .int .i64 (w64 (x9_1 + 1)))]) (h' := [(0, .cells (rowC (encI .i64) lh0_1) 0 3 1)]) (c' := 1) (by kernel_rfl) ?_
      refine XR.done (by kernel_rfl) ?_
      show XL _ _ _ _ _ _ _ _ _
      refine XL.ren (σ' := [(0, .int .i64 a), (1, .int .i64 b), (6, .slice (some ⟨0, 0, none⟩) lh0_1.length lh0_1.length), (7, .int .i64 (cond (decide ((w64 (x7_1 + b)) ≥ a)) (w64 ((w64 (x7_1 + b)) - a)) (w64 (x7_1 + b)))), (8, .int .i64 x8_1), (9, .int .i64 (w64 (x9_1 + 1)))]) (h' := [(0, .cells (rowC (encI .i64) lh0_1) 0 3 1)]) (c' := 1) [0] (by decide) rfl ⟨by kernel_rfl, by kernel_rfl, by kernel_rfl, by kernel_rfl, by kernel_rfl, by kernel_rfl, trivial⟩ ⟨⟨_, _, rfl, rfl, .inl ⟨rfl, rowC_scal (encI_ok .i64) _⟩⟩, trivial⟩ rfl ?_
      refine XL.conv (f39_1_ok m fuel a b (cond (decide ((w64 (x7_1 + b)) ≥ a)) (w64 ((w64 (x7_1 + b)) - a)) (w64 (x7_1 + b))) x8_1 (w64 (x9_1 + 1)) lh0_1 o h Q hQ) (by first | rfl | simp)
    | false =>
      have h := cF b2 h
      refine XQ.cond (s := (.tmp 34)) (b := false) (by kernel_rfl) (by kernel_rfl) (fun q => by cases q) (fun _ => ?_)
      refine XQ.skip (by kernel_rfl) ?_
      show XQ _ _ _ _ _ _ _ _
      refine XQ.seq E0_ok (by kernel_rfl) ?_
      refine XQ.region (by kernel_rfl) ?_
      refine XR.run E0_ok 1 3 [0, 1, 7, 9, 10, 35, 37] rfl (σ' := [(0, .int .i64 a), (1, .int .i64 b), (7, .int .i64 (cond (decide ((w64 (x7_1 + b)) ≥ a)) (w64 ((w64 (x7_1 + b)) - a)) (w64 (x7_1 + b)))), (9, .int .i64 x9_1), (10, .int .i64 (iMin (cond (decide ((w64 (x7_1 + b)) ≥ a)) (w64 ((w64 (x7_1 + b)) - a)) (w64 (x7_1 + b))) (w64 (a - (cond (decide ((w64 (x7_1 + b)) ≥ a)) (w64 ((w64 (x7_1 + b)) - a)) (w64 (x7_1 + b))))))), (35, .slice (some ⟨0, 0, none⟩) lh0_1.length lh0_1.length), (37, .slice (some ⟨1, 0, none⟩) 1 1)]) (h' := [(1, .cells [.int .i64 x9_1] 0 3 1), (0, .cells (rowC (encI .i64) lh0_1) 0 3 1)]) (c' := 2) (by kernel_rfl) ?_
      cases b3 : (fitsB (lh0_1.length + 1) 8 : Bool) with
      | false => cases (cF b3 h)
      | true =>
        have h := cT b3 h
        refine XR.ef E0_ok [0, 1, 7, 9, 10, 38] rfl (e_append (encI_ok .i64) (bytes := 8) (e := 3) (x := (src 43 (.tmp 35))) (y := (src 43 (.tmp 37))) (b := 0) (len := lh0_1.length) (cap := lh0_1.length) (xs := lh0_1) (m := 0) (ys := [x9_1]) (d := (some (path 12 38))) (n' := (lh0_1 ++ [x9_1]).length) (h' := [(2, .cells (rowC (encI .i64) (lh0_1 ++ [x9_1])) 0 3 1), (1, .cells [.int .i64 x9_1] 0 3 1)]) (by kernel_rfl) (by kernel_rfl) (by kernel_rfl) (by kernel_rfl) rfl (by simp) (by simp) b3 (by simp) (by kernel_rfl)) (σ' := [(0, .int .i64 a), (1, .int .i64 b), (7, .int .i64 (cond (decide ((w64 (x7_1 + b)) ≥ a)) (w64 ((w64 (x7_1 + b)) - a)) (w64 (x7_1 + b)))), (9, .int .i64 x9_1), (10, .int .i64 (iMin (cond (decide ((w64 (x7_1 + b)) ≥ a)) (w64 ((w64 (x7_1 + b)) - a)) (w64 (x7_1 + b))) (w64 (a - (cond (decide ((w64 (x7_1 + b)) ≥ a)) (w64 ((w64 (x7_1 + b)) - a)) (w64 (x7_1 + b))))))), (38, .slice (some ⟨2, 0, none⟩) ((lh0_1 ++ [x9_1]).length) ((lh0_1 ++ [x9_1]).length))]) (by kernel_rfl) ?_
        refine XR.run E0_ok 1 1 [0, 1, 6, 7, 9, 10] rfl (σ' := [(0, .int .i64 a), (1, .int .i64 b), (6, .slice (some ⟨2, 0, none⟩) ((lh0_1 ++ [x9_1]).length) ((lh0_1 ++ [x9_1]).length)), (7, .int .i64 (cond (decide ((w64 (x7_1 + b)) ≥ a)) (w64 ((w64 (x7_1 + b)) - a)) (w64 (x7_1 + b)))), (9, .int .i64 x9_1), (10, .int .i64 (iMin (cond (decide ((w64 (x7_1 + b)) ≥ a)) (w64 ((w64 (x7_1 + b)) - a)) (w64 (x7_1 + b))) (w64 (a - (cond (decide ((w64 (x7_1 + b)) ≥ a)) (w64 ((w64 (x7_1 + b)) - a)) (w64 (x7_1 + b)))))))]) (h' := [(2, .cells (rowC (encI .i64) (lh0_1 ++ [x9_1])) 0 3 1), (1, .cells [.int .i64 x9_1] 0 3 1)]) (c' := 3) (by kernel_rfl) ?_
        refine XR.done (by kernel_rfl) ?_
        show XQ _ _ _ _ _ _ _ _
        refine XQ.seq E0_ok (by kernel_rfl) ?_
        refine XQ.region (by kernel_rfl) ?_
        refine XR.run E0_ok 1 2 [0, 1, 6, 7, 8, 9, 10] rfl (σ' := [(0, .int .i64 a), (1, .int .i64 b), (6, .slice (some ⟨2, 0, none⟩) ((lh0_1 ++ [x9_1]).length) ((lh0_1 ++ [x9_1]).length)), (7, .int .i64 (cond (decide ((w64 (x7_1 + b)) ≥ a)) (w64 ((w64 (x7_1 + b)) - a)) (w64 (x7_1 + b)))), (8, .int .i64 (iMin (cond (decide ((w64 (x7_1 + b)) ≥ a)) (w64 ((w64 (x7_1 + b)) - a)) (w64 (x7_1 + b))) (w64 (a - (cond (decide ((w64 (x7_1 + b)) ≥ a)) (w64 ((w64 (x7_1 + b)) - a)) (w64 (x7_1 + b))))))), (9, .int .i64 x9_1), (10, .int .i64 (iMin (cond (decide ((w64 (x7_1 + b)) ≥ a)) (w64 ((w64 (x7_1 + b)) - a)) (w64 (x7_1 + b))) (w64 (a - (cond (decide ((w64 (x7_1 + b)) ≥ a)) (w64 ((w64 (x7_1 + b)) - a)) (w64 (x7_1 + b)))))))]) (h' := [(2, .cells (rowC (encI .i64) (lh0_1 ++ [x9_1])) 0 3 1), (1, .cells [.int .i64 x9_1] 0 3 1)]) (c' := 3) (by kernel_rfl) ?_
        refine XR.done (by kernel_rfl) ?_
        show XQ _ _ _ _ _ _ _ _
        refine XQ.seq E0_ok (by kernel_rfl) ?_
        refine XQ.region (by kernel_rfl) ?_
        refine XR.run E0_ok 1 2 [0, 1, 6, 7, 8, 9, 41] rfl (σ' := [(0, .int .i64 a), (1, .int .i64 b), (6, .slice (some ⟨2, 0, none⟩) ((lh0_1 ++ [x9_1]).length) ((lh0_1 ++ [x9_1]).length)), (7, .int .i64 (cond (decide ((w64 (x7_1 + b)) ≥ a)) (w64 ((w64 (x7_1 + b)) - a)) (w64 (x7_1 + b)))), (8, .int .i64 (iMin (cond (decide ((w64 (x7_1 + b)) ≥ a)) (w64 ((w64 (x7_1 + b)) - a)) (w64 (x7_1 + b))) (w64 (a - (cond (decide ((w64 (x7_1 + b)) ≥ a)) (w64 ((w64 (x7_1 + b)) - a)) (w64 (x7_1 + b))))))), (9, .int .i64 x9_1), (41, .bool ((iMin (cond (decide ((w64 (x7_1 + b)) ≥ a)) (w64 ((w64 (x7_1 + b)) - a)) (w64 (x7_1 + b))) (w64 (a - (cond (decide ((w64 (x7_1 + b)) ≥ a)) (w64 ((w64 (x7_1 + b)) - a)) (w64 (x7_1 + b))))) : Int) == 0))]) (h' := [(2, .cells (rowC (encI .i64) (lh0_1 ++ [x9_1])) 0 3 1), (1, .cells [.int .i64 x9_1] 0 3 1)]) (c' := 3) (by kernel_rfl) ?_
        refine XR.done (by kernel_rfl) ?_
        show XQ _ _ _ _ _ _ _ _
        cases b4 : ((iMin (cond (decide ((w64 (x7_1 + b)) ≥ a)) (w64 ((w64 (x7_1 + b)) - a)) (w64 (x7_1 + b))) (w64 (a - (cond (decide ((w64 (x7_1 + b)) ≥ a)) (w64 ((w64 (x7_1 + b)) - a)) (w64 (x7_1 + b))))) : Int) == 0 : Bool) with
        | true =>
          have h := cT b4 h
          refine XQ.cond (s := (.tmp 41)) (b := true) (by kernel_rfl) (by kernel_rfl) (fun _ => ?_) (fun q => by cases q)
          refine XQ.ren (σ' := [(6, .slice (some ⟨0, 0, none⟩) ((lh0_1 ++ [x9_1]).length) ((lh0_1 ++ [x9_1]).length))]) (h' := [(0, .cells (rowC (encI .i64) (lh0_1 ++ [x9_1])) 0 3 1)]) (c' := 1) [2] (by decide) rfl ⟨by kernel_rfl, trivial⟩ ⟨⟨_, _, rfl, rfl, .inl ⟨rfl, rowC_scal (encI_ok .i64) _⟩⟩, trivial⟩ rfl ?_
          refine XQ.exit (i := 0) (by kernel_rfl) ?_
          cases h
          exact hQ
        | false =>
          have h := cF b4 h
          refine XQ.cond (s := (.tmp 41)) (b := false) (by kernel_rfl) (by kernel_rfl) (fun q => by cases q) (fun _ => ?_)
          refine XQ.skip (by kernel_rfl) ?_
          show XQ _ _ _ _ _ _ _ _
          refine XQ.region (by kernel_rfl) ?_
          refine XR.run E0_ok 1 3 [0, 1, 6, 7, 8, 9] rfl (σ' := [(0, .int .i64 a), (1, .int .i64 b), (6, .slice (some ⟨2, 0, none⟩) ((lh0_1 ++ [x9_1]).length) ((lh0_1 ++ [x9_1]).length)), (7, .int .i64 (cond (decide ((w64 (x7_1 + b)) ≥ a)) (w64 ((w64 (x7_1 + b)) - a)) (w64 (x7_1 + b)))), (8, .int .i64 (iMin (cond (decide ((w64 (x7_1 + b)) ≥ a)) (w64 ((w64 (x7_1 + b)) - a)) (w64 (x7_1 + b))) (w64 (a - (cond (decide ((w64 (x7_1 + b)) ≥ a)) (w64 ((w64 (x7_1 + b)) - a)) (w64 (x7_1 + b))))))), (9, .int .i64 (w64 (x9_1 + 1)))]) (h' := [(2, .cells (rowC (encI .i64) (lh0_1 ++ [x9_1])) 0 3 1), (1, .cells [.int .i64 x9_1] 0 3 1)]) (c' := 3) (by kernel_rfl) ?_
          refine XR.done (by kernel_rfl) ?_
          show XL _ _ _ _ _ _ _ _ _
          refine XL.ren (σ' := [(0, .int .i64 a), (1, .int .i64 b), (6, .slice (some ⟨0, 0, none⟩) ((lh0_1 ++ [x9_1]).length) ((lh0_1 ++ [x9_1]).length)), (7, .int .i64 (cond (decide ((w64 (x7_1 + b)) ≥ a)) (w64 ((w64 (x7_1 + b)) - a)) (w64 (x7_1 + b)))), (8, .int .i64 (iMin (cond (decide ((w64 (x7_1 + b)) ≥ a)) (w64 ((w64 (x7_1 + b)) - a)) (w64 (x7_1 + b))) (w64 (a - (cond (decide ((w64 (x7_1 + b)) ≥ a)) (w64 ((w64 (x7_1 + b)) - a)) (w64 (x7_1 + b))))))), (9, .int .i64 (w64 (x9_1 + 1)))]) (h' := [(0, .cells (rowC (encI .i64) (lh0_1 ++ [x9_1])) 0 3 1)]) (c' := 1) [2] (by decide) rfl ⟨by kernel_rfl, by kernel_rfl, by kernel_rfl, by kernel_rfl, by kernel_rfl, by kernel_rfl, trivial⟩ ⟨⟨_, _, rfl, rfl, .inl ⟨rfl, rowC_scal (encI_ok .i64) _⟩⟩, trivial⟩ rfl ?_
          refine XL.conv (f39_1_ok m fuel a b (cond (decide ((w64 (x7_1 + b)) ≥ a)) (w64 ((w64 (x7_1 + b)) - a)) (w64 (x7_1 + b))) (iMin (cond (decide ((w64 (x7_1 + b)) ≥ a)) (w64 ((w64 (x7_1 + b)) - a)) (w64 (x7_1 + b))) (w64 (a - (cond (decide ((w64 (x7_1 + b)) ≥ a)) (w64 ((w64 (x7_1 + b)) - a)) (w64 (x7_1 + b)))))) (w64 (x9_1 + 1)) (lh0_1 ++ [x9_1]) o h Q hQ) (by first | rfl | simp)

def f39 (m : Nat) (a : Int) (b : Int) : Option ((List Int) × Int) :=
  (f64 m a b).bind fun r1 =>
    cond (!r1) (
      some ([], 1)
    ) (
      (f39_1 m m a b 0 a 1 []).bind fun o1 =>
        some (o1, 0)
    )

theorem f39_ok (m : Nat) (a : Int) (b : Int) (o : (List Int) × Int) (h : f39 m a b = some o) : KC E0 39 [.int .i64 a, .int .i64 b] [] 0 (fun v h' c' => v = .tuple #[.slice (some ⟨0, 0, none⟩) o.1.length o.1.length, .int .i64 o.2] ∧ h' = [(0, .cells (rowC (encI .i64) o.1) 0 3 1)] ∧ c' = 1) := by
  refine KC.bodyN E0_ok (F := Proofs.Try.f39) (by kernel_rfl) (code := f39_C39) (by kernel_rfl) (nt := 43) (by kernel_rfl) (rs := [.tmp 4, .tmp 5]) (by kernel_rfl) (by kernel_rfl) (σ := [(0, .int .i64 a), (1, .int .i64 b)]) (by kernel_rfl) ?_
  unfold f39 at h
  refine XQ.seq E0_ok (by kernel_rfl) ?_
  refine XQ.region (by kernel_rfl) ?_
  refine XR.run E0_ok 1 2 [0, 1] rfl (σ' := [(0, .int .i64 a), (1, .int .i64 b)]) (h' := []) (c' := 0) (by kernel_rfl) ?_
  refine XR.done (by kernel_rfl) ?_
  show XQ _ _ _ _ _ _ _ _
  refine XQ.scope (by kernel_rfl) ?_
  refine XQ.seq E0_ok (by kernel_rfl) ?_
  refine XQ.seq E0_ok (by kernel_rfl) ?_
  refine XQ.region (by kernel_rfl) ?_
  refine XR.run E0_ok 1 2 [0, 1, 11, 12] rfl (σ' := [(0, .int .i64 a), (1, .int .i64 b), (11, .int .i64 a), (12, .int .i64 b)]) (h' := []) (c' := 0) (by kernel_rfl) ?_
  obtain ⟨r1, r1_h, h⟩ := bS h
  refine XR.call E0_ok [0, 1, 13] rfl (K := 64) (args := [.int .i64 a, .int .i64 b]) (d := (some (path 12 13))) (by kernel_rfl) (KC.of_calls E0_ok (F := Proofs.Try.f64) (v := .bool r1) (by kernel_rfl) rfl rfl (fun w hI => f64_ok m a b r1 r1_h w hI)) ?_
  rintro _ _ _ ⟨rfl, rfl, rfl⟩
  refine XR.conv (σ' := [(0, .int .i64 a), (1, .int .i64 b), (13, .bool r1)]) (h' := []) (c' := 0) ?_ (by kernel_rfl)
  refine XR.run E0_ok 1 1 [0, 1, 14] rfl (σ' := [(0, .int .i64 a), (1, .int .i64 b), (14, .bool (!r1))]) (h' := []) (c' := 0) (by kernel_rfl) ?_
  refine XR.done (by kernel_rfl) ?_
  show XQ _ _ _ _ _ _ _ _
  cases b1 : (!r1 : Bool) with
  | true =>
    have h := cT b1 h
    refine XQ.cond (s := (.tmp 14)) (b := true) (by kernel_rfl) (by kernel_rfl) (fun _ => ?_) (fun q => by cases q)
    refine XQ.seq E0_ok (by kernel_rfl) ?_
    refine XQ.region (by kernel_rfl) ?_
    refine XR.run E0_ok 1 2 [4, 5] rfl (σ' := [(4, .slice none 0 0), (5, .int .i64 1)]) (h' := []) (c' := 0) (by kernel_rfl) ?_
    refine XR.done (by kernel_rfl) ?_
    show XQ _ _ _ _ _ _ _ _
    refine XQ.ghost 3 1 rfl (σ' := [(4, .slice (some ⟨0, 0, none⟩) 0 0), (5, .int .i64 1)]) (h' := []) ⟨by kernel_rfl, by kernel_rfl, trivial⟩ trivial ?_
    refine XQ.conv (σ' := [(4, .slice (some ⟨0, 0, none⟩) 0 0), (5, .int .i64 1)]) (h' := [(0, .cells (rowC (encI .i64) []) 0 3 1)]) (c' := 1) ?_ (by kernel_rfl)
    refine XQ.ren (σ' := [(4, .slice (some ⟨0, 0, none⟩) 0 0), (5, .int .i64 1)]) (h' := [(0, .cells (rowC (encI .i64) []) 0 3 1)]) (c' := 1) [0] (by decide) rfl ⟨by kernel_rfl, by kernel_rfl, trivial⟩ ⟨⟨_, _, rfl, rfl, .inl ⟨rfl, rowC_scal (encI_ok .i64) _⟩⟩, trivial⟩ rfl ?_
    refine XQ.ret (by kernel_rfl) ?_
    have h := Option.some.inj h
    subst h
    exact ⟨fun i q => (by cases q), .tuple #[.slice (some ⟨0, 0, none⟩) 0 0, .int .i64 1], (by kernel_rfl), (by kernel_rfl), (by kernel_rfl), rfl⟩
  | false =>
    have h := cF b1 h
    refine XQ.cond (s := (.tmp 14)) (b := false) (by kernel_rfl) (by kernel_rfl) (fun q => by cases q) (fun _ => ?_)
    refine XQ.skip (by kernel_rfl) ?_
    show XQ _ _ _ _ _ _ _ _
    refine XQ.seq E0_ok (by kernel_rfl) ?_
    refine XQ.region (by kernel_rfl) ?_
    refine XR.run E0_ok 1 1 [0, 1, 6] rfl (σ' := [(0, .int .i64 a), (1, .int .i64 b), (6, .slice none 0 0)]) (h' := []) (c' := 0) (by kernel_rfl) ?_
    refine XR.done (by kernel_rfl) ?_
    show XQ _ _ _ _ _ _ _ _
    refine XQ.ghost 3 1 rfl (σ' := [(0, .int .i64 a), (1, .int .i64 b), (6, .slice (some ⟨0, 0, none⟩) 0 0)]) (h' := []) ⟨by kernel_rfl, by kernel_rfl, by kernel_rfl, trivial⟩ trivial ?_
    refine XQ.conv (σ' := [(0, .int .i64 a), (1, .int .i64 b), (6, .slice (some ⟨0, 0, none⟩) 0 0)]) (h' := [(0, .cells (rowC (encI .i64) []) 0 3 1)]) (c' := 1) ?_ (by kernel_rfl)
    refine XQ.seq E0_ok (by kernel_rfl) ?_
    refine XQ.region (by kernel_rfl) ?_
    refine XR.run E0_ok 1 3 [0, 1, 6, 7, 8] rfl (σ' := [(0, .int .i64 a), (1, .int .i64 b), (6, .slice (some ⟨0, 0, none⟩) 0 0), (7, .int .i64 0), (8, .int .i64 a)]) (h' := [(0, .cells (rowC (encI .i64) []) 0 3 1)]) (c' := 1) (by kernel_rfl) ?_
    refine XR.done (by kernel_rfl) ?_
    show XQ _ _ _ _ _ _ _ _
    refine XQ.seq E0_ok (by kernel_rfl) ?_
    refine XQ.label (by kernel_rfl) ?_
    show XQ _ _ _ _ _ _ _ _
    refine XQ.seq E0_ok (by kernel_rfl) ?_
    refine XQ.seq E0_ok (by kernel_rfl) ?_
    refine XQ.region (by kernel_rfl) ?_
    refine XR.run E0_ok 1 1 [0, 1, 6, 7, 8, 9] rfl (σ' := [(0, .int .i64 a), (1, .int .i64 b), (6, .slice (some ⟨0, 0, none⟩) 0 0), (7, .int .i64 0), (8, .int .i64 a), (9, .int .i64 1)]) (h' := [(0, .cells (rowC (encI .i64) []) 0 3 1)]) (c' := 1) (by kernel_rfl) ?_
    refine XR.done (by kernel_rfl) ?_
    show XQ _ _ _ _ _ _ _ _
    refine XQ.block (id := 0) (by kernel_rfl) ?_
    refine XQ.loop m (by kernel_rfl) ?_
    obtain ⟨o1, o1_h, h⟩ := bS h
    refine XL.ren (σ' := [(0, .int .i64 a), (1, .int .i64 b), (6, .slice (some ⟨0, 0, none⟩) 0 0), (7, .int .i64 0), (8, .int .i64 a), (9, .int .i64 1)]) (h' := [(0, .cells (rowC (encI .i64) []) 0 3 1)]) (c' := 1) [0] (by decide) rfl ⟨by kernel_rfl, by kernel_rfl, by kernel_rfl, by kernel_rfl, by kernel_rfl, by kernel_rfl, trivial⟩ ⟨⟨_, _, rfl, rfl, .inl ⟨rfl, rowC_scal (encI_ok .i64) _⟩⟩, trivial⟩ rfl ?_
    refine XL.conv (f39_1_ok m m a b 0 a 1 [] o1 o1_h _ ?_) (by first | rfl | simp)
    show XQ _ _ _ _ _ _ _ _
    refine XQ.seq E0_ok (by kernel_rfl) ?_
    refine XQ.region (by kernel_rfl) ?_
    refine XR.run E0_ok 1 3 [4, 5] rfl (σ' := [(4, .slice (some ⟨0, 0, none⟩) o1.length o1.length), (5, .int .i64 0)]) (h' := [(0, .cells (rowC (encI .i64) o1) 0 3 1)]) (c' := 1) (by kernel_rfl) ?_
    refine XR.done (by kernel_rfl) ?_
    show XQ _ _ _ _ _ _ _ _
    refine XQ.ren (σ' := [(4, .slice (some ⟨0, 0, none⟩) o1.length o1.length), (5, .int .i64 0)]) (h' := [(0, .cells (rowC (encI .i64) o1) 0 3 1)]) (c' := 1) [0] (by decide) rfl ⟨by kernel_rfl, by kernel_rfl, trivial⟩ ⟨⟨_, _, rfl, rfl, .inl ⟨rfl, rowC_scal (encI_ok .i64) _⟩⟩, trivial⟩ rfl ?_
    refine XQ.ret (by kernel_rfl) ?_
    have h := Option.some.inj h
    subst h
    exact ⟨fun i q => (by cases q), .tuple #[.slice (some ⟨0, 0, none⟩) o1.length o1.length, .int .i64 0], (by kernel_rfl), (by kernel_rfl), (by kernel_rfl), rfl⟩

end Go.Xm
