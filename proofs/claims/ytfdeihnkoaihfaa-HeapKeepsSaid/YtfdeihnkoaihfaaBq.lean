/- What these functions of the program compute, as functions in Lean, and the proofs that they do: vitolaref02.Keep. Conditions: none. -/
import Derived.Test.YtfdeihnkoaihfaaBe
import Derived.Test.YtfdeihnkoaihfaaMr
namespace Go.Xm
open Go.RowKit
set_option linter.unusedVariables false
set_option linter.unusedSimpArgs false
set_option maxRecDepth 20000

/-! vitola/vitolaref02.Keep -/
noncomputable def f34_C34 : Code := Proofs.Try.f34.body.getD .skip
noncomputable def f34_L1 : Code := lft (lft (rgt (lft (rgt (rgt (rgt (rgt (rgt f34_C34))))))))

def f34_1 (m : Nat) : Nat → List (Int × Int) → Int → Int → List Int → List (Int × Int) → Option (List Int)
  | 0, _, _, _, _, _ => none
  | fuel + 1, a, b, x9_1, lh1_1, lh2_1 =>
    cond (decide (x9_1 < ((a.length : Nat) : Int))) (
      cond (fitsB (0 + lh2_1.length) 16) (
        cond (inRow x9_1 a.length) (
          cond (fitsB (lh2_1.length + 1) 16) (
            (f60 m (lh2_1 ++ [((List.getD a (Int.toNat x9_1) (0, 0)).1, (List.getD a (Int.toNat x9_1) (0, 0)).2)]) b).bind fun r4 =>
              cond (r4) (
                cond (fitsB (lh1_1.length + 1) 8) (
                  f34_1 m fuel a b (w64 (x9_1 + 1)) (lh1_1 ++ [x9_1]) (lh2_1 ++ [((List.getD a (Int.toNat x9_1) (0, 0)).1, (List.getD a (Int.toNat x9_1) (0, 0)).2)])
                ) none
              ) (
                f34_1 m fuel a b (w64 (x9_1 + 1)) lh1_1 lh2_1
              )
          ) none
        ) none
      ) none
    ) (
      some (lh1_1)
    )

theorem f34_1_ok (m : Nat) : ∀ (fuel : Nat) (z0 : Nat) (y0 : Nat) (a : List (Int × Int)) (b : Int) (x9_1 : Int) (lh1_1 : List Int) (lh2_1 : List (Int × Int)) (o : (List Int)), f34_1 m fuel a b x9_1 lh1_1 lh2_1 = some o → ∀ Q : QP, Q (.exit 0) [(7, .slice (some ⟨1, 0, none⟩) o.length o.length)] [(1, .cells (rowC (encI .i64) o) 0 3 1), (0, .cells (rowC encP a) z0 y0 2)] 2 → XL E0 41 1 fuel f34_L1 [(0, .slice (some ⟨0, 0, none⟩) a.length a.length), (1, .int .i64 b), (7, .slice (some ⟨1, 0, none⟩) lh1_1.length lh1_1.length), (8, .slice (some ⟨2, 0, none⟩) lh2_1.length lh2_1.length), (9, .int .i64 x9_1)] [(2, .cells (rowC encP lh2_1) 0 83 2), (1, .cells (rowC (encI .i64) lh1_1) 0 3 1), (0, .cells (rowC encP a) z0 y0 2)] 3 Q
  | 0, z0, y0, a, b, x9_1, lh1_1, lh2_1, o, h, Q, hQ => by cases h
  | fuel + 1, z0, y0, a, b, x9_1, lh1_1, lh2_1, o, h, Q, hQ => by
    unfold f34_1 at h
    refine XL.succ E0_ok ?_
    refine XQ.seq E0_ok (by kernel_rfl) ?_
    refine XQ.seq E0_ok (by kernel_rfl) ?_
    refine XQ.region (by kernel_rfl) ?_
    refine XR.run E0_ok 1 4 [0, 1, 7, 8, 9, 20] rfl (σ' := [(0, .slice (some ⟨0, 0, none⟩) a.length a.length), (1, .int .i64 b), (7, .slice (some ⟨1, 0, none⟩) lh1_1.length lh1_1.length), (8, .slice (some ⟨2, 0, none⟩) lh2_1.length lh2_1.length), (9, .int .i64 x9_1), (20, .bool (decide (x9_1 < ((a.length : Nat) : Int))))]) (h' := [(2, .cells (rowC encP lh2_1) 0 83 2), (1, .cells (rowC (encI .i64) lh1_1) 0 3 1), (0, .cells (rowC encP a) z0 y0 2)]) (c' := 3) (by kernel_rfl) ?_
    refine XR.done (by kernel_rfl) ?_
    show XQ _ _ _ _ _ _ _ _
    cases b1 : (decide (x9_1 < ((a.length : Nat) : Int)) : Bool) with
    | true =>
      have h := cT b1 h
      refine XQ.cond (s := (.tmp 20)) (b := true) (by kernel_rfl) (by kernel_rfl) (fun _ => ?_) (fun q => by cases q)
      refine XQ.skip (by kernel_rfl) ?_
      show XQ _ _ _ _ _ _ _ _
      refine XQ.seq E0_ok (by kernel_rfl) ?_
      refine XQ.block (id := 1) (by kernel_rfl) ?_
      refine XQ.seq E0_ok (by kernel_rfl) ?_
      cases b2 : (fitsB (0 + lh2_1.length) 16 : Bool) with
      | false => cases (cF b2 h)
      | true =>
        have h := cT b2 h
        cases b3 : (inRow x9_1 a.length : Bool) with
        | false => cases (cF b3 h)
        | true =>
          have h := cT b3 h
          cases b4 : (fitsB (lh2_1.length + 1) 16 : Bool) with
          | false => cases (cF b4 h)
          | true =>
            have h := cT b4 h
            refine XQ.preA E0_ok [1, 3, 4, 5] (by kernel_rfl) (g := 6) (listed := #[false, true, false, true, true, true, false, false, false, false]) (by kernel_rfl) (by kernel_rfl) (by kernel_rfl) (by kernel_rfl) (by kernel_rfl) (σ' := [(0, .slice (some ⟨0, 0, none⟩) a.length a.length), (1, .int .i64 b), (7, .slice (some ⟨1, 0, none⟩) lh1_1.length lh1_1.length), (8, .slice (some ⟨2, 0, none⟩) lh2_1.length lh2_1.length), (9, .int .i64 x9_1), (10, .slice (some ⟨3, 0, none⟩) ((lh2_1 ++ [((List.getD a (Int.toNat x9_1) (0, 0)).1, (List.getD a (Int.toNat x9_1) (0, 0)).2)]).length) ((lh2_1 ++ [((List.getD a (Int.toNat x9_1) (0, 0)).1, (List.getD a (Int.toNat x9_1) (0, 0)).2)]).length))]) (h' := [(3, .cells (rowC encP (lh2_1 ++ [((List.getD a (Int.toNat x9_1) (0, 0)).1, (List.getD a (Int.toNat x9_1) (0, 0)).2)])) 0 83 2), (2, .cells (rowC encP lh2_1) 0 83 2), (1, .cells (rowC (encI .i64) lh1_1) 0 3 1), (0, .cells (rowC encP a) z0 y0 2)]) (c' := 4) ?_ ?_
            · show XQ _ _ _ _ _ _ _ _
              refine XQ.seq E0_ok (by kernel_rfl) ?_
              refine XQ.region (by kernel_rfl) ?_
              refine XR.run E0_ok 1 2 [0, 1, 7, 8, 9, 10, 32, 33] rfl (σ' := [(0, .slice (some ⟨0, 0, none⟩) a.length a.length), (1, .int .i64 b), (7, .slice (some ⟨1, 0, none⟩) lh1_1.length lh1_1.length), (8, .slice (some ⟨2, 0, none⟩) lh2_1.length lh2_1.length), (9, .int .i64 x9_1), (10, .slice (some ⟨3, 0, none⟩) ((lh2_1 ++ [((List.getD a (Int.toNat x9_1) (0, 0)).1, (List.getD a (Int.toNat x9_1) (0, 0)).2)]).length) ((lh2_1 ++ [((List.getD a (Int.toNat x9_1) (0, 0)).1, (List.getD a (Int.toNat x9_1) (0, 0)).2)]).length)), (32, .slice (some ⟨3, 0, none⟩) ((lh2_1 ++ [((List.getD a (Int.toNat x9_1) (0, 0)).1, (List.getD a (Int.toNat x9_1) (0, 0)).2)]).length) ((lh2_1 ++ [((List.getD a (Int.toNat x9_1) (0, 0)).1, (List.getD a (Int.toNat x9_1) (0, 0)).2)]).length)), (33, .int .i64 b)]) (h' := [(3, .cells (rowC encP (lh2_1 ++ [((List.getD a (Int.toNat x9_1) (0, 0)).1, (List.getD a (Int.toNat x9_1) (0, 0)).2)])) 0 83 2), (2, .cells (rowC encP lh2_1) 0 83 2), (1, .cells (rowC (encI .i64) lh1_1) 0 3 1), (0, .cells (rowC encP a) z0 y0 2)]) (c' := 4) (by kernel_rfl) ?_
              obtain ⟨r4, r4_h, h⟩ := bS h
              refine XR.call E0_ok [0, 1, 7, 8, 9, 10, 34] rfl (K := 60) (args := [.slice (some ⟨3, 0, none⟩) ((lh2_1 ++ [((List.getD a (Int.toNat x9_1) (0, 0)).1, (List.getD a (Int.toNat x9_1) (0, 0)).2)]).length) ((lh2_1 ++ [((List.getD a (Int.toNat x9_1) (0, 0)).1, (List.getD a (Int.toNat x9_1) (0, 0)).2)]).length), .int .i64 b]) (d := (some (path 12 34))) (by kernel_rfl) (KQ.call (KC.quiet E0_ok (args0 := [.slice (some ⟨0, 0, none⟩) ((lh2_1 ++ [((List.getD a (Int.toNat x9_1) (0, 0)).1, (List.getD a (Int.toNat x9_1) (0, 0)).2)]).length) ((lh2_1 ++ [((List.getD a (Int.toNat x9_1) (0, 0)).1, (List.getD a (Int.toNat x9_1) (0, 0)).2)]).length), .int .i64 b]) (h0 := [(0, .cells (rowC encP (lh2_1 ++ [((List.getD a (Int.toNat x9_1) (0, 0)).1, (List.getD a (Int.toNat x9_1) (0, 0)).2)])) (0 + ((rowC encP (lh2_1 ++ [((List.getD a (Int.toNat x9_1) (0, 0)).1, (List.getD a (Int.toNat x9_1) (0, 0)).2)])).length + 1)) 83 2)]) (n := 1) (V := .bool r4) [3] (f60_ok m (0 + ((rowC encP (lh2_1 ++ [((List.getD a (Int.toNat x9_1) (0, 0)).1, (List.getD a (Int.toNat x9_1) (0, 0)).2)])).length + 1)) 83 (lh2_1 ++ [((List.getD a (Int.toNat x9_1) (0, 0)).1, (List.getD a (Int.toNat x9_1) (0, 0)).2)]) b r4 r4_h) rfl (by rfl) (by decide) rfl (by kernel_rfl) ⟨⟨_, _, rfl, rfl, .inl ⟨rfl, rowC_scal encP_ok _⟩⟩, trivial⟩) rfl) ?_
              rintro _ _ _ ⟨rfl, rfl, rfl⟩
              refine XR.conv (σ' := [(0, .slice (some ⟨0, 0, none⟩) a.length a.length), (1, .int .i64 b), (7, .slice (some ⟨1, 0, none⟩) lh1_1.length lh1_1.length), (8, .slice (some ⟨2, 0, none⟩) lh2_1.length lh2_1.length), (9, .int .i64 x9_1), (10, .slice (some ⟨3, 0, none⟩) ((lh2_1 ++ [((List.getD a (Int.toNat x9_1) (0, 0)).1, (List.getD a (Int.toNat x9_1) (0, 0)).2)]).length) ((lh2_1 ++ [((List.getD a (Int.toNat x9_1) (0, 0)).1, (List.getD a (Int.toNat x9_1) (0, 0)).2)]).length)), (34, .bool r4)]) (h' := [(3, .cells (rowC encP (lh2_1 ++ [((List.getD a (Int.toNat x9_1) (0, 0)).1, (List.getD a (Int.toNat x9_1) (0, 0)).2)])) 0 83 2), (2, .cells (rowC encP lh2_1) 0 83 2), (1, .cells (rowC (encI .i64) lh1_1) 0 3 1), (0, .cells (rowC encP a) z0 y0 2)]) (c' := 4) ?_ (by kernel_rfl)
              refine XR.done (by kernel_rfl) ?_
              show XQ _ _ _ _ _ _ _ _
              cases b5 : (r4 : Bool) with
              | true =>
                have h := cT b5 h
                refine XQ.cond (s := (.tmp 34)) (b := true) (by kernel_rfl) (by kernel_rfl) (fun _ => ?_) (fun q => by cases q)
                refine XQ.seq E0_ok (by kernel_rfl) ?_
                refine XQ.region (by kernel_rfl) ?_
                refine XR.run E0_ok 1 2 [0, 1, 7, 8, 9] rfl (σ' := [(0, .slice (some ⟨0, 0, none⟩) a.length a.length), (1, .int .i64 b), (7, .slice (some ⟨1, 0, none⟩) lh1_1.length lh1_1.length), (8, .slice (some ⟨3, 0, none⟩) ((lh2_1 ++ [((List.getD a (Int.toNat x9_1) (0, 0)).1, (List.getD a (Int.toNat x9_1) (0, 0)).2)]).length) ((lh2_1 ++ [((List.getD a (Int.toNat x9_1) (0, 0)).1, (List.getD a (Int.toNat x9_1) (0, 0)).2)]).length)), (9, .int .i64 x9_1)]) (h' := [(3, .cells (rowC encP (lh2_1 ++ [((List.getD a (Int.toNat x9_1) (0, 0)).1, (List.getD a (Int.toNat x9_1) (0, 0)).2)])) 0 83 2), (2, .cells (rowC encP lh2_1) 0 83 2), (1, .cells (rowC (encI .i64) lh1_1) 0 3 1), (0, .cells (rowC encP a) z0 y0 2)]) (c' := 4) (by kernel_rfl) ?_
                refine XR.done (by kernel_rfl) ?_
                show XQ _ _ _ _ _ _ _ _
                refine XQ.region (by kernel_rfl) ?_
                refine XR.run E0_ok 1 3 [0, 1, 8, 9, 36, 38] rfl (σ' := [(0, .slice (some ⟨0, 0, none⟩) a.length a.length), (1, .int .i64 b), (8, .slice (some ⟨3, 0, none⟩) ((lh2_1 ++ [((List.getD a (Int.toNat x9_1) (0, 0)).1, (List.getD a (Int.toNat x9_1) (0, 0)).2)]).length) ((lh2_1 ++ [((List.getD a (Int.toNat x9_1) (0, 0)).1, (List.getD a (Int.toNat x9_1) (0, 0)).2)]).length)), (9, .int .i64 x9_1), (36, .slice (some ⟨1, 0, none⟩) lh1_1.length lh1_1.length), (38, .slice (some ⟨4, 0, none⟩) 1 1)]) (h' := [(4, .cells [.int .i64 x9_1] 0 3 1), (3, .cells (rowC encP (lh2_1 ++ [((List.getD a (Int.toNat x9_1) (0, 0)).1, (List.getD a (Int.toNat x9_1) (0, 0)).2)])) 0 83 2), (2, .cells (rowC encP lh2_1) 0 83 2), (1, .cells (rowC (encI .i64) lh1_1) 0 3 1), (0, .cells (rowC encP a) z0 y0 2)]) (c' := 5) (by kernel_rfl) ?_
                cases b6 : (fitsB (lh1_1.length + 1) 8 : Bool) with
                | false => cases (cF b6 h)
                | true =>
                  have h := cT b6 h
                  refine XR.ef E0_ok [0, 1, 8, 9, 39] rfl (e_append (encI_ok .i64) (bytes := 8) (e := 3) (x := (src 41 (.tmp 36))) (y := (src 41 (.tmp 38))) (b := 1) (len := lh1_1.length) (cap := lh1_1.length) (xs := lh1_1) (m := 0) (ys := [x9_1]) (d := (some (path 12 39))) (n' := (lh1_1 ++ [x9_1]).length) (h' := [(5, .cells (rowC (encI .i64) (lh1_1 ++ [x9_1])) 0 3 1), (4, .cells [.int .i64 x9_1] 0 3 1), (3, .cells (rowC encP (lh2_1 ++ [((List.getD a (Int.toNat x9_1) (0, 0)).1, (List.getD a (Int.toNat x9_1) (0, 0)).2)])) 0 83 2), (2, .cells (rowC encP lh2_1) 0 83 2), (0, .cells (rowC encP a) z0 y0 2)]) (by kernel_rfl) (by kernel_rfl) (by kernel_rfl) (by kernel_rfl) rfl (by simp) (by simp) b6 (by simp) (by kernel_rfl)) (σ' := [(0, .slice (some ⟨0, 0, none⟩) a.length a.length), (1, .int .i64 b), (8, .slice (some ⟨3, 0, none⟩) ((lh2_1 ++ [((List.getD a (Int.toNat x9_1) (0, 0)).1, (List.getD a (Int.toNat x9_1) (0, 0)).2)]).length) ((lh2_1 ++ [((List.getD a (Int.toNat x9_1) (0, 0)).1, (List.getD a (Int.toNat x9_1) (0, 0)).2)]).length)), (9, .int .i64 x9_1), (39, .slice (some ⟨5, 0, none⟩) ((lh1_1 ++ [x9_1]).length) ((lh1_1 ++ [x9_1]).length))]) (by kernel_rfl) ?_
                  refine XR.run E0_ok 1 1 [0, 1, 7, 8, 9] rfl (σ' := [(0, .slice (some ⟨0, 0, none⟩) a.length a.length), (1, .int .i64 b), (7, .slice (some ⟨5, 0, none⟩) ((lh1_1 ++ [x9_1]).length) ((lh1_1 ++ [x9_1]).length)), (8, .slice (some ⟨3, 0, none⟩) ((lh2_1 ++ [((List.getD a (Int.toNat x9_1) (0, 0)).1, (List.getD a (Int.toNat x9_1) (0, 0)).2)]).length) ((lh2_1 ++ [((List.getD a (Int.toNat x9_1) (0, 0)).1, (List.getD a (Int.toNat x9_1) (0, 0)).2)]).length)), (9, .int .i64 x9_1)]) (h' := [(5, .cells (rowC (encI .i64) (lh1_1 ++ [x9_1])) 0 3 1), (4, .cells [.int .i64 x9_1] 0 3 1), (3, .cells (rowC encP (lh2_1 ++ [((List.getD a (Int.toNat x9_1) (0, 0)).1, (List.getD a (Int.toNat x9_1) (0, 0)).2)])) 0 83 2), (2, .cells (rowC encP lh2_1) 0 83 2), (0, .cells (rowC encP a) z0 y0 2)]) (c' := 6) (by kernel_rfl) ?_
                  refine XR.done (by kernel_rfl) ?_
                  show XQ _ _ _ _ _ _ _ _
                  refine XQ.region (by kernel_rfl) ?_
                  refine XR.run E0_ok 1 3 [0, 1, 7, 8, 9] rfl (σ' := [(0, .slice (some ⟨0, 0, none⟩) a.length a.length), (1, .int .i64 b), (7, .slice (some ⟨5, 0, none⟩) ((lh1_1 ++ [x9_1]).length) ((lh1_1 ++ [x9_1]).length)), (8, .slice (some ⟨3, 0, none⟩) ((lh2_1 ++ [((List.getD a (Int.toNat x9_1) (0, 0)).1, (List.getD a (Int.toNat x9_1) (0, 0)).2)]).length) ((lh2_1 ++ [((List.getD a (Int.toNat x9_1) (0, 0)).1, (List.getD a (Int.toNat x9_1) (0, 0)).2)]).length)), (9, .int .i64 (w64 (x9_1 + 1)))]) (h' := [(5, .cells (rowC (encI .i64) (lh1_1 ++ [x9_1])) 0 3 1), (4, .cells [.int .i64 x9_1] 0 3 1), (3, .cells (rowC encP (lh2_1 ++ [((List.getD a (Int.toNat x9_1) (0, 0)).1, (List.getD a (Int.toNat x9_1) (0, 0)).2)])) 0 83 2), (2, .cells (rowC encP lh2_1) 0 83 2), (0, .cells (rowC encP a) z0 y0 2)]) (c' := 6) (by kernel_rfl) ?_
                  refine XR.done (by kernel_rfl) ?_
                  show XL _ _ _ _ _ _ _ _ _
                  refine XL.ren (σ' := [(0, .slice (some ⟨0, 0, none⟩) a.length a.length), (1, .int .i64 b), (7, .slice (some ⟨1, 0, none⟩) ((lh1_1 ++ [x9_1]).length) ((lh1_1 ++ [x9_1]).length)), (8, .slice (some ⟨2, 0, none⟩) ((lh2_1 ++ [((List.getD a (Int.toNat x9_1) (0, 0)).1, (List.getD a (Int.toNat x9_1) (0, 0)).2)]).length) ((lh2_1 ++ [((List.getD a (Int.toNat x9_1) (0, 0)).1, (List.getD a (Int.toNat x9_1) (0, 0)).2)]).length)), (9, .int .i64 (w64 (x9_1 + 1)))]) (h' := [(2, .cells (rowC encP (lh2_1 ++ [((List.getD a (Int.toNat x9_1) (0, 0)).1, (List.getD a (Int.toNat x9_1) (0, 0)).2)])) 0 83 2), (1, .cells (rowC (encI .i64) (lh1_1 ++ [x9_1])) 0 3 1), (0, .cells (rowC encP a) z0 y0 2)]) (c' := 3) [0, 5, 3] (by decide) rfl ⟨by kernel_rfl, by kernel_rfl, by kernel_rfl, by kernel_rfl, by kernel_rfl, trivial⟩ ⟨⟨_, _, rfl, rfl, .inl ⟨rfl, rowC_scal encP_ok _⟩⟩, ⟨_, _, rfl, rfl, .inl ⟨rfl, rowC_scal (encI_ok .i64) _⟩⟩, ⟨_, _, rfl, rfl, .inl ⟨rfl, rowC_scal encP_ok _⟩⟩, trivial⟩ rfl ?_
                  refine XL.conv (f34_1_ok m fuel z0 y0 a b (w64 (x9_1 + 1)) (lh1_1 ++ [x9_1]) (lh2_1 ++ [((List.getD a (Int.toNat x9_1) (0, 0)).1, (List.getD a (Int.toNat x9_1) (0, 0)).2)]) o h Q hQ) (by first | rfl | simp)
              | false =>
                have h := cF b5 h
                refine XQ.cond (s := (.tmp 34)) (b := false) (by kernel_rfl) (by kernel_rfl) (fun q => by cases q) (fun _ => ?_)
                refine XQ.skip (by kernel_rfl) ?_
                show XQ _ _ _ _ _ _ _ _
                refine XQ.region (by kernel_rfl) ?_
                refine XR.run E0_ok 1 3 [0, 1, 7, 8, 9] rfl (σ' := [(0, .slice (some ⟨0, 0, none⟩) a.length a.length), (1, .int .i64 b), (7, .slice (some ⟨1, 0, none⟩) lh1_1.length lh1_1.length), (8, .slice (some ⟨2, 0, none⟩) lh2_1.length lh2_1.length), (9, .int .i64 (w64 (x9_1 + 1)))]) (h' := [(3, .cells (rowC encP (lh2_1 ++ [((List.getD a (Int.toNat x9_1) (0, 0)).1, (List.getD a (Int.toNat x9_1) (0, 0)).2)])) 0 83 2), (2, .cells (rowC encP lh2_1) 0 83 2), (1, .cells (rowC (encI .i64) lh1_1) 0 3 1), (0, .cells (rowC encP a) z0 y0 2)]) (c' := 4) (by kernel_rfl) ?_
                refine XR.done (by kernel_rfl) ?_
                show XL _ _ _ _ _ _ _ _ _
                refine XL.ren (σ' := [(0, .slice (some ⟨0, 0, none⟩) a.length a.length), (1, .int .i64 b), (7, .slice (some ⟨1, 0, none⟩) lh1_1.length lh1_1.length), (8, .slice (some ⟨2, 0, none⟩) lh2_1.length lh2_1.length), (9, .int .i64 (w64 (x9_1 + 1)))]) (h' := [(2, .cells (rowC encP lh2_1) 0 83 2), (1, .cells (rowC (encI .i64) lh1_1) 0 3 1), (0, .cells (rowC encP a) z0 y0 2)]) (c' := 3) [0, 1, 2] (by decide) rfl ⟨by kernel_rfl, by kernel_rfl, by kernel_rfl, by kernel_rfl, by kernel_rfl, trivial⟩ ⟨⟨_, _, rfl, rfl, .inl ⟨rfl, rowC_scal encP_ok _⟩⟩, ⟨_, _, rfl, rfl, .inl ⟨rfl, rowC_scal (encI_ok .i64) _⟩⟩, ⟨_, _, rfl, rfl, .inl ⟨rfl, rowC_scal encP_ok _⟩⟩, trivial⟩ rfl ?_
                refine XL.conv (f34_1_ok m fuel z0 y0 a b (w64 (x9_1 + 1)) lh1_1 lh2_1 o h Q hQ) (by first | rfl | simp)
            · refine XP.step E0_ok 3 [0, 1, 7, 8, 9, 24, 26, 27] rfl (σ' := [(0, .slice (some ⟨0, 0, none⟩) a.length a.length), (1, .int .i64 b), (7, .slice (some ⟨1, 0, none⟩) lh1_1.length lh1_1.length), (8, .slice (some ⟨2, 0, none⟩) lh2_1.length lh2_1.length), (9, .int .i64 x9_1), (24, .slice (some ⟨2, 0, none⟩) lh2_1.length lh2_1.length), (26, .slice (some ⟨0, 0, none⟩) a.length a.length), (27, .int .i64 x9_1)]) (by kernel_rfl) ?_
              refine XP.rd E0_ok (by kernel_rfl) [0, 1, 7, 8, 9, 24, 28] rfl rfl (v := .pointer (some ⟨0, (Int.toNat x9_1) * 2, none⟩)) (v_idx (s := 2) (x := (src 41 (.tmp 26))) (y := (src 41 (.tmp 27))) (b := 0) (o := 0) (len := a.length) (cap := a.length) (ik := .i64) (i := x9_1) (off := (Int.toNat x9_1) * 2) (d := (some (path 12 28))) (by kernel_rfl) (by kernel_rfl) (by kernel_rfl) b3 (by omega)) (σ' := [(0, .slice (some ⟨0, 0, none⟩) a.length a.length), (1, .int .i64 b), (7, .slice (some ⟨1, 0, none⟩) lh1_1.length lh1_1.length), (8, .slice (some ⟨2, 0, none⟩) lh2_1.length lh2_1.length), (9, .int .i64 x9_1), (24, .slice (some ⟨2, 0, none⟩) lh2_1.length lh2_1.length), (28, .pointer (some ⟨0, (Int.toNat x9_1) * 2, none⟩))]) (by kernel_rfl) ?_
              refine XP.done (by kernel_rfl) ?_
              show XA _ _ _ _ _ _ _ _ _ _
              refine XA.step E0_ok [0, 6] (by kernel_rfl) rfl (by kernel_rfl) ⟨?_, ?_, trivial⟩
              · refine XR.run E0_ok 1 1 [0, 1, 7, 8, 9, 23, 24, 28] rfl (σ' := [(0, .slice (some ⟨0, 0, none⟩) a.length a.length), (1, .int .i64 b), (7, .slice (some ⟨1, 0, none⟩) lh1_1.length lh1_1.length), (8, .slice (some ⟨2, 0, none⟩) lh2_1.length lh2_1.length), (9, .int .i64 x9_1), (23, .slice (some ⟨3, 0, none⟩) 0 0), (24, .slice (some ⟨2, 0, none⟩) lh2_1.length lh2_1.length), (28, .pointer (some ⟨0, (Int.toNat x9_1) * 2, none⟩))]) (h' := [(3, .cells [] 0 83 2), (2, .cells (rowC encP lh2_1) 0 83 2), (1, .cells (rowC (encI .i64) lh1_1) 0 3 1), (0, .cells (rowC encP a) z0 y0 2)]) (c' := 4) (by kernel_rfl) ?_
                refine XR.done (by kernel_rfl) ?_
                refine ⟨rfl, ?_⟩
                show XA _ _ _ _ _ _ _ _ _ _
                refine XA.step E0_ok [2, 6] (by kernel_rfl) rfl (by kernel_rfl) ⟨?_, ?_, trivial⟩
                · refine XR.efX E0_ok [0, 1, 7, 8, 9, 25, 28] rfl (d := (some (path 12 25))) (f := eAppend false 2 16 83 (src 41 (.tmp 23)) (src 41 (.tmp 24))) (by kernel_rfl) (fun _ => eAppendA_ok) (e_appendA encP_ok (bytes := 16) (e := 83) (x := (src 41 (.tmp 23))) (y := (src 41 (.tmp 24))) (b := 3) (len := 0) (cap := 0) (xs := []) (n := lh2_1.length) (ys := lh2_1) (n' := lh2_1.length) (h' := [(4, .cells (rowC encP lh2_1) 0 83 2), (2, .cells (rowC encP lh2_1) 0 83 2), (1, .cells (rowC (encI .i64) lh1_1) 0 3 1), (0, .cells (rowC encP a) z0 y0 2)]) (Y := .slice (some ⟨2, 0, none⟩) lh2_1.length lh2_1.length) (by kernel_rfl) (by kernel_rfl) (by kernel_rfl) (fetch_all encP_ok (ys := lh2_1) (fz := 0) (e := 83) (es := 2) (by kernel_rfl) (by simp) (Nat.le_refl _)) (by simp) rfl (by simp) (by simp) b2 (by simp) (by kernel_rfl)) (σ' := [(0, .slice (some ⟨0, 0, none⟩) a.length a.length), (1, .int .i64 b), (7, .slice (some ⟨1, 0, none⟩) lh1_1.length lh1_1.length), (8, .slice (some ⟨2, 0, none⟩) lh2_1.length lh2_1.length), (9, .int .i64 x9_1), (25, .slice (some ⟨4, 0, none⟩) lh2_1.length lh2_1.length), (28, .pointer (some ⟨0, (Int.toNat x9_1) * 2, none⟩))]) (by kernel_rfl) ?_
                  refine XR.done (by kernel_rfl) ?_
                  refine ⟨rfl, ?_⟩
                  show XA _ _ _ _ _ _ _ _ _ _
                  refine XA.step E0_ok [6] (by kernel_rfl) rfl (by kernel_rfl) ⟨?_, trivial⟩
                  · refine XR.rd E0_ok [0, 1, 7, 8, 9, 25, 29] rfl (v := .agg #[.int .i64 ((List.getD a (Int.toNat x9_1) (0, 0)).1), .int .i64 ((List.getD a (Int.toNat x9_1) (0, 0)).2)]) (v_loadN encP_ok (x := (src 41 (.tmp 28))) (b := 0) (off := (Int.toNat x9_1) * 2) (xs := a) (fz := z0) (e := y0) (es := 2) (d := (some (path 12 29))) (by kernel_rfl) (by kernel_rfl) (by kernel_rfl) (Int.toNat x9_1) (0, 0) (by first | rfl | omega) (row_len (inRow_toNat b3) (by simp)) rfl) (σ' := [(0, .slice (some ⟨0, 0, none⟩) a.length a.length), (1, .int .i64 b), (7, .slice (some ⟨1, 0, none⟩) lh1_1.length lh1_1.length), (8, .slice (some ⟨2, 0, none⟩) lh2_1.length lh2_1.length), (9, .int .i64 x9_1), (25, .slice (some ⟨4, 0, none⟩) lh2_1.length lh2_1.length), (29, .agg #[.int .i64 ((List.getD a (Int.toNat x9_1) (0, 0)).1), .int .i64 ((List.getD a (Int.toNat x9_1) (0, 0)).2)])]) (by kernel_rfl) ?_
                    refine XR.done (by kernel_rfl) ?_
                    refine ⟨rfl, ?_⟩
                    show XA _ _ _ _ _ _ _ _ _ _
                    refine XA.step E0_ok [7] (by kernel_rfl) rfl (by kernel_rfl) ⟨?_, trivial⟩
                    · refine XR.run E0_ok 1 1 [0, 1, 7, 8, 9, 25, 30] rfl (σ' := [(0, .slice (some ⟨0, 0, none⟩) a.length a.length), (1, .int .i64 b), (7, .slice (some ⟨1, 0, none⟩) lh1_1.length lh1_1.length), (8, .slice (some ⟨2, 0, none⟩) lh2_1.length lh2_1.length), (9, .int .i64 x9_1), (25, .slice (some ⟨4, 0, none⟩) lh2_1.length lh2_1.length), (30, .slice (some ⟨5, 0, none⟩) 1 1)]) (h' := [(5, .cells [.int .i64 ((List.getD a (Int.toNat x9_1) (0, 0)).1), .int .i64 ((List.getD a (Int.toNat x9_1) (0, 0)).2)] 0 83 2), (4, .cells (rowC encP lh2_1) 0 83 2), (2, .cells (rowC encP lh2_1) 0 83 2), (1, .cells (rowC (encI .i64) lh1_1) 0 3 1), (0, .cells (rowC encP a) z0 y0 2)]) (c' := 6) (by kernel_rfl) ?_
                      refine XR.done (by kernel_rfl) ?_
                      refine ⟨rfl, ?_⟩
                      show XA _ _ _ _ _ _ _ _ _ _
                      refine XA.step E0_ok [8] (by kernel_rfl) rfl (by kernel_rfl) ⟨?_, trivial⟩
                      · refine XR.ef E0_ok [0, 1, 7, 8, 9, 31] rfl (e_append encP_ok (bytes := 16) (e := 83) (x := (src 41 (.tmp 25))) (y := (src 41 (.tmp 30))) (b := 4) (len := lh2_1.length) (cap := lh2_1.length) (xs := lh2_1) (m := 0) (ys := [((List.getD a (Int.toNat x9_1) (0, 0)).1, (List.getD a (Int.toNat x9_1) (0, 0)).2)]) (d := (some (path 12 31))) (n' := (lh2_1 ++ [((List.getD a (Int.toNat x9_1) (0, 0)).1, (List.getD a (Int.toNat x9_1) (0, 0)).2)]).length) (h' := [(6, .cells (rowC encP (lh2_1 ++ [((List.getD a (Int.toNat x9_1) (0, 0)).1, (List.getD a (Int.toNat x9_1) (0, 0)).2)])) 0 83 2), (5, .cells [.int .i64 ((List.getD a (Int.toNat x9_1) (0, 0)).1), .int .i64 ((List.getD a (Int.toNat x9_1) (0, 0)).2)] 0 83 2), (2, .cells (rowC encP lh2_1) 0 83 2), (1, .cells (rowC (encI .i64) lh1_1) 0 3 1), (0, .cells (rowC encP a) z0 y0 2)]) (by kernel_rfl) (by kernel_rfl) (by kernel_rfl) (by kernel_rfl) rfl (by simp) (by simp) b4 (by simp) (by kernel_rfl)) (σ' := [(0, .slice (some ⟨0, 0, none⟩) a.length a.length), (1, .int .i64 b), (7, .slice (some ⟨1, 0, none⟩) lh1_1.length lh1_1.length), (8, .slice (some ⟨2, 0, none⟩) lh2_1.length lh2_1.length), (9, .int .i64 x9_1), (31, .slice (some ⟨6, 0, none⟩) ((lh2_1 ++ [((List.getD a (Int.toNat x9_1) (0, 0)).1, (List.getD a (Int.toNat x9_1) (0, 0)).2)]).length) ((lh2_1 ++ [((List.getD a (Int.toNat x9_1) (0, 0)).1, (List.getD a (Int.toNat x9_1) (0, 0)).2)]).length))]) (by kernel_rfl) ?_
                        refine XR.done (by kernel_rfl) ?_
                        refine ⟨rfl, ?_⟩
                        show XA _ _ _ _ _ _ _ _ _ _
                        refine XA.step E0_ok [9] (by kernel_rfl) rfl (by kernel_rfl) ⟨?_, trivial⟩
                        · refine XR.run E0_ok 1 1 [0, 1, 7, 8, 9, 10] rfl (σ' := [(0, .slice (some ⟨0, 0, none⟩) a.length a.length), (1, .int .i64 b), (7, .slice (some ⟨1, 0, none⟩) lh1_1.length lh1_1.length), (8, .slice (some ⟨2, 0, none⟩) lh2_1.length lh2_1.length), (9, .int .i64 x9_1), (10, .slice (some ⟨6, 0, none⟩) ((lh2_1 ++ [((List.getD a (Int.toNat x9_1) (0, 0)).1, (List.getD a (Int.toNat x9_1) (0, 0)).2)]).length) ((lh2_1 ++ [((List.getD a (Int.toNat x9_1) (0, 0)).1, (List.getD a (Int.toNat x9_1) (0, 0)).2)]).length))]) (h' := [(6, .cells (rowC encP (lh2_1 ++ [((List.getD a (Int.toNat x9_1) (0, 0)).1, (List.getD a (Int.toNat x9_1) (0, 0)).2)])) 0 83 2), (5, .cells [.int .i64 ((List.getD a (Int.toNat x9_1) (0, 0)).1), .int .i64 ((List.getD a (Int.toNat x9_1) (0, 0)).2)] 0 83 2), (2, .cells (rowC encP lh2_1) 0 83 2), (1, .cells (rowC (encI .i64) lh1_1) 0 3 1), (0, .cells (rowC encP a) z0 y0 2)]) (c' := 7) (by kernel_rfl) ?_
                          refine XR.done (by kernel_rfl) ?_
                          refine ⟨rfl, ?_⟩
                          show XA _ _ _ _ _ _ _ _ _ _
                          refine XA.ren (σ' := [(0, .slice (some ⟨0, 0, none⟩) a.length a.length), (1, .int .i64 b), (7, .slice (some ⟨1, 0, none⟩) lh1_1.length lh1_1.length), (8, .slice (some ⟨2, 0, none⟩) lh2_1.length lh2_1.length), (9, .int .i64 x9_1), (10, .slice (some ⟨3, 0, none⟩) ((lh2_1 ++ [((List.getD a (Int.toNat x9_1) (0, 0)).1, (List.getD a (Int.toNat x9_1) (0, 0)).2)]).length) ((lh2_1 ++ [((List.getD a (Int.toNat x9_1) (0, 0)).1, (List.getD a (Int.toNat x9_1) (0, 0)).2)]).length))]) (h' := [(3, .cells (rowC encP (lh2_1 ++ [((List.getD a (Int.toNat x9_1) (0, 0)).1, (List.getD a (Int.toNat x9_1) (0, 0)).2)])) 0 83 2), (2, .cells (rowC encP lh2_1) 0 83 2), (1, .cells (rowC (encI .i64) lh1_1) 0 3 1), (0, .cells (rowC encP a) z0 y0 2)]) (c' := 4) [0, 1, 2, 6] (by decide) rfl ⟨by kernel_rfl, by kernel_rfl, by kernel_rfl, by kernel_rfl, by kernel_rfl, by kernel_rfl, trivial⟩ ⟨⟨_, _, rfl, rfl, .inl ⟨rfl, rowC_scal encP_ok _⟩⟩, ⟨_, _, rfl, rfl, .inl ⟨rfl, rowC_scal encP_ok _⟩⟩, ⟨_, _, rfl, rfl, .inl ⟨rfl, rowC_scal (encI_ok .i64) _⟩⟩, ⟨_, _, rfl, rfl, .inl ⟨rfl, rowC_scal encP_ok _⟩⟩, trivial⟩ rfl ?_
                          exact XA.done (by kernel_rfl) ⟨rfl, rfl⟩
                · refine XR.rd E0_ok [0, 1, 7, 8, 9, 23, 24, 29] rfl (v := .agg #[.int .i64 ((List.getD a (Int.toNat x9_1) (0, 0)).1), .int .i64 ((List.getD a (Int.toNat x9_1) (0, 0)).2)]) (v_loadN encP_ok (x := (src 41 (.tmp 28))) (b := 0) (off := (Int.toNat x9_1) * 2) (xs := a) (fz := z0) (e := y0) (es := 2) (d := (some (path 12 29))) (by kernel_rfl) (by kernel_rfl) (by kernel_rfl) (Int.toNat x9_1) (0, 0) (by first | rfl | omega) (row_len (inRow_toNat b3) (by simp)) rfl) (σ' := [(0, .slice (some ⟨0, 0, none⟩) a.length a.length), (1, .int .i64 b), (7, .slice (some ⟨1, 0, none⟩) lh1_1.length lh1_1.length), (8, .slice (some ⟨2, 0, none⟩) lh2_1.length lh2_1.length), (9, .int .i64 x9_1), (23, .slice (some ⟨3, 0, none⟩) 0 0), (24, .slice (some ⟨2, 0, none⟩) lh2_1.length lh2_1.length), (29, .agg #[.int .i64 ((List.getD a (Int.toNat x9_1) (0, 0)).1), .int .i64 ((List.getD a (Int.toNat x9_1) (0, 0)).2)])]) (by kernel_rfl) ?_
                  refine XR.done (by kernel_rfl) ?_
                  refine ⟨rfl, ?_⟩
                  show XA _ _ _ _ _ _ _ _ _ _
                  refine XA.step E0_ok [2, 7] (by kernel_rfl) rfl (by kernel_rfl) ⟨?_, ?_, trivial⟩
                  · refine XR.efX E0_ok [0, 1, 7, 8, 9, 25, 29] rfl (d := (some (path 12 25))) (f := eAppend false 2 16 83 (src 41 (.tmp 23)) (src 41 (.tmp 24))) (by kernel_rfl) (fun _ => eAppendA_ok) (e_appendA encP_ok (bytes := 16) (e := 83) (x := (src 41 (.tmp 23))) (y := (src 41 (.tmp 24))) (b := 3) (len := 0) (cap := 0) (xs := []) (n := lh2_1.length) (ys := lh2_1) (n' := lh2_1.length) (h' := [(4, .cells (rowC encP lh2_1) 0 83 2), (2, .cells (rowC encP lh2_1) 0 83 2), (1, .cells (rowC (encI .i64) lh1_1) 0 3 1), (0, .cells (rowC encP a) z0 y0 2)]) (Y := .slice (some ⟨2, 0, none⟩) lh2_1.length lh2_1.length) (by kernel_rfl) (by kernel_rfl) (by kernel_rfl) (fetch_all encP_ok (ys := lh2_1) (fz := 0) (e := 83) (es := 2) (by kernel_rfl) (by simp) (Nat.le_refl _)) (by simp) rfl (by simp) (by simp) b2 (by simp) (by kernel_rfl)) (σ' := [(0, .slice (some ⟨0, 0, none⟩) a.length a.length), (1, .int .i64 b), (7, .slice (some ⟨1, 0, none⟩) lh1_1.length lh1_1.length), (8, .slice (some ⟨2, 0, none⟩) lh2_1.length lh2_1.length), (9, .int .i64 x9_1), (25, .slice (some ⟨4, 0, none⟩) lh2_1.length lh2_1.length), (29, .agg #[.int .i64 ((List.getD a (Int.toNat x9_1) (0, 0)).1), .int .i64 ((List.getD a (Int.toNat x9_1) (0, 0)).2)])]) (by kernel_rfl) ?_
                    refine XR.done (by kernel_rfl) ?_
                    refine ⟨rfl, ?_⟩
                    show XA _ _ _ _ _ _ _ _ _ _
                    refine XA.step E0_ok [7] (by kernel_rfl) rfl (by kernel_rfl) ⟨?_, trivial⟩
                    · refine XR.run E0_ok 1 1 [0, 1, 7, 8, 9, 25, 30] rfl (σ' := [(0, .slice (some ⟨0, 0, none⟩) a.length a.length), (1, .int .i64 b), (7, .slice (some ⟨1, 0, none⟩) lh1_1.length lh1_1.length), (8, .slice (some ⟨2, 0, none⟩) lh2_1.length lh2_1.length), (9, .int .i64 x9_1), (25, .slice (some ⟨4, 0, none⟩) lh2_1.length lh2_1.length), (30, .slice (some ⟨5, 0, none⟩) 1 1)]) (h' := [(5, .cells [.int .i64 ((List.getD a (Int.toNat x9_1) (0, 0)).1), .int .i64 ((List.getD a (Int.toNat x9_1) (0, 0)).2)] 0 83 2), (4, .cells (rowC encP lh2_1) 0 83 2), (2, .cells (rowC encP lh2_1) 0 83 2), (1, .cells (rowC (encI .i64) lh1_1) 0 3 1), (0, .cells (rowC encP a) z0 y0 2)]) (c' := 6) (by kernel_rfl) ?_
                      refine XR.done (by kernel_rfl) ?_
                      refine ⟨rfl, ?_⟩
                      show XA _ _ _ _ _ _ _ _ _ _
                      refine XA.step E0_ok [8] (by kernel_rfl) rfl (by kernel_rfl) ⟨?_, trivial⟩
                      · refine XR.ef E0_ok [0, 1, 7, 8, 9, 31] rfl (e_append encP_ok (bytes := 16) (e := 83) (x := (src 41 (.tmp 25))) (y := (src 41 (.tmp 30))) (b := 4) (len := lh2_1.length) (cap := lh2_1.length) (xs := lh2_1) (m := 0) (ys := [((List.getD a (Int.toNat x9_1) (0, 0)).1, (List.getD a (Int.toNat x9_1) (0, 0)).2)]) (d := (some (path 12 31))) (n' := (lh2_1 ++ [((List.getD a (Int.toNat x9_1) (0, 0)).1, (List.getD a (Int.toNat x9_1) (0, 0)).2)]).length) (h' := [(6, .cells (rowC encP (lh2_1 ++ [((List.getD a (Int.toNat x9_1) (0, 0)).1, (List.getD a (Int.toNat x9_1) (0, 0)).2)])) 0 83 2), (5, .cells [.int .i64 ((List.getD a (Int.toNat x9_1) (0, 0)).1), .int .i64 ((List.getD a (Int.toNat x9_1) (0, 0)).2)] 0 83 2), (2, .cells (rowC encP lh2_1) 0 83 2), (1, .cells (rowC (encI .i64) lh1_1) 0 3 1), (0, .cells (rowC encP a) z0 y0 2)]) (by kernel_rfl) (by kernel_rfl) (by kernel_rfl) (by kernel_rfl) rfl (by simp) (by simp) b4 (by simp) (by kernel_rfl)) (σ' := [(0, .slice (some ⟨0, 0, none⟩) a.length a.length), (1, .int .i64 b), (7, .slice (some ⟨1, 0, none⟩) lh1_1.length lh1_1.length), (8, .slice (some ⟨2, 0, none⟩) lh2_1.length lh2_1.length), (9, .int .i64 x9_1), (31, .slice (some ⟨6, 0, none⟩) ((lh2_1 ++ [((List.getD a (Int.toNat x9_1) (0, 0)).1, (List.getD a (Int.toNat x9_1) (0, 0)).2)]).length) ((lh2_1 ++ [((List.getD a (Int.toNat x9_1) (0, 0)).1, (List.getD a (Int.toNat x9_1) (0, 0)).2)]).length))]) (by kernel_rfl) ?_
                        refine XR.done (by kernel_rfl) ?_
                        refine ⟨rfl, ?_⟩
                        show XA _ _ _ _ _ _ _ _ _ _
                        refine XA.step E0_ok [9] (by kernel_rfl) rfl (by kernel_rfl) ⟨?_, trivial⟩
                        · refine XR.run E0_ok 1 1 [0, 1, 7, 8, 9, 10] rfl (σ' := [(0, .slice (some ⟨0, 0, none⟩) a.length a.length), (1, .int .i64 b), (7, .slice (some ⟨1, 0, none⟩) lh1_1.length lh1_1.length), (8, .slice (some ⟨2, 0, none⟩) lh2_1.length lh2_1.length), (9, .int .i64 x9_1), (10, .slice (some ⟨6, 0, none⟩) ((lh2_1 ++ [((List.getD a (Int.toNat x9_1) (0, 0)).1, (List.getD a (Int.toNat x9_1) (0, 0)).2)]).length) ((lh2_1 ++ [((List.getD a (Int.toNat x9_1) (0, 0)).1, (List.getD a (Int.toNat x9_1) (0, 0)).2)]).length))]) (h' := [(6, .cells (rowC encP (lh2_1 ++ [((List.getD a (Int.toNat x9_1) (0, 0)).1, (List.getD a (Int.toNat x9_1) (0, 0)).2)])) 0 83 2), (5, .cells [.int .i64 ((List.getD a (Int.toNat x9_1) (0, 0)).1), .int .i64 ((List.getD a (Int.toNat x9_1) (0, 0)).2)] 0 83 2), (2, .cells (rowC encP lh2_1) 0 83 2), (1, .cells (rowC (encI .i64) lh1_1) 0 3 1), (0, .cells (rowC encP a) z0 y0 2)]) (c' := 7) (by kernel_rfl) ?_
                          refine XR.done (by kernel_rfl) ?_
                          refine ⟨rfl, ?_⟩
                          show XA _ _ _ _ _ _ _ _ _ _
                          refine XA.ren (σ' := [(0, .slice (some ⟨0, 0, none⟩) a.length a.length), (1, .int .i64 b), (7, .slice (some ⟨1, 0, none⟩) lh1_1.length lh1_1.length), (8, .slice (some ⟨2, 0, none⟩) lh2_1.length lh2_1.length), (9, .int .i64 x9_1), (10, .slice (some ⟨3, 0, none⟩) ((lh2_1 ++ [((List.getD a (Int.toNat x9_1) (0, 0)).1, (List.getD a (Int.toNat x9_1) (0, 0)).2)]).length) ((lh2_1 ++ [((List.getD a (Int.toNat x9_1) (0, 0)).1, (List.getD a (Int.toNat x9_1) (0, 0)).2)]).length))]) (h' := [(3, .cells (rowC encP (lh2_1 ++ [((List.getD a (Int.toNat x9_1) (0, 0)).1, (List.getD a (Int.toNat x9_1) (0, 0)).2)])) 0 83 2), (2, .cells (rowC encP lh2_1) 0 83 2), (1, .cells (rowC (encI .i64) lh1_1) 0 3 1), (0, .cells (rowC encP a) z0 y0 2)]) (c' := 4) [0, 1, 2, 6] (by decide) rfl ⟨by kernel_rfl, by kernel_rfl, by kernel_rfl, by kernel_rfl, by kernel_rfl, by kernel_rfl, trivial⟩ ⟨⟨_, _, rfl, rfl, .inl ⟨rfl, rowC_scal encP_ok _⟩⟩, ⟨_, _, rfl, rfl, .inl ⟨rfl, rowC_scal encP_ok _⟩⟩, ⟨_, _, rfl, rfl, .inl ⟨rfl, rowC_scal (encI_ok .i64) _⟩⟩, ⟨_, _, rfl, rfl, .inl ⟨rfl, rowC_scal encP_ok _⟩⟩, trivial⟩ rfl ?_
                          exact XA.done (by kernel_rfl) ⟨rfl, rfl⟩
                  · refine XR.run E0_ok 1 1 [0, 1, 7, 8, 9, 23, 24, 30] rfl (σ' := [(0, .slice (some ⟨0, 0, none⟩) a.length a.length), (1, .int .i64 b), (7, .slice (some ⟨1, 0, none⟩) lh1_1.length lh1_1.length), (8, .slice (some ⟨2, 0, none⟩) lh2_1.length lh2_1.length), (9, .int .i64 x9_1), (23, .slice (some ⟨3, 0, none⟩) 0 0), (24, .slice (some ⟨2, 0, none⟩) lh2_1.length lh2_1.length), (30, .slice (some ⟨4, 0, none⟩) 1 1)]) (h' := [(4, .cells [.int .i64 ((List.getD a (Int.toNat x9_1) (0, 0)).1), .int .i64 ((List.getD a (Int.toNat x9_1) (0, 0)).2)] 0 83 2), (3, .cells [] 0 83 2), (2, .cells (rowC encP lh2_1) 0 83 2), (1, .cells (rowC (encI .i64) lh1_1) 0 3 1), (0, .cells (rowC encP a) z0 y0 2)]) (c' := 5) (by kernel_rfl) ?_
                    refine XR.done (by kernel_rfl) ?_
                    refine ⟨rfl, ?_⟩
                    show XA _ _ _ _ _ _ _ _ _ _
                    refine XA.step E0_ok [2] (by kernel_rfl) rfl (by kernel_rfl) ⟨?_, trivial⟩
                    · refine XR.efX E0_ok [0, 1, 7, 8, 9, 25, 30] rfl (d := (some (path 12 25))) (f := eAppend false 2 16 83 (src 41 (.tmp 23)) (src 41 (.tmp 24))) (by kernel_rfl) (fun _ => eAppendA_ok) (e_appendA encP_ok (bytes := 16) (e := 83) (x := (src 41 (.tmp 23))) (y := (src 41 (.tmp 24))) (b := 3) (len := 0) (cap := 0) (xs := []) (n := lh2_1.length) (ys := lh2_1) (n' := lh2_1.length) (h' := [(5, .cells (rowC encP lh2_1) 0 83 2), (4, .cells [.int .i64 ((List.getD a (Int.toNat x9_1) (0, 0)).1), .int .i64 ((List.getD a (Int.toNat x9_1) (0, 0)).2)] 0 83 2), (2, .cells (rowC encP lh2_1) 0 83 2), (1, .cells (rowC (encI .i64) lh1_1) 0 3 1), (0, .cells (rowC encP a) z0 y0 2)]) (Y := .slice (some ⟨2, 0, none⟩) lh2_1.length lh2_1.length) (by kernel_rfl) (by kernel_rfl) (by kernel_rfl) (fetch_all encP_ok (ys := lh2_1) (fz := 0) (e := 83) (es := 2) (by kernel_rfl) (by simp) (Nat.le_refl _)) (by simp) rfl (by simp) (by simp) b2 (by simp) (by kernel_rfl)) (σ' := [(0, .slice (some ⟨0, 0, none⟩) a.length a.length), (1, .int .i64 b), (7, .slice (some ⟨1, 0, none⟩) lh1_1.length lh1_1.length), (8, .slice (some ⟨2, 0, none⟩) lh2_1.length lh2_1.length), (9, .int .i64 x9_1), (25, .slice (some ⟨5, 0, none⟩) lh2_1.length lh2_1.length), (30, .slice (some ⟨4, 0, none⟩) 1 1)]) (by kernel_rfl) ?_
                      refine XR.done (by kernel_rfl) ?_
                      refine ⟨rfl, ?_⟩
                      show XA _ _ _ _ _ _ _ _ _ _
                      refine XA.step E0_ok [8] (by kernel_rfl) rfl (by kernel_rfl) ⟨?_, trivial⟩
                      · refine XR.ef E0_ok [0, 1, 7, 8, 9, 31] rfl (e_append encP_ok (bytes := 16) (e := 83) (x := (src 41 (.tmp 25))) (y := (src 41 (.tmp 30))) (b := 5) (len := lh2_1.length) (cap := lh2_1.length) (xs := lh2_1) (m := 0) (ys := [((List.getD a (Int.toNat x9_1) (0, 0)).1, (List.getD a (Int.toNat x9_1) (0, 0)).2)]) (d := (some (path 12 31))) (n' := (lh2_1 ++ [((List.getD a (Int.toNat x9_1) (0, 0)).1, (List.getD a (Int.toNat x9_1) (0, 0)).2)]).length) (h' := [(6, .cells (rowC encP (lh2_1 ++ [((List.getD a (Int.toNat x9_1) (0, 0)).1, (List.getD a (Int.toNat x9_1) (0, 0)).2)])) 0 83 2), (4, .cells [.int .i64 ((List.getD a (Int.toNat x9_1) (0, 0)).1), .int .i64 ((List.getD a (Int.toNat x9_1) (0, 0)).2)] 0 83 2), (2, .cells (rowC encP lh2_1) 0 83 2), (1, .cells (rowC (encI .i64) lh1_1) 0 3 1), (0, .cells (rowC encP a) z0 y0 2)]) (by kernel_rfl) (by kernel_rfl) (by kernel_rfl) (by kernel_rfl) rfl (by simp) (by simp) b4 (by simp) (by kernel_rfl)) (σ' := [(0, .slice (some ⟨0, 0, none⟩) a.length a.length), (1, .int .i64 b), (7, .slice (some ⟨1, 0, none⟩) lh1_1.length lh1_1.length), (8, .slice (some ⟨2, 0, none⟩) lh2_1.length lh2_1.length), (9, .int .i64 x9_1), (31, .slice (some ⟨6, 0, none⟩) ((lh2_1 ++ [((List.getD a (Int.toNat x9_1) (0, 0)).1, (List.getD a (Int.toNat x9_1) (0, 0)).2)]).length) ((lh2_1 ++ [((List.getD a (Int.toNat x9_1) (0, 0)).1, (List.getD a (Int.toNat x9_1) (0, 0)).2)]).length))]) (by kernel_rfl) ?_
                        refine XR.done (by kernel_rfl) ?_
                        refine ⟨rfl, ?_⟩
                        show XA _ _ _ _ _ _ _ _ _ _
                        refine XA.step E0_ok [9] (by kernel_rfl) rfl (by kernel_rfl) ⟨?_, trivial⟩
                        · refine XR.run E0_ok 1 1 [0, 1, 7, 8, 9, 10] rfl (σ' := [(0, .slice (some ⟨0, 0, none⟩) a.length a.length), (1, .int .i64 b), (7, .slice (some ⟨1, 0, none⟩) lh1_1.length lh1_1.length), (8, .slice (some ⟨2, 0, none⟩) lh2_1.length lh2_1.length), (9, .int .i64 x9_1), (10, .slice (some ⟨6, 0, none⟩) ((lh2_1 ++ [((List.getD a (Int.toNat x9_1) (0, 0)).1, (List.getD a (Int.toNat x9_1) (0, 0)).2)]).length) ((lh2_1 ++ [((List.getD a (Int.toNat x9_1) (0, 0)).1, (List.getD a (Int.toNat x9_1) (0, 0)).2)]).length))]) (h' := [(6, .cells (rowC encP (lh2_1 ++ [((List.getD a (Int.toNat x9_1) (0, 0)).1, (List.getD a (Int.toNat x9_1) (0, 0)).2)])) 0 83 2), (4, .cells [.int .i64 ((List.getD a (Int.toNat x9_1) (0, 0)).1), .int .i64 ((List.getD a (Int.toNat x9_1) (0, 0)).2)] 0 83 2), (2, .cells (rowC encP lh2_1) 0 83 2), (1, .cells (rowC (encI .i64) lh1_1) 0 3 1), (0, .cells (rowC encP a) z0 y0 2)]) (c' := 7) (by kernel_rfl) ?_
                          refine XR.done (by kernel_rfl) ?_
                          refine ⟨rfl, ?_⟩
                          show XA _ _ _ _ _ _ _ _ _ _
                          refine XA.ren (σ' := [(0, .slice (some ⟨0, 0, none⟩) a.length a.length), (1, .int .i64 b), (7, .slice (some ⟨1, 0, none⟩) lh1_1.length lh1_1.length), (8, .slice (some ⟨2, 0, none⟩) lh2_1.length lh2_1.length), (9, .int .i64 x9_1), (10, .slice (some ⟨3, 0, none⟩) ((lh2_1 ++ [((List.getD a (Int.toNat x9_1) (0, 0)).1, (List.getD a (Int.toNat x9_1) (0, 0)).2)]).length) ((lh2_1 ++ [((List.getD a (Int.toNat x9_1) (0, 0)).1, (List.getD a (Int.toNat x9_1) (0, 0)).2)]).length))]) (h' := [(3, .cells (rowC encP (lh2_1 ++ [((List.getD a (Int.toNat x9_1) (0, 0)).1, (List.getD a (Int.toNat x9_1) (0, 0)).2)])) 0 83 2), (2, .cells (rowC encP lh2_1) 0 83 2), (1, .cells (rowC (encI .i64) lh1_1) 0 3 1), (0, .cells (rowC encP a) z0 y0 2)]) (c' := 4) [0, 1, 2, 6] (by decide) rfl ⟨by kernel_rfl, by kernel_rfl, by kernel_rfl, by kernel_rfl, by kernel_rfl, by kernel_rfl, trivial⟩ ⟨⟨_, _, rfl, rfl, .inl ⟨rfl, rowC_scal encP_ok _⟩⟩, ⟨_, _, rfl, rfl, .inl ⟨rfl, rowC_scal encP_ok _⟩⟩, ⟨_, _, rfl, rfl, .inl ⟨rfl, rowC_scal (encI_ok .i64) _⟩⟩, ⟨_, _, rfl, rfl, .inl ⟨rfl, rowC_scal encP_ok _⟩⟩, trivial⟩ rfl ?_
                          exact XA.done (by kernel_rfl) ⟨rfl, rfl⟩
              · refine XR.rd E0_ok [0, 1, 7, 8, 9, 24, 29] rfl (v := .agg #[.int .i64 ((List.getD a (Int.toNat x9_1) (0, 0)).1), .int .i64 ((List.getD a (Int.toNat x9_1) (0, 0)).2)]) (v_loadN encP_ok (x := (src 41 (.tmp 28))) (b := 0) (off := (Int.toNat x9_1) * 2) (xs := a) (fz := z0) (e := y0) (es := 2) (d := (some (path 12 29))) (by kernel_rfl) (by kernel_rfl) (by kernel_rfl) (Int.toNat x9_1) (0, 0) (by first | rfl | omega) (row_len (inRow_toNat b3) (by simp)) rfl) (σ' := [(0, .slice (some ⟨0, 0, none⟩) a.length a.length), (1, .int .i64 b), (7, .slice (some ⟨1, 0, none⟩) lh1_1.length lh1_1.length), (8, .slice (some ⟨2, 0, none⟩) lh2_1.length lh2_1.length), (9, .int .i64 x9_1), (24, .slice (some ⟨2, 0, none⟩) lh2_1.length lh2_1.length), (29, .agg #[.int .i64 ((List.getD a (Int.toNat x9_1) (0, 0)).1), .int .i64 ((List.getD a (Int.toNat x9_1) (0, 0)).2)])]) (by kernel_rfl) ?_
                refine XR.done (by kernel_rfl) ?_
                refine ⟨rfl, ?_⟩
                show XA _ _ _ _ _ _ _ _ _ _
                refine XA.step E0_ok [0, 7] (by kernel_rfl) rfl (by kernel_rfl) ⟨?_, ?_, trivial⟩
                · refine XR.run E0_ok 1 1 [0, 1, 7, 8, 9, 23, 24, 29] rfl (σ' := [(0, .slice (some ⟨0, 0, none⟩) a.length a.length), (1, .int .i64 b), (7, .slice (some ⟨1, 0, none⟩) lh1_1.length lh1_1.length), (8, .slice (some ⟨2, 0, none⟩) lh2_1.length lh2_1.length), (9, .int .i64 x9_1), (23, .slice (some ⟨3, 0, none⟩) 0 0), (24, .slice (some ⟨2, 0, none⟩) lh2_1.length lh2_1.length), (29, .agg #[.int .i64 ((List.getD a (Int.toNat x9_1) (0, 0)).1), .int .i64 ((List.getD a (Int.toNat x9_1) (0, 0)).2)])]) (h' := [(3, .cells [] 0 83 2), (2, .cells (rowC encP lh2_1) 0 83 2), (1, .cells (rowC (encI .i64) lh1_1) 0 3 1), (0, .cells (rowC encP a) z0 y0 2)]) (c' := 4) (by kernel_rfl) ?_
                  refine XR.done (by kernel_rfl) ?_
                  refine ⟨rfl, ?_⟩
                  show XA _ _ _ _ _ _ _ _ _ _
                  refine XA.step E0_ok [2, 7] (by kernel_rfl) rfl (by kernel_rfl) ⟨?_, ?_, trivial⟩
                  · refine XR.efX E0_ok [0, 1, 7, 8, 9, 25, 29] rfl (d := (some (path 12 25))) (f := eAppend false 2 16 83 (src 41 (.tmp 23)) (src 41 (.tmp 24))) (by kernel_rfl) (fun _ => eAppendA_ok) (e_appendA encP_ok (bytes := 16) (e := 83) (x := (src 41 (.tmp 23))) (y := (src 41 (.tmp 24))) (b := 3) (len := 0) (cap := 0) (xs := []) (n := lh2_1.length) (ys := lh2_1) (n' := lh2_1.length) (h' := [(4, .cells (rowC encP lh2_1) 0 83 2), (2, .cells (rowC encP lh2_1) 0 83 2), (1, .cells (rowC (encI .i64) lh1_1) 0 3 1), (0, .cells (rowC encP a) z0 y0 2)]) (Y := .slice (some ⟨2, 0, none⟩) lh2_1.length lh2_1.length) (by kernel_rfl) (by kernel_rfl) (by kernel_rfl) (fetch_all encP_ok (ys := lh2_1) (fz := 0) (e := 83) (es := 2) (by kernel_rfl) (by simp) (Nat.le_refl _)) (by simp) rfl (by simp) (by simp) b2 (by simp) (by kernel_rfl)) (σ' := [(0, .slice (some ⟨0, 0, none⟩) a.length a.length), (1, .int .i64 b), (7, .slice (some ⟨1, 0, none⟩) lh1_1.length lh1_1.length), (8, .slice (some ⟨2, 0, none⟩) lh2_1.length lh2_1.length), (9, .int .i64 x9_1), (25, .slice (some ⟨4, 0, none⟩) lh2_1.length lh2_1.length), (29, .agg #[.int .i64 ((List.getD a (Int.toNat x9_1) (0, 0)).1), .int .i64 ((List.getD a (Int.toNat x9_1) (0, 0)).2)])]) (by kernel_rfl) ?_
                    refine XR.done (by kernel_rfl) ?_
                    refine ⟨rfl, ?_⟩
                    show XA _ _ _ _ _ _ _ _ _ _
                    refine XA.step E0_ok [7] (by kernel_rfl) rfl (by kernel_rfl) ⟨?_, trivial⟩
                    · refine XR.run E0_ok 1 1 [0, 1, 7, 8, 9, 25, 30] rfl (σ' := [(0, .slice (some ⟨0, 0, none⟩) a.length a.length), (1, .int .i64 b), (7, .slice (some ⟨1, 0, none⟩) lh1_1.length lh1_1.length), (8, .slice (some ⟨2, 0, none⟩) lh2_1.length lh2_1.length), (9, .int .i64 x9_1), (25, .slice (some ⟨4, 0, none⟩) lh2_1.length lh2_1.length), (30, .slice (some ⟨5, 0, none⟩) 1 1)]) (h' := [(5, .cells [.int .i64 ((List.getD a (Int.toNat x9_1) (0, 0)).1), .int .i64 ((List.getD a (Int.toNat x9_1) (0, 0)).2)] 0 83 2), (4, .cells (rowC encP lh2_1) 0 83 2), (2, .cells (rowC encP lh2_1) 0 83 2), (1, .cells (rowC (encI .i64) lh1_1) 0 3 1), (0, .cells (rowC encP a) z0 y0 2)]) (c' := 6) (by kernel_rfl) ?_
                      refine XR.done (by kernel_rfl) ?_
                      refine ⟨rfl, ?_⟩
                      show XA _ _ _ _ _ _ _ _ _ _
                      refine XA.step E0_ok [8] (by kernel_rfl) rfl (by kernel_rfl) ⟨?_, trivial⟩
                      · refine XR.ef E0_ok [0, 1, 7, 8, 9, 31] rfl (e_append encP_ok (bytes := 16) (e := 83) (x := (src 41 (.tmp 25))) (y := (src 41 (.tmp 30))) (b := 4) (len := lh2_1.length) (cap := lh2_1.length) (xs := lh2_1) (m := 0) (ys := [((List.getD a (Int.toNat x9_1) (0, 0)).1, (List.getD a (Int.toNat x9_1) (0, 0)).2)]) (d := (some (path 12 31))) (n' := (lh2_1 ++ [((List.getD a (Int.toNat x9_1) (0, 0)).1, (List.getD a (Int.toNat x9_1) (0, 0)).2)]).length) (h' := [(6, .cells (rowC encP (lh2_1 ++ [((List.getD a (Int.toNat x9_1) (0, 0)).1, (List.getD a (Int.toNat x9_1) (0, 0)).2)])) 0 83 2), (5, .cells [.int .i64 ((List.getD a (Int.toNat x9_1) (0, 0)).1), .int .i64 ((List.getD a (Int.toNat x9_1) (0, 0)).2)] 0 83 2), (2, .cells (rowC encP lh2_1) 0 83 2), (1, .cells (rowC (encI .i64) lh1_1) 0 3 1), (0, .cells (rowC encP a) z0 y0 2)]) (by kernel_rfl) (by kernel_rfl) (by kernel_rfl) (by kernel_rfl) rfl (by simp) (by simp) b4 (by simp) (by kernel_rfl)) (σ' := [(0, .slice (some ⟨0, 0, none⟩) a.length a.length), (1, .int .i64 b), (7, .slice (some ⟨1, 0, none⟩) lh1_1.length lh1_1.length), (8, .slice (some ⟨2, 0, none⟩) lh2_1.length lh2_1.length), (9, .int .i64 x9_1), (31, .slice (some ⟨6, 0, none⟩) ((lh2_1 ++ [((List.getD a (Int.toNat x9_1) (0, 0)).1, (List.getD a (Int.toNat x9_1) (0, 0)).2)]).length) ((lh2_1 ++ [((List.getD a (Int.toNat x9_1) (0, 0)).1, (List.getD a (Int.toNat x9_1) (0, 0)).2)]).length))]) (by kernel_rfl) ?_
                        refine XR.done (by kernel_rfl) ?_
                        refine ⟨rfl, ?_⟩
                        show XA _ _ _ _ _ _ _ _ _ _
                        refine XA.step E0_ok [9] (by kernel_rfl) rfl (by kernel_rfl) ⟨?_, trivial⟩
                        · refine XR.run E0_ok 1 1 [0, 1, 7, 8, 9, 10] rfl (σ' := [(0, .slice (some ⟨0, 0, none⟩) a.length a.length), (1, .int .i64 b), (7, .slice (some ⟨1, 0, none⟩) lh1_1.length lh1_1.length), (8, .slice (some ⟨2, 0, none⟩) lh2_1.length lh2_1.length), (9, .int .i64 x9_1), (10, .slice (some ⟨6, 0, none⟩) ((lh2_1 ++ [((List.getD a (Int.toNat x9_1) (0, 0)).1, (List.getD a (Int.toNat x9_1) (0, 0)).2)]).length) ((lh2_1 ++ [((List.getD a (Int.toNat x9_1) (0, 0)).1, (List.getD a (Int.toNat x9_1) (0, 0)).2)]).length))]) (h' := [(6, .cells (rowC encP (lh2_1 ++ [((List.getD a (Int.toNat x9_1) (0, 0)).1, (List.getD a (Int.toNat x9_1) (0, 0)).2)])) 0 83 2), (5, .cells [.int .i64 ((List.getD a (Int.toNat x9_1) (0, 0)).1), .int .i64 ((List.getD a (Int.toNat x9_1) (0, 0)).2)] 0 83 2), (2, .cells (rowC encP lh2_1) 0 83 2), (1, .cells (rowC (encI .i64) lh1_1) 0 3 1), (0, .cells (rowC encP a) z0 y0 2)]) (c' := 7) (by kernel_rfl) ?_
                          refine XR.done (by kernel_rfl) ?_
                          refine ⟨rfl, ?_⟩
                          show XA _ _ _ _ _ _ _ _ _ _
                          refine XA.ren (σ' := [(0, .slice (some ⟨0, 0, none⟩) a.length a.length), (1, .int .i64 b), (7, .slice (some ⟨1, 0, none⟩) lh1_1.length lh1_1.length), (8, .slice (some ⟨2, 0, none⟩) lh2_1.length lh2_1.length), (9, .int .i64 x9_1), (10, .slice (some ⟨3, 0, none⟩) ((lh2_1 ++ [((List.getD a (Int.toNat x9_1) (0, 0)).1, (List.getD a (Int.toNat x9_1) (0, 0)).2)]).length) ((lh2_1 ++ [((List.getD a (Int.toNat x9_1) (0, 0)).1, (List.getD a (Int.toNat x9_1) (0, 0)).2)]).length))]) (h' := [(3, .cells (rowC encP (lh2_1 ++ [((List.getD a (Int.toNat x9_1) (0, 0)).1, (List.getD a (Int.toNat x9_1) (0, 0)).2)])) 0 83 2), (2, .cells (rowC encP lh2_1) 0 83 2), (1, .cells (rowC (encI .i64) lh1_1) 0 3 1), (0, .cells (rowC encP a) z0 y0 2)]) (c' := 4) [0, 1, 2, 6] (by decide) rfl ⟨by kernel_rfl, by kernel_rfl, by kernel_rfl, by kernel_rfl, by kernel_rfl, by kernel_rfl, trivial⟩ ⟨⟨_, _, rfl, rfl, .inl ⟨rfl, rowC_scal encP_ok _⟩⟩, ⟨_, _, rfl, rfl, .inl ⟨rfl, rowC_scal encP_ok _⟩⟩, ⟨_, _, rfl, rfl, .inl ⟨rfl, rowC_scal (encI_ok .i64) _⟩⟩, ⟨_, _, rfl, rfl, .inl ⟨rfl, rowC_scal encP_ok _⟩⟩, trivial⟩ rfl ?_
                          exact XA.done (by kernel_rfl) ⟨rfl, rfl⟩
                  · refine XR.run E0_ok 1 1 [0, 1, 7, 8, 9, 23, 24, 30] rfl (σ' := [(0, .slice (some ⟨0, 0, none⟩) a.length a.length), (1, .int .i64 b), (7, .slice (some ⟨1, 0, none⟩) lh1_1.length lh1_1.length), (8, .slice (some ⟨2, 0, none⟩) lh2_1.length lh2_1.length), (9, .int .i64 x9_1), (23, .slice (some ⟨3, 0, none⟩) 0 0), (24, .slice (some ⟨2, 0, none⟩) lh2_1.length lh2_1.length), (30, .slice (some ⟨4, 0, none⟩) 1 1)]) (h' := [(4, .cells [.int .i64 ((List.getD a (Int.toNat x9_1) (0, 0)).1), .int .i64 ((List.getD a (Int.toNat x9_1) (0, 0)).2)] 0 83 2), (3, .cells [] 0 83 2), (2, .cells (rowC encP lh2_1) 0 83 2), (1, .cells (rowC (encI .i64) lh1_1) 0 3 1), (0, .cells (rowC encP a) z0 y0 2)]) (c' := 5) (by kernel_rfl) ?_
                    refine XR.done (by kernel_rfl) ?_
                    refine ⟨rfl, ?_⟩
                    show XA _ _ _ _ _ _ _ _ _ _
                    refine XA.step E0_ok [2] (by kernel_rfl) rfl (by kernel_rfl) ⟨?_, trivial⟩
                    · refine XR.efX E0_ok [0, 1, 7, 8, 9, 25, 30] rfl (d := (some (path 12 25))) (f := eAppend false 2 16 83 (src 41 (.tmp 23)) (src 41 (.tmp 24))) (by kernel_rfl) (fun _ => eAppendA_ok) (e_appendA encP_ok (bytes := 16) (e := 83) (x := (src 41 (.tmp 23))) (y := (src 41 (.tmp 24))) (b := 3) (len := 0) (cap := 0) (xs := []) (n := lh2_1.length) (ys := lh2_1) (n' := lh2_1.length) (h' := [(5, .cells (rowC encP lh2_1) 0 83 2), (4, .cells [.int .i64 ((List.getD a (Int.toNat x9_1) (0, 0)).1), .int .i64 ((List.getD a (Int.toNat x9_1) (0, 0)).2)] 0 83 2), (2, .cells (rowC encP lh2_1) 0 83 2), (1, .cells (rowC (encI .i64) lh1_1) 0 3 1), (0, .cells (rowC encP a) z0 y0 2)]) (Y := .slice (some ⟨2, 0, none⟩) lh2_1.length lh2_1.length) (by kernel_rfl) (by kernel_rfl) (by kernel_rfl) (fetch_all encP_ok (ys := lh2_1) (fz := 0) (e := 83) (es := 2) (by kernel_rfl) (by simp) (Nat.le_refl _)) (by simp) rfl (by simp) (by simp) b2 (by simp) (by kernel_rfl)) (σ' := [(0, .slice (some ⟨0, 0, none⟩) a.length a.length), (1, .int .i64 b), (7, .slice (some ⟨1, 0, none⟩) lh1_1.length lh1_1.length), (8, .slice (some ⟨2, 0, none⟩) lh2_1.length lh2_1.length), (9, .int .i64 x9_1), (25, .slice (some ⟨5, 0, none⟩) lh2_1.length lh2_1.length), (30, .slice (some ⟨4, 0, none⟩) 1 1)]) (by kernel_rfl) ?_
                      refine XR.done (by kernel_rfl) ?_
                      refine ⟨rfl, ?_⟩
                      show XA _ _ _ _ _ _ _ _ _ _
                      refine XA.step E0_ok [8] (by kernel_rfl) rfl (by kernel_rfl) ⟨?_, trivial⟩
                      · refine XR.ef E0_ok [0, 1, 7, 8, 9, 31] rfl (e_append encP_ok (bytes := 16) (e := 83) (x := (src 41 (.tmp 25))) (y := (src 41 (.tmp 30))) (b := 5) (len := lh2_1.length) (cap := lh2_1.length) (xs := lh2_1) (m := 0) (ys := [((List.getD a (Int.toNat x9_1) (0, 0)).1, (List.getD a (Int.toNat x9_1) (0, 0)).2)]) (d := (some (path 12 31))) (n' := (lh2_1 ++ [((List.getD a (Int.toNat x9_1) (0, 0)).1, (List.getD a (Int.toNat x9_1) (0, 0)).2)]).length) (h' := [(6, .cells (rowC encP (lh2_1 ++ [((List.getD a (Int.toNat x9_1) (0, 0)).1, (List.getD a (Int.toNat x9_1) (0, 0)).2)])) 0 83 2), (4, .cells [.int .i64 ((List.getD a (Int.toNat x9_1) (0, 0)).1), .int .i64 ((List.getD a (Int.toNat x9_1) (0, 0)).2)] 0 83 2), (2, .cells (rowC encP lh2_1) 0 83 2), (1, .cells (rowC (encI .i64) lh1_1) 0 3 1), (0, .cells (rowC encP a) z0 y0 2)]) (by kernel_rfl) (by kernel_rfl) (by kernel_rfl) (by kernel_rfl) rfl (by simp) (by simp) b4 (by simp) (by kernel_rfl)) (σ' := [(0, .slice (some ⟨0, 0, none⟩) a.length a.length), (1, .int .i64 b), (7, .slice (some ⟨1, 0, none⟩) lh1_1.length lh1_1.length), (8, .slice (some ⟨2, 0, none⟩) lh2_1.length lh2_1.length), (9, .int .i64 x9_1), (31, .slice (some ⟨6, 0, none⟩) ((lh2_1 ++ [((List.getD a (Int.toNat x9_1) (0, 0)).1, (List.getD a (Int.toNat x9_1) (0, 0)).2)]).length) ((lh2_1 ++ [((List.getD a (Int.toNat x9_1) (0, 0)).1, (List.getD a (Int.toNat x9_1) (0, 0)).2)]).length))]) (by kernel_rfl) ?_
                        refine XR.done (by kernel_rfl) ?_
                        refine ⟨rfl, ?_⟩
                        show XA _ _ _ _ _ _ _ _ _ _
                        refine XA.step E0_ok [9] (by kernel_rfl) rfl (by kernel_rfl) ⟨?_, trivial⟩
                        · refine XR.run E0_ok 1 1 [0, 1, 7, 8, 9, 10] rfl (σ' := [(0, .slice (some ⟨0, 0, none⟩) a.length a.length), (1, .int .i64 b), (7, .slice (some ⟨1, 0, none⟩) lh1_1.length lh1_1.length), (8, .slice (some ⟨2, 0, none⟩) lh2_1.length lh2_1.length), (9, .int .i64 x9_1), (10, .slice (some ⟨6, 0, none⟩) ((lh2_1 ++ [((List.getD a (Int.toNat x9_1) (0, 0)).1, (List.getD a (Int.toNat x9_1) (0, 0)).2)]).length) ((lh2_1 ++ [((List.getD a (Int.toNat x9_1) (0, 0)).1, (List.getD a (Int.toNat x9_1) (0, 0)).2)]).length))]) (h' := [(6, .cells (rowC encP (lh2_1 ++ [((List.getD a (Int.toNat x9_1) (0, 0)).1, (List.getD a (Int.toNat x9_1) (0, 0)).2)])) 0 83 2), (4, .cells [.int .i64 ((List.getD a (Int.toNat x9_1) (0, 0)).1), .int .i64 ((List.getD a (Int.toNat x9_1) (0, 0)).2)] 0 83 2), (2, .cells (rowC encP lh2_1) 0 83 2), (1, .cells (rowC (encI .i64) lh1_1) 0 3 1), (0, .cells (rowC encP a) z0 y0 2)]) (c' := 7) (by kernel_rfl) ?_
                          refine XR.done (by kernel_rfl) ?_
                          refine ⟨rfl, ?_⟩
                          show XA _ _ _ _ _ _ _ _ _ _
                          refine XA.ren (σ' := [(0, .slice (some ⟨0, 0, none⟩) a.length a.length), (1, .int .i64 b), (7, .slice (some ⟨1, 0, none⟩) lh1_1.length lh1_1.length), (8, .slice (some ⟨2, 0, none⟩) lh2_1.length lh2_1.length), (9, .int .i64 x9_1), (10, .slice (some ⟨3, 0, none⟩) ((lh2_1 ++ [((List.getD a (Int.toNat x9_1) (0, 0)).1, (List.getD a (Int.toNat x9_1) (0, 0)).2)]).length) ((lh2_1 ++ [((List.getD a (Int.toNat x9_1) (0, 0)).1, (List.getD a (Int.toNat x9_1) (0, 0)).2)]).length))]) (h' := [(3, .cells (rowC encP (lh2_1 ++ [((List.getD a (Int.toNat x9_1) (0, 0)).1, (List.getD a (Int.toNat x9_1) (0, 0)).2)])) 0 83 2), (2, .cells (rowC encP lh2_1) 0 83 2), (1, .cells (rowC (encI .i64) lh1_1) 0 3 1), (0, .cells (rowC encP a) z0 y0 2)]) (c' := 4) [0, 1, 2, 6] (by decide) rfl ⟨by kernel_rfl, by kernel_rfl, by kernel_rfl, by kernel_rfl, by kernel_rfl, by kernel_rfl, trivial⟩ ⟨⟨_, _, rfl, rfl, .inl ⟨rfl, rowC_scal encP_ok _⟩⟩, ⟨_, _, rfl, rfl, .inl ⟨rfl, rowC_scal encP_ok _⟩⟩, ⟨_, _, rfl, rfl, .inl ⟨rfl, rowC_scal (encI_ok .i64) _⟩⟩, ⟨_, _, rfl, rfl, .inl ⟨rfl, rowC_scal encP_ok _⟩⟩, trivial⟩ rfl ?_
                          exact XA.done (by kernel_rfl) ⟨rfl, rfl⟩
                · refine XR.run E0_ok 1 1 [0, 1, 7, 8, 9, 24, 30] rfl (σ' := [(0, .slice (some ⟨0, 0, none⟩) a.length a.length), (1, .int .i64 b), (7, .slice (some ⟨1, 0, none⟩) lh1_1.length lh1_1.length), (8, .slice (some ⟨2, 0, none⟩) lh2_1.length lh2_1.length), (9, .int .i64 x9_1), (24, .slice (some ⟨2, 0, none⟩) lh2_1.length lh2_1.length), (30, .slice (some ⟨3, 0, none⟩) 1 1)]) (h' := [(3, .cells [.int .i64 ((List.getD a (Int.toNat x9_1) (0, 0)).1), .int .i64 ((List.getD a (Int.toNat x9_1) (0, 0)).2)] 0 83 2), (2, .cells (rowC encP lh2_1) 0 83 2), (1, .cells (rowC (encI .i64) lh1_1) 0 3 1), (0, .cells (rowC encP a) z0 y0 2)]) (c' := 4) (by kernel_rfl) ?_
                  refine XR.done (by kernel_rfl) ?_
                  refine ⟨rfl, ?_⟩
                  show XA _ _ _ _ _ _ _ _ _ _
                  refine XA.step E0_ok [0] (by kernel_rfl) rfl (by kernel_rfl) ⟨?_, trivial⟩
                  · refine XR.run E0_ok 1 1 [0, 1, 7, 8, 9, 23, 24, 30] rfl (σ' := [(0, .slice (some ⟨0, 0, none⟩) a.length a.length), (1, .int .i64 b), (7, .slice (some ⟨1, 0, none⟩) lh1_1.length lh1_1.length), (8, .slice (some ⟨2, 0, none⟩) lh2_1.length lh2_1.length), (9, .int .i64 x9_1), (23, .slice (some ⟨4, 0, none⟩) 0 0), (24, .slice (some ⟨2, 0, none⟩) lh2_1.length lh2_1.length), (30, .slice (some ⟨3, 0, none⟩) 1 1)]) (h' := [(4, .cells [] 0 83 2), (3, .cells [.int .i64 ((List.getD a (Int.toNat x9_1) (0, 0)).1), .int .i64 ((List.getD a (Int.toNat x9_1) (0, 0)).2)] 0 83 2), (2, .cells (rowC encP lh2_1) 0 83 2), (1, .cells (rowC (encI .i64) lh1_1) 0 3 1), (0, .cells (rowC encP a) z0 y0 2)]) (c' := 5) (by kernel_rfl) ?_
                    refine XR.done (by kernel_rfl) ?_
                    refine ⟨rfl, ?_⟩
                    show XA _ _ _ _ _ _ _ _ _ _
                    refine XA.step E0_ok [2] (by kernel_rfl) rfl (by kernel_rfl) ⟨?_, trivial⟩
                    · refine XR.efX E0_ok [0, 1, 7, 8, 9, 25, 30] rfl (d := (some (path 12 25))) (f := eAppend false 2 16 83 (src 41 (.tmp 23)) (src 41 (.tmp 24))) (by kernel_rfl) (fun _ => eAppendA_ok) (e_appendA encP_ok (bytes := 16) (e := 83) (x := (src 41 (.tmp 23))) (y := (src 41 (.tmp 24))) (b := 4) (len := 0) (cap := 0) (xs := []) (n := lh2_1.length) (ys := lh2_1) (n' := lh2_1.length) (h' := [(5, .cells (rowC encP lh2_1) 0 83 2), (3, .cells [.int .i64 ((List.getD a (Int.toNat x9_1) (0, 0)).1), .int .i64 ((List.getD a (Int.toNat x9_1) (0, 0)).2)] 0 83 2), (2, .cells (rowC encP lh2_1) 0 83 2), (1, .cells (rowC (encI .i64) lh1_1) 0 3 1), (0, .cells (rowC encP a) z0 y0 2)]) (Y := .slice (some ⟨2, 0, none⟩) lh2_1.length lh2_1.length) (by kernel_rfl) (by kernel_rfl) (by kernel_rfl) (fetch_all encP_ok (ys := lh2_1) (fz := 0) (e := 83) (es := 2) (by kernel_rfl) (by simp) (Nat.le_refl _)) (by simp) rfl (by simp) (by simp) b2 (by simp) (by kernel_rfl)) (σ' := [(0, .slice (some ⟨0, 0, none⟩) a.length a.length), (1, .int .i64 b), (7, .slice (some ⟨1, 0, none⟩) lh1_1.length lh1_1.length), (8, .slice (some ⟨2, 0, none⟩) lh2_1.length lh2_1.length), (9, .int .i64 x9_1), (25, .slice (some ⟨5, 0, none⟩) lh2_1.length lh2_1.length), (30, .slice (some ⟨3, 0, none⟩) 1 1)]) (by kernel_rfl) ?_
                      refine XR.done (by kernel_rfl) ?_
                      refine ⟨rfl, ?_⟩
                      show XA _ _ _ _ _ _ _ _ _ _
                      refine XA.step E0_ok [8] (by kernel_rfl) rfl (by kernel_rfl) ⟨?_, trivial⟩
                      · refine XR.ef E0_ok [0, 1, 7, 8, 9, 31] rfl (e_append encP_ok (bytes := 16) (e := 83) (x := (src 41 (.tmp 25))) (y := (src 41 (.tmp 30))) (b := 5) (len := lh2_1.length) (cap := lh2_1.length) (xs := lh2_1) (m := 0) (ys := [((List.getD a (Int.toNat x9_1) (0, 0)).1, (List.getD a (Int.toNat x9_1) (0, 0)).2)]) (d := (some (path 12 31))) (n' := (lh2_1 ++ [((List.getD a (Int.toNat x9_1) (0, 0)).1, (List.getD a (Int.toNat x9_1) (0, 0)).2)]).length) (h' := [(6, .cells (rowC encP (lh2_1 ++ [((List.getD a (Int.toNat x9_1) (0, 0)).1, (List.getD a (Int.toNat x9_1) (0, 0)).2)])) 0 83 2), (3, .cells [.int .i64 ((List.getD a (Int.toNat x9_1) (0, 0)).1), .int .i64 ((List.getD a (Int.toNat x9_1) (0, 0)).2)] 0 83 2), (2, .cells (rowC encP lh2_1) 0 83 2), (1, .cells (rowC (encI .i64) lh1_1) 0 3 1), (0, .cells (rowC encP a) z0 y0 2)]) (by kernel_rfl) (by kernel_rfl) (by kernel_rfl) (by kernel_rfl) rfl (by simp) (by simp) b4 (by simp) (by kernel_rfl)) (σ' := [(0, .slice (some ⟨0, 0, none⟩) a.length a.length), (1, .int .i64 b), (7, .slice (some ⟨1, 0, none⟩) lh1_1.length lh1_1.length), (8, .slice (some ⟨2, 0, none⟩) lh2_1.length lh2_1.length), (9, .int .i64 x9_1), (31, .slice (some ⟨6, 0, none⟩) ((lh2_1 ++ [((List.getD a (Int.toNat x9_1) (0, 0)).1, (List.getD a (Int.toNat x9_1) (0, 0)).2)]).length) ((lh2_1 ++ [((List.getD a (Int.toNat x9_1) (0, 0)).1, (List.getD a (Int.toNat x9_1) (0, 0)).2)]).length))]) (by kernel_rfl) ?_
                        refine XR.done (by kernel_rfl) ?_
                        refine ⟨rfl, ?_⟩
                        show XA _ _ _ _ _ _ _ _ _ _
                        refine XA.step E0_ok [9] (by kernel_rfl) rfl (by kernel_rfl) ⟨?_, trivial⟩
                        · refine XR.run E0_ok 1 1 [0, 1, 7, 8, 9, 10] rfl (σ' := [(0, .slice (some ⟨0, 0, none⟩) a.length a.length), (1, .int .i64 b), (7, .slice (some ⟨1, 0, none⟩) lh1_1.length lh1_1.length), (8, .slice (some ⟨2, 0, none⟩) lh2_1.length lh2_1.length), (9, .int .i64 x9_1), (10, .slice (some ⟨6, 0, none⟩) ((lh2_1 ++ [((List.getD a (Int.toNat x9_1) (0, 0)).1, (List.getD a (Int.toNat x9_1) (0, 0)).2)]).length) ((lh2_1 ++ [((List.getD a (Int.toNat x9_1) (0, 0)).1, (List.getD a (Int.toNat x9_1) (0, 0)).2)]).length))]) (h' := [(6, .cells (rowC encP (lh2_1 ++ [((List.getD a (Int.toNat x9_1) (0, 0)).1, (List.getD a (Int.toNat x9_1) (0, 0)).2)])) 0 83 2), (3, .cells [.int .i64 ((List.getD a (Int.toNat x9_1) (0, 0)).1), .int .i64 ((List.getD a (Int.toNat x9_1) (0, 0)).2)] 0 83 2), (2, .cells (rowC encP lh2_1) 0 83 2), (1, .cells (rowC (encI .i64) lh1_1) 0 3 1), (0, .cells (rowC encP a) z0 y0 2)]) (c' := 7) (by kernel_rfl) ?_
                          refine XR.done (by kernel_rfl) ?_
                          refine ⟨rfl, ?_⟩
                          show XA _ _ _ _ _ _ _ _ _ _
                          refine XA.ren (σ' := [(0, .slice (some ⟨0, 0, none⟩) a.length a.length), (1, .int .i64 b), (7, .slice (some ⟨1, 0, none⟩) lh1_1.length lh1_1.length), (8, .slice (some ⟨2, 0, none⟩) lh2_1.length lh2_1.length), (9, .int .i64 x9_1), (10, .slice (some ⟨3, 0, none⟩) ((lh2_1 ++ [((List.getD a (Int.toNat x9_1) (0, 0)).1, (List.getD a (Int.toNat x9_1) (0, 0)).2)]).length) ((lh2_1 ++ [((List.getD a (Int.toNat x9_1) (0, 0)).1, (List.getD a (Int.toNat x9_1) (0, 0)).2)]).length))]) (h' := [(3, .cells (rowC encP (lh2_1 ++ [((List.getD a (Int.toNat x9_1) (0, 0)).1, (List.getD a (Int.toNat x9_1) (0, 0)).2)])) 0 83 2), (2, .cells (rowC encP lh2_1) 0 83 2), (1, .cells (rowC (encI .i64) lh1_1) 0 3 1), (0, .cells (rowC encP a) z0 y0 2)]) (c' := 4) [0, 1, 2, 6] (by decide) rfl ⟨by kernel_rfl, by kernel_rfl, by kernel_rfl, by kernel_rfl, by kernel_rfl, by kernel_rfl, trivial⟩ ⟨⟨_, _, rfl, rfl, .inl ⟨rfl, rowC_scal encP_ok _⟩⟩, ⟨_, _, rfl, rfl, .inl ⟨rfl, rowC_scal encP_ok _⟩⟩, ⟨_, _, rfl, rfl, .inl ⟨rfl, rowC_scal (encI_ok .i64) _⟩⟩, ⟨_, _, rfl, rfl, .inl ⟨rfl, rowC_scal encP_ok _⟩⟩, trivial⟩ rfl ?_
                          exact XA.done (by kernel_rfl) ⟨rfl, rfl⟩
    | false =>
      have h := cF b1 h
      refine XQ.cond (s := (.tmp 20)) (b := false) (by kernel_rfl) (by kernel_rfl) (fun q => by cases q) (fun _ => ?_)
      refine XQ.ren (σ' := [(7, .slice (some ⟨1, 0, none⟩) lh1_1.length lh1_1.length)]) (h' := [(1, .cells (rowC (encI .i64) lh1_1) 0 3 1), (0, .cells (rowC encP a) z0 y0 2)]) (c' := 2) [0, 1] (by decide) rfl ⟨by kernel_rfl, trivial⟩ ⟨⟨_, _, rfl, rfl, .inl ⟨rfl, rowC_scal (encI_ok .i64) _⟩⟩, ⟨_, _, rfl, rfl, .inl ⟨rfl, rowC_scal encP_ok _⟩⟩, trivial⟩ rfl ?_
      refine XQ.exit (i := 0) (by kernel_rfl) ?_
      cases h
      exact hQ

def f34 (m : Nat) (a : List (Int × Int)) (b : Int) : Option ((List Int) × Int) :=
  (f59 m a b).bind fun r1 =>
    cond (r1 != 0) (
      some ([], r1)
    ) (
      (f34_1 m m a b 0 [] []).bind fun o1 =>
        some (o1, 0)
    )

theorem f34_ok (m : Nat) (z0 : Nat) (y0 : Nat) (a : List (Int × Int)) (b : Int) (o : (List Int) × Int) (h : f34 m a b = some o) : KC E0 34 [.slice (some ⟨0, 0, none⟩) a.length a.length, .int .i64 b] [(0, .cells (rowC encP a) z0 y0 2)] 1 (fun v h' c' => v = .tuple #[.slice (some ⟨1, 0, none⟩) o.1.length o.1.length, .int .i64 o.2] ∧ h' = [(1, .cells (rowC (encI .i64) o.1) 0 3 1)] ++ [(0, .cells (rowC encP a) z0 y0 2)] ∧ c' = 2) := by
  refine KC.bodyN E0_ok (F := Proofs.Try.f34) (by kernel_rfl) (code := f34_C34) (by kernel_rfl) (nt := 41) (by kernel_rfl) (rs := [.tmp 4, .tmp 5]) (by kernel_rfl) (by kernel_rfl) (σ := [(0, .slice (some ⟨0, 0, none⟩) a.length a.length), (1, .int .i64 b)]) (by kernel_rfl) ?_
  unfold f34 at h
  refine XQ.seq E0_ok (by kernel_rfl) ?_
  refine XQ.region (by kernel_rfl) ?_
  refine XR.run E0_ok 1 2 [0, 1] rfl (σ' := [(0, .slice (some ⟨0, 0, none⟩) a.length a.length), (1, .int .i64 b)]) (h' := [(0, .cells (rowC encP a) z0 y0 2)]) (c' := 1) (by kernel_rfl) ?_
  refine XR.done (by kernel_rfl) ?_
  show XQ _ _ _ _ _ _ _ _
  refine XQ.seq E0_ok (by kernel_rfl) ?_
  refine XQ.region (by kernel_rfl) ?_
  refine XR.run E0_ok 1 2 [0, 1, 11, 12] rfl (σ' := [(0, .slice (some ⟨0, 0, none⟩) a.length a.length), (1, .int .i64 b), (11, .slice (some ⟨0, 0, none⟩) a.length a.length), (12, .int .i64 b)]) (h' := [(0, .cells (rowC encP a) z0 y0 2)]) (c' := 1) (by kernel_rfl) ?_
  obtain ⟨r1, r1_h, h⟩ := bS h
  refine XR.call E0_ok [0, 1, 13] rfl (K := 59) (args := [.slice (some ⟨0, 0, none⟩) a.length a.length, .int .i64 b]) (d := (some (path 12 13))) (by kernel_rfl) (KQ.call (KC.quiet E0_ok (args0 := [.slice (some ⟨0, 0, none⟩) a.length a.length, .int .i64 b]) (h0 := [(0, .cells (rowC encP a) (z0 + ((rowC encP a).length + 1)) y0 2)]) (n := 1) (V := .int .i64 r1) [0] (f59_ok m (z0 + ((rowC encP a).length + 1)) y0 a b r1 r1_h) rfl (by rfl) (by decide) rfl (by kernel_rfl) ⟨⟨_, _, rfl, rfl, .inl ⟨rfl, rowC_scal encP_ok _⟩⟩, trivial⟩) rfl) ?_
  rintro _ _ _ ⟨rfl, rfl, rfl⟩
  refine XR.conv (σ' := [(0, .slice (some ⟨0, 0, none⟩) a.length a.length), (1, .int .i64 b), (13, .int .i64 r1)]) (h' := [(0, .cells (rowC encP a) z0 y0 2)]) (c' := 1) ?_ (by kernel_rfl)
  refine XR.run E0_ok 1 1 [0, 1, 6] rfl (σ' := [(0, .slice (some ⟨0, 0, none⟩) a.length a.length), (1, .int .i64 b), (6, .int .i64 r1)]) (h' := [(0, .cells (rowC encP a) z0 y0 2)]) (c' := 1) (by kernel_rfl) ?_
  refine XR.done (by kernel_rfl) ?_
  show XQ _ _ _ _ _ _ _ _
  refine XQ.seq E0_ok (by kernel_rfl) ?_
  refine XQ.seq E0_ok (by kernel_rfl) ?_
  refine XQ.region (by kernel_rfl) ?_
  refine XR.run E0_ok 1 2 [0, 1, 6, 15] rfl (σ' := [(0, .slice (some ⟨0, 0, none⟩) a.length a.length), (1, .int .i64 b), (6, .int .i64 r1), (15, .bool (r1 != 0))]) (h' := [(0, .cells (rowC encP a) z0 y0 2)]) (c' := 1) (by kernel_rfl) ?_
  refine XR.done (by kernel_rfl) ?_
  show XQ _ _ _ _ _ _ _ _
  cases b1 : (r1 != 0 : Bool) with
  | true =>
    have h := cT b1 h
    refine XQ.cond (s := (.tmp 15)) (b := true) (by kernel_rfl) (by kernel_rfl) (fun _ => ?_) (fun q => by cases q)
    refine XQ.seq E0_ok (by kernel_rfl) ?_
    refine XQ.region (by kernel_rfl) ?_
    refine XR.run E0_ok 1 3 [4, 5] rfl (σ' := [(4, .slice none 0 0), (5, .int .i64 r1)]) (h' := [(0, .cells (rowC encP a) z0 y0 2)]) (c' := 1) (by kernel_rfl) ?_
    refine XR.done (by kernel_rfl) ?_
    show XQ _ _ _ _ _ _ _ _
    refine XQ.ghost 3 1 rfl (σ' := [(4, .slice (some ⟨1, 0, none⟩) 0 0), (5, .int .i64 r1)]) (h' := [(0, .cells (rowC encP a) z0 y0 2)]) ⟨by kernel_rfl, by kernel_rfl, trivial⟩ ⟨⟨_, rfl, .inl rfl⟩, trivial⟩ ?_
    refine XQ.conv (σ' := [(4, .slice (some ⟨1, 0, none⟩) 0 0), (5, .int .i64 r1)]) (h' := [(1, .cells (rowC (encI .i64) []) 0 3 1), (0, .cells (rowC encP a) z0 y0 2)]) (c' := 2) ?_ (by kernel_rfl)
    refine XQ.ren (σ' := [(4, .slice (some ⟨1, 0, none⟩) 0 0), (5, .int .i64 r1)]) (h' := [(1, .cells (rowC (encI .i64) []) 0 3 1), (0, .cells (rowC encP a) z0 y0 2)]) (c' := 2) [0, 1] (by decide) rfl ⟨by kernel_rfl, by kernel_rfl, trivial⟩ ⟨⟨_, _, rfl, rfl, .inl ⟨rfl, rowC_scal (encI_ok .i64) _⟩⟩, ⟨_, _, rfl, rfl, .inl ⟨rfl, rowC_scal encP_ok _⟩⟩, trivial⟩ rfl ?_
    refine XQ.ret (by kernel_rfl) ?_
    have h := Option.some.inj h
    subst h
    exact ⟨fun i q => (by cases q), .tuple #[.slice (some ⟨1, 0, none⟩) 0 0, .int .i64 r1], (by kernel_rfl), (by kernel_rfl), (by kernel_rfl), rfl⟩
  | false =>
    have h := cF b1 h
    refine XQ.cond (s := (.tmp 15)) (b := false) (by kernel_rfl) (by kernel_rfl) (fun q => by cases q) (fun _ => ?_)
    refine XQ.skip (by kernel_rfl) ?_
    show XQ _ _ _ _ _ _ _ _
    refine XQ.seq E0_ok (by kernel_rfl) ?_
    refine XQ.region (by kernel_rfl) ?_
    refine XR.run E0_ok 1 1 [0, 1, 7] rfl (σ' := [(0, .slice (some ⟨0, 0, none⟩) a.length a.length), (1, .int .i64 b), (7, .slice none 0 0)]) (h' := [(0, .cells (rowC encP a) z0 y0 2)]) (c' := 1) (by kernel_rfl) ?_
    refine XR.done (by kernel_rfl) ?_
    show XQ _ _ _ _ _ _ _ _
    refine XQ.ghost 3 1 rfl (σ' := [(0, .slice (some ⟨0, 0, none⟩) a.length a.length), (1, .int .i64 b), (7, .slice (some ⟨1, 0, none⟩) 0 0)]) (h' := [(0, .cells (rowC encP a) z0 y0 2)]) ⟨by kernel_rfl, by kernel_rfl, by kernel_rfl, trivial⟩ ⟨⟨_, rfl, .inl rfl⟩, trivial⟩ ?_
    refine XQ.conv (σ' := [(0, .slice (some ⟨0, 0, none⟩) a.length a.length), (1, .int .i64 b), (7, .slice (some ⟨1, 0, none⟩) 0 0)]) (h' := [(1, .cells (rowC (encI .i64) []) 0 3 1), (0, .cells (rowC encP a) z0 y0 2)]) (c' := 2) ?_ (by kernel_rfl)
    refine XQ.seq E0_ok (by kernel_rfl) ?_
    refine XQ.region (by kernel_rfl) ?_
    refine XR.run E0_ok 1 1 [0, 1, 7, 8] rfl (σ' := [(0, .slice (some ⟨0, 0, none⟩) a.length a.length), (1, .int .i64 b), (7, .slice (some ⟨1, 0, none⟩) 0 0), (8, .slice none 0 0)]) (h' := [(1, .cells (rowC (encI .i64) []) 0 3 1), (0, .cells (rowC encP a) z0 y0 2)]) (c' := 2) (by kernel_rfl) ?_
    refine XR.done (by kernel_rfl) ?_
    show XQ _ _ _ _ _ _ _ _
    refine XQ.ghost 83 2 rfl (σ' := [(0, .slice (some ⟨0, 0, none⟩) a.length a.length), (1, .int .i64 b), (7, .slice (some ⟨1, 0, none⟩) 0 0), (8, .slice (some ⟨2, 0, none⟩) 0 0)]) (h' := [(1, .cells (rowC (encI .i64) []) 0 3 1), (0, .cells (rowC encP a) z0 y0 2)]) ⟨by kernel_rfl, by kernel_rfl, by kernel_rfl, by kernel_rfl, trivial⟩ ⟨⟨_, rfl, .inl rfl⟩, ⟨_, rfl, .inl rfl⟩, trivial⟩ ?_
    refine XQ.conv (σ' := [(0, .slice (some ⟨0, 0, none⟩) a.length a.length), (1, .int .i64 b), (7, .slice (some ⟨1, 0, none⟩) 0 0), (8, .slice (some ⟨2, 0, none⟩) 0 0)]) (h' := [(2, .cells (rowC encP []) 0 83 2), (1, .cells (rowC (encI .i64) []) 0 3 1), (0, .cells (rowC encP a) z0 y0 2)]) (c' := 3) ?_ (by kernel_rfl)
    refine XQ.seq E0_ok (by kernel_rfl) ?_
    refine XQ.seq E0_ok (by kernel_rfl) ?_
    refine XQ.region (by kernel_rfl) ?_
    refine XR.run E0_ok 1 1 [0, 1, 7, 8, 9] rfl (σ' := [(0, .slice (some ⟨0, 0, none⟩) a.length a.length), (1, .int .i64 b), (7, .slice (some ⟨1, 0, none⟩) 0 0), (8, .slice (some ⟨2, 0, none⟩) 0 0), (9, .int .i64 0)]) (h' := [(2, .cells (rowC encP []) 0 83 2), (1, .cells (rowC (encI .i64) []) 0 3 1), (0, .cells (rowC encP a) z0 y0 2)]) (c' := 3) (by kernel_rfl) ?_
    refine XR.done (by kernel_rfl) ?_
    show XQ _ _ _ _ _ _ _ _
    refine XQ.block (id := 0) (by kernel_rfl) ?_
    refine XQ.loop m (by kernel_rfl) ?_
    obtain ⟨o1, o1_h, h⟩ := bS h
    refine XL.ren (σ' := [(0, .slice (some ⟨0, 0, none⟩) a.length a.length), (1, .int .i64 b), (7, .slice (some ⟨1, 0, none⟩) 0 0), (8, .slice (some ⟨2, 0, none⟩) 0 0), (9, .int .i64 0)]) (h' := [(2, .cells (rowC encP []) 0 83 2), (1, .cells (rowC (encI .i64) []) 0 3 1), (0, .cells (rowC encP a) z0 y0 2)]) (c' := 3) [0, 1, 2] (by decide) rfl ⟨by kernel_rfl, by kernel_rfl, by kernel_rfl, by kernel_rfl, by kernel_rfl, trivial⟩ ⟨⟨_, _, rfl, rfl, .inl ⟨rfl, rowC_scal encP_ok _⟩⟩, ⟨_, _, rfl, rfl, .inl ⟨rfl, rowC_scal (encI_ok .i64) _⟩⟩, ⟨_, _, rfl, rfl, .inl ⟨rfl, rowC_scal encP_ok _⟩⟩, trivial⟩ rfl ?_
    refine XL.conv (f34_1_ok m m z0 y0 a b 0 [] [] o1 o1_h _ ?_) (by first | rfl | simp)
    show XQ _ _ _ _ _ _ _ _
    refine XQ.seq E0_ok (by kernel_rfl) ?_
    refine XQ.region (by kernel_rfl) ?_
    refine XR.run E0_ok 1 3 [4, 5] rfl (σ' := [(4, .slice (some ⟨1, 0, none⟩) o1.length o1.length), (5, .int .i64 0)]) (h' := [(1, .cells (rowC (encI .i64) o1) 0 3 1), (0, .cells (rowC encP a) z0 y0 2)]) (c' := 2) (by kernel_rfl) ?_
    refine XR.done (by kernel_rfl) ?_
    show XQ _ _ _ _ _ _ _ _
    refine XQ.ren (σ' := [(4, .slice (some ⟨1, 0, none⟩) o1.length o1.length), (5, .int .i64 0)]) (h' := [(1, .cells (rowC (encI .i64) o1) 0 3 1), (0, .cells (rowC encP a) z0 y0 2)]) (c' := 2) [0, 1] (by decide) rfl ⟨by kernel_rfl, by kernel_rfl, trivial⟩ ⟨⟨_, _, rfl, rfl, .inl ⟨rfl, rowC_scal (encI_ok .i64) _⟩⟩, ⟨_, _, rfl, rfl, .inl ⟨rfl, rowC_scal encP_ok _⟩⟩, trivial⟩ rfl ?_
    refine XQ.ret (by kernel_rfl) ?_
    have h := Option.some.inj h
    subst h
    exact ⟨fun i q => (by cases q), .tuple #[.slice (some ⟨1, 0, none⟩) o1.length o1.length, .int .i64 0], (by kernel_rfl), (by kernel_rfl), (by kernel_rfl), rfl⟩

end Go.Xm
