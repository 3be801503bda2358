/- What these functions of the program compute, as functions in Lean, and the proofs that they do: vitolalaw02.first. Conditions: none. -/
import Derived.Test.YtfdeihnkoaihfaaBa
import Derived.Test.YtfdeihnkoaihfaaCl
import Derived.Test.YtfdeihnkoaihfaaMt
namespace Go.Xm
open Go.RowKit
set_option linter.unusedVariables false
set_option linter.unusedSimpArgs false
set_option maxRecDepth 20000

/-! vitola/vitolalaw02.first -/
noncomputable def f42_C42 : Code := Proofs.Try.f42.body.getD .skip
noncomputable def f42_C47 : Code := Proofs.Try.f47.body.getD .skip
noncomputable def f42_C85 : Code := Proofs.Try.f85.body.getD .skip
noncomputable def f42_C84 : Code := Proofs.Try.f84.body.getD .skip
noncomputable def f42_L1 : Code := lft (lft (rgt (lft (rgt (rgt f42_C85)))))

inductive Of42_1 where
  | a (lh7_a1 : List Int) (lh9_a1 : List Int) (lh11_a1 : List Int)
  | b (lh7_b1 : List Int) (lh9_b1 : List Int)

inductive Of42_2 where
  | r (lh7_r2 : List Int) (lh9_r2 : List Int) (lh11_r2 : List Int)
  | x0 (lh7_x02 : List Int) (lh9_x02 : List Int)

def f42_2 (m : Nat) (F : (List (Int × Int)) → Int → Int → (List Int) → (List Int) → Option Of42_1) : Nat → List (Int × Int) → Int → Int → Int → List Int → List Int → Option Of42_2
  | 0, _, _, _, _, _, _ => none
  | fuel + 1, a, b, x0_1, x9_2, lh7_2, lh9_2 =>
    cond (inRow x0_1 a.length) (
      cond (decide (x9_2 ≤ ((List.getD a (Int.toNat x0_1) (0, 0)).2))) (
        cond (inRow x9_2 24) (
          cond (decide (Int.toNat x9_2 < lh9_2.length)) (
            cond (decide ((List.getD lh9_2 (Int.toNat x9_2) 0) < b)) (
              cond (inRow x0_1 lh7_2.length) (
                (F a b (w64 (x0_1 + 1)) (List.set lh7_2 (Int.toNat x0_1) x9_2) (List.set lh9_2 (Int.toNat x9_2) (w64 ((List.getD lh9_2 (Int.toNat x9_2) 0) + 1)))).bind fun r18_ =>
                  match r18_ with
                  | .a lh7_a1_18 lh9_a1_18 lh11_a1_18 =>
                    cond (decide (Int.toNat x9_2 < lh9_a1_18.length)) (
                      some (.r lh7_a1_18 (List.set lh9_a1_18 (Int.toNat x9_2) (w64 ((List.getD lh9_a1_18 (Int.toNat x9_2) 0) - 1))) lh11_a1_18)
                    ) none
                  | .b lh7_b1_18 lh9_b1_18 =>
                    cond (decide (Int.toNat x9_2 < lh9_b1_18.length)) (
                      f42_2 m F fuel a b x0_1 (w64 (x9_2 + 1)) lh7_b1_18 (List.set lh9_b1_18 (Int.toNat x9_2) (w64 ((List.getD lh9_b1_18 (Int.toNat x9_2) 0) - 1)))
                    ) none
              ) none
            ) (
              f42_2 m F fuel a b x0_1 (w64 (x9_2 + 1)) lh7_2 lh9_2
            )
          ) none
        ) none
      ) (
        some (.x0 lh7_2 lh9_2)
      )
    ) none

theorem f42_2_ok (m : Nat) (F : (List (Int × Int)) → Int → Int → (List Int) → (List Int) → Option Of42_1) (hF : ∀ (z0 : Nat) (y0 : Nat) (a : List (Int × Int)) (b : Int) (x0_1 : Int) (lh7_1 : List Int) (lh9_1 : List Int) (o : Of42_1), F a b x0_1 lh7_1 lh9_1 = some o → ∀ (R : Value → Heap → Nat → Prop), (match o with | .a lh7_a1 lh9_a1 lh11_a1 => R (.bool false) [(11, rc (encI .i64) lh11_a1 0 3 1), (10, .cells [.func (.func 85) #[] #[pp 4 0, pp 6 0, pp 8 0, pp 9 0, pp 5 0, pp 10 0]] 0 81 0), (9, rc (encI .i64) lh9_a1 0 88 0), (8, .cells [s0 7 lh7_a1.length] 0 23 0), (7, rc (encI .i64) lh7_a1 0 3 1), (6, .cells [.func (.func 84) #[] #[pp 1 0, pp 3 0]] 0 72 0), (5, .cells [ii b] 0 3 0), (4, .cells [s0 0 a.length] 0 22 0), (3, .cells [.bool true] 0 4 0), (2, rc (encI .i64) [] 0 3 1), (1, .cells [s0 11 lh11_a1.length] 0 23 0), (0, rc encP a z0 y0 2)] 12 | .b lh7_b1 lh9_b1 => R (.bool true) [(10, .cells [.func (.func 85) #[] #[pp 4 0, pp 6 0, pp 8 0, pp 9 0, pp 5 0, pp 10 0]] 0 81 0), (9, rc (encI .i64) lh9_b1 0 88 0), (8, .cells [s0 7 lh7_b1.length] 0 23 0), (7, rc (encI .i64) lh7_b1 0 3 1), (6, .cells [.func (.func 84) #[] #[pp 1 0, pp 3 0]] 0 72 0), (5, .cells [ii b] 0 3 0), (4, .cells [s0 0 a.length] 0 22 0), (3, .cells [.bool false] 0 4 0), (2, rc (encI .i64) [] 0 3 1), (1, .cells [s0 2 0] 0 23 0), (0, rc encP a z0 y0 2)] 11) → KC E0 85 [ii x0_1, pp 4 0, pp 6 0, pp 8 0, pp 9 0, pp 5 0, pp 10 0] [(10, .cells [.func (.func 85) #[] #[pp 4 0, pp 6 0, pp 8 0, pp 9 0, pp 5 0, pp 10 0]] 0 81 0), (9, rc (encI .i64) lh9_1 0 88 0), (8, .cells [s0 7 lh7_1.length] 0 23 0), (7, rc (encI .i64) lh7_1 0 3 1), (6, .cells [.func (.func 84) #[] #[pp 1 0, pp 3 0]] 0 72 0), (5, .cells [ii b] 0 3 0), (4, .cells [s0 0 a.length] 0 22 0), (3, .cells [.bool false] 0 4 0), (2, rc (encI .i64) [] 0 3 1), (1, .cells [s0 2 0] 0 23 0), (0, rc encP a z0 y0 2)] 11 R) : ∀ (fuel : Nat) (z0 : Nat) (y0 : Nat) (a : List (Int × Int)) (b : Int) (x0_1 : Int) (x9_2 : Int) (lh7_2 : List Int) (lh9_2 : List Int) (o : Of42_2), f42_2 m F fuel a b x0_1 x9_2 lh7_2 lh9_2 = some o → ∀ Q : QP, (match o with | .r lh7_r2 lh9_r2 lh11_r2 => Q .ret [(8, .bool false)] [(11, rc (encI .i64) lh11_r2 0 3 1), (10, .cells [.func (.func 85) #[] #[pp 4 0, pp 6 0, pp 8 0, pp 9 0, pp 5 0, pp 10 0]] 0 81 0), (9, rc (encI .i64) lh9_r2 0 88 0), (8, .cells [s0 7 lh7_r2.length] 0 23 0), (7, rc (encI .i64) lh7_r2 0 3 1), (6, .cells [.func (.func 84) #[] #[pp 1 0, pp 3 0]] 0 72 0), (5, .cells [ii b] 0 3 0), (4, .cells [s0 0 a.length] 0 22 0), (3, .cells [.bool true] 0 4 0), (2, rc (encI .i64) [] 0 3 1), (1, .cells [s0 11 lh11_r2.length] 0 23 0), (0, rc encP a z0 y0 2)] 12 | .x0 lh7_x02 lh9_x02 => Q (.exit 0) [] [(10, .cells [.func (.func 85) #[] #[pp 4 0, pp 6 0, pp 8 0, pp 9 0, pp 5 0, pp 10 0]] 0 81 0), (9, rc (encI .i64) lh9_x02 0 88 0), (8, .cells [s0 7 lh7_x02.length] 0 23 0), (7, rc (encI .i64) lh7_x02 0 3 1), (6, .cells [.func (.func 84) #[] #[pp 1 0, pp 3 0]] 0 72 0), (5, .cells [ii b] 0 3 0), (4, .cells [s0 0 a.length] 0 22 0), (3, .cells [.bool false] 0 4 0), (2, rc (encI .i64) [] 0 3 1), (1, .cells [s0 2 0] 0 23 0), (0, rc encP a z0 y0 2)] 11) → XL E0 57 11 fuel f42_L1 [(0, ii x0_1), (1, pp 4 0), (3, pp 8 0), (4, pp 9 0), (5, pp 5 0), (6, pp 10 0), (9, ii x9_2)] [(10, .cells [.func (.func 85) #[] #[pp 4 0, pp 6 0, pp 8 0, pp 9 0, pp 5 0, pp 10 0]] 0 81 0), (9, rc (encI .i64) lh9_2 0 88 0), (8, .cells [s0 7 lh7_2.length] 0 23 0), (7, rc (encI .i64) lh7_2 0 3 1), (6, .cells [.func (.func 84) #[] #[pp 1 0, pp 3 0]] 0 72 0), (5, .cells [ii b] 0 3 0), (4, .cells [s0 0 a.length] 0 22 0), (3, .cells [.bool false] 0 4 0), (2, rc (encI .i64) [] 0 3 1), (1, .cells [s0 2 0] 0 23 0), (0, rc encP a z0 y0 2)] 11 Q
  | 0, z0, y0, a, b, x0_1, x9_2, lh7_2, lh9_2, o, h, Q, hQ => by cases h
  | fuel + 1, z0, y0, a, b, x0_1, x9_2, lh7_2, lh9_2, o, h, Q, hQ => by
    unfold f42_2 at h
    refine XL.succ E0_ok ?_
    refine XQ.seq E0_ok (by kernel_rfl) ?_
    refine XQ.seq E0_ok (by kernel_rfl) ?_
    refine XQ.region (by kernel_rfl) ?_
    refine XR.runS E0_ok 1 3 [(0, ii x0_1), (1, pp 4 0), (3, pp 8 0), (4, pp 9 0), (5, pp 5 0), (6, pp 10 0), (9, ii x9_2), (23, ii x9_2), (24, s0 0 a.length), (25, ii x0_1)] rfl (by kernel_rfl) ?_
    cases b1 : (inRow x0_1 a.length : Bool) with
    | false => cases (cF b1 h)
    | true =>
      have h := cT b1 h
      refine XR.rd E0_ok [0, 1, 3, 4, 5, 6, 9, 23, 26] rfl (v := pp 0 ((Int.toNat x0_1) * 2)) (v_idx (s := 2) (x := (src 57 (.tmp 24))) (y := (src 57 (.tmp 25))) (b := 0) (o := 0) (len := a.length) (cap := a.length) (ik := .i64) (i := x0_1) (off := (Int.toNat x0_1) * 2) (d := (some (path 12 26))) (by kernel_rfl) (by kernel_rfl) (by kernel_rfl) b1 (by omega)) (σ' := [(0, ii x0_1), (1, pp 4 0), (3, pp 8 0), (4, pp 9 0), (5, pp 5 0), (6, pp 10 0), (9, ii x9_2), (23, ii x9_2), (26, pp 0 ((Int.toNat x0_1) * 2))]) (by kernel_rfl) ?_
      refine XR.runS E0_ok 1 1 [(0, ii x0_1), (1, pp 4 0), (3, pp 8 0), (4, pp 9 0), (5, pp 5 0), (6, pp 10 0), (9, ii x9_2), (23, ii x9_2), (27, pp 0 ((Int.toNat x0_1) * 2 + 1))] rfl (by kernel_rfl) ?_
      refine XR.rd E0_ok [0, 1, 3, 4, 5, 6, 9, 23, 28] rfl (v := ii ((List.getD a (Int.toNat x0_1) (0, 0)).2)) (v_load1 encP_ok (x := (src 57 (.tmp 27))) (b := 0) (off := (Int.toNat x0_1) * 2 + 1) (xs := a) (fz := z0) (e := y0) (es := 2) (d := (some (path 12 28))) (by kernel_rfl) (by kernel_rfl) (by kernel_rfl) (Int.toNat x0_1) 1 (0, 0) (by first | rfl | omega) (row_len (inRow_toNat b1) (by simp)) rfl rfl) (σ' := [(0, ii x0_1), (1, pp 4 0), (3, pp 8 0), (4, pp 9 0), (5, pp 5 0), (6, pp 10 0), (9, ii x9_2), (23, ii x9_2), (28, ii ((List.getD a (Int.toNat x0_1) (0, 0)).2))]) (by kernel_rfl) ?_
      refine XR.runS E0_ok 1 1 [(0, ii x0_1), (1, pp 4 0), (3, pp 8 0), (4, pp 9 0), (5, pp 5 0), (6, pp 10 0), (9, ii x9_2), (29, .bool (decide (x9_2 ≤ ((List.getD a (Int.toNat x0_1) (0, 0)).2))))] rfl (by kernel_rfl) ?_
      refine XR.done (by kernel_rfl) ?_
      show XQ _ _ _ _ _ _ _ _
      cases b2 : (decide (x9_2 ≤ ((List.getD a (Int.toNat x0_1) (0, 0)).2)) : Bool) with
      | true =>
        have h := cT b2 h
        refine XQ.cond (s := (.tmp 29)) (b := true) (by kernel_rfl) (by kernel_rfl) (fun _ => ?_) (fun q => by cases q)
        refine XQ.skip (by kernel_rfl) ?_
        show XQ _ _ _ _ _ _ _ _
        refine XQ.seq E0_ok (by kernel_rfl) ?_
        refine XQ.block (id := 1) (by kernel_rfl) ?_
        refine XQ.seq E0_ok (by kernel_rfl) ?_
        refine XQ.quiet E0_ok (by kernel_rfl) (by kernel_rfl) ?_
        refine XU.run E0_ok 1 1 [0, 1, 3, 4, 5, 6, 9, 32] rfl (σ' := [(0, ii x0_1), (1, pp 4 0), (3, pp 8 0), (4, pp 9 0), (5, pp 5 0), (6, pp 10 0), (9, ii x9_2), (32, ii x9_2)]) (by kernel_rfl) ?_
        cases b3 : (inRow x9_2 24 : Bool) with
        | false => cases (cF b3 h)
        | true =>
          have h := cT b3 h
          refine XU.rd E0_ok [0, 1, 3, 4, 5, 6, 9, 33] rfl (v := pp 9 ((Int.toNat x9_2) * 1)) (v_idxA (s := 1) (len := 24) (x := (src 57 (.tmp 4))) (y := (src 57 (.tmp 32))) (b := 9) (o := 0) (ik := .i64) (i := x9_2) (off := (Int.toNat x9_2) * 1) (d := (some (path 12 33))) (by kernel_rfl) (by kernel_rfl) (by kernel_rfl) b3 (by omega)) (σ' := [(0, ii x0_1), (1, pp 4 0), (3, pp 8 0), (4, pp 9 0), (5, pp 5 0), (6, pp 10 0), (9, ii x9_2), (33, pp 9 ((Int.toNat x9_2) * 1))]) (by kernel_rfl) ?_
          cases b4 : (decide (Int.toNat x9_2 < lh9_2.length) : Bool) with
          | false => cases (cF b4 h)
          | true =>
            have h := cT b4 h
            refine XU.rd E0_ok [0, 1, 3, 4, 5, 6, 9, 34] rfl (v := ii (List.getD lh9_2 (Int.toNat x9_2) 0)) (v_load1 (encI_ok .i64) (x := (src 57 (.tmp 33))) (b := 9) (off := (Int.toNat x9_2) * 1) (xs := lh9_2) (fz := 0) (e := 88) (es := 0) (d := (some (path 12 34))) (by kernel_rfl) (by kernel_rfl) (by kernel_rfl) (Int.toNat x9_2) 0 0 (by first | rfl | omega) (row_len b4 (by simp)) rfl rfl) (σ' := [(0, ii x0_1), (1, pp 4 0), (3, pp 8 0), (4, pp 9 0), (5, pp 5 0), (6, pp 10 0), (9, ii x9_2), (34, ii (List.getD lh9_2 (Int.toNat x9_2) 0))]) (by kernel_rfl) ?_
            refine XU.run E0_ok 1 2 [0, 1, 3, 4, 5, 6, 9, 36] rfl (σ' := [(0, ii x0_1), (1, pp 4 0), (3, pp 8 0), (4, pp 9 0), (5, pp 5 0), (6, pp 10 0), (9, ii x9_2), (36, .bool (decide ((List.getD lh9_2 (Int.toNat x9_2) 0) < b)))]) (by kernel_rfl) ?_
            refine XU.done (by kernel_rfl) ?_
            show XQ _ _ _ _ _ _ _ _
            cases b5 : (decide ((List.getD lh9_2 (Int.toNat x9_2) 0) < b) : Bool) with
            | true =>
              have h := cT b5 h
              refine XQ.cond (s := (.tmp 36)) (b := true) (by kernel_rfl) (by kernel_rfl) (fun _ => ?_) (fun q => by cases q)
              refine XQ.seq E0_ok (by kernel_rfl) ?_
              refine XQ.region (by kernel_rfl) ?_
              refine XR.runS E0_ok 1 1 [(0, ii x0_1), (1, pp 4 0), (3, pp 8 0), (4, pp 9 0), (5, pp 5 0), (6, pp 10 0), (9, ii x9_2), (37, ii x9_2)] rfl (by kernel_rfl) ?_
              refine XR.rd E0_ok [0, 1, 3, 4, 5, 6, 9, 37, 38] rfl (v := pp 9 ((Int.toNat x9_2) * 1)) (v_idxA (s := 1) (len := 24) (x := (src 57 (.tmp 4))) (y := (src 57 (.tmp 37))) (b := 9) (o := 0) (ik := .i64) (i := x9_2) (off := (Int.toNat x9_2) * 1) (d := (some (path 12 38))) (by kernel_rfl) (by kernel_rfl) (by kernel_rfl) b3 (by omega)) (σ' := [(0, ii x0_1), (1, pp 4 0), (3, pp 8 0), (4, pp 9 0), (5, pp 5 0), (6, pp 10 0), (9, ii x9_2), (37, ii x9_2), (38, pp 9 ((Int.toNat x9_2) * 1))]) (by kernel_rfl) ?_
              refine XR.rd E0_ok [0, 1, 3, 4, 5, 6, 9, 37, 39] rfl (v := ii (List.getD lh9_2 (Int.toNat x9_2) 0)) (v_load1 (encI_ok .i64) (x := (src 57 (.tmp 38))) (b := 9) (off := (Int.toNat x9_2) * 1) (xs := lh9_2) (fz := 0) (e := 88) (es := 0) (d := (some (path 12 39))) (by kernel_rfl) (by kernel_rfl) (by kernel_rfl) (Int.toNat x9_2) 0 0 (by first | rfl | omega) (row_len b4 (by simp)) rfl rfl) (σ' := [(0, ii x0_1), (1, pp 4 0), (3, pp 8 0), (4, pp 9 0), (5, pp 5 0), (6, pp 10 0), (9, ii x9_2), (37, ii x9_2), (39, ii (List.getD lh9_2 (Int.toNat x9_2) 0))]) (by kernel_rfl) ?_
              refine XR.runS E0_ok 1 1 [(0, ii x0_1), (1, pp 4 0), (3, pp 8 0), (4, pp 9 0), (5, pp 5 0), (6, pp 10 0), (9, ii x9_2), (37, ii x9_2), (40, ii (w64 ((List.getD lh9_2 (Int.toNat x9_2) 0) + 1)))] rfl (by kernel_rfl) ?_
              refine XR.rd E0_ok [0, 1, 3, 4, 5, 6, 9, 40, 41] rfl (v := pp 9 ((Int.toNat x9_2) * 1)) (v_idxA (s := 1) (len := 24) (x := (src 57 (.tmp 4))) (y := (src 57 (.tmp 37))) (b := 9) (o := 0) (ik := .i64) (i := x9_2) (off := (Int.toNat x9_2) * 1) (d := (some (path 12 41))) (by kernel_rfl) (by kernel_rfl) (by kernel_rfl) b3 (by omega)) (σ' := [(0, ii x0_1), (1, pp 4 0), (3, pp 8 0), (4, pp 9 0), (5, pp 5 0), (6, pp 10 0), (9, ii x9_2), (40, ii (w64 ((List.getD lh9_2 (Int.toNat x9_2) 0) + 1))), (41, pp 9 ((Int.toNat x9_2) * 1))]) (by kernel_rfl) ?_
              refine XR.ef E0_ok [0, 1, 3, 4, 5, 6, 9] rfl (e_store (encI_ok .i64) (size := 1) (x := (src 57 (.tmp 41))) (y := (src 57 (.tmp 40))) (b := 9) (off := (Int.toNat x9_2) * 1) (xs := lh9_2) (e := 88) (es := 0) (d := none) (h' := [(10, .cells [.func (.func 85) #[] #[pp 4 0, pp 6 0, pp 8 0, pp 9 0, pp 5 0, pp 10 0]] 0 81 0), (9, rc (encI .i64) (List.set lh9_2 (Int.toNat x9_2) (w64 ((List.getD lh9_2 (Int.toNat x9_2) 0) + 1))) 0 88 0), (8, .cells [s0 7 lh7_2.length] 0 23 0), (7, rc (encI .i64) lh7_2 0 3 1), (6, .cells [.func (.func 84) #[] #[pp 1 0, pp 3 0]] 0 72 0), (5, .cells [ii b] 0 3 0), (4, .cells [s0 0 a.length] 0 22 0), (3, .cells [.bool false] 0 4 0), (2, rc (encI .i64) [] 0 3 1), (1, .cells [s0 2 0] 0 23 0), (0, rc encP a z0 y0 2)]) (w := ii (w64 ((List.getD lh9_2 (Int.toNat x9_2) 0) + 1))) (ws := [ii (w64 ((List.getD lh9_2 (Int.toNat x9_2) 0) + 1))]) (a := w64 ((List.getD lh9_2 (Int.toNat x9_2) 0) + 1)) (by kernel_rfl) (by kernel_rfl) (by kernel_rfl) (Int.toNat x9_2) 0 0 (by first | rfl | omega) (row_len b4 (by simp)) (by kernel_rfl) rfl rfl rfl rfl rfl (by kernel_rfl)) (σ' := [(0, ii x0_1), (1, pp 4 0), (3, pp 8 0), (4, pp 9 0), (5, pp 5 0), (6, pp 10 0), (9, ii x9_2)]) (by kernel_rfl) ?_
              refine XR.done (by kernel_rfl) ?_
              show XQ _ _ _ _ _ _ _ _
              refine XQ.seq E0_ok (by kernel_rfl) ?_
              refine XQ.region (by kernel_rfl) ?_
              refine XR.runS E0_ok 1 3 [(0, ii x0_1), (1, pp 4 0), (3, pp 8 0), (4, pp 9 0), (5, pp 5 0), (6, pp 10 0), (9, ii x9_2), (42, s0 7 lh7_2.length), (43, ii x0_1), (44, ii x9_2)] rfl (by kernel_rfl) ?_
              cases b6 : (inRow x0_1 lh7_2.length : Bool) with
              | false => cases (cF b6 h)
              | true =>
                have h := cT b6 h
                refine XR.rd E0_ok [0, 1, 3, 4, 5, 6, 9, 44, 45] rfl (v := pp 7 ((Int.toNat x0_1) * 1)) (v_idx (s := 1) (x := (src 57 (.tmp 42))) (y := (src 57 (.tmp 43))) (b := 7) (o := 0) (len := lh7_2.length) (cap := lh7_2.length) (ik := .i64) (i := x0_1) (off := (Int.toNat x0_1) * 1) (d := (some (path 12 45))) (by kernel_rfl) (by kernel_rfl) (by kernel_rfl) b6 (by omega)) (σ' := [(0, ii x0_1), (1, pp 4 0), (3, pp 8 0), (4, pp 9 0), (5, pp 5 0), (6, pp 10 0), (9, ii x9_2), (44, ii x9_2), (45, pp 7 ((Int.toNat x0_1) * 1))]) (by kernel_rfl) ?_
                refine XR.ef E0_ok [0, 1, 3, 4, 5, 6, 9] rfl (e_store (encI_ok .i64) (size := 1) (x := (src 57 (.tmp 45))) (y := (src 57 (.tmp 44))) (b := 7) (off := (Int.toNat x0_1) * 1) (xs := lh7_2) (e := 3) (es := 1) (d := none) (h' := [(10, .cells [.func (.func 85) #[] #[pp 4 0, pp 6 0, pp 8 0, pp 9 0, pp 5 0, pp 10 0]] 0 81 0), (9, rc (encI .i64) (List.set lh9_2 (Int.toNat x9_2) (w64 ((List.getD lh9_2 (Int.toNat x9_2) 0) + 1))) 0 88 0), (8, .cells [s0 7 lh7_2.length] 0 23 0), (7, rc (encI .i64) (List.set lh7_2 (Int.toNat x0_1) x9_2) 0 3 1), (6, .cells [.func (.func 84) #[] #[pp 1 0, pp 3 0]] 0 72 0), (5, .cells [ii b] 0 3 0), (4, .cells [s0 0 a.length] 0 22 0), (3, .cells [.bool false] 0 4 0), (2, rc (encI .i64) [] 0 3 1), (1, .cells [s0 2 0] 0 23 0), (0, rc encP a z0 y0 2)]) (w := ii x9_2) (ws := [ii x9_2]) (a := x9_2) (by kernel_rfl) (by kernel_rfl) (by kernel_rfl) (Int.toNat x0_1) 0 0 (by first | rfl | omega) (row_len (inRow_toNat b6) (by simp)) (by kernel_rfl) rfl rfl rfl rfl rfl (by kernel_rfl)) (σ' := [(0, ii x0_1), (1, pp 4 0), (3, pp 8 0), (4, pp 9 0), (5, pp 5 0), (6, pp 10 0), (9, ii x9_2)]) (by kernel_rfl) ?_
                refine XR.done (by kernel_rfl) ?_
                show XQ _ _ _ _ _ _ _ _
                refine XQ.seq E0_ok (by kernel_rfl) ?_
                refine XQ.region (by kernel_rfl) ?_
                refine XR.runS E0_ok 1 3 [(0, ii x0_1), (1, pp 4 0), (3, pp 8 0), (4, pp 9 0), (5, pp 5 0), (6, pp 10 0), (9, ii x9_2), (46, .func (.func 85) #[] #[pp 4 0, pp 6 0, pp 8 0, pp 9 0, pp 5 0, pp 10 0]), (48, ii (w64 (x0_1 + 1)))] rfl (by kernel_rfl) ?_
                refine XR.conv (σ' := [(0, ii x0_1), (1, pp 4 0), (3, pp 8 0), (4, pp 9 0), (5, pp 5 0), (6, pp 10 0), (9, ii x9_2), (46, .func (.func 85) #[] #[pp 4 0, pp 6 0, pp 8 0, pp 9 0, pp 5 0, pp 10 0]), (48, ii (w64 (x0_1 + 1)))]) (h' := [(10, .cells [.func (.func 85) #[] #[pp 4 0, pp 6 0, pp 8 0, pp 9 0, pp 5 0, pp 10 0]] 0 81 0), (9, rc (encI .i64) (List.set lh9_2 (Int.toNat x9_2) (w64 ((List.getD lh9_2 (Int.toNat x9_2) 0) + 1))) 0 88 0), (8, .cells [s0 7 ((List.set lh7_2 (Int.toNat x0_1) x9_2).length)] 0 23 0), (7, rc (encI .i64) (List.set lh7_2 (Int.toNat x0_1) x9_2) 0 3 1), (6, .cells [.func (.func 84) #[] #[pp 1 0, pp 3 0]] 0 72 0), (5, .cells [ii b] 0 3 0), (4, .cells [s0 0 a.length] 0 22 0), (3, .cells [.bool false] 0 4 0), (2, rc (encI .i64) [] 0 3 1), (1, .cells [s0 2 0] 0 23 0), (0, rc encP a z0 y0 2)]) (c' := 11) ?_ (by simp only [List.length_set, List.length_replicate])
                obtain ⟨r18_, r18__h, h⟩ := bS h
                cases r18_ with
                | a lh7_a1_18 lh9_a1_18 lh11_a1_18 =>
                  dsimp only at h
                  refine XR.call E0_ok [0, 1, 3, 4, 5, 6, 9, 49] rfl (K := 85) (args := [ii (w64 (x0_1 + 1)), pp 4 0, pp 6 0, pp 8 0, pp 9 0, pp 5 0, pp 10 0]) (d := (some (path 12 49))) (by kernel_rfl) (hF z0 y0 a b (w64 (x0_1 + 1)) (List.set lh7_2 (Int.toNat x0_1) x9_2) (List.set lh9_2 (Int.toNat x9_2) (w64 ((List.getD lh9_2 (Int.toNat x9_2) 0) + 1))) (.a lh7_a1_18 lh9_a1_18 lh11_a1_18) r18__h (fun v h' c' => v = .bool false ∧ h' = [(11, rc (encI .i64) lh11_a1_18 0 3 1), (10, .cells [.func (.func 85) #[] #[pp 4 0, pp 6 0, pp 8 0, pp 9 0, pp 5 0, pp 10 0]] 0 81 0), (9, rc (encI .i64) lh9_a1_18 0 88 0), (8, .cells [s0 7 lh7_a1_18.length] 0 23 0), (7, rc (encI .i64) lh7_a1_18 0 3 1), (6, .cells [.func (.func 84) #[] #[pp 1 0, pp 3 0]] 0 72 0), (5, .cells [ii b] 0 3 0), (4, .cells [s0 0 a.length] 0 22 0), (3, .cells [.bool true] 0 4 0), (2, rc (encI .i64) [] 0 3 1), (1, .cells [s0 11 lh11_a1_18.length] 0 23 0), (0, rc encP a z0 y0 2)] ∧ c' = 12) ⟨rfl, rfl, rfl⟩) ?_
                  rintro _ _ _ ⟨rfl, rfl, rfl⟩
                  refine XR.conv (σ' := [(0, ii x0_1), (1, pp 4 0), (3, pp 8 0), (4, pp 9 0), (5, pp 5 0), (6, pp 10 0), (9, ii x9_2), (49, .bool false)]) (h' := [(11, rc (encI .i64) lh11_a1_18 0 3 1), (10, .cells [.func (.func 85) #[] #[pp 4 0, pp 6 0, pp 8 0, pp 9 0, pp 5 0, pp 10 0]] 0 81 0), (9, rc (encI .i64) lh9_a1_18 0 88 0), (8, .cells [s0 7 lh7_a1_18.length] 0 23 0), (7, rc (encI .i64) lh7_a1_18 0 3 1), (6, .cells [.func (.func 84) #[] #[pp 1 0, pp 3 0]] 0 72 0), (5, .cells [ii b] 0 3 0), (4, .cells [s0 0 a.length] 0 22 0), (3, .cells [.bool true] 0 4 0), (2, rc (encI .i64) [] 0 3 1), (1, .cells [s0 11 lh11_a1_18.length] 0 23 0), (0, rc encP a z0 y0 2)]) (c' := 12) ?_ (by kernel_rfl)
                  refine XR.runS E0_ok 1 1 [(0, ii x0_1), (1, pp 4 0), (3, pp 8 0), (4, pp 9 0), (5, pp 5 0), (6, pp 10 0), (9, ii x9_2), (10, .bool false)] rfl (by kernel_rfl) ?_
                  refine XR.done (by kernel_rfl) ?_
                  show XQ _ _ _ _ _ _ _ _
                  refine XQ.seq E0_ok (by kernel_rfl) ?_
                  refine XQ.region (by kernel_rfl) ?_
                  refine XR.runS E0_ok 1 1 [(0, ii x0_1), (1, pp 4 0), (3, pp 8 0), (4, pp 9 0), (5, pp 5 0), (6, pp 10 0), (9, ii x9_2), (10, .bool false), (50, ii x9_2)] rfl (by kernel_rfl) ?_
                  refine XR.rd E0_ok [0, 1, 3, 4, 5, 6, 9, 10, 50, 51] rfl (v := pp 9 ((Int.toNat x9_2) * 1)) (v_idxA (s := 1) (len := 24) (x := (src 57 (.tmp 4))) (y := (src 57 (.tmp 50))) (b := 9) (o := 0) (ik := .i64) (i := x9_2) (off := (Int.toNat x9_2) * 1) (d := (some (path 12 51))) (by kernel_rfl) (by kernel_rfl) (by kernel_rfl) b3 (by omega)) (σ' := [(0, ii x0_1), (1, pp 4 0), (3, pp 8 0), (4, pp 9 0), (5, pp 5 0), (6, pp 10 0), (9, ii x9_2), (10, .bool false), (50, ii x9_2), (51, pp 9 ((Int.toNat x9_2) * 1))]) (by kernel_rfl) ?_
                  cases b7 : (decide (Int.toNat x9_2 < lh9_a1_18.length) : Bool) with
                  | false => cases (cF b7 h)
                  | true =>
                    have h := cT b7 h
                    refine XR.rd E0_ok [0, 1, 3, 4, 5, 6, 9, 10, 50, 52] rfl (v := ii (List.getD lh9_a1_18 (Int.toNat x9_2) 0)) (v_load1 (encI_ok .i64) (x := (src 57 (.tmp 51))) (b := 9) (off := (Int.toNat x9_2) * 1) (xs := lh9_a1_18) (fz := 0) (e := 88) (es := 0) (d := (some (path 12 52))) (by kernel_rfl) (by kernel_rfl) (by kernel_rfl) (Int.toNat x9_2) 0 0 (by first | rfl | omega) (row_len b7 (by simp)) rfl rfl) (σ' := [(0, ii x0_1), (1, pp 4 0), (3, pp 8 0), (4, pp 9 0), (5, pp 5 0), (6, pp 10 0), (9, ii x9_2), (10, .bool false), (50, ii x9_2), (52, ii (List.getD lh9_a1_18 (Int.toNat x9_2) 0))]) (by kernel_rfl) ?_
                    refine XR.runS E0_ok 1 1 [(0, ii x0_1), (1, pp 4 0), (3, pp 8 0), (4, pp 9 0), (5, pp 5 0), (6, pp 10 0), (9, ii x9_2), (10, .bool false), (50, ii x9_2), (53, ii (w64 ((List.getD lh9_a1_18 (Int.toNat x9_2) 0) - 1)))] rfl (by kernel_rfl) ?_
                    refine XR.rd E0_ok [0, 1, 3, 4, 5, 6, 9, 10, 53, 54] rfl (v := pp 9 ((Int.toNat x9_2) * 1)) (v_idxA (s := 1) (len := 24) (x := (src 57 (.tmp 4))) (y := (src 57 (.tmp 50))) (b := 9) (o := 0) (ik := .i64) (i := x9_2) (off := (Int.toNat x9_2) * 1) (d := (some (path 12 54))) (by kernel_rfl) (by kernel_rfl) (by kernel_rfl) b3 (by omega)) (σ' := [(0, ii x0_1), (1, pp 4 0), (3, pp 8 0), (4, pp 9 0), (5, pp 5 0), (6, pp 10 0), (9, ii x9_2), (10, .bool false), (53, ii (w64 ((List.getD lh9_a1_18 (Int.toNat x9_2) 0) - 1))), (54, pp 9 ((Int.toNat x9_2) * 1))]) (by kernel_rfl) ?_
                    refine XR.ef E0_ok [0, 1, 3, 4, 5, 6, 9, 10] rfl (e_store (encI_ok .i64) (size := 1) (x := (src 57 (.tmp 54))) (y := (src 57 (.tmp 53))) (b := 9) (off := (Int.toNat x9_2) * 1) (xs := lh9_a1_18) (e := 88) (es := 0) (d := none) (h' := [(11, rc (encI .i64) lh11_a1_18 0 3 1), (10, .cells [.func (.func 85) #[] #[pp 4 0, pp 6 0, pp 8 0, pp 9 0, pp 5 0, pp 10 0]] 0 81 0), (9, rc (encI .i64) (List.set lh9_a1_18 (Int.toNat x9_2) (w64 ((List.getD lh9_a1_18 (Int.toNat x9_2) 0) - 1))) 0 88 0), (8, .cells [s0 7 lh7_a1_18.length] 0 23 0), (7, rc (encI .i64) lh7_a1_18 0 3 1), (6, .cells [.func (.func 84) #[] #[pp 1 0, pp 3 0]] 0 72 0), (5, .cells [ii b] 0 3 0), (4, .cells [s0 0 a.length] 0 22 0), (3, .cells [.bool true] 0 4 0), (2, rc (encI .i64) [] 0 3 1), (1, .cells [s0 11 lh11_a1_18.length] 0 23 0), (0, rc encP a z0 y0 2)]) (w := ii (w64 ((List.getD lh9_a1_18 (Int.toNat x9_2) 0) - 1))) (ws := [ii (w64 ((List.getD lh9_a1_18 (Int.toNat x9_2) 0) - 1))]) (a := w64 ((List.getD lh9_a1_18 (Int.toNat x9_2) 0) - 1)) (by kernel_rfl) (by kernel_rfl) (by kernel_rfl) (Int.toNat x9_2) 0 0 (by first | rfl | omega) (row_len b7 (by simp)) (by kernel_rfl) rfl rfl rfl rfl rfl (by kernel_rfl)) (σ' := [(0, ii x0_1), (1, pp 4 0), (3, pp 8 0), (4, pp 9 0), (5, pp 5 0), (6, pp 10 0), (9, ii x9_2), (10, .bool false)]) (by kernel_rfl) ?_
                    refine XR.done (by kernel_rfl) ?_
                    show XQ _ _ _ _ _ _ _ _
                    refine XQ.seq E0_ok (by kernel_rfl) ?_
                    refine XQ.region (by kernel_rfl) ?_
                    refine XR.runS E0_ok 1 2 [(0, ii x0_1), (1, pp 4 0), (3, pp 8 0), (4, pp 9 0), (5, pp 5 0), (6, pp 10 0), (9, ii x9_2), (56, .bool true)] rfl (by kernel_rfl) ?_
                    refine XR.done (by kernel_rfl) ?_
                    show XQ _ _ _ _ _ _ _ _
                    refine XQ.cond (s := (.tmp 56)) (b := true) (by kernel_rfl) (by kernel_rfl) (fun _ => ?_) (fun q => by cases q)
                    refine XQ.seq E0_ok (by kernel_rfl) ?_
                    refine XQ.region (by kernel_rfl) ?_
                    refine XR.runS E0_ok 1 1 [(8, .bool false)] rfl (by kernel_rfl) ?_
                    refine XR.done (by kernel_rfl) ?_
                    show XQ _ _ _ _ _ _ _ _
                    refine XQ.ren (σ' := [(8, .bool false)]) (h' := [(11, rc (encI .i64) lh11_a1_18 0 3 1), (10, .cells [.func (.func 85) #[] #[pp 4 0, pp 6 0, pp 8 0, pp 9 0, pp 5 0, pp 10 0]] 0 81 0), (9, rc (encI .i64) (List.set lh9_a1_18 (Int.toNat x9_2) (w64 ((List.getD lh9_a1_18 (Int.toNat x9_2) 0) - 1))) 0 88 0), (8, .cells [s0 7 lh7_a1_18.length] 0 23 0), (7, rc (encI .i64) lh7_a1_18 0 3 1), (6, .cells [.func (.func 84) #[] #[pp 1 0, pp 3 0]] 0 72 0), (5, .cells [ii b] 0 3 0), (4, .cells [s0 0 a.length] 0 22 0), (3, .cells [.bool true] 0 4 0), (2, rc (encI .i64) [] 0 3 1), (1, .cells [s0 11 lh11_a1_18.length] 0 23 0), (0, rc encP a z0 y0 2)]) (c' := 12) [0, 1, 2, 3, 4, 5, 6, 7, 8, 9, 10, 11] (by decide) rfl ⟨by kernel_rfl, trivial⟩ ⟨⟨_, _, rfl, rfl, .inl ⟨rfl, rowC_scal (encI_ok .i64) _⟩⟩, ⟨_, _, rfl, rfl, .inr ⟨_, _, _, _, rfl, rfl⟩⟩, ⟨_, _, rfl, rfl, .inl ⟨rfl, rowC_scal (encI_ok .i64) _⟩⟩, ⟨_, _, rfl, rfl, .inr ⟨_, _, _, _, rfl, rfl⟩⟩, ⟨_, _, rfl, rfl, .inl ⟨rfl, rowC_scal (encI_ok .i64) _⟩⟩, ⟨_, _, rfl, rfl, .inr ⟨_, _, _, _, rfl, rfl⟩⟩, ⟨_, _, rfl, rfl, .inr ⟨_, _, _, _, rfl, rfl⟩⟩, ⟨_, _, rfl, rfl, .inr ⟨_, _, _, _, rfl, rfl⟩⟩, ⟨_, _, rfl, rfl, .inr ⟨_, _, _, _, rfl, rfl⟩⟩, ⟨_, _, rfl, rfl, .inl ⟨rfl, rowC_scal (encI_ok .i64) _⟩⟩, ⟨_, _, rfl, rfl, .inr ⟨_, _, _, _, rfl, rfl⟩⟩, ⟨_, _, rfl, rfl, .inl ⟨rfl, rowC_scal encP_ok _⟩⟩, trivial⟩ rfl ?_
                    refine XQ.ret (by kernel_rfl) ?_
                    cases h
                    exact hQ
                | b lh7_b1_18 lh9_b1_18 =>
                  dsimp only at h
                  refine XR.call E0_ok [0, 1, 3, 4, 5, 6, 9, 49] rfl (K := 85) (args := [ii (w64 (x0_1 + 1)), pp 4 0, pp 6 0, pp 8 0, pp 9 0, pp 5 0, pp 10 0]) (d := (some (path 12 49))) (by kernel_rfl) (hF z0 y0 a b (w64 (x0_1 + 1)) (List.set lh7_2 (Int.toNat x0_1) x9_2) (List.set lh9_2 (Int.toNat x9_2) (w64 ((List.getD lh9_2 (Int.toNat x9_2) 0) + 1))) (.b lh7_b1_18 lh9_b1_18) r18__h (fun v h' c' => v = .bool true ∧ h' = [(10, .cells [.func (.func 85) #[] #[pp 4 0, pp 6 0, pp 8 0, pp 9 0, pp 5 0, pp 10 0]] 0 81 0), (9, rc (encI .i64) lh9_b1_18 0 88 0), (8, .cells [s0 7 lh7_b1_18.length] 0 23 0), (7, rc (encI .i64) lh7_b1_18 0 3 1), (6, .cells [.func (.func 84) #[] #[pp 1 0, pp 3 0]] 0 72 0), (5, .cells [ii b] 0 3 0), (4, .cells [s0 0 a.length] 0 22 0), (3, .cells [.bool false] 0 4 0), (2, rc (encI .i64) [] 0 3 1), (1, .cells [s0 2 0] 0 23 0), (0, rc encP a z0 y0 2)] ∧ c' = 11) ⟨rfl, rfl, rfl⟩) ?_
                  rintro _ _ _ ⟨rfl, rfl, rfl⟩
                  refine XR.conv (σ' := [(0, ii x0_1), (1, pp 4 0), (3, pp 8 0), (4, pp 9 0), (5, pp 5 0), (6, pp 10 0), (9, ii x9_2), (49, .bool true)]) (h' := [(10, .cells [.func (.func 85) #[] #[pp 4 0, pp 6 0, pp 8 0, pp 9 0, pp 5 0, pp 10 0]] 0 81 0), (9, rc (encI .i64) lh9_b1_18 0 88 0), (8, .cells [s0 7 lh7_b1_18.length] 0 23 0), (7, rc (encI .i64) lh7_b1_18 0 3 1), (6, .cells [.func (.func 84) #[] #[pp 1 0, pp 3 0]] 0 72 0), (5, .cells [ii b] 0 3 0), (4, .cells [s0 0 a.length] 0 22 0), (3, .cells [.bool false] 0 4 0), (2, rc (encI .i64) [] 0 3 1), (1, .cells [s0 2 0] 0 23 0), (0, rc encP a z0 y0 2)]) (c' := 11) ?_ (by kernel_rfl)
                  refine XR.runS E0_ok 1 1 [(0, ii x0_1), (1, pp 4 0), (3, pp 8 0), (4, pp 9 0), (5, pp 5 0), (6, pp 10 0), (9, ii x9_2), (10, .bool true)] rfl (by kernel_rfl) ?_
                  refine XR.done (by kernel_rfl) ?_
                  show XQ _ _ _ _ _ _ _ _
                  refine XQ.seq E0_ok (by kernel_rfl) ?_
                  refine XQ.region (by kernel_rfl) ?_
                  refine XR.runS E0_ok 1 1 [(0, ii x0_1), (1, pp 4 0), (3, pp 8 0), (4, pp 9 0), (5, pp 5 0), (6, pp 10 0), (9, ii x9_2), (10, .bool true), (50, ii x9_2)] rfl (by kernel_rfl) ?_
                  refine XR.rd E0_ok [0, 1, 3, 4, 5, 6, 9, 10, 50, 51] rfl (v := pp 9 ((Int.toNat x9_2) * 1)) (v_idxA (s := 1) (len := 24) (x := (src 57 (.tmp 4))) (y := (src 57 (.tmp 50))) (b := 9) (o := 0) (ik := .i64) (i := x9_2) (off := (Int.toNat x9_2) * 1) (d := (some (path 12 51))) (by kernel_rfl) (by kernel_rfl) (by kernel_rfl) b3 (by omega)) (σ' := [(0, ii x0_1), (1, pp 4 0), (3, pp 8 0), (4, pp 9 0), (5, pp 5 0), (6, pp 10 0), (9, ii x9_2), (10, .bool true), (50, ii x9_2), (51, pp 9 ((Int.toNat x9_2) * 1))]) (by kernel_rfl) ?_
                  cases b8 : (decide (Int.toNat x9_2 < lh9_b1_18.length) : Bool) with
                  | false => cases (cF b8 h)
                  | true =>
                    have h := cT b8 h
                    refine XR.rd E0_ok [0, 1, 3, 4, 5, 6, 9, 10, 50, 52] rfl (v := ii (List.getD lh9_b1_18 (Int.toNat x9_2) 0)) (v_load1 (encI_ok .i64) (x := (src 57 (.tmp 51))) (b := 9) (off := (Int.toNat x9_2) * 1) (xs := lh9_b1_18) (fz := 0) (e := 88) (es := 0) (d := (some (path 12 52))) (by kernel_rfl) (by kernel_rfl) (by kernel_rfl) (Int.toNat x9_2) 0 0 (by first | rfl | omega) (row_len b8 (by simp)) rfl rfl) (σ' := [(0, ii x0_1), (1, pp 4 0), (3, pp 8 0), (4, pp 9 0), (5, pp 5 0), (6, pp 10 0), (9, ii x9_2), (10, .bool true), (50, ii x9_2), (52, ii (List.getD lh9_b1_18 (Int.toNat x9_2) 0))]) (by kernel_rfl) ?_
                    refine XR.runS E0_ok 1 1 [(0, ii x0_1), (1, pp 4 0), (3, pp 8 0), (4, pp 9 0), (5, pp 5 0), (6, pp 10 0), (9, ii x9_2), (10, .bool true), (50, ii x9_2), (53, ii (w64 ((List.getD lh9_b1_18 (Int.toNat x9_2) 0) - 1)))] rfl (by kernel_rfl) ?_
                    refine XR.rd E0_ok [0, 1, 3, 4, 5, 6, 9, 10, 53, 54] rfl (v := pp 9 ((Int.toNat x9_2) * 1)) (v_idxA (s := 1) (len := 24) (x := (src 57 (.tmp 4))) (y := (src 57 (.tmp 50))) (b := 9) (o := 0) (ik := .i64) (i := x9_2) (off := (Int.toNat x9_2) * 1) (d := (some (path 12 54))) (by kernel_rfl) (by kernel_rfl) (by kernel_rfl) b3 (by omega)) (σ' := [(0, ii x0_1), (1, pp 4 0), (3, pp 8 0), (4, pp 9 0), (5, pp 5 0), (6, pp 10 0), (9, ii x9_2), (10, .bool true), (53, ii (w64 ((List.getD lh9_b1_18 (Int.toNat x9_2) 0) - 1))), (54, pp 9 ((Int.toNat x9_2) * 1))]) (by kernel_rfl) ?_
                    refine XR.ef E0_ok [0, 1, 3, 4, 5, 6, 9, 10] rfl (e_store (encI_ok .i64) (size := 1) (x := (src 57 (.tmp 54))) (y := (src 57 (.tmp 53))) (b := 9) (off := (Int.toNat x9_2) * 1) (xs := lh9_b1_18) (e := 88) (es := 0) (d := none) (h' := [(10, .cells [.func (.func 85) #[] #[pp 4 0, pp 6 0, pp 8 0, pp 9 0, pp 5 0, pp 10 0]] 0 81 0), (9, rc (encI .i64) (List.set lh9_b1_18 (Int.toNat x9_2) (w64 ((List.getD lh9_b1_18 (Int.toNat x9_2) 0) - 1))) 0 88 0), (8, .cells [s0 7 lh7_b1_18.length] 0 23 0), (7, rc (encI .i64) lh7_b1_18 0 3 1), (6, .cells [.func (.func 84) #[] #[pp 1 0, pp 3 0]] 0 72 0), (5, .cells [ii b] 0 3 0), (4, .cells [s0 0 a.length] 0 22 0), (3, .cells [.bool false] 0 4 0), (2, rc (encI .i64) [] 0 3 1), (1, .cells [s0 2 0] 0 23 0), (0, rc encP a z0 y0 2)]) (w := ii (w64 ((List.getD lh9_b1_18 (Int.toNat x9_2) 0) - 1))) (ws := [ii (w64 ((List.getD lh9_b1_18 (Int.toNat x9_2) 0) - 1))]) (a := w64 ((List.getD lh9_b1_18 (Int.toNat x9_2) 0) - 1)) (by kernel_rfl) (by kernel_rfl) (by kernel_rfl) (Int.toNat x9_2) 0 0 (by first | rfl | omega) (row_len b8 (by simp)) (by kernel_rfl) rfl rfl rfl rfl rfl (by kernel_rfl)) (σ' := [(0, ii x0_1), (1, pp 4 0), (3, pp 8 0), (4, pp 9 0), (5, pp 5 0), (6, pp 10 0), (9, ii x9_2), (10, .bool true)]) (by kernel_rfl) ?_
                    refine XR.done (by kernel_rfl) ?_
                    show XQ _ _ _ _ _ _ _ _
                    refine XQ.seq E0_ok (by kernel_rfl) ?_
                    refine XQ.region (by kernel_rfl) ?_
                    refine XR.runS E0_ok 1 2 [(0, ii x0_1), (1, pp 4 0), (3, pp 8 0), (4, pp 9 0), (5, pp 5 0), (6, pp 10 0), (9, ii x9_2), (56, .bool false)] rfl (by kernel_rfl) ?_
                    refine XR.done (by kernel_rfl) ?_
                    show XQ _ _ _ _ _ _ _ _
                    refine XQ.cond (s := (.tmp 56)) (b := false) (by kernel_rfl) (by kernel_rfl) (fun q => by cases q) (fun _ => ?_)
                    refine XQ.skip (by kernel_rfl) ?_
                    show XQ _ _ _ _ _ _ _ _
                    refine XQ.region (by kernel_rfl) ?_
                    refine XR.runS E0_ok 1 3 [(0, ii x0_1), (1, pp 4 0), (3, pp 8 0), (4, pp 9 0), (5, pp 5 0), (6, pp 10 0), (9, ii (w64 (x9_2 + 1)))] rfl (by kernel_rfl) ?_
                    refine XR.done (by kernel_rfl) ?_
                    show XL _ _ _ _ _ _ _ _ _
                    refine XL.ren (σ' := [(0, ii x0_1), (1, pp 4 0), (3, pp 8 0), (4, pp 9 0), (5, pp 5 0), (6, pp 10 0), (9, ii (w64 (x9_2 + 1)))]) (h' := [(10, .cells [.func (.func 85) #[] #[pp 4 0, pp 6 0, pp 8 0, pp 9 0, pp 5 0, pp 10 0]] 0 81 0), (9, rc (encI .i64) (List.set lh9_b1_18 (Int.toNat x9_2) (w64 ((List.getD lh9_b1_18 (Int.toNat x9_2) 0) - 1))) 0 88 0), (8, .cells [s0 7 lh7_b1_18.length] 0 23 0), (7, rc (encI .i64) lh7_b1_18 0 3 1), (6, .cells [.func (.func 84) #[] #[pp 1 0, pp 3 0]] 0 72 0), (5, .cells [ii b] 0 3 0), (4, .cells [s0 0 a.length] 0 22 0), (3, .cells [.bool false] 0 4 0), (2, rc (encI .i64) [] 0 3 1), (1, .cells [s0 2 0] 0 23 0), (0, rc encP a z0 y0 2)]) (c' := 11) [0, 1, 2, 3, 4, 5, 6, 7, 8, 9, 10] (by decide) rfl ⟨by kernel_rfl, by kernel_rfl, by kernel_rfl, by kernel_rfl, by kernel_rfl, by kernel_rfl, by kernel_rfl, trivial⟩ ⟨⟨_, _, rfl, rfl, .inr ⟨_, _, _, _, rfl, rfl⟩⟩, ⟨_, _, rfl, rfl, .inl ⟨rfl, rowC_scal (encI_ok .i64) _⟩⟩, ⟨_, _, rfl, rfl, .inr ⟨_, _, _, _, rfl, rfl⟩⟩, ⟨_, _, rfl, rfl, .inl ⟨rfl, rowC_scal (encI_ok .i64) _⟩⟩, ⟨_, _, rfl, rfl, .inr ⟨_, _, _, _, rfl, rfl⟩⟩, ⟨_, _, rfl, rfl, .inr ⟨_, _, _, _, rfl, rfl⟩⟩, ⟨_, _, rfl, rfl, .inr ⟨_, _, _, _, rfl, rfl⟩⟩, ⟨_, _, rfl, rfl, .inr ⟨_, _, _, _, rfl, rfl⟩⟩, ⟨_, _, rfl, rfl, .inl ⟨rfl, rowC_scal (encI_ok .i64) _⟩⟩, ⟨_, _, rfl, rfl, .inr ⟨_, _, _, _, rfl, rfl⟩⟩, ⟨_, _, rfl, rfl, .inl ⟨rfl, rowC_scal encP_ok _⟩⟩, trivial⟩ rfl ?_
                    refine XL.conv (f42_2_ok m F hF fuel z0 y0 a b x0_1 (w64 (x9_2 + 1)) lh7_b1_18 (List.set lh9_b1_18 (Int.toNat x9_2) (w64 ((List.getD lh9_b1_18 (Int.toNat x9_2) 0) - 1))) o h Q hQ) (by first | rfl | simp)
            | false =>
              have h := cF b5 h
              refine XQ.cond (s := (.tmp 36)) (b := false) (by kernel_rfl) (by kernel_rfl) (fun q => by cases q) (fun _ => ?_)
              refine XQ.skip (by kernel_rfl) ?_
              show XQ _ _ _ _ _ _ _ _
              refine XQ.region (by kernel_rfl) ?_
              refine XR.runS E0_ok 1 3 [(0, ii x0_1), (1, pp 4 0), (3, pp 8 0), (4, pp 9 0), (5, pp 5 0), (6, pp 10 0), (9, ii (w64 (x9_2 + 1)))] rfl (by kernel_rfl) ?_
              refine XR.done (by kernel_rfl) ?_
              show XL _ _ _ _ _ _ _ _ _
              refine XL.ren (σ' := [(0, ii x0_1), (1, pp 4 0), (3, pp 8 0), (4, pp 9 0), (5, pp 5 0), (6, pp 10 0), (9, ii (w64 (x9_2 + 1)))]) (h' := [(10, .cells [.func (.func 85) #[] #[pp 4 0, pp 6 0, pp 8 0, pp 9 0, pp 5 0, pp 10 0]] 0 81 0), (9, rc (encI .i64) lh9_2 0 88 0), (8, .cells [s0 7 lh7_2.length] 0 23 0), (7, rc (encI .i64) lh7_2 0 3 1), (6, .cells [.func (.func 84) #[] #[pp 1 0, pp 3 0]] 0 72 0), (5, .cells [ii b] 0 3 0), (4, .cells [s0 0 a.length] 0 22 0), (3, .cells [.bool false] 0 4 0), (2, rc (encI .i64) [] 0 3 1), (1, .cells [s0 2 0] 0 23 0), (0, rc encP a z0 y0 2)]) (c' := 11) [0, 1, 2, 3, 4, 5, 6, 7, 8, 9, 10] (by decide) rfl ⟨by kernel_rfl, by kernel_rfl, by kernel_rfl, by kernel_rfl, by kernel_rfl, by kernel_rfl, by kernel_rfl, trivial⟩ ⟨⟨_, _, rfl, rfl, .inr ⟨_, _, _, _, rfl, rfl⟩⟩, ⟨_, _, rfl, rfl, .inl ⟨rfl, rowC_scal (encI_ok .i64) _⟩⟩, ⟨_, _, rfl, rfl, .inr ⟨_, _, _, _, rfl, rfl⟩⟩, ⟨_, _, rfl, rfl, .inl ⟨rfl, rowC_scal (encI_ok .i64) _⟩⟩, ⟨_, _, rfl, rfl, .inr ⟨_, _, _, _, rfl, rfl⟩⟩, ⟨_, _, rfl, rfl, .inr ⟨_, _, _, _, rfl, rfl⟩⟩, ⟨_, _, rfl, rfl, .inr ⟨_, _, _, _, rfl, rfl⟩⟩, ⟨_, _, rfl, rfl, .inr ⟨_, _, _, _, rfl, rfl⟩⟩, ⟨_, _, rfl, rfl, .inl ⟨rfl, rowC_scal (encI_ok .i64) _⟩⟩, ⟨_, _, rfl, rfl, .inr ⟨_, _, _, _, rfl, rfl⟩⟩, ⟨_, _, rfl, rfl, .inl ⟨rfl, rowC_scal encP_ok _⟩⟩, trivial⟩ rfl ?_
              refine XL.conv (f42_2_ok m F hF fuel z0 y0 a b x0_1 (w64 (x9_2 + 1)) lh7_2 lh9_2 o h Q hQ) (by first | rfl | simp)
      | false =>
        have h := cF b2 h
        refine XQ.cond (s := (.tmp 29)) (b := false) (by kernel_rfl) (by kernel_rfl) (fun q => by cases q) (fun _ => ?_)
        refine XQ.ren (σ' := []) (h' := [(10, .cells [.func (.func 85) #[] #[pp 4 0, pp 6 0, pp 8 0, pp 9 0, pp 5 0, pp 10 0]] 0 81 0), (9, rc (encI .i64) lh9_2 0 88 0), (8, .cells [s0 7 lh7_2.length] 0 23 0), (7, rc (encI .i64) lh7_2 0 3 1), (6, .cells [.func (.func 84) #[] #[pp 1 0, pp 3 0]] 0 72 0), (5, .cells [ii b] 0 3 0), (4, .cells [s0 0 a.length] 0 22 0), (3, .cells [.bool false] 0 4 0), (2, rc (encI .i64) [] 0 3 1), (1, .cells [s0 2 0] 0 23 0), (0, rc encP a z0 y0 2)]) (c' := 11) [0, 1, 2, 3, 4, 5, 6, 7, 8, 9, 10] (by decide) rfl trivial ⟨⟨_, _, rfl, rfl, .inr ⟨_, _, _, _, rfl, rfl⟩⟩, ⟨_, _, rfl, rfl, .inl ⟨rfl, rowC_scal (encI_ok .i64) _⟩⟩, ⟨_, _, rfl, rfl, .inr ⟨_, _, _, _, rfl, rfl⟩⟩, ⟨_, _, rfl, rfl, .inl ⟨rfl, rowC_scal (encI_ok .i64) _⟩⟩, ⟨_, _, rfl, rfl, .inr ⟨_, _, _, _, rfl, rfl⟩⟩, ⟨_, _, rfl, rfl, .inr ⟨_, _, _, _, rfl, rfl⟩⟩, ⟨_, _, rfl, rfl, .inr ⟨_, _, _, _, rfl, rfl⟩⟩, ⟨_, _, rfl, rfl, .inr ⟨_, _, _, _, rfl, rfl⟩⟩, ⟨_, _, rfl, rfl, .inl ⟨rfl, rowC_scal (encI_ok .i64) _⟩⟩, ⟨_, _, rfl, rfl, .inr ⟨_, _, _, _, rfl, rfl⟩⟩, ⟨_, _, rfl, rfl, .inl ⟨rfl, rowC_scal encP_ok _⟩⟩, trivial⟩ rfl ?_
        refine XQ.exit (i := 0) (by kernel_rfl) ?_
        cases h
        exact hQ

def f42_1 (m : Nat) : Nat → (List (Int × Int)) → Int → Int → (List Int) → (List Int) → Option Of42_1
  | 0, _, _, _, _, _ => none
  | fuel + 1, a, b, x0_1, lh7_1, lh9_1 =>
    cond (x0_1 == ((a.length : Nat) : Int)) (
      cond (fitsB lh7_1.length 8) (
        some (.a lh7_1 lh9_1 lh7_1)
      ) none
    ) (
      cond (inRow x0_1 a.length) (
        (f42_2 m (f42_1 m fuel) m a b x0_1 ((List.getD a (Int.toNat x0_1) (0, 0)).1) lh7_1 lh9_1).bind fun o2 =>
          match o2 with
          | .r lh7_r2 lh9_r2 lh11_r2 =>
            some (.a lh7_r2 lh9_r2 lh11_r2)
          | .x0 lh7_x02 lh9_x02 =>
            some (.b lh7_x02 lh9_x02)
      ) none
    )

theorem f42_1_ok (m : Nat) : ∀ (fuel : Nat) (z0 : Nat) (y0 : Nat) (a : List (Int × Int)) (b : Int) (x0_1 : Int) (lh7_1 : List Int) (lh9_1 : List Int) (o : Of42_1), f42_1 m fuel a b x0_1 lh7_1 lh9_1 = some o → ∀ (R : Value → Heap → Nat → Prop), (match o with | .a lh7_a1 lh9_a1 lh11_a1 => R (.bool false) [(11, rc (encI .i64) lh11_a1 0 3 1), (10, .cells [.func (.func 85) #[] #[pp 4 0, pp 6 0, pp 8 0, pp 9 0, pp 5 0, pp 10 0]] 0 81 0), (9, rc (encI .i64) lh9_a1 0 88 0), (8, .cells [s0 7 lh7_a1.length] 0 23 0), (7, rc (encI .i64) lh7_a1 0 3 1), (6, .cells [.func (.func 84) #[] #[pp 1 0, pp 3 0]] 0 72 0), (5, .cells [ii b] 0 3 0), (4, .cells [s0 0 a.length] 0 22 0), (3, .cells [.bool true] 0 4 0), (2, rc (encI .i64) [] 0 3 1), (1, .cells [s0 11 lh11_a1.length] 0 23 0), (0, rc encP a z0 y0 2)] 12 | .b lh7_b1 lh9_b1 => R (.bool true) [(10, .cells [.func (.func 85) #[] #[pp 4 0, pp 6 0, pp 8 0, pp 9 0, pp 5 0, pp 10 0]] 0 81 0), (9, rc (encI .i64) lh9_b1 0 88 0), (8, .cells [s0 7 lh7_b1.length] 0 23 0), (7, rc (encI .i64) lh7_b1 0 3 1), (6, .cells [.func (.func 84) #[] #[pp 1 0, pp 3 0]] 0 72 0), (5, .cells [ii b] 0 3 0), (4, .cells [s0 0 a.length] 0 22 0), (3, .cells [.bool false] 0 4 0), (2, rc (encI .i64) [] 0 3 1), (1, .cells [s0 2 0] 0 23 0), (0, rc encP a z0 y0 2)] 11) → KC E0 85 [ii x0_1, pp 4 0, pp 6 0, pp 8 0, pp 9 0, pp 5 0, pp 10 0] [(10, .cells [.func (.func 85) #[] #[pp 4 0, pp 6 0, pp 8 0, pp 9 0, pp 5 0, pp 10 0]] 0 81 0), (9, rc (encI .i64) lh9_1 0 88 0), (8, .cells [s0 7 lh7_1.length] 0 23 0), (7, rc (encI .i64) lh7_1 0 3 1), (6, .cells [.func (.func 84) #[] #[pp 1 0, pp 3 0]] 0 72 0), (5, .cells [ii b] 0 3 0), (4, .cells [s0 0 a.length] 0 22 0), (3, .cells [.bool false] 0 4 0), (2, rc (encI .i64) [] 0 3 1), (1, .cells [s0 2 0] 0 23 0), (0, rc encP a z0 y0 2)] 11 R
  | 0, z0, y0, a, b, x0_1, lh7_1, lh9_1, o, h, R, hR => by cases h
  | fuel + 1, z0, y0, a, b, x0_1, lh7_1, lh9_1, o, h, R, hR => by
    refine KC.bodyN E0_ok (F := Proofs.Try.f85) (by kernel_rfl) (code := f42_C85) (by kernel_rfl) (nt := 57) (by kernel_rfl) (rs := [.tmp 8]) (by kernel_rfl) (by kernel_rfl) (σ := [(0, ii x0_1), (1, pp 4 0), (2, pp 6 0), (3, pp 8 0), (4, pp 9 0), (5, pp 5 0), (6, pp 10 0)]) (by kernel_rfl) ?_
    unfold f42_1 at h
    refine XQ.seq E0_ok (by kernel_rfl) ?_
    refine XQ.region (by kernel_rfl) ?_
    refine XR.runS E0_ok 1 1 [(0, ii x0_1), (1, pp 4 0), (2, pp 6 0), (3, pp 8 0), (4, pp 9 0), (5, pp 5 0), (6, pp 10 0)] rfl (by kernel_rfl) ?_
    refine XR.done (by kernel_rfl) ?_
    show XQ _ _ _ _ _ _ _ _
    refine XQ.seq E0_ok (by kernel_rfl) ?_
    refine XQ.seq E0_ok (by kernel_rfl) ?_
    refine XQ.region (by kernel_rfl) ?_
    refine XR.runS E0_ok 1 4 [(0, ii x0_1), (1, pp 4 0), (2, pp 6 0), (3, pp 8 0), (4, pp 9 0), (5, pp 5 0), (6, pp 10 0), (14, .bool (x0_1 == ((a.length : Nat) : Int)))] rfl (by kernel_rfl) ?_
    refine XR.done (by kernel_rfl) ?_
    show XQ _ _ _ _ _ _ _ _
    cases b1 : (x0_1 == ((a.length : Nat) : Int) : Bool) with
    | true =>
      have h := cT b1 h
      refine XQ.cond (s := (.tmp 14)) (b := true) (by kernel_rfl) (by kernel_rfl) (fun _ => ?_) (fun q => by cases q)
      refine XQ.seq E0_ok (by kernel_rfl) ?_
      refine XQ.region (by kernel_rfl) ?_
      refine XR.runS E0_ok 1 2 [(15, .func (.func 84) #[] #[pp 1 0, pp 3 0]), (16, s0 7 lh7_1.length)] rfl (by kernel_rfl) ?_
      refine XR.callK E0_ok [17] rfl (K := 84) (args := [s0 7 lh7_1.length, pp 1 0, pp 3 0]) (d := (some (path 12 17))) (by kernel_rfl) ?_
      refine KC.bodyN E0_ok (F := Proofs.Try.f84) (by kernel_rfl) (code := f42_C84) (by kernel_rfl) (nt := 7) (by kernel_rfl) (rs := [.tmp 4]) (by kernel_rfl) (by kernel_rfl) (σ := [(0, s0 7 lh7_1.length), (1, pp 1 0), (2, pp 3 0)]) (by kernel_rfl) ?_
      refine XQ.seq E0_ok (by kernel_rfl) ?_
      refine XQ.region (by kernel_rfl) ?_
      refine XR.runS E0_ok 1 1 [(0, s0 7 lh7_1.length), (1, pp 1 0), (2, pp 3 0)] rfl (by kernel_rfl) ?_
      refine XR.done (by kernel_rfl) ?_
      show XQ _ _ _ _ _ _ _ _
      refine XQ.seq E0_ok (by kernel_rfl) ?_
      refine XQ.region (by kernel_rfl) ?_
      refine XR.runS E0_ok 1 1 [(1, pp 1 0), (2, pp 3 0), (5, s0 7 lh7_1.length)] rfl (by kernel_rfl) ?_
      cases b2 : (fitsB lh7_1.length 8 : Bool) with
      | false => cases (cF b2 h)
      | true =>
        have h := cT b2 h
        refine XR.call E0_ok [1, 2, 6] rfl (K := 53) (args := [s0 7 lh7_1.length]) (d := (some (path 12 6))) (by kernel_rfl) (clone53_all (xs := lh7_1) (fz := 0) (e0 := 3) (es0 := 1) (c := 11) (by kernel_rfl) (by simp) (Nat.le_refl _) b2) ?_
        rintro _ _ _ ⟨rfl, rfl, rfl⟩
        refine XR.conv (σ' := [(1, pp 1 0), (2, pp 3 0), (6, s0 12 lh7_1.length)]) (h' := [(12, rc (encI .i64) lh7_1 0 3 1), (10, .cells [.func (.func 85) #[] #[pp 4 0, pp 6 0, pp 8 0, pp 9 0, pp 5 0, pp 10 0]] 0 81 0), (9, rc (encI .i64) lh9_1 0 88 0), (8, .cells [s0 7 lh7_1.length] 0 23 0), (7, rc (encI .i64) lh7_1 0 3 1), (6, .cells [.func (.func 84) #[] #[pp 1 0, pp 3 0]] 0 72 0), (5, .cells [ii b] 0 3 0), (4, .cells [s0 0 a.length] 0 22 0), (3, .cells [.bool false] 0 4 0), (2, rc (encI .i64) [] 0 3 1), (1, .cells [s0 2 0] 0 23 0), (0, rc encP a z0 y0 2)]) (c' := 13) ?_ (by kernel_rfl)
        refine XR.runT E0_ok 1 2 [] [(12, rc (encI .i64) lh7_1 0 3 1), (10, .cells [.func (.func 85) #[] #[pp 4 0, pp 6 0, pp 8 0, pp 9 0, pp 5 0, pp 10 0]] 0 81 0), (9, rc (encI .i64) lh9_1 0 88 0), (8, .cells [s0 7 lh7_1.length] 0 23 0), (7, rc (encI .i64) lh7_1 0 3 1), (6, .cells [.func (.func 84) #[] #[pp 1 0, pp 3 0]] 0 72 0), (5, .cells [ii b] 0 3 0), (4, .cells [s0 0 a.length] 0 22 0), (3, .cells [.bool true] 0 4 0), (2, rc (encI .i64) [] 0 3 1), (1, .cells [s0 12 lh7_1.length] 0 23 0), (0, rc encP a z0 y0 2)] 13 rfl (by kernel_rfl) ?_
        refine XR.done (by kernel_rfl) ?_
        show XQ _ _ _ _ _ _ _ _
        refine XQ.seq E0_ok (by kernel_rfl) ?_
        refine XQ.region (by kernel_rfl) ?_
        refine XR.runS E0_ok 1 1 [(4, .bool false)] rfl (by kernel_rfl) ?_
        refine XR.done (by kernel_rfl) ?_
        show XQ _ _ _ _ _ _ _ _
        refine XQ.ret (by kernel_rfl) ?_
        refine ⟨fun i q => (by cases q), .bool false, (by kernel_rfl), ?_⟩
        refine XR.conv (σ' := [(17, .bool false)]) (h' := [(12, rc (encI .i64) lh7_1 0 3 1), (10, .cells [.func (.func 85) #[] #[pp 4 0, pp 6 0, pp 8 0, pp 9 0, pp 5 0, pp 10 0]] 0 81 0), (9, rc (encI .i64) lh9_1 0 88 0), (8, .cells [s0 7 lh7_1.length] 0 23 0), (7, rc (encI .i64) lh7_1 0 3 1), (6, .cells [.func (.func 84) #[] #[pp 1 0, pp 3 0]] 0 72 0), (5, .cells [ii b] 0 3 0), (4, .cells [s0 0 a.length] 0 22 0), (3, .cells [.bool true] 0 4 0), (2, rc (encI .i64) [] 0 3 1), (1, .cells [s0 12 lh7_1.length] 0 23 0), (0, rc encP a z0 y0 2)]) (c' := 13) ?_ (by kernel_rfl)
        refine XR.runS E0_ok 1 1 [(8, .bool false)] rfl (by kernel_rfl) ?_
        refine XR.done (by kernel_rfl) ?_
        show XQ _ _ _ _ _ _ _ _
        refine XQ.ren (σ' := [(8, .bool false)]) (h' := [(11, rc (encI .i64) lh7_1 0 3 1), (10, .cells [.func (.func 85) #[] #[pp 4 0, pp 6 0, pp 8 0, pp 9 0, pp 5 0, pp 10 0]] 0 81 0), (9, rc (encI .i64) lh9_1 0 88 0), (8, .cells [s0 7 lh7_1.length] 0 23 0), (7, rc (encI .i64) lh7_1 0 3 1), (6, .cells [.func (.func 84) #[] #[pp 1 0, pp 3 0]] 0 72 0), (5, .cells [ii b] 0 3 0), (4, .cells [s0 0 a.length] 0 22 0), (3, .cells [.bool true] 0 4 0), (2, rc (encI .i64) [] 0 3 1), (1, .cells [s0 11 lh7_1.length] 0 23 0), (0, rc encP a z0 y0 2)]) (c' := 12) [0, 1, 2, 3, 4, 5, 6, 7, 8, 9, 10, 12] (by decide) rfl ⟨by kernel_rfl, trivial⟩ ⟨⟨_, _, rfl, rfl, .inl ⟨rfl, rowC_scal (encI_ok .i64) _⟩⟩, ⟨_, _, rfl, rfl, .inr ⟨_, _, _, _, rfl, rfl⟩⟩, ⟨_, _, rfl, rfl, .inl ⟨rfl, rowC_scal (encI_ok .i64) _⟩⟩, ⟨_, _, rfl, rfl, .inr ⟨_, _, _, _, rfl, rfl⟩⟩, ⟨_, _, rfl, rfl, .inl ⟨rfl, rowC_scal (encI_ok .i64) _⟩⟩, ⟨_, _, rfl, rfl, .inr ⟨_, _, _, _, rfl, rfl⟩⟩, ⟨_, _, rfl, rfl, .inr ⟨_, _, _, _, rfl, rfl⟩⟩, ⟨_, _, rfl, rfl, .inr ⟨_, _, _, _, rfl, rfl⟩⟩, ⟨_, _, rfl, rfl, .inr ⟨_, _, _, _, rfl, rfl⟩⟩, ⟨_, _, rfl, rfl, .inl ⟨rfl, rowC_scal (encI_ok .i64) _⟩⟩, ⟨_, _, rfl, rfl, .inr ⟨_, _, _, _, rfl, rfl⟩⟩, ⟨_, _, rfl, rfl, .inl ⟨rfl, rowC_scal encP_ok _⟩⟩, trivial⟩ rfl ?_
        refine XQ.ret (by kernel_rfl) ?_
        cases h
        exact ⟨fun i q => (by cases q), .bool false, (by kernel_rfl), (by first | exact hR | simpa only [List.length_set] using hR)⟩
    | false =>
      have h := cF b1 h
      refine XQ.cond (s := (.tmp 14)) (b := false) (by kernel_rfl) (by kernel_rfl) (fun q => by cases q) (fun _ => ?_)
      refine XQ.skip (by kernel_rfl) ?_
      show XQ _ _ _ _ _ _ _ _
      refine XQ.seq E0_ok (by kernel_rfl) ?_
      refine XQ.seq E0_ok (by kernel_rfl) ?_
      refine XQ.region (by kernel_rfl) ?_
      refine XR.runS E0_ok 1 2 [(0, ii x0_1), (1, pp 4 0), (3, pp 8 0), (4, pp 9 0), (5, pp 5 0), (6, pp 10 0), (18, s0 0 a.length), (19, ii x0_1)] rfl (by kernel_rfl) ?_
      cases b3 : (inRow x0_1 a.length : Bool) with
      | false => cases (cF b3 h)
      | true =>
        have h := cT b3 h
        refine XR.rd E0_ok [0, 1, 3, 4, 5, 6, 20] rfl (v := pp 0 ((Int.toNat x0_1) * 2)) (v_idx (s := 2) (x := (src 57 (.tmp 18))) (y := (src 57 (.tmp 19))) (b := 0) (o := 0) (len := a.length) (cap := a.length) (ik := .i64) (i := x0_1) (off := (Int.toNat x0_1) * 2) (d := (some (path 12 20))) (by kernel_rfl) (by kernel_rfl) (by kernel_rfl) b3 (by omega)) (σ' := [(0, ii x0_1), (1, pp 4 0), (3, pp 8 0), (4, pp 9 0), (5, pp 5 0), (6, pp 10 0), (20, pp 0 ((Int.toNat x0_1) * 2))]) (by kernel_rfl) ?_
        refine XR.runS E0_ok 1 1 [(0, ii x0_1), (1, pp 4 0), (3, pp 8 0), (4, pp 9 0), (5, pp 5 0), (6, pp 10 0), (21, pp 0 ((Int.toNat x0_1) * 2))] rfl (by kernel_rfl) ?_
        refine XR.rd E0_ok [0, 1, 3, 4, 5, 6, 22] rfl (v := ii ((List.getD a (Int.toNat x0_1) (0, 0)).1)) (v_load1 encP_ok (x := (src 57 (.tmp 21))) (b := 0) (off := (Int.toNat x0_1) * 2) (xs := a) (fz := z0) (e := y0) (es := 2) (d := (some (path 12 22))) (by kernel_rfl) (by kernel_rfl) (by kernel_rfl) (Int.toNat x0_1) 0 (0, 0) (by first | rfl | omega) (row_len (inRow_toNat b3) (by simp)) rfl rfl) (σ' := [(0, ii x0_1), (1, pp 4 0), (3, pp 8 0), (4, pp 9 0), (5, pp 5 0), (6, pp 10 0), (22, ii ((List.getD a (Int.toNat x0_1) (0, 0)).1))]) (by kernel_rfl) ?_
        refine XR.runS E0_ok 1 1 [(0, ii x0_1), (1, pp 4 0), (3, pp 8 0), (4, pp 9 0), (5, pp 5 0), (6, pp 10 0), (9, ii ((List.getD a (Int.toNat x0_1) (0, 0)).1))] rfl (by kernel_rfl) ?_
        refine XR.done (by kernel_rfl) ?_
        show XQ _ _ _ _ _ _ _ _
        refine XQ.block (id := 0) (by kernel_rfl) ?_
        refine XQ.loop m (by kernel_rfl) ?_
        obtain ⟨o2, o2_h, h⟩ := bS h
        refine XL.ren (σ' := [(0, ii x0_1), (1, pp 4 0), (3, pp 8 0), (4, pp 9 0), (5, pp 5 0), (6, pp 10 0), (9, ii ((List.getD a (Int.toNat x0_1) (0, 0)).1))]) (h' := [(10, .cells [.func (.func 85) #[] #[pp 4 0, pp 6 0, pp 8 0, pp 9 0, pp 5 0, pp 10 0]] 0 81 0), (9, rc (encI .i64) lh9_1 0 88 0), (8, .cells [s0 7 lh7_1.length] 0 23 0), (7, rc (encI .i64) lh7_1 0 3 1), (6, .cells [.func (.func 84) #[] #[pp 1 0, pp 3 0]] 0 72 0), (5, .cells [ii b] 0 3 0), (4, .cells [s0 0 a.length] 0 22 0), (3, .cells [.bool false] 0 4 0), (2, rc (encI .i64) [] 0 3 1), (1, .cells [s0 2 0] 0 23 0), (0, rc encP a z0 y0 2)]) (c' := 11) [0, 1, 2, 3, 4, 5, 6, 7, 8, 9, 10] (by decide) rfl ⟨by kernel_rfl, by kernel_rfl, by kernel_rfl, by kernel_rfl, by kernel_rfl, by kernel_rfl, by kernel_rfl, trivial⟩ ⟨⟨_, _, rfl, rfl, .inr ⟨_, _, _, _, rfl, rfl⟩⟩, ⟨_, _, rfl, rfl, .inl ⟨rfl, rowC_scal (encI_ok .i64) _⟩⟩, ⟨_, _, rfl, rfl, .inr ⟨_, _, _, _, rfl, rfl⟩⟩, ⟨_, _, rfl, rfl, .inl ⟨rfl, rowC_scal (encI_ok .i64) _⟩⟩, ⟨_, _, rfl, rfl, .inr ⟨_, _, _, _, rfl, rfl⟩⟩, ⟨_, _, rfl, rfl, .inr ⟨_, _, _, _, rfl, rfl⟩⟩, ⟨_, _, rfl, rfl, .inr ⟨_, _, _, _, rfl, rfl⟩⟩, ⟨_, _, rfl, rfl, .inr ⟨_, _, _, _, rfl, rfl⟩⟩, ⟨_, _, rfl, rfl, .inl ⟨rfl, rowC_scal (encI_ok .i64) _⟩⟩, ⟨_, _, rfl, rfl, .inr ⟨_, _, _, _, rfl, rfl⟩⟩, ⟨_, _, rfl, rfl, .inl ⟨rfl, rowC_scal encP_ok _⟩⟩, trivial⟩ rfl ?_
        cases o2 with
        | r lh7_r2 lh9_r2 lh11_r2 =>
          dsimp only at h
          refine XL.conv (f42_2_ok m (f42_1 m fuel) (f42_1_ok m fuel) m z0 y0 a b x0_1 ((List.getD a (Int.toNat x0_1) (0, 0)).1) lh7_1 lh9_1 (.r lh7_r2 lh9_r2 lh11_r2) o2_h _ ?_) (by first | rfl | simp)
          cases h
          exact ⟨fun i q => (by cases q), .bool false, (by kernel_rfl), (by first | exact hR | simpa only [List.length_set] using hR)⟩
        | x0 lh7_x02 lh9_x02 =>
          dsimp only at h
          refine XL.conv (f42_2_ok m (f42_1 m fuel) (f42_1_ok m fuel) m z0 y0 a b x0_1 ((List.getD a (Int.toNat x0_1) (0, 0)).1) lh7_1 lh9_1 (.x0 lh7_x02 lh9_x02) o2_h _ ?_) (by first | rfl | simp)
          show XQ _ _ _ _ _ _ _ _
          refine XQ.seq E0_ok (by kernel_rfl) ?_
          refine XQ.region (by kernel_rfl) ?_
          refine XR.runS E0_ok 1 1 [(8, .bool true)] rfl (by kernel_rfl) ?_
          refine XR.done (by kernel_rfl) ?_
          show XQ _ _ _ _ _ _ _ _
          refine XQ.ren (σ' := [(8, .bool true)]) (h' := [(10, .cells [.func (.func 85) #[] #[pp 4 0, pp 6 0, pp 8 0, pp 9 0, pp 5 0, pp 10 0]] 0 81 0), (9, rc (encI .i64) lh9_x02 0 88 0), (8, .cells [s0 7 lh7_x02.length] 0 23 0), (7, rc (encI .i64) lh7_x02 0 3 1), (6, .cells [.func (.func 84) #[] #[pp 1 0, pp 3 0]] 0 72 0), (5, .cells [ii b] 0 3 0), (4, .cells [s0 0 a.length] 0 22 0), (3, .cells [.bool false] 0 4 0), (2, rc (encI .i64) [] 0 3 1), (1, .cells [s0 2 0] 0 23 0), (0, rc encP a z0 y0 2)]) (c' := 11) [0, 1, 2, 3, 4, 5, 6, 7, 8, 9, 10] (by decide) rfl ⟨by kernel_rfl, trivial⟩ ⟨⟨_, _, rfl, rfl, .inr ⟨_, _, _, _, rfl, rfl⟩⟩, ⟨_, _, rfl, rfl, .inl ⟨rfl, rowC_scal (encI_ok .i64) _⟩⟩, ⟨_, _, rfl, rfl, .inr ⟨_, _, _, _, rfl, rfl⟩⟩, ⟨_, _, rfl, rfl, .inl ⟨rfl, rowC_scal (encI_ok .i64) _⟩⟩, ⟨_, _, rfl, rfl, .inr ⟨_, _, _, _, rfl, rfl⟩⟩, ⟨_, _, rfl, rfl, .inr ⟨_, _, _, _, rfl, rfl⟩⟩, ⟨_, _, rfl, rfl, .inr ⟨_, _, _, _, rfl, rfl⟩⟩, ⟨_, _, rfl, rfl, .inr ⟨_, _, _, _, rfl, rfl⟩⟩, ⟨_, _, rfl, rfl, .inl ⟨rfl, rowC_scal (encI_ok .i64) _⟩⟩, ⟨_, _, rfl, rfl, .inr ⟨_, _, _, _, rfl, rfl⟩⟩, ⟨_, _, rfl, rfl, .inl ⟨rfl, rowC_scal encP_ok _⟩⟩, trivial⟩ rfl ?_
          refine XQ.ret (by kernel_rfl) ?_
          cases h
          exact ⟨fun i q => (by cases q), .bool true, (by kernel_rfl), (by first | exact hR | simpa only [List.length_set] using hR)⟩

def f42 (m : Nat) (a : List (Int × Int)) (b : Int) : Option ((List Int) × Bool) :=
  cond (mkOK ((a.length : Nat) : Int) ((a.length : Nat) : Int) 8) (
    (f42_1 m m a b 0 (List.replicate (Int.toNat ((a.length : Nat) : Int)) 0) [0, 0, 0, 0, 0, 0, 0, 0, 0, 0, 0, 0, 0, 0, 0, 0, 0, 0, 0, 0, 0, 0, 0, 0]).bind fun r19_ =>
      match r19_ with
      | .a lh7_a1_19 lh9_a1_19 lh11_a1_19 =>
        some (lh11_a1_19, true)
      | .b lh7_b1_19 lh9_b1_19 =>
        some ([], false)
  ) none

theorem f42_ok (m : Nat) (z0 : Nat) (y0 : Nat) (a : List (Int × Int)) (b : Int) (o : (List Int) × Bool) (h : f42 m a b = some o) : KC E0 42 [s0 0 a.length, ii b] [(0, rc encP a z0 y0 2)] 1 (fun v h' c' => v = .tuple #[s0 1 o.1.length, .bool o.2] ∧ h' = [(1, rc (encI .i64) o.1 0 3 1)] ++ [(0, rc encP a z0 y0 2)] ∧ c' = 2) := by
  refine KC.bodyN E0_ok (F := Proofs.Try.f42) (by kernel_rfl) (code := f42_C42) (by kernel_rfl) (nt := 14) (by kernel_rfl) (rs := [.tmp 4, .tmp 5]) (by kernel_rfl) (by kernel_rfl) (σ := [(0, s0 0 a.length), (1, ii b)]) (by kernel_rfl) ?_
  unfold f42 at h
  refine XQ.seq E0_ok (by kernel_rfl) ?_
  refine XQ.region (by kernel_rfl) ?_
  refine XR.runS E0_ok 1 2 [(0, s0 0 a.length), (1, ii b)] rfl (by kernel_rfl) ?_
  refine XR.done (by kernel_rfl) ?_
  show XQ _ _ _ _ _ _ _ _
  refine XQ.seq E0_ok (by kernel_rfl) ?_
  refine XQ.region (by kernel_rfl) ?_
  refine XR.runT E0_ok 1 1 [(0, s0 0 a.length), (1, ii b), (6, pp 1 0)] [(1, .cells [.slice none 0 0] 0 23 0), (0, rc encP a z0 y0 2)] 2 rfl (by kernel_rfl) ?_
  refine XR.done (by kernel_rfl) ?_
  show XQ _ _ _ _ _ _ _ _
  refine XQ.ghost 3 1 rfl (σ' := [(0, s0 0 a.length), (1, ii b), (6, pp 1 0)]) (h' := [(1, .cells [s0 2 0] 0 23 0), (0, rc encP a z0 y0 2)]) ⟨by kernel_rfl, by kernel_rfl, by kernel_rfl, trivial⟩ ⟨⟨_, rfl, .inr ⟨_, _, _, _, rfl, rfl⟩⟩, ⟨_, rfl, .inl rfl⟩, trivial⟩ ?_
  refine XQ.conv (σ' := [(0, s0 0 a.length), (1, ii b), (6, pp 1 0)]) (h' := [(2, rc (encI .i64) [] 0 3 1), (1, .cells [s0 2 0] 0 23 0), (0, rc encP a z0 y0 2)]) (c' := 3) ?_ (by kernel_rfl)
  refine XQ.seq E0_ok (by kernel_rfl) ?_
  refine XQ.region (by kernel_rfl) ?_
  refine XR.runT E0_ok 1 2 [(0, s0 0 a.length), (1, ii b), (6, pp 1 0), (7, pp 3 0)] [(3, .cells [.bool false] 0 4 0), (2, rc (encI .i64) [] 0 3 1), (1, .cells [s0 2 0] 0 23 0), (0, rc encP a z0 y0 2)] 4 rfl (by kernel_rfl) ?_
  refine XR.done (by kernel_rfl) ?_
  show XQ _ _ _ _ _ _ _ _
  refine XQ.seq E0_ok (by kernel_rfl) ?_
  refine XQ.region (by kernel_rfl) ?_
  refine XR.runS E0_ok 1 3 [(6, pp 1 0), (7, pp 3 0), (8, s0 0 a.length), (9, ii b), (10, .func (.func 84) #[] #[pp 1 0, pp 3 0])] rfl (by kernel_rfl) ?_
  refine XR.callK E0_ok [6, 7] rfl (K := 47) (args := [s0 0 a.length, ii b, .func (.func 84) #[] #[pp 1 0, pp 3 0]]) (d := (some (path 12 11))) (by kernel_rfl) ?_
  refine KC.bodyN E0_ok (F := Proofs.Try.f47) (by kernel_rfl) (code := f42_C47) (by kernel_rfl) (nt := 15) (by kernel_rfl) (rs := []) (by kernel_rfl) (by kernel_rfl) (σ := [(0, s0 0 a.length), (1, ii b), (2, .func (.func 84) #[] #[pp 1 0, pp 3 0])]) (by kernel_rfl) ?_
  refine XQ.seq E0_ok (by kernel_rfl) ?_
  refine XQ.region (by kernel_rfl) ?_
  refine XR.runT E0_ok 1 3 [(3, pp 4 0), (4, pp 5 0), (5, pp 6 0)] [(6, .cells [.func (.func 84) #[] #[pp 1 0, pp 3 0]] 0 72 0), (5, .cells [ii b] 0 3 0), (4, .cells [s0 0 a.length] 0 22 0), (3, .cells [.bool false] 0 4 0), (2, rc (encI .i64) [] 0 3 1), (1, .cells [s0 2 0] 0 23 0), (0, rc encP a z0 y0 2)] 7 rfl (by kernel_rfl) ?_
  refine XR.done (by kernel_rfl) ?_
  show XQ _ _ _ _ _ _ _ _
  refine XQ.seq E0_ok (by kernel_rfl) ?_
  refine XQ.region (by kernel_rfl) ?_
  refine XR.runS E0_ok 1 2 [(3, pp 4 0), (4, pp 5 0), (5, pp 6 0), (10, ii ((a.length : Nat) : Int))] rfl (by kernel_rfl) ?_
  cases b1 : (mkOK ((a.length : Nat) : Int) ((a.length : Nat) : Int) 8 : Bool) with
  | false => cases (cF b1 h)
  | true =>
    have h := cT b1 h
    refine XR.ef E0_ok [3, 4, 5, 11] rfl (e_make (encI_ok .i64) (x := (src 15 (.tmp 10))) (y := (src 15 (.tmp 10))) (l := ((a.length : Nat) : Int)) (n := ((a.length : Nat) : Int)) (bytes := 8) (e := 3) (z := #[ii 0]) (d := (some (path 12 11))) (by kernel_rfl) (by kernel_rfl) (by kernel_rfl) 0 rfl (by kernel_rfl) b1) (σ' := [(3, pp 4 0), (4, pp 5 0), (5, pp 6 0), (11, s0 7 (Int.toNat ((a.length : Nat) : Int)))]) (by kernel_rfl) ?_
    refine XR.runT E0_ok 1 2 [(3, pp 4 0), (4, pp 5 0), (5, pp 6 0), (6, pp 8 0)] [(8, .cells [s0 7 (Int.toNat ((a.length : Nat) : Int))] 0 23 0), (7, rc (encI .i64) (List.replicate (Int.toNat ((a.length : Nat) : Int)) 0) 0 3 1), (6, .cells [.func (.func 84) #[] #[pp 1 0, pp 3 0]] 0 72 0), (5, .cells [ii b] 0 3 0), (4, .cells [s0 0 a.length] 0 22 0), (3, .cells [.bool false] 0 4 0), (2, rc (encI .i64) [] 0 3 1), (1, .cells [s0 2 0] 0 23 0), (0, rc encP a z0 y0 2)] 9 rfl (by kernel_rfl) ?_
    refine XR.done (by kernel_rfl) ?_
    show XQ _ _ _ _ _ _ _ _
    refine XQ.seq E0_ok (by kernel_rfl) ?_
    refine XQ.region (by kernel_rfl) ?_
    refine XR.runT E0_ok 1 1 [(3, pp 4 0), (4, pp 5 0), (5, pp 6 0), (6, pp 8 0), (7, pp 9 0)] [(9, .cells [ii 0, ii 0, ii 0, ii 0, ii 0, ii 0, ii 0, ii 0, ii 0, ii 0, ii 0, ii 0, ii 0, ii 0, ii 0, ii 0, ii 0, ii 0, ii 0, ii 0, ii 0, ii 0, ii 0, ii 0] 0 88 0), (8, .cells [s0 7 (Int.toNat ((a.length : Nat) : Int))] 0 23 0), (7, rc (encI .i64) (List.replicate (Int.toNat ((a.length : Nat) : Int)) 0) 0 3 1), (6, .cells [.func (.func 84) #[] #[pp 1 0, pp 3 0]] 0 72 0), (5, .cells [ii b] 0 3 0), (4, .cells [s0 0 a.length] 0 22 0), (3, .cells [.bool false] 0 4 0), (2, rc (encI .i64) [] 0 3 1), (1, .cells [s0 2 0] 0 23 0), (0, rc encP a z0 y0 2)] 10 rfl (by kernel_rfl) ?_
    refine XR.done (by kernel_rfl) ?_
    show XQ _ _ _ _ _ _ _ _
    refine XQ.seq E0_ok (by kernel_rfl) ?_
    refine XQ.region (by kernel_rfl) ?_
    refine XR.runT E0_ok 1 1 [(3, pp 4 0), (4, pp 5 0), (5, pp 6 0), (6, pp 8 0), (7, pp 9 0), (8, pp 10 0)] [(10, .cells [.nilFunc] 0 81 0), (9, .cells [ii 0, ii 0, ii 0, ii 0, ii 0, ii 0, ii 0, ii 0, ii 0, ii 0, ii 0, ii 0, ii 0, ii 0, ii 0, ii 0, ii 0, ii 0, ii 0, ii 0, ii 0, ii 0, ii 0, ii 0] 0 88 0), (8, .cells [s0 7 (Int.toNat ((a.length : Nat) : Int))] 0 23 0), (7, rc (encI .i64) (List.replicate (Int.toNat ((a.length : Nat) : Int)) 0) 0 3 1), (6, .cells [.func (.func 84) #[] #[pp 1 0, pp 3 0]] 0 72 0), (5, .cells [ii b] 0 3 0), (4, .cells [s0 0 a.length] 0 22 0), (3, .cells [.bool false] 0 4 0), (2, rc (encI .i64) [] 0 3 1), (1, .cells [s0 2 0] 0 23 0), (0, rc encP a z0 y0 2)] 11 rfl (by kernel_rfl) ?_
    refine XR.done (by kernel_rfl) ?_
    show XQ _ _ _ _ _ _ _ _
    refine XQ.seq E0_ok (by kernel_rfl) ?_
    refine XQ.region (by kernel_rfl) ?_
    refine XR.runT E0_ok 1 2 [(8, pp 10 0)] [(10, .cells [.func (.func 85) #[] #[pp 4 0, pp 6 0, pp 8 0, pp 9 0, pp 5 0, pp 10 0]] 0 81 0), (9, .cells [ii 0, ii 0, ii 0, ii 0, ii 0, ii 0, ii 0, ii 0, ii 0, ii 0, ii 0, ii 0, ii 0, ii 0, ii 0, ii 0, ii 0, ii 0, ii 0, ii 0, ii 0, ii 0, ii 0, ii 0] 0 88 0), (8, .cells [s0 7 (Int.toNat ((a.length : Nat) : Int))] 0 23 0), (7, rc (encI .i64) (List.replicate (Int.toNat ((a.length : Nat) : Int)) 0) 0 3 1), (6, .cells [.func (.func 84) #[] #[pp 1 0, pp 3 0]] 0 72 0), (5, .cells [ii b] 0 3 0), (4, .cells [s0 0 a.length] 0 22 0), (3, .cells [.bool false] 0 4 0), (2, rc (encI .i64) [] 0 3 1), (1, .cells [s0 2 0] 0 23 0), (0, rc encP a z0 y0 2)] 11 rfl (by kernel_rfl) ?_
    refine XR.done (by kernel_rfl) ?_
    show XQ _ _ _ _ _ _ _ _
    refine XQ.region (by kernel_rfl) ?_
    refine XR.runS E0_ok 1 1 [(13, .func (.func 85) #[] #[pp 4 0, pp 6 0, pp 8 0, pp 9 0, pp 5 0, pp 10 0])] rfl (by kernel_rfl) ?_
    refine XR.conv (σ' := [(13, .func (.func 85) #[] #[pp 4 0, pp 6 0, pp 8 0, pp 9 0, pp 5 0, pp 10 0])]) (h' := [(10, .cells [.func (.func 85) #[] #[pp 4 0, pp 6 0, pp 8 0, pp 9 0, pp 5 0, pp 10 0]] 0 81 0), (9, rc (encI .i64) [0, 0, 0, 0, 0, 0, 0, 0, 0, 0, 0, 0, 0, 0, 0, 0, 0, 0, 0, 0, 0, 0, 0, 0] 0 88 0), (8, .cells [s0 7 (Int.toNat ((a.length : Nat) : Int))] 0 23 0), (7, rc (encI .i64) (List.replicate (Int.toNat ((a.length : Nat) : Int)) 0) 0 3 1), (6, .cells [.func (.func 84) #[] #[pp 1 0, pp 3 0]] 0 72 0), (5, .cells [ii b] 0 3 0), (4, .cells [s0 0 a.length] 0 22 0), (3, .cells [.bool false] 0 4 0), (2, rc (encI .i64) [] 0 3 1), (1, .cells [s0 2 0] 0 23 0), (0, rc encP a z0 y0 2)]) (c' := 11) ?_ (by kernel_rfl)
    refine XR.conv (σ' := [(13, .func (.func 85) #[] #[pp 4 0, pp 6 0, pp 8 0, pp 9 0, pp 5 0, pp 10 0])]) (h' := [(10, .cells [.func (.func 85) #[] #[pp 4 0, pp 6 0, pp 8 0, pp 9 0, pp 5 0, pp 10 0]] 0 81 0), (9, rc (encI .i64) ([0, 0, 0, 0, 0, 0, 0, 0, 0, 0, 0, 0, 0, 0, 0, 0, 0, 0, 0, 0, 0, 0, 0, 0]) 0 88 0), (8, .cells [s0 7 ((List.replicate (α := Int) (Int.toNat ((a.length : Nat) : Int)) 0).length)] 0 23 0), (7, rc (encI .i64) (List.replicate (α := Int) (Int.toNat ((a.length : Nat) : Int)) 0) 0 3 1), (6, .cells [.func (.func 84) #[] #[pp 1 0, pp 3 0]] 0 72 0), (5, .cells [ii b] 0 3 0), (4, .cells [s0 0 a.length] 0 22 0), (3, .cells [.bool false] 0 4 0), (2, rc (encI .i64) [] 0 3 1), (1, .cells [s0 2 0] 0 23 0), (0, rc encP a z0 y0 2)]) (c' := 11) ?_ (by simp only [List.length_set, List.length_replicate])
    obtain ⟨r19_, r19__h, h⟩ := bS h
    cases r19_ with
    | a lh7_a1_19 lh9_a1_19 lh11_a1_19 =>
      dsimp only at h
      refine XR.call E0_ok [] rfl (K := 85) (args := [ii 0, pp 4 0, pp 6 0, pp 8 0, pp 9 0, pp 5 0, pp 10 0]) (d := (some (path 12 14))) (by kernel_rfl) (f42_1_ok m m z0 y0 a b 0 (List.replicate (Int.toNat ((a.length : Nat) : Int)) 0) [0, 0, 0, 0, 0, 0, 0, 0, 0, 0, 0, 0, 0, 0, 0, 0, 0, 0, 0, 0, 0, 0, 0, 0] (.a lh7_a1_19 lh9_a1_19 lh11_a1_19) r19__h (fun v h' c' => v = .bool false ∧ h' = [(11, rc (encI .i64) lh11_a1_19 0 3 1), (10, .cells [.func (.func 85) #[] #[pp 4 0, pp 6 0, pp 8 0, pp 9 0, pp 5 0, pp 10 0]] 0 81 0), (9, rc (encI .i64) lh9_a1_19 0 88 0), (8, .cells [s0 7 lh7_a1_19.length] 0 23 0), (7, rc (encI .i64) lh7_a1_19 0 3 1), (6, .cells [.func (.func 84) #[] #[pp 1 0, pp 3 0]] 0 72 0), (5, .cells [ii b] 0 3 0), (4, .cells [s0 0 a.length] 0 22 0), (3, .cells [.bool true] 0 4 0), (2, rc (encI .i64) [] 0 3 1), (1, .cells [s0 11 lh11_a1_19.length] 0 23 0), (0, rc encP a z0 y0 2)] ∧ c' = 12) ⟨rfl, rfl, rfl⟩) ?_
      rintro _ _ _ ⟨rfl, rfl, rfl⟩
      refine XR.conv (σ' := []) (h' := [(11, rc (encI .i64) lh11_a1_19 0 3 1), (10, .cells [.func (.func 85) #[] #[pp 4 0, pp 6 0, pp 8 0, pp 9 0, pp 5 0, pp 10 0]] 0 81 0), (9, rc (encI .i64) lh9_a1_19 0 88 0), (8, .cells [s0 7 lh7_a1_19.length] 0 23 0), (7, rc (encI .i64) lh7_a1_19 0 3 1), (6, .cells [.func (.func 84) #[] #[pp 1 0, pp 3 0]] 0 72 0), (5, .cells [ii b] 0 3 0), (4, .cells [s0 0 a.length] 0 22 0), (3, .cells [.bool true] 0 4 0), (2, rc (encI .i64) [] 0 3 1), (1, .cells [s0 11 lh11_a1_19.length] 0 23 0), (0, rc encP a z0 y0 2)]) (c' := 12) ?_ (by kernel_rfl)
      refine XR.done (by kernel_rfl) ?_
      refine ⟨fun i q => (by cases q), .tuple #[], (by kernel_rfl), ?_⟩
      refine XR.conv (σ' := [(6, pp 1 0), (7, pp 3 0)]) (h' := [(11, rc (encI .i64) lh11_a1_19 0 3 1), (10, .cells [.func (.func 85) #[] #[pp 4 0, pp 6 0, pp 8 0, pp 9 0, pp 5 0, pp 10 0]] 0 81 0), (9, rc (encI .i64) lh9_a1_19 0 88 0), (8, .cells [s0 7 lh7_a1_19.length] 0 23 0), (7, rc (encI .i64) lh7_a1_19 0 3 1), (6, .cells [.func (.func 84) #[] #[pp 1 0, pp 3 0]] 0 72 0), (5, .cells [ii b] 0 3 0), (4, .cells [s0 0 a.length] 0 22 0), (3, .cells [.bool true] 0 4 0), (2, rc (encI .i64) [] 0 3 1), (1, .cells [s0 11 lh11_a1_19.length] 0 23 0), (0, rc encP a z0 y0 2)]) (c' := 12) ?_ (by kernel_rfl)
      refine XR.done (by kernel_rfl) ?_
      show XQ _ _ _ _ _ _ _ _
      refine XQ.seq E0_ok (by kernel_rfl) ?_
      refine XQ.quiet E0_ok (by kernel_rfl) (by kernel_rfl) ?_
      refine XU.run E0_ok 1 4 [4, 5] rfl (σ' := [(4, s0 11 lh11_a1_19.length), (5, .bool true)]) (by kernel_rfl) ?_
      refine XU.done (by kernel_rfl) ?_
      show XQ _ _ _ _ _ _ _ _
      refine XQ.ren (σ' := [(4, s0 1 lh11_a1_19.length), (5, .bool true)]) (h' := [(1, rc (encI .i64) lh11_a1_19 0 3 1), (0, rc encP a z0 y0 2)]) (c' := 2) [0, 11] (by decide) rfl ⟨by kernel_rfl, by kernel_rfl, trivial⟩ ⟨⟨_, _, rfl, rfl, .inl ⟨rfl, rowC_scal (encI_ok .i64) _⟩⟩, ⟨_, _, rfl, rfl, .inl ⟨rfl, rowC_scal encP_ok _⟩⟩, trivial⟩ rfl ?_
      refine XQ.ret (by kernel_rfl) ?_
      have h := Option.some.inj h
      subst h
      exact ⟨fun i q => (by cases q), .tuple #[s0 1 lh11_a1_19.length, .bool true], (by kernel_rfl), (by kernel_rfl), (by kernel_rfl), rfl⟩
    | b lh7_b1_19 lh9_b1_19 =>
      dsimp only at h
      refine XR.call E0_ok [] rfl (K := 85) (args := [ii 0, pp 4 0, pp 6 0, pp 8 0, pp 9 0, pp 5 0, pp 10 0]) (d := (some (path 12 14))) (by kernel_rfl) (f42_1_ok m m z0 y0 a b 0 (List.replicate (Int.toNat ((a.length : Nat) : Int)) 0) [0, 0, 0, 0, 0, 0, 0, 0, 0, 0, 0, 0, 0, 0, 0, 0, 0, 0, 0, 0, 0, 0, 0, 0] (.b lh7_b1_19 lh9_b1_19) r19__h (fun v h' c' => v = .bool true ∧ h' = [(10, .cells [.func (.func 85) #[] #[pp 4 0, pp 6 0, pp 8 0, pp 9 0, pp 5 0, pp 10 0]] 0 81 0), (9, rc (encI .i64) lh9_b1_19 0 88 0), (8, .cells [s0 7 lh7_b1_19.length] 0 23 0), (7, rc (encI .i64) lh7_b1_19 0 3 1), (6, .cells [.func (.func 84) #[] #[pp 1 0, pp 3 0]] 0 72 0), (5, .cells [ii b] 0 3 0), (4, .cells [s0 0 a.length] 0 22 0), (3, .cells [.bool false] 0 4 0), (2, rc (encI .i64) [] 0 3 1), (1, .cells [s0 2 0] 0 23 0), (0, rc encP a z0 y0 2)] ∧ c' = 11) ⟨rfl, rfl, rfl⟩) ?_
      rintro _ _ _ ⟨rfl, rfl, rfl⟩
      refine XR.conv (σ' := []) (h' := [(10, .cells [.func (.func 85) #[] #[pp 4 0, pp 6 0, pp 8 0, pp 9 0, pp 5 0, pp 10 0]] 0 81 0), (9, rc (encI .i64) lh9_b1_19 0 88 0), (8, .cells [s0 7 lh7_b1_19.length] 0 23 0), (7, rc (encI .i64) lh7_b1_19 0 3 1), (6, .cells [.func (.func 84) #[] #[pp 1 0, pp 3 0]] 0 72 0), (5, .cells [ii b] 0 3 0), (4, .cells [s0 0 a.length] 0 22 0), (3, .cells [.bool false] 0 4 0), (2, rc (encI .i64) [] 0 3 1), (1, .cells [s0 2 0] 0 23 0), (0, rc encP a z0 y0 2)]) (c' := 11) ?_ (by kernel_rfl)
      refine XR.done (by kernel_rfl) ?_
      refine ⟨fun i q => (by cases q), .tuple #[], (by kernel_rfl), ?_⟩
      refine XR.conv (σ' := [(6, pp 1 0), (7, pp 3 0)]) (h' := [(10, .cells [.func (.func 85) #[] #[pp 4 0, pp 6 0, pp 8 0, pp 9 0, pp 5 0, pp 10 0]] 0 81 0), (9, rc (encI .i64) lh9_b1_19 0 88 0), (8, .cells [s0 7 lh7_b1_19.length] 0 23 0), (7, rc (encI .i64) lh7_b1_19 0 3 1), (6, .cells [.func (.func 84) #[] #[pp 1 0, pp 3 0]] 0 72 0), (5, .cells [ii b] 0 3 0), (4, .cells [s0 0 a.length] 0 22 0), (3, .cells [.bool false] 0 4 0), (2, rc (encI .i64) [] 0 3 1), (1, .cells [s0 2 0] 0 23 0), (0, rc encP a z0 y0 2)]) (c' := 11) ?_ (by kernel_rfl)
      refine XR.done (by kernel_rfl) ?_
      show XQ _ _ _ _ _ _ _ _
      refine XQ.seq E0_ok (by kernel_rfl) ?_
      refine XQ.quiet E0_ok (by kernel_rfl) (by kernel_rfl) ?_
      refine XU.run E0_ok 1 4 [4, 5] rfl (σ' := [(4, s0 2 0), (5, .bool false)]) (by kernel_rfl) ?_
      refine XU.done (by kernel_rfl) ?_
      show XQ _ _ _ _ _ _ _ _
      refine XQ.ren (σ' := [(4, s0 1 0), (5, .bool false)]) (h' := [(1, rc (encI .i64) [] 0 3 1), (0, rc encP a z0 y0 2)]) (c' := 2) [0, 2] (by decide) rfl ⟨by kernel_rfl, by kernel_rfl, trivial⟩ ⟨⟨_, _, rfl, rfl, .inl ⟨rfl, rowC_scal (encI_ok .i64) _⟩⟩, ⟨_, _, rfl, rfl, .inl ⟨rfl, rowC_scal encP_ok _⟩⟩, trivial⟩ rfl ?_
      refine XQ.ret (by kernel_rfl) ?_
      have h := Option.some.inj h
      subst h
      exact ⟨fun i q => (by cases q), .tuple #[s0 1 0, .bool false], (by kernel_rfl), (by kernel_rfl), (by kernel_rfl), rfl⟩

end Go.Xm
