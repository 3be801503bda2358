/- What these functions of the program compute, as functions in Lean, and the proofs that they do: vitolalaw02.HeapMore. Conditions: none. -/
import Derived.Test.YtfdeihnkoaihfaaBf
import Derived.Test.YtfdeihnkoaihfaaCa
import Derived.Test.YtfdeihnkoaihfaaBb
import Derived.Test.YtfdeihnkoaihfaaMy
namespace Go.Xm
open Go.RowKit
set_option linter.unusedVariables false
set_option linter.unusedSimpArgs false
set_option maxRecDepth 20000

/-! vitola/vitolalaw02.HeapMore -/
noncomputable def f12_C12 : Code := Proofs.Try.f12.body.getD .skip
noncomputable def f12_C51 : Code := Proofs.Try.f51.body.getD .skip
noncomputable def f12_C52 : Code := Proofs.Try.f52.body.getD .skip

def f12_1 (m : Nat) (a_0_0 : Int) (a_0_1 : Int) (a_1_0 : Int) (a_1_1 : Int) (a_2_0 : Int) (a_2_1 : Int) (a_3_0 : Int) (a_3_1 : Int) (a_4_0 : Int) (a_4_1 : Int) (a_5_0 : Int) (a_5_1 : Int) (a_6_0 : Int) (a_6_1 : Int) (a_7_0 : Int) (a_7_1 : Int) (x1_1 : Int) (x2_1 : Int) (lh1_1 : List (Int × Int)) (lh2_1 : List Int) (lh4_1 : List (Int × Int)) (lh6_1 : List (Int × Int)) : Option (List (Int × Int)) :=
  cond (cutOK x1_1 x2_1 ((lh6_1.length : Nat) : Int) lh6_1.length) (
    cond (decide (0 < Int.toNat ((lh6_1.length : Nat) : Int) - (Int.toNat x1_1))) (
      cond (x1_1 == x2_1) (
        some (List.take lh6_1.length lh6_1)
      ) (
        cond (cutOK 0 x1_1 ((lh6_1.length : Nat) : Int) lh6_1.length) (
          cond (cutOK x2_1 ((lh6_1.length : Nat) : Int) ((lh6_1.length : Nat) : Int) lh6_1.length) (
            cond (decide (1 ≤ lh6_1.length)) (
              cond (decide ((Int.toNat x1_1) + (lh6_1.length - (Int.toNat x2_1)) ≤ lh6_1.length)) (
                cond (decide ((lh6_1.length - (Int.toNat x2_1)) ≤ (lh6_1.length - (Int.toNat x2_1)))) (
                  cond (decide ((Int.toNat x2_1) + (lh6_1.length - (Int.toNat x2_1)) ≤ lh6_1.length)) (
                    cond (cutOK (((Int.toNat x1_1) + (lh6_1.length - (Int.toNat x2_1)) : Nat) : Int) ((lh6_1.length : Nat) : Int) ((lh6_1.length : Nat) : Int) lh6_1.length) (
                      cond (decide ((Int.toNat (((Int.toNat x1_1) + (lh6_1.length - (Int.toNat x2_1)) : Nat) : Int)) + (Int.toNat ((lh6_1.length : Nat) : Int) - (Int.toNat (((Int.toNat x1_1) + (lh6_1.length - (Int.toNat x2_1)) : Nat) : Int))) ≤ (List.take (Int.toNat x1_1) lh6_1 ++ List.take (lh6_1.length - (Int.toNat x2_1)) (List.drop (Int.toNat x2_1) lh6_1) ++ List.drop ((Int.toNat x1_1) + (lh6_1.length - (Int.toNat x2_1))) lh6_1).length)) (
                        cond (decide ((Int.toNat x1_1) + (lh6_1.length - (Int.toNat x2_1)) ≤ (clearL (0, 0) (List.take (Int.toNat x1_1) lh6_1 ++ List.take (lh6_1.length - (Int.toNat x2_1)) (List.drop (Int.toNat x2_1) lh6_1) ++ List.drop ((Int.toNat x1_1) + (lh6_1.length - (Int.toNat x2_1))) lh6_1) (Int.toNat (((Int.toNat x1_1) + (lh6_1.length - (Int.toNat x2_1)) : Nat) : Int)) (Int.toNat ((lh6_1.length : Nat) : Int) - (Int.toNat (((Int.toNat x1_1) + (lh6_1.length - (Int.toNat x2_1)) : Nat) : Int)))).length)) (
                          cond (decide ((Int.toNat x1_1) + (lh6_1.length - (Int.toNat x2_1)) ≤ lh6_1.length)) (
                            some (List.take ((Int.toNat x1_1) + (lh6_1.length - (Int.toNat x2_1))) (clearL (0, 0) (List.take (Int.toNat x1_1) lh6_1 ++ List.take (lh6_1.length - (Int.toNat x2_1)) (List.drop (Int.toNat x2_1) lh6_1) ++ List.drop ((Int.toNat x1_1) + (lh6_1.length - (Int.toNat x2_1))) lh6_1) (Int.toNat (((Int.toNat x1_1) + (lh6_1.length - (Int.toNat x2_1)) : Nat) : Int)) (Int.toNat ((lh6_1.length : Nat) : Int) - (Int.toNat (((Int.toNat x1_1) + (lh6_1.length - (Int.toNat x2_1)) : Nat) : Int)))))
                          ) none
                        ) none
                      ) none
                    ) none
                  ) none
                ) none
              ) none
            ) none
          ) none
        ) none
      )
    ) none
  ) none

theorem f12_1_ok (m : Nat) (a_0_0 : Int) (a_0_1 : Int) (a_1_0 : Int) (a_1_1 : Int) (a_2_0 : Int) (a_2_1 : Int) (a_3_0 : Int) (a_3_1 : Int) (a_4_0 : Int) (a_4_1 : Int) (a_5_0 : Int) (a_5_1 : Int) (a_6_0 : Int) (a_6_1 : Int) (a_7_0 : Int) (a_7_1 : Int) (x1_1 : Int) (x2_1 : Int) (lh1_1 : List (Int × Int)) (lh2_1 : List Int) (lh4_1 : List (Int × Int)) (lh6_1 : List (Int × Int)) (o : (List (Int × Int))) (h : f12_1 m a_0_0 a_0_1 a_1_0 a_1_1 a_2_0 a_2_1 a_3_0 a_3_1 a_4_0 a_4_1 a_5_0 a_5_1 a_6_0 a_6_1 a_7_0 a_7_1 x1_1 x2_1 lh1_1 lh2_1 lh4_1 lh6_1 = some o) (R : Value → Heap → Nat → Prop) (hR : R (s0 6 o.length) [(6, rc encP o 0 61 2), (4, rc encP lh4_1 0 61 2), (2, rc (encI .i64) lh2_1 0 3 1), (1, rc encP lh1_1 0 61 2), (0, .cells [.int .u8 a_0_0, .int .u8 a_0_1, .int .u8 a_1_0, .int .u8 a_1_1, .int .u8 a_2_0, .int .u8 a_2_1, .int .u8 a_3_0, .int .u8 a_3_1, .int .u8 a_4_0, .int .u8 a_4_1, .int .u8 a_5_0, .int .u8 a_5_1, .int .u8 a_6_0, .int .u8 a_6_1, .int .u8 a_7_0, .int .u8 a_7_1] 0 56 0)] 7) : KC E0 51 [s0 6 lh6_1.length, ii x1_1, ii x2_1] [(6, rc encP lh6_1 0 61 2), (4, rc encP lh4_1 0 61 2), (2, rc (encI .i64) lh2_1 0 3 1), (1, rc encP lh1_1 0 61 2), (0, .cells [.int .u8 a_0_0, .int .u8 a_0_1, .int .u8 a_1_0, .int .u8 a_1_1, .int .u8 a_2_0, .int .u8 a_2_1, .int .u8 a_3_0, .int .u8 a_3_1, .int .u8 a_4_0, .int .u8 a_4_1, .int .u8 a_5_0, .int .u8 a_5_1, .int .u8 a_6_0, .int .u8 a_6_1, .int .u8 a_7_0, .int .u8 a_7_1] 0 56 0)] 7 R := by
  refine KC.shrink encP_ok rfl (e := 61) 6 ?_
  refine KC.bodyN E0_ok (F := Proofs.Try.f51) (by kernel_rfl) (code := f12_C51) (by kernel_rfl) (nt := 33) (by kernel_rfl) (rs := [.tmp 6]) (by kernel_rfl) (by kernel_rfl) (σ := [(0, s0 6 lh6_1.length), (1, ii x1_1), (2, ii x2_1)]) (by kernel_rfl) ?_
  unfold f12_1 at h
  refine XQ.seq E0_ok (by kernel_rfl) ?_
  refine XQ.region (by kernel_rfl) ?_
  refine XR.runS E0_ok 1 1 [(0, s0 6 lh6_1.length), (1, ii x1_1), (2, ii x2_1)] rfl (by kernel_rfl) ?_
  refine XR.done (by kernel_rfl) ?_
  show XQ _ _ _ _ _ _ _ _
  refine XQ.seq E0_ok (by kernel_rfl) ?_
  refine XQ.region (by kernel_rfl) ?_
  refine XR.runS E0_ok 1 5 [(0, s0 6 lh6_1.length), (1, ii x1_1), (2, ii x2_1), (8, s0 6 lh6_1.length), (9, ii x1_1), (10, ii x2_1), (12, ii ((lh6_1.length : Nat) : Int))] rfl (by kernel_rfl) ?_
  cases b1 : (cutOK x1_1 x2_1 ((lh6_1.length : Nat) : Int) lh6_1.length : Bool) with
  | false => cases (cF b1 h)
  | true =>
    have h := cT b1 h
    cases b2 : (decide (0 < Int.toNat ((lh6_1.length : Nat) : Int) - (Int.toNat x1_1)) : Bool) with
    | false => cases (cF b2 h)
    | true =>
      have h := cT b2 h
      refine XR.rd E0_ok [0, 1, 2] rfl (v := sl 6 ((Int.toNat x1_1) * 2) (Int.toNat x2_1 - (Int.toNat x1_1)) (Int.toNat ((lh6_1.length : Nat) : Int) - (Int.toNat x1_1))) (v_cutM (nt := 33) (s := 2) (x := (src 33 (.tmp 8))) (lo := (some (.tmp 9))) (hi := (some (.tmp 10))) (mx := (some (.tmp 12))) (b := 6) (o := 0) (len := lh6_1.length) (cap := lh6_1.length) (l := (some x1_1)) (u := (some x2_1)) (m := (some ((lh6_1.length : Nat) : Int))) (cs := rowC encP lh6_1) (fz := 0) (e := 61) (es := 2) (o' := (Int.toNat x1_1) * 2) (len' := Int.toNat x2_1 - (Int.toNat x1_1)) (cap' := Int.toNat ((lh6_1.length : Nat) : Int) - (Int.toNat x1_1)) (d := (some (path 12 13))) (by kernel_rfl) (by kernel_rfl) (by kernel_rfl) (by kernel_rfl) (by kernel_rfl) (by kernel_rfl) (by kernel_rfl) rfl b1 (by simpa using b2) (by simp only [Option.getD_none, Option.getD_some] <;> omega) (by simp only [Option.getD_none, Option.getD_some] <;> omega) (by simp only [Option.getD_none, Option.getD_some] <;> omega)) (σ' := [(0, s0 6 lh6_1.length), (1, ii x1_1), (2, ii x2_1)]) (by kernel_rfl) ?_
      refine XR.done (by kernel_rfl) ?_
      show XQ _ _ _ _ _ _ _ _
      refine XQ.seq E0_ok (by kernel_rfl) ?_
      refine XQ.seq E0_ok (by kernel_rfl) ?_
      refine XQ.region (by kernel_rfl) ?_
      refine XR.runS E0_ok 1 3 [(0, s0 6 lh6_1.length), (1, ii x1_1), (2, ii x2_1), (16, .bool (x1_1 == x2_1))] rfl (by kernel_rfl) ?_
      refine XR.done (by kernel_rfl) ?_
      show XQ _ _ _ _ _ _ _ _
      cases b3 : (x1_1 == x2_1 : Bool) with
      | true =>
        have h := cT b3 h
        refine XQ.cond (s := (.tmp 16)) (b := true) (by kernel_rfl) (by kernel_rfl) (fun _ => ?_) (fun q => by cases q)
        refine XQ.seq E0_ok (by kernel_rfl) ?_
        refine XQ.region (by kernel_rfl) ?_
        refine XR.runS E0_ok 1 2 [(6, s0 6 lh6_1.length)] rfl (by kernel_rfl) ?_
        refine XR.done (by kernel_rfl) ?_
        show XQ _ _ _ _ _ _ _ _
        refine XQ.ren (σ' := [(6, s0 6 lh6_1.length)]) (h' := [(6, rc encP lh6_1 0 61 2), (4, rc encP lh4_1 0 61 2), (2, rc (encI .i64) lh2_1 0 3 1), (1, rc encP lh1_1 0 61 2), (0, .cells [.int .u8 a_0_0, .int .u8 a_0_1, .int .u8 a_1_0, .int .u8 a_1_1, .int .u8 a_2_0, .int .u8 a_2_1, .int .u8 a_3_0, .int .u8 a_3_1, .int .u8 a_4_0, .int .u8 a_4_1, .int .u8 a_5_0, .int .u8 a_5_1, .int .u8 a_6_0, .int .u8 a_6_1, .int .u8 a_7_0, .int .u8 a_7_1] 0 56 0)]) (c' := 7) [0, 1, 2, 3, 4, 5, 6] (by decide) rfl ⟨by kernel_rfl, trivial⟩ ⟨⟨_, _, rfl, rfl, .inl ⟨rfl, rowC_scal encP_ok _⟩⟩, ⟨_, _, rfl, rfl, .inl ⟨rfl, rowC_scal encP_ok _⟩⟩, ⟨_, _, rfl, rfl, .inl ⟨rfl, rowC_scal (encI_ok .i64) _⟩⟩, ⟨_, _, rfl, rfl, .inl ⟨rfl, rowC_scal encP_ok _⟩⟩, ⟨_, _, rfl, rfl, .inr ⟨_, _, _, _, rfl, rfl⟩⟩, trivial⟩ rfl ?_
        refine XQ.ret (by kernel_rfl) ?_
        cases h
        exact ⟨fun i q => (by cases q), s0 6 lh6_1.length, (by kernel_rfl), lh6_1, lh6_1.length, lh6_1.length, [(6, rc encP (List.take lh6_1.length lh6_1) 0 61 2), (4, rc encP lh4_1 0 61 2), (2, rc (encI .i64) lh2_1 0 3 1), (1, rc encP lh1_1 0 61 2), (0, .cells [.int .u8 a_0_0, .int .u8 a_0_1, .int .u8 a_1_0, .int .u8 a_1_1, .int .u8 a_2_0, .int .u8 a_2_1, .int .u8 a_3_0, .int .u8 a_3_1, .int .u8 a_4_0, .int .u8 a_4_1, .int .u8 a_5_0, .int .u8 a_5_1, .int .u8 a_6_0, .int .u8 a_6_1, .int .u8 a_7_0, .int .u8 a_7_1] 0 56 0)], rfl, (by kernel_rfl), (Nat.le_refl _), (Nat.le_refl _), (by kernel_rfl), (by first | exact hR | simpa only [List.length_set] using hR)⟩
      | false =>
        have h := cF b3 h
        refine XQ.cond (s := (.tmp 16)) (b := false) (by kernel_rfl) (by kernel_rfl) (fun q => by cases q) (fun _ => ?_)
        refine XQ.skip (by kernel_rfl) ?_
        show XQ _ _ _ _ _ _ _ _
        refine XQ.seq E0_ok (by kernel_rfl) ?_
        refine XQ.region (by kernel_rfl) ?_
        refine XR.runS E0_ok 1 3 [(0, s0 6 lh6_1.length), (1, ii x1_1), (2, ii x2_1), (7, ii ((lh6_1.length : Nat) : Int))] rfl (by kernel_rfl) ?_
        refine XR.done (by kernel_rfl) ?_
        show XQ _ _ _ _ _ _ _ _
        refine XQ.seq E0_ok (by kernel_rfl) ?_
        refine XQ.tail E0_ok 6 (by kernel_rfl) (by kernel_rfl) ?_
        refine XS.step E0_ok 2 rfl [0, 2, 7, 20, 21] rfl (σ' := [(0, s0 6 lh6_1.length), (2, ii x2_1), (7, ii ((lh6_1.length : Nat) : Int)), (20, s0 6 lh6_1.length), (21, ii x1_1)]) (by kernel_rfl) ?_
        cases b4 : (cutOK 0 x1_1 ((lh6_1.length : Nat) : Int) lh6_1.length : Bool) with
        | false => cases (cF b4 h)
        | true =>
          have h := cT b4 h
          refine XS.rd E0_ok rfl [0, 2, 7, 22] rfl (v := sl 6 0 (Int.toNat x1_1) lh6_1.length) (v_cut (nt := 33) (s := 2) (x := (src 33 (.tmp 20))) (lo := none) (hi := (some (.tmp 21))) (mx := none) (b := 6) (o := 0) (len := lh6_1.length) (cap := lh6_1.length) (l := none) (u := (some x1_1)) (m := none) (cs := rowC encP lh6_1) (fz := 0) (e := 61) (es := 2) (o' := 0) (len' := Int.toNat x1_1) (cap' := lh6_1.length) (d := (some (path 12 22))) (by kernel_rfl) (by kernel_rfl) (by kernel_rfl) (by kernel_rfl) (by kernel_rfl) (by kernel_rfl) (by kernel_rfl) rfl b4 (by simp only [Option.getD_none, Option.getD_some] <;> omega) (by simp only [Option.getD_none, Option.getD_some] <;> omega) (by simp only [Option.getD_none, Option.getD_some] <;> omega)) (σ' := [(0, s0 6 lh6_1.length), (2, ii x2_1), (7, ii ((lh6_1.length : Nat) : Int)), (22, sl 6 0 (Int.toNat x1_1) lh6_1.length)]) (by kernel_rfl) ?_
          refine XS.step E0_ok 2 rfl [7, 22, 23, 24] rfl (σ' := [(7, ii ((lh6_1.length : Nat) : Int)), (22, sl 6 0 (Int.toNat x1_1) lh6_1.length), (23, s0 6 lh6_1.length), (24, ii x2_1)]) (by kernel_rfl) ?_
          cases b5 : (cutOK x2_1 ((lh6_1.length : Nat) : Int) ((lh6_1.length : Nat) : Int) lh6_1.length : Bool) with
          | false => cases (cF b5 h)
          | true =>
            have h := cT b5 h
            refine XS.rd E0_ok rfl [7, 22, 25] rfl (v := sl 6 ((Int.toNat x2_1) * 2) (lh6_1.length - (Int.toNat x2_1)) (lh6_1.length - (Int.toNat x2_1))) (v_cut (nt := 33) (s := 2) (x := (src 33 (.tmp 23))) (lo := (some (.tmp 24))) (hi := none) (mx := none) (b := 6) (o := 0) (len := lh6_1.length) (cap := lh6_1.length) (l := (some x2_1)) (u := none) (m := none) (cs := rowC encP lh6_1) (fz := 0) (e := 61) (es := 2) (o' := (Int.toNat x2_1) * 2) (len' := lh6_1.length - (Int.toNat x2_1)) (cap' := lh6_1.length - (Int.toNat x2_1)) (d := (some (path 12 25))) (by kernel_rfl) (by kernel_rfl) (by kernel_rfl) (by kernel_rfl) (by kernel_rfl) (by kernel_rfl) (by kernel_rfl) rfl b5 (by simp only [Option.getD_none, Option.getD_some] <;> omega) (by simp only [Option.getD_none, Option.getD_some] <;> omega) (by simp only [Option.getD_none, Option.getD_some] <;> omega)) (σ' := [(7, ii ((lh6_1.length : Nat) : Int)), (22, sl 6 0 (Int.toNat x1_1) lh6_1.length), (25, sl 6 ((Int.toNat x2_1) * 2) (lh6_1.length - (Int.toNat x2_1)) (lh6_1.length - (Int.toNat x2_1)))]) (by kernel_rfl) ?_
            refine XS.done (by kernel_rfl) ?_
            cases b6 : (decide (1 ≤ lh6_1.length) : Bool) with
            | false => cases (cF b6 h)
            | true =>
              have h := cT b6 h
              cases b7 : (decide ((Int.toNat x1_1) + (lh6_1.length - (Int.toNat x2_1)) ≤ lh6_1.length) : Bool) with
              | false => cases (cF b7 h)
              | true =>
                have h := cT b7 h
                cases b8 : (decide ((lh6_1.length - (Int.toNat x2_1)) ≤ (lh6_1.length - (Int.toNat x2_1))) : Bool) with
                | false => cases (cF b8 h)
                | true =>
                  have h := cT b8 h
                  cases b9 : (decide ((Int.toNat x2_1) + (lh6_1.length - (Int.toNat x2_1)) ≤ lh6_1.length) : Bool) with
                  | false => cases (cF b9 h)
                  | true =>
                    have h := cT b9 h
                    refine XR.appF E0_ok [7, 26] (d := (some (path 12 26))) (f := eAppend false 2 16 61 (src 33 (.tmp 22)) (src 33 (.tmp 25))) (.tmp 22) (.tmp 25) 22 22 2 rfl (by kernel_rfl) (by kernel_rfl) (by kernel_rfl) (e_appendF encP_ok (x := (src 33 (.tmp 22))) (y := (src 33 (.tmp 25))) (b := 6) (n := Int.toNat x1_1) (cap := lh6_1.length) (xs := lh6_1) (e := 61) (Y := sl 6 ((Int.toNat x2_1) * 2) (lh6_1.length - (Int.toNat x2_1)) (lh6_1.length - (Int.toNat x2_1))) (m := lh6_1.length - (Int.toNat x2_1)) (ys := List.take (lh6_1.length - (Int.toNat x2_1)) (List.drop (Int.toNat x2_1) lh6_1)) (n' := (Int.toNat x1_1) + (lh6_1.length - (Int.toNat x2_1))) (h' := [(6, rc encP (List.take (Int.toNat x1_1) lh6_1 ++ List.take (lh6_1.length - (Int.toNat x2_1)) (List.drop (Int.toNat x2_1) lh6_1) ++ List.drop ((Int.toNat x1_1) + (lh6_1.length - (Int.toNat x2_1))) lh6_1) 0 61 2), (4, rc encP lh4_1 0 61 2), (2, rc (encI .i64) lh2_1 0 3 1), (1, rc encP lh1_1 0 61 2), (0, .cells [.int .u8 a_0_0, .int .u8 a_0_1, .int .u8 a_1_0, .int .u8 a_1_1, .int .u8 a_2_0, .int .u8 a_2_1, .int .u8 a_3_0, .int .u8 a_3_1, .int .u8 a_4_0, .int .u8 a_4_1, .int .u8 a_5_0, .int .u8 a_5_1, .int .u8 a_6_0, .int .u8 a_6_1, .int .u8 a_7_0, .int .u8 a_7_1] 0 56 0)]) (by kernel_rfl) (by kernel_rfl) (by kernel_rfl) (fetch_row encP_ok (ys := lh6_1) (fz := 0) (e := 61) (es := 2) (by kernel_rfl) (Int.toNat x2_1) (lh6_1.length - (Int.toNat x2_1)) (lh6_1.length - (Int.toNat x2_1)) (lh6_1.length - (Int.toNat x2_1)) rfl (Nat.ble_eq_true_of_le (of_decide_eq_true b8)) (of_decide_eq_true b9) rfl) (by have := of_decide_eq_true b9; simp only [List.length_take, List.length_drop]; omega) rfl (of_decide_eq_true b6) (of_decide_eq_true b7) (of_decide_eq_true b7) rfl (by kernel_rfl)) (σ' := [(7, ii ((lh6_1.length : Nat) : Int)), (26, sl 6 0 ((Int.toNat x1_1) + (lh6_1.length - (Int.toNat x2_1))) lh6_1.length)]) (by kernel_rfl) ?_
                    refine XR.runS E0_ok 1 1 [(0, sl 6 0 ((Int.toNat x1_1) + (lh6_1.length - (Int.toNat x2_1))) lh6_1.length), (7, ii ((lh6_1.length : Nat) : Int))] rfl (by kernel_rfl) ?_
                    refine XR.done (by kernel_rfl) ?_
                    show XQ _ _ _ _ _ _ _ _
                    refine XQ.seq E0_ok (by kernel_rfl) ?_
                    refine XQ.region (by kernel_rfl) ?_
                    refine XR.runS E0_ok 1 4 [(0, sl 6 0 ((Int.toNat x1_1) + (lh6_1.length - (Int.toNat x2_1))) lh6_1.length), (27, sl 6 0 ((Int.toNat x1_1) + (lh6_1.length - (Int.toNat x2_1))) lh6_1.length), (29, ii (((Int.toNat x1_1) + (lh6_1.length - (Int.toNat x2_1)) : Nat) : Int)), (30, ii ((lh6_1.length : Nat) : Int))] rfl (by kernel_rfl) ?_
                    cases b10 : (cutOK (((Int.toNat x1_1) + (lh6_1.length - (Int.toNat x2_1)) : Nat) : Int) ((lh6_1.length : Nat) : Int) ((lh6_1.length : Nat) : Int) lh6_1.length : Bool) with
                    | false => cases (cF b10 h)
                    | true =>
                      have h := cT b10 h
                      refine XR.rd E0_ok [0, 31] rfl (v := sl 6 ((Int.toNat (((Int.toNat x1_1) + (lh6_1.length - (Int.toNat x2_1)) : Nat) : Int)) * 2) (Int.toNat ((lh6_1.length : Nat) : Int) - (Int.toNat (((Int.toNat x1_1) + (lh6_1.length - (Int.toNat x2_1)) : Nat) : Int))) (lh6_1.length - (Int.toNat (((Int.toNat x1_1) + (lh6_1.length - (Int.toNat x2_1)) : Nat) : Int)))) (v_cut (nt := 33) (s := 2) (x := (src 33 (.tmp 27))) (lo := (some (.tmp 29))) (hi := (some (.tmp 30))) (mx := none) (b := 6) (o := 0) (len := (Int.toNat x1_1) + (lh6_1.length - (Int.toNat x2_1))) (cap := lh6_1.length) (l := (some (((Int.toNat x1_1) + (lh6_1.length - (Int.toNat x2_1)) : Nat) : Int))) (u := (some ((lh6_1.length : Nat) : Int))) (m := none) (cs := rowC encP (List.take (Int.toNat x1_1) lh6_1 ++ List.take (lh6_1.length - (Int.toNat x2_1)) (List.drop (Int.toNat x2_1) lh6_1) ++ List.drop ((Int.toNat x1_1) + (lh6_1.length - (Int.toNat x2_1))) lh6_1)) (fz := 0) (e := 61) (es := 2) (o' := (Int.toNat (((Int.toNat x1_1) + (lh6_1.length - (Int.toNat x2_1)) : Nat) : Int)) * 2) (len' := Int.toNat ((lh6_1.length : Nat) : Int) - (Int.toNat (((Int.toNat x1_1) + (lh6_1.length - (Int.toNat x2_1)) : Nat) : Int))) (cap' := lh6_1.length - (Int.toNat (((Int.toNat x1_1) + (lh6_1.length - (Int.toNat x2_1)) : Nat) : Int))) (d := (some (path 12 31))) (by kernel_rfl) (by kernel_rfl) (by kernel_rfl) (by kernel_rfl) (by kernel_rfl) (by kernel_rfl) (by kernel_rfl) rfl b10 (by simp only [Option.getD_none, Option.getD_some] <;> omega) (by simp only [Option.getD_none, Option.getD_some] <;> omega) (by simp only [Option.getD_none, Option.getD_some] <;> omega)) (σ' := [(0, sl 6 0 ((Int.toNat x1_1) + (lh6_1.length - (Int.toNat x2_1))) lh6_1.length), (31, sl 6 ((Int.toNat (((Int.toNat x1_1) + (lh6_1.length - (Int.toNat x2_1)) : Nat) : Int)) * 2) (Int.toNat ((lh6_1.length : Nat) : Int) - (Int.toNat (((Int.toNat x1_1) + (lh6_1.length - (Int.toNat x2_1)) : Nat) : Int))) (lh6_1.length - (Int.toNat (((Int.toNat x1_1) + (lh6_1.length - (Int.toNat x2_1)) : Nat) : Int))))]) (by kernel_rfl) ?_
                      cases b11 : (decide ((Int.toNat (((Int.toNat x1_1) + (lh6_1.length - (Int.toNat x2_1)) : Nat) : Int)) + (Int.toNat ((lh6_1.length : Nat) : Int) - (Int.toNat (((Int.toNat x1_1) + (lh6_1.length - (Int.toNat x2_1)) : Nat) : Int))) ≤ (List.take (Int.toNat x1_1) lh6_1 ++ List.take (lh6_1.length - (Int.toNat x2_1)) (List.drop (Int.toNat x2_1) lh6_1) ++ List.drop ((Int.toNat x1_1) + (lh6_1.length - (Int.toNat x2_1))) lh6_1).length) : Bool) with
                      | false => cases (cF b11 h)
                      | true =>
                        have h := cT b11 h
                        refine XR.ef E0_ok [0] rfl (e_clear encP_ok (z := #[ii 0, ii 0]) (x := (src 33 (.tmp 31))) (b := 6) (o := (Int.toNat (((Int.toNat x1_1) + (lh6_1.length - (Int.toNat x2_1)) : Nat) : Int)) * 2) (len := Int.toNat ((lh6_1.length : Nat) : Int) - (Int.toNat (((Int.toNat x1_1) + (lh6_1.length - (Int.toNat x2_1)) : Nat) : Int))) (cap := lh6_1.length - (Int.toNat (((Int.toNat x1_1) + (lh6_1.length - (Int.toNat x2_1)) : Nat) : Int))) (xs := List.take (Int.toNat x1_1) lh6_1 ++ List.take (lh6_1.length - (Int.toNat x2_1)) (List.drop (Int.toNat x2_1) lh6_1) ++ List.drop ((Int.toNat x1_1) + (lh6_1.length - (Int.toNat x2_1))) lh6_1) (e := 61) (es := 2) (d := none) (h' := [(6, rc encP (clearL (0, 0) (List.take (Int.toNat x1_1) lh6_1 ++ List.take (lh6_1.length - (Int.toNat x2_1)) (List.drop (Int.toNat x2_1) lh6_1) ++ List.drop ((Int.toNat x1_1) + (lh6_1.length - (Int.toNat x2_1))) lh6_1) (Int.toNat (((Int.toNat x1_1) + (lh6_1.length - (Int.toNat x2_1)) : Nat) : Int)) (Int.toNat ((lh6_1.length : Nat) : Int) - (Int.toNat (((Int.toNat x1_1) + (lh6_1.length - (Int.toNat x2_1)) : Nat) : Int)))) 0 61 2), (4, rc encP lh4_1 0 61 2), (2, rc (encI .i64) lh2_1 0 3 1), (1, rc encP lh1_1 0 61 2), (0, .cells [.int .u8 a_0_0, .int .u8 a_0_1, .int .u8 a_1_0, .int .u8 a_1_1, .int .u8 a_2_0, .int .u8 a_2_1, .int .u8 a_3_0, .int .u8 a_3_1, .int .u8 a_4_0, .int .u8 a_4_1, .int .u8 a_5_0, .int .u8 a_5_1, .int .u8 a_6_0, .int .u8 a_6_1, .int .u8 a_7_0, .int .u8 a_7_1] 0 56 0)]) (by kernel_rfl) (by kernel_rfl) (by kernel_rfl) (Int.toNat (((Int.toNat x1_1) + (lh6_1.length - (Int.toNat x2_1)) : Nat) : Int)) (0, 0) rfl rfl (by first | rfl | omega) b11 (by kernel_rfl)) (σ' := [(0, sl 6 0 ((Int.toNat x1_1) + (lh6_1.length - (Int.toNat x2_1))) lh6_1.length)]) (by kernel_rfl) ?_
                        refine XR.done (by kernel_rfl) ?_
                        show XQ _ _ _ _ _ _ _ _
                        refine XQ.seq E0_ok (by kernel_rfl) ?_
                        refine XQ.region (by kernel_rfl) ?_
                        refine XR.runS E0_ok 1 2 [(6, sl 6 0 ((Int.toNat x1_1) + (lh6_1.length - (Int.toNat x2_1))) lh6_1.length)] rfl (by kernel_rfl) ?_
                        refine XR.done (by kernel_rfl) ?_
                        show XQ _ _ _ _ _ _ _ _
                        refine XQ.ren (σ' := [(6, sl 6 0 ((Int.toNat x1_1) + (lh6_1.length - (Int.toNat x2_1))) lh6_1.length)]) (h' := [(6, rc encP (clearL (0, 0) (List.take (Int.toNat x1_1) lh6_1 ++ List.take (lh6_1.length - (Int.toNat x2_1)) (List.drop (Int.toNat x2_1) lh6_1) ++ List.drop ((Int.toNat x1_1) + (lh6_1.length - (Int.toNat x2_1))) lh6_1) (Int.toNat (((Int.toNat x1_1) + (lh6_1.length - (Int.toNat x2_1)) : Nat) : Int)) (Int.toNat ((lh6_1.length : Nat) : Int) - (Int.toNat (((Int.toNat x1_1) + (lh6_1.length - (Int.toNat x2_1)) : Nat) : Int)))) 0 61 2), (4, rc encP lh4_1 0 61 2), (2, rc (encI .i64) lh2_1 0 3 1), (1, rc encP lh1_1 0 61 2), (0, .cells [.int .u8 a_0_0, .int .u8 a_0_1, .int .u8 a_1_0, .int .u8 a_1_1, .int .u8 a_2_0, .int .u8 a_2_1, .int .u8 a_3_0, .int .u8 a_3_1, .int .u8 a_4_0, .int .u8 a_4_1, .int .u8 a_5_0, .int .u8 a_5_1, .int .u8 a_6_0, .int .u8 a_6_1, .int .u8 a_7_0, .int .u8 a_7_1] 0 56 0)]) (c' := 7) [0, 1, 2, 3, 4, 5, 6] (by decide) rfl ⟨by kernel_rfl, trivial⟩ ⟨⟨_, _, rfl, rfl, .inl ⟨rfl, rowC_scal encP_ok _⟩⟩, ⟨_, _, rfl, rfl, .inl ⟨rfl, rowC_scal encP_ok _⟩⟩, ⟨_, _, rfl, rfl, .inl ⟨rfl, rowC_scal (encI_ok .i64) _⟩⟩, ⟨_, _, rfl, rfl, .inl ⟨rfl, rowC_scal encP_ok _⟩⟩, ⟨_, _, rfl, rfl, .inr ⟨_, _, _, _, rfl, rfl⟩⟩, trivial⟩ rfl ?_
                        refine XQ.ret (by kernel_rfl) ?_
                        cases b12 : (decide ((Int.toNat x1_1) + (lh6_1.length - (Int.toNat x2_1)) ≤ (clearL (0, 0) (List.take (Int.toNat x1_1) lh6_1 ++ List.take (lh6_1.length - (Int.toNat x2_1)) (List.drop (Int.toNat x2_1) lh6_1) ++ List.drop ((Int.toNat x1_1) + (lh6_1.length - (Int.toNat x2_1))) lh6_1) (Int.toNat (((Int.toNat x1_1) + (lh6_1.length - (Int.toNat x2_1)) : Nat) : Int)) (Int.toNat ((lh6_1.length : Nat) : Int) - (Int.toNat (((Int.toNat x1_1) + (lh6_1.length - (Int.toNat x2_1)) : Nat) : Int)))).length) : Bool) with
                        | false => cases (cF b12 h)
                        | true =>
                          have h := cT b12 h
                          cases b13 : (decide ((Int.toNat x1_1) + (lh6_1.length - (Int.toNat x2_1)) ≤ lh6_1.length) : Bool) with
                          | false => cases (cF b13 h)
                          | true =>
                            have h := cT b13 h
                            cases h
                            exact ⟨fun i q => (by cases q), sl 6 0 ((Int.toNat x1_1) + (lh6_1.length - (Int.toNat x2_1))) lh6_1.length, (by kernel_rfl), clearL (0, 0) (List.take (Int.toNat x1_1) lh6_1 ++ List.take (lh6_1.length - (Int.toNat x2_1)) (List.drop (Int.toNat x2_1) lh6_1) ++ List.drop ((Int.toNat x1_1) + (lh6_1.length - (Int.toNat x2_1))) lh6_1) (Int.toNat (((Int.toNat x1_1) + (lh6_1.length - (Int.toNat x2_1)) : Nat) : Int)) (Int.toNat ((lh6_1.length : Nat) : Int) - (Int.toNat (((Int.toNat x1_1) + (lh6_1.length - (Int.toNat x2_1)) : Nat) : Int))), (Int.toNat x1_1) + (lh6_1.length - (Int.toNat x2_1)), lh6_1.length, [(6, rc encP (List.take ((Int.toNat x1_1) + (lh6_1.length - (Int.toNat x2_1))) (clearL (0, 0) (List.take (Int.toNat x1_1) lh6_1 ++ List.take (lh6_1.length - (Int.toNat x2_1)) (List.drop (Int.toNat x2_1) lh6_1) ++ List.drop ((Int.toNat x1_1) + (lh6_1.length - (Int.toNat x2_1))) lh6_1) (Int.toNat (((Int.toNat x1_1) + (lh6_1.length - (Int.toNat x2_1)) : Nat) : Int)) (Int.toNat ((lh6_1.length : Nat) : Int) - (Int.toNat (((Int.toNat x1_1) + (lh6_1.length - (Int.toNat x2_1)) : Nat) : Int))))) 0 61 2), (4, rc encP lh4_1 0 61 2), (2, rc (encI .i64) lh2_1 0 3 1), (1, rc encP lh1_1 0 61 2), (0, .cells [.int .u8 a_0_0, .int .u8 a_0_1, .int .u8 a_1_0, .int .u8 a_1_1, .int .u8 a_2_0, .int .u8 a_2_1, .int .u8 a_3_0, .int .u8 a_3_1, .int .u8 a_4_0, .int .u8 a_4_1, .int .u8 a_5_0, .int .u8 a_5_1, .int .u8 a_6_0, .int .u8 a_6_1, .int .u8 a_7_0, .int .u8 a_7_1] 0 56 0)], rfl, (by kernel_rfl), (of_decide_eq_true b12), (of_decide_eq_true b13), (by kernel_rfl), (by first | exact hR | simpa only [List.length_set] using hR)⟩

def f12_2 (m : Nat) (a_0_0 : Int) (a_0_1 : Int) (a_1_0 : Int) (a_1_1 : Int) (a_2_0 : Int) (a_2_1 : Int) (a_3_0 : Int) (a_3_1 : Int) (a_4_0 : Int) (a_4_1 : Int) (a_5_0 : Int) (a_5_1 : Int) (a_6_0 : Int) (a_6_1 : Int) (a_7_0 : Int) (a_7_1 : Int) (x1_2 : Int) (x2_2 : Int) (lh1_2 : List (Int × Int)) (lh2_2 : List Int) (lh4_2 : List (Int × Int)) (lh6_2 : List (Int × Int)) : Option (List (Int × Int)) :=
  cond (cutOK x1_2 x2_2 ((lh6_2.length : Nat) : Int) lh6_2.length) (
    cond (decide (0 < Int.toNat ((lh6_2.length : Nat) : Int) - (Int.toNat x1_2))) (
      cond (x1_2 == x2_2) (
        some (List.take lh6_2.length lh6_2)
      ) (
        cond (cutOK 0 x1_2 ((lh6_2.length : Nat) : Int) lh6_2.length) (
          cond (cutOK x2_2 ((lh6_2.length : Nat) : Int) ((lh6_2.length : Nat) : Int) lh6_2.length) (
            cond (decide (1 ≤ lh6_2.length)) (
              cond (decide ((Int.toNat x1_2) + (lh6_2.length - (Int.toNat x2_2)) ≤ lh6_2.length)) (
                cond (decide ((lh6_2.length - (Int.toNat x2_2)) ≤ (lh6_2.length - (Int.toNat x2_2)))) (
                  cond (decide ((Int.toNat x2_2) + (lh6_2.length - (Int.toNat x2_2)) ≤ lh6_2.length)) (
                    cond (cutOK (((Int.toNat x1_2) + (lh6_2.length - (Int.toNat x2_2)) : Nat) : Int) ((lh6_2.length : Nat) : Int) ((lh6_2.length : Nat) : Int) lh6_2.length) (
                      cond (decide ((Int.toNat (((Int.toNat x1_2) + (lh6_2.length - (Int.toNat x2_2)) : Nat) : Int)) + (Int.toNat ((lh6_2.length : Nat) : Int) - (Int.toNat (((Int.toNat x1_2) + (lh6_2.length - (Int.toNat x2_2)) : Nat) : Int))) ≤ (List.take (Int.toNat x1_2) lh6_2 ++ List.take (lh6_2.length - (Int.toNat x2_2)) (List.drop (Int.toNat x2_2) lh6_2) ++ List.drop ((Int.toNat x1_2) + (lh6_2.length - (Int.toNat x2_2))) lh6_2).length)) (
                        cond (decide ((Int.toNat x1_2) + (lh6_2.length - (Int.toNat x2_2)) ≤ (clearL (0, 0) (List.take (Int.toNat x1_2) lh6_2 ++ List.take (lh6_2.length - (Int.toNat x2_2)) (List.drop (Int.toNat x2_2) lh6_2) ++ List.drop ((Int.toNat x1_2) + (lh6_2.length - (Int.toNat x2_2))) lh6_2) (Int.toNat (((Int.toNat x1_2) + (lh6_2.length - (Int.toNat x2_2)) : Nat) : Int)) (Int.toNat ((lh6_2.length : Nat) : Int) - (Int.toNat (((Int.toNat x1_2) + (lh6_2.length - (Int.toNat x2_2)) : Nat) : Int)))).length)) (
                          cond (decide ((Int.toNat x1_2) + (lh6_2.length - (Int.toNat x2_2)) ≤ lh6_2.length)) (
                            some (List.take ((Int.toNat x1_2) + (lh6_2.length - (Int.toNat x2_2))) (clearL (0, 0) (List.take (Int.toNat x1_2) lh6_2 ++ List.take (lh6_2.length - (Int.toNat x2_2)) (List.drop (Int.toNat x2_2) lh6_2) ++ List.drop ((Int.toNat x1_2) + (lh6_2.length - (Int.toNat x2_2))) lh6_2) (Int.toNat (((Int.toNat x1_2) + (lh6_2.length - (Int.toNat x2_2)) : Nat) : Int)) (Int.toNat ((lh6_2.length : Nat) : Int) - (Int.toNat (((Int.toNat x1_2) + (lh6_2.length - (Int.toNat x2_2)) : Nat) : Int)))))
                          ) none
                        ) none
                      ) none
                    ) none
                  ) none
                ) none
              ) none
            ) none
          ) none
        ) none
      )
    ) none
  ) none

theorem f12_2_ok (m : Nat) (a_0_0 : Int) (a_0_1 : Int) (a_1_0 : Int) (a_1_1 : Int) (a_2_0 : Int) (a_2_1 : Int) (a_3_0 : Int) (a_3_1 : Int) (a_4_0 : Int) (a_4_1 : Int) (a_5_0 : Int) (a_5_1 : Int) (a_6_0 : Int) (a_6_1 : Int) (a_7_0 : Int) (a_7_1 : Int) (x1_2 : Int) (x2_2 : Int) (lh1_2 : List (Int × Int)) (lh2_2 : List Int) (lh4_2 : List (Int × Int)) (lh6_2 : List (Int × Int)) (o : (List (Int × Int))) (h : f12_2 m a_0_0 a_0_1 a_1_0 a_1_1 a_2_0 a_2_1 a_3_0 a_3_1 a_4_0 a_4_1 a_5_0 a_5_1 a_6_0 a_6_1 a_7_0 a_7_1 x1_2 x2_2 lh1_2 lh2_2 lh4_2 lh6_2 = some o) (R : Value → Heap → Nat → Prop) (hR : R (s0 6 o.length) [(6, rc encP o 0 61 2), (4, rc encP lh4_2 0 61 2), (2, rc (encI .i64) lh2_2 0 3 1), (1, rc encP lh1_2 0 61 2), (0, .cells [.int .u8 a_0_0, .int .u8 a_0_1, .int .u8 a_1_0, .int .u8 a_1_1, .int .u8 a_2_0, .int .u8 a_2_1, .int .u8 a_3_0, .int .u8 a_3_1, .int .u8 a_4_0, .int .u8 a_4_1, .int .u8 a_5_0, .int .u8 a_5_1, .int .u8 a_6_0, .int .u8 a_6_1, .int .u8 a_7_0, .int .u8 a_7_1] 0 56 0)] 7) : KC E0 51 [s0 6 lh6_2.length, ii x1_2, ii x2_2] [(6, rc encP lh6_2 0 61 2), (4, rc encP lh4_2 0 61 2), (2, rc (encI .i64) lh2_2 0 3 1), (1, rc encP lh1_2 0 61 2), (0, .cells [.int .u8 a_0_0, .int .u8 a_0_1, .int .u8 a_1_0, .int .u8 a_1_1, .int .u8 a_2_0, .int .u8 a_2_1, .int .u8 a_3_0, .int .u8 a_3_1, .int .u8 a_4_0, .int .u8 a_4_1, .int .u8 a_5_0, .int .u8 a_5_1, .int .u8 a_6_0, .int .u8 a_6_1, .int .u8 a_7_0, .int .u8 a_7_1] 0 56 0)] 7 R := by
  refine KC.shrink encP_ok rfl (e := 61) 6 ?_
  refine KC.bodyN E0_ok (F := Proofs.Try.f51) (by kernel_rfl) (code := f12_C51) (by kernel_rfl) (nt := 33) (by kernel_rfl) (rs := [.tmp 6]) (by kernel_rfl) (by kernel_rfl) (σ := [(0, s0 6 lh6_2.length), (1, ii x1_2), (2, ii x2_2)]) (by kernel_rfl) ?_
  unfold f12_2 at h
  refine XQ.seq E0_ok (by kernel_rfl) ?_
  refine XQ.region (by kernel_rfl) ?_
  refine XR.runS E0_ok 1 1 [(0, s0 6 lh6_2.length), (1, ii x1_2), (2, ii x2_2)] rfl (by kernel_rfl) ?_
  refine XR.done (by kernel_rfl) ?_
  show XQ _ _ _ _ _ _ _ _
  refine XQ.seq E0_ok (by kernel_rfl) ?_
  refine XQ.region (by kernel_rfl) ?_
  refine XR.runS E0_ok 1 5 [(0, s0 6 lh6_2.length), (1, ii x1_2), (2, ii x2_2), (8, s0 6 lh6_2.length), (9, ii x1_2), (10, ii x2_2), (12, ii ((lh6_2.length : Nat) : Int))] rfl (by kernel_rfl) ?_
  cases b1 : (cutOK x1_2 x2_2 ((lh6_2.length : Nat) : Int) lh6_2.length : Bool) with
  | false => cases (cF b1 h)
  | true =>
    have h := cT b1 h
    cases b2 : (decide (0 < Int.toNat ((lh6_2.length : Nat) : Int) - (Int.toNat x1_2)) : Bool) with
    | false => cases (cF b2 h)
    | true =>
      have h := cT b2 h
      refine XR.rd E0_ok [0, 1, 2] rfl (v := sl 6 ((Int.toNat x1_2) * 2) (Int.toNat x2_2 - (Int.toNat x1_2)) (Int.toNat ((lh6_2.length : Nat) : Int) - (Int.toNat x1_2))) (v_cutM (nt := 33) (s := 2) (x := (src 33 (.tmp 8))) (lo := (some (.tmp 9))) (hi := (some (.tmp 10))) (mx := (some (.tmp 12))) (b := 6) (o := 0) (len := lh6_2.length) (cap := lh6_2.length) (l := (some x1_2)) (u := (some x2_2)) (m := (some ((lh6_2.length : Nat) : Int))) (cs := rowC encP lh6_2) (fz := 0) (e := 61) (es := 2) (o' := (Int.toNat x1_2) * 2) (len' := Int.toNat x2_2 - (Int.toNat x1_2)) (cap' := Int.toNat ((lh6_2.length : Nat) : Int) - (Int.toNat x1_2)) (d := (some (path 12 13))) (by kernel_rfl) (by kernel_rfl) (by kernel_rfl) (by kernel_rfl) (by kernel_rfl) (by kernel_rfl) (by kernel_rfl) rfl b1 (by simpa using b2) (by simp only [Option.getD_none, Option.getD_some] <;> omega) (by simp only [Option.getD_none, Option.getD_some] <;> omega) (by simp only [Option.getD_none, Option.getD_some] <;> omega)) (σ' := [(0, s0 6 lh6_2.length), (1, ii x1_2), (2, ii x2_2)]) (by kernel_rfl) ?_
      refine XR.done (by kernel_rfl) ?_
      show XQ _ _ _ _ _ _ _ _
      refine XQ.seq E0_ok (by kernel_rfl) ?_
      refine XQ.seq E0_ok (by kernel_rfl) ?_
      refine XQ.region (by kernel_rfl) ?_
      refine XR.runS E0_ok 1 3 [(0, s0 6 lh6_2.length), (1, ii x1_2), (2, ii x2_2), (16, .bool (x1_2 == x2_2))] rfl (by kernel_rfl) ?_
      refine XR.done (by kernel_rfl) ?_
      show XQ _ _ _ _ _ _ _ _
      cases b3 : (x1_2 == x2_2 : Bool) with
      | true =>
        have h := cT b3 h
        refine XQ.cond (s := (.tmp 16)) (b := true) (by kernel_rfl) (by kernel_rfl) (fun _ => ?_) (fun q => by cases q)
        refine XQ.seq E0_ok (by kernel_rfl) ?_
        refine XQ.region (by kernel_rfl) ?_
        refine XR.runS E0_ok 1 2 [(6, s0 6 lh6_2.length)] rfl (by kernel_rfl) ?_
        refine XR.done (by kernel_rfl) ?_
        show XQ _ _ _ _ _ _ _ _
        refine XQ.ren (σ' := [(6, s0 6 lh6_2.length)]) (h' := [(6, rc encP lh6_2 0 61 2), (4, rc encP lh4_2 0 61 2), (2, rc (encI .i64) lh2_2 0 3 1), (1, rc encP lh1_2 0 61 2), (0, .cells [.int .u8 a_0_0, .int .u8 a_0_1, .int .u8 a_1_0, .int .u8 a_1_1, .int .u8 a_2_0, .int .u8 a_2_1, .int .u8 a_3_0, .int .u8 a_3_1, .int .u8 a_4_0, .int .u8 a_4_1, .int .u8 a_5_0, .int .u8 a_5_1, .int .u8 a_6_0, .int .u8 a_6_1, .int .u8 a_7_0, .int .u8 a_7_1] 0 56 0)]) (c' := 7) [0, 1, 2, 3, 4, 5, 6] (by decide) rfl ⟨by kernel_rfl, trivial⟩ ⟨⟨_, _, rfl, rfl, .inl ⟨rfl, rowC_scal encP_ok _⟩⟩, ⟨_, _, rfl, rfl, .inl ⟨rfl, rowC_scal encP_ok _⟩⟩, ⟨_, _, rfl, rfl, .inl ⟨rfl, rowC_scal (encI_ok .i64) _⟩⟩, ⟨_, _, rfl, rfl, .inl ⟨rfl, rowC_scal encP_ok _⟩⟩, ⟨_, _, rfl, rfl, .inr ⟨_, _, _, _, rfl, rfl⟩⟩, trivial⟩ rfl ?_
        refine XQ.ret (by kernel_rfl) ?_
        cases h
        exact ⟨fun i q => (by cases q), s0 6 lh6_2.length, (by kernel_rfl), lh6_2, lh6_2.length, lh6_2.length, [(6, rc encP (List.take lh6_2.length lh6_2) 0 61 2), (4, rc encP lh4_2 0 61 2), (2, rc (encI .i64) lh2_2 0 3 1), (1, rc encP lh1_2 0 61 2), (0, .cells [.int .u8 a_0_0, .int .u8 a_0_1, .int .u8 a_1_0, .int .u8 a_1_1, .int .u8 a_2_0, .int .u8 a_2_1, .int .u8 a_3_0, .int .u8 a_3_1, .int .u8 a_4_0, .int .u8 a_4_1, .int .u8 a_5_0, .int .u8 a_5_1, .int .u8 a_6_0, .int .u8 a_6_1, .int .u8 a_7_0, .int .u8 a_7_1] 0 56 0)], rfl, (by kernel_rfl), (Nat.le_refl _), (Nat.le_refl _), (by kernel_rfl), (by first | exact hR | simpa only [List.length_set] using hR)⟩
      | false =>
        have h := cF b3 h
        refine XQ.cond (s := (.tmp 16)) (b := false) (by kernel_rfl) (by kernel_rfl) (fun q => by cases q) (fun _ => ?_)
        refine XQ.skip (by kernel_rfl) ?_
        show XQ _ _ _ _ _ _ _ _
        refine XQ.seq E0_ok (by kernel_rfl) ?_
        refine XQ.region (by kernel_rfl) ?_
        refine XR.runS E0_ok 1 3 [(0, s0 6 lh6_2.length), (1, ii x1_2), (2, ii x2_2), (7, ii ((lh6_2.length : Nat) : Int))] rfl (by kernel_rfl) ?_
        refine XR.done (by kernel_rfl) ?_
        show XQ _ _ _ _ _ _ _ _
        refine XQ.seq E0_ok (by kernel_rfl) ?_
        refine XQ.tail E0_ok 6 (by kernel_rfl) (by kernel_rfl) ?_
        refine XS.step E0_ok 2 rfl [0, 2, 7, 20, 21] rfl (σ' := [(0, s0 6 lh6_2.length), (2, ii x2_2), (7, ii ((lh6_2.length : Nat) : Int)), (20, s0 6 lh6_2.length), (21, ii x1_2)]) (by kernel_rfl) ?_
        cases b4 : (cutOK 0 x1_2 ((lh6_2.length : Nat) : Int) lh6_2.length : Bool) with
        | false => cases (cF b4 h)
        | true =>
          have h := cT b4 h
          refine XS.rd E0_ok rfl [0, 2, 7, 22] rfl (v := sl 6 0 (Int.toNat x1_2) lh6_2.length) (v_cut (nt := 33) (s := 2) (x := (src 33 (.tmp 20))) (lo := none) (hi := (some (.tmp 21))) (mx := none) (b := 6) (o := 0) (len := lh6_2.length) (cap := lh6_2.length) (l := none) (u := (some x1_2)) (m := none) (cs := rowC encP lh6_2) (fz := 0) (e := 61) (es := 2) (o' := 0) (len' := Int.toNat x1_2) (cap' := lh6_2.length) (d := (some (path 12 22))) (by kernel_rfl) (by kernel_rfl) (by kernel_rfl) (by kernel_rfl) (by kernel_rfl) (by kernel_rfl) (by kernel_rfl) rfl b4 (by simp only [Option.getD_none, Option.getD_some] <;> omega) (by simp only [Option.getD_none, Option.getD_some] <;> omega) (by simp only [Option.getD_none, Option.getD_some] <;> omega)) (σ' := [(0, s0 6 lh6_2.length), (2, ii x2_2), (7, ii ((lh6_2.length : Nat) : Int)), (22, sl 6 0 (Int.toNat x1_2) lh6_2.length)]) (by kernel_rfl) ?_
          refine XS.step E0_ok 2 rfl [7, 22, 23, 24] rfl (σ' := [(7, ii ((lh6_2.length : Nat) : Int)), (22, sl 6 0 (Int.toNat x1_2) lh6_2.length), (23, s0 6 lh6_2.length), (24, ii x2_2)]) (by kernel_rfl) ?_
          cases b5 : (cutOK x2_2 ((lh6_2.length : Nat) : Int) ((lh6_2.length : Nat) : Int) lh6_2.length : Bool) with
          | false => cases (cF b5 h)
          | true =>
            have h := cT b5 h
            refine XS.rd E0_ok rfl [7, 22, 25] rfl (v := sl 6 ((Int.toNat x2_2) * 2) (lh6_2.length - (Int.toNat x2_2)) (lh6_2.length - (Int.toNat x2_2))) (v_cut (nt := 33) (s := 2) (x := (src 33 (.tmp 23))) (lo := (some (.tmp 24))) (hi := none) (mx := none) (b := 6) (o := 0) (len := lh6_2.length) (cap := lh6_2.length) (l := (some x2_2)) (u := none) (m := none) (cs := rowC encP lh6_2) (fz := 0) (e := 61) (es := 2) (o' := (Int.toNat x2_2) * 2) (len' := lh6_2.length - (Int.toNat x2_2)) (cap' := lh6_2.length - (Int.toNat x2_2)) (d := (some (path 12 25))) (by kernel_rfl) (by kernel_rfl) (by kernel_rfl) (by kernel_rfl) (by kernel_rfl) (by kernel_rfl) (by kernel_rfl) rfl b5 (by simp only [Option.getD_none, Option.getD_some] <;> omega) (by simp only [Option.getD_none, Option.getD_some] <;> omega) (by simp only [Option.getD_none, Option.getD_some] <;> omega)) (σ' := [(7, ii ((lh6_2.length : Nat) : Int)), (22, sl 6 0 (Int.toNat x1_2) lh6_2.length), (25, sl 6 ((Int.toNat x2_2) * 2) (lh6_2.length - (Int.toNat x2_2)) (lh6_2.length - (Int.toNat x2_2)))]) (by kernel_rfl) ?_
            refine XS.done (by kernel_rfl) ?_
            cases b6 : (decide (1 ≤ lh6_2.length) : Bool) with
            | false => cases (cF b6 h)
            | true =>
              have h := cT b6 h
              cases b7 : (decide ((Int.toNat x1_2) + (lh6_2.length - (Int.toNat x2_2)) ≤ lh6_2.length) : Bool) with
              | false => cases (cF b7 h)
              | true =>
                have h := cT b7 h
                cases b8 : (decide ((lh6_2.length - (Int.toNat x2_2)) ≤ (lh6_2.length - (Int.toNat x2_2))) : Bool) with
                | false => cases (cF b8 h)
                | true =>
                  have h := cT b8 h
                  cases b9 : (decide ((Int.toNat x2_2) + (lh6_2.length - (Int.toNat x2_2)) ≤ lh6_2.length) : Bool) with
                  | false => cases (cF b9 h)
                  | true =>
                    have h := cT b9 h
                    refine XR.appF E0_ok [7, 26] (d := (some (path 12 26))) (f := eAppend false 2 16 61 (src 33 (.tmp 22)) (src 33 (.tmp 25))) (.tmp 22) (.tmp 25) 22 22 2 rfl (by kernel_rfl) (by kernel_rfl) (by kernel_rfl) (e_appendF encP_ok (x := (src 33 (.tmp 22))) (y := (src 33 (.tmp 25))) (b := 6) (n := Int.toNat x1_2) (cap := lh6_2.length) (xs := lh6_2) (e := 61) (Y := sl 6 ((Int.toNat x2_2) * 2) (lh6_2.length - (Int.toNat x2_2)) (lh6_2.length - (Int.toNat x2_2))) (m := lh6_2.length - (Int.toNat x2_2)) (ys := List.take (lh6_2.length - (Int.toNat x2_2)) (List.drop (Int.toNat x2_2) lh6_2)) (n' := (Int.toNat x1_2) + (lh6_2.length - (Int.toNat x2_2))) (h' := [(6, rc encP (List.take (Int.toNat x1_2) lh6_2 ++ List.take (lh6_2.length - (Int.toNat x2_2)) (List.drop (Int.toNat x2_2) lh6_2) ++ List.drop ((Int.toNat x1_2) + (lh6_2.length - (Int.toNat x2_2))) lh6_2) 0 61 2), (4, rc encP lh4_2 0 61 2), (2, rc (encI .i64) lh2_2 0 3 1), (1, rc encP lh1_2 0 61 2), (0, .cells [.int .u8 a_0_0, .int .u8 a_0_1, .int .u8 a_1_0, .int .u8 a_1_1, .int .u8 a_2_0, .int .u8 a_2_1, .int .u8 a_3_0, .int .u8 a_3_1, .int .u8 a_4_0, .int .u8 a_4_1, .int .u8 a_5_0, .int .u8 a_5_1, .int .u8 a_6_0, .int .u8 a_6_1, .int .u8 a_7_0, .int .u8 a_7_1] 0 56 0)]) (by kernel_rfl) (by kernel_rfl) (by kernel_rfl) (fetch_row encP_ok (ys := lh6_2) (fz := 0) (e := 61) (es := 2) (by kernel_rfl) (Int.toNat x2_2) (lh6_2.length - (Int.toNat x2_2)) (lh6_2.length - (Int.toNat x2_2)) (lh6_2.length - (Int.toNat x2_2)) rfl (Nat.ble_eq_true_of_le (of_decide_eq_true b8)) (of_decide_eq_true b9) rfl) (by have := of_decide_eq_true b9; simp only [List.length_take, List.length_drop]; omega) rfl (of_decide_eq_true b6) (of_decide_eq_true b7) (of_decide_eq_true b7) rfl (by kernel_rfl)) (σ' := [(7, ii ((lh6_2.length : Nat) : Int)), (26, sl 6 0 ((Int.toNat x1_2) + (lh6_2.length - (Int.toNat x2_2))) lh6_2.length)]) (by kernel_rfl) ?_
                    refine XR.runS E0_ok 1 1 [(0, sl 6 0 ((Int.toNat x1_2) + (lh6_2.length - (Int.toNat x2_2))) lh6_2.length), (7, ii ((lh6_2.length : Nat) : Int))] rfl (by kernel_rfl) ?_
                    refine XR.done (by kernel_rfl) ?_
                    show XQ _ _ _ _ _ _ _ _
                    refine XQ.seq E0_ok (by kernel_rfl) ?_
                    refine XQ.region (by kernel_rfl) ?_
                    refine XR.runS E0_ok 1 4 [(0, sl 6 0 ((Int.toNat x1_2) + (lh6_2.length - (Int.toNat x2_2))) lh6_2.length), (27, sl 6 0 ((Int.toNat x1_2) + (lh6_2.length - (Int.toNat x2_2))) lh6_2.length), (29, ii (((Int.toNat x1_2) + (lh6_2.length - (Int.toNat x2_2)) : Nat) : Int)), (30, ii ((lh6_2.length : Nat) : Int))] rfl (by kernel_rfl) ?_
                    cases b10 : (cutOK (((Int.toNat x1_2) + (lh6_2.length - (Int.toNat x2_2)) : Nat) : Int) ((lh6_2.length : Nat) : Int) ((lh6_2.length : Nat) : Int) lh6_2.length : Bool) with
                    | false => cases (cF b10 h)
                    | true =>
                      have h := cT b10 h
                      refine XR.rd E0_ok [0, 31] rfl (v := sl 6 ((Int.toNat (((Int.toNat x1_2) + (lh6_2.length - (Int.toNat x2_2)) : Nat) : Int)) * 2) (Int.toNat ((lh6_2.length : Nat) : Int) - (Int.toNat (((Int.toNat x1_2) + (lh6_2.length - (Int.toNat x2_2)) : Nat) : Int))) (lh6_2.length - (Int.toNat (((Int.toNat x1_2) + (lh6_2.length - (Int.toNat x2_2)) : Nat) : Int)))) (v_cut (nt := 33) (s := 2) (x := (src 33 (.tmp 27))) (lo := (some (.tmp 29))) (hi := (some (.tmp 30))) (mx := none) (b := 6) (o := 0) (len := (Int.toNat x1_2) + (lh6_2.length - (Int.toNat x2_2))) (cap := lh6_2.length) (l := (some (((Int.toNat x1_2) + (lh6_2.length - (Int.toNat x2_2)) : Nat) : Int))) (u := (some ((lh6_2.length : Nat) : Int))) (m := none) (cs := rowC encP (List.take (Int.toNat x1_2) lh6_2 ++ List.take (lh6_2.length - (Int.toNat x2_2)) (List.drop (Int.toNat x2_2) lh6_2) ++ List.drop ((Int.toNat x1_2) + (lh6_2.length - (Int.toNat x2_2))) lh6_2)) (fz := 0) (e := 61) (es := 2) (o' := (Int.toNat (((Int.toNat x1_2) + (lh6_2.length - (Int.toNat x2_2)) : Nat) : Int)) * 2) (len' := Int.toNat ((lh6_2.length : Nat) : Int) - (Int.toNat (((Int.toNat x1_2) + (lh6_2.length - (Int.toNat x2_2)) : Nat) : Int))) (cap' := lh6_2.length - (Int.toNat (((Int.toNat x1_2) + (lh6_2.length - (Int.toNat x2_2)) : Nat) : Int))) (d := (some (path 12 31))) (by kernel_rfl) (by kernel_rfl) (by kernel_rfl) (by kernel_rfl) (by kernel_rfl) (by kernel_rfl) (by kernel_rfl) rfl b10 (by simp only [Option.getD_none, Option.getD_some] <;> omega) (by simp only [Option.getD_none, Option.getD_some] <;> omega) (by simp only [Option.getD_none, Option.getD_some] <;> omega)) (σ' := [(0, sl 6 0 ((Int.toNat x1_2) + (lh6_2.length - (Int.toNat x2_2))) lh6_2.length), (31, sl 6 ((Int.toNat (((Int.toNat x1_2) + (lh6_2.length - (Int.toNat x2_2)) : Nat) : Int)) * 2) (Int.toNat ((lh6_2.length : Nat) : Int) - (Int.toNat (((Int.toNat x1_2) + (lh6_2.length - (Int.toNat x2_2)) : Nat) : Int))) (lh6_2.length - (Int.toNat (((Int.toNat x1_2) + (lh6_2.length - (Int.toNat x2_2)) : Nat) : Int))))]) (by kernel_rfl) ?_
                      cases b11 : (decide ((Int.toNat (((Int.toNat x1_2) + (lh6_2.length - (Int.toNat x2_2)) : Nat) : Int)) + (Int.toNat ((lh6_2.length : Nat) : Int) - (Int.toNat (((Int.toNat x1_2) + (lh6_2.length - (Int.toNat x2_2)) : Nat) : Int))) ≤ (List.take (Int.toNat x1_2) lh6_2 ++ List.take (lh6_2.length - (Int.toNat x2_2)) (List.drop (Int.toNat x2_2) lh6_2) ++ List.drop ((Int.toNat x1_2) + (lh6_2.length - (Int.toNat x2_2))) lh6_2).length) : Bool) with
                      | false => cases (cF b11 h)
                      | true =>
                        have h := cT b11 h
                        refine XR.ef E0_ok [0] rfl (e_clear encP_ok (z := #[ii 0, ii 0]) (x := (src 33 (.tmp 31))) (b := 6) (o := (Int.toNat (((Int.toNat x1_2) + (lh6_2.length - (Int.toNat x2_2)) : Nat) : Int)) * 2) (len := Int.toNat ((lh6_2.length : Nat) : Int) - (Int.toNat (((Int.toNat x1_2) + (lh6_2.length - (Int.toNat x2_2)) : Nat) : Int))) (cap := lh6_2.length - (Int.toNat (((Int.toNat x1_2) + (lh6_2.length - (Int.toNat x2_2)) : Nat) : Int))) (xs := List.take (Int.toNat x1_2) lh6_2 ++ List.take (lh6_2.length - (Int.toNat x2_2)) (List.drop (Int.toNat x2_2) lh6_2) ++ List.drop ((Int.toNat x1_2) + (lh6_2.length - (Int.toNat x2_2))) lh6_2) (e := 61) (es := 2) (d := none) (h' := [(6, rc encP (clearL (0, 0) (List.take (Int.toNat x1_2) lh6_2 ++ List.take (lh6_2.length - (Int.toNat x2_2)) (List.drop (Int.toNat x2_2) lh6_2) ++ List.drop ((Int.toNat x1_2) + (lh6_2.length - (Int.toNat x2_2))) lh6_2) (Int.toNat (((Int.toNat x1_2) + (lh6_2.length - (Int.toNat x2_2)) : Nat) : Int)) (Int.toNat ((lh6_2.length : Nat) : Int) - (Int.toNat (((Int.toNat x1_2) + (lh6_2.length - (Int.toNat x2_2)) : Nat) : Int)))) 0 61 2), (4, rc encP lh4_2 0 61 2), (2, rc (encI .i64) lh2_2 0 3 1), (1, rc encP lh1_2 0 61 2), (0, .cells [.int .u8 a_0_0, .int .u8 a_0_1, .int .u8 a_1_0, .int .u8 a_1_1, .int .u8 a_2_0, .int .u8 a_2_1, .int .u8 a_3_0, .int .u8 a_3_1, .int .u8 a_4_0, .int .u8 a_4_1, .int .u8 a_5_0, .int .u8 a_5_1, .int .u8 a_6_0, .int .u8 a_6_1, .int .u8 a_7_0, .int .u8 a_7_1] 0 56 0)]) (by kernel_rfl) (by kernel_rfl) (by kernel_rfl) (Int.toNat (((Int.toNat x1_2) + (lh6_2.length - (Int.toNat x2_2)) : Nat) : Int)) (0, 0) rfl rfl (by first | rfl | omega) b11 (by kernel_rfl)) (σ' := [(0, sl 6 0 ((Int.toNat x1_2) + (lh6_2.length - (Int.toNat x2_2))) lh6_2.length)]) (by kernel_rfl) ?_
                        refine XR.done (by kernel_rfl) ?_
                        show XQ _ _ _ _ _ _ _ _
                        refine XQ.seq E0_ok (by kernel_rfl) ?_
                        refine XQ.region (by kernel_rfl) ?_
                        refine XR.runS E0_ok 1 2 [(6, sl 6 0 ((Int.toNat x1_2) + (lh6_2.length - (Int.toNat x2_2))) lh6_2.length)] rfl (by kernel_rfl) ?_
                        refine XR.done (by kernel_rfl) ?_
                        show XQ _ _ _ _ _ _ _ _
                        refine XQ.ren (σ' := [(6, sl 6 0 ((Int.toNat x1_2) + (lh6_2.length - (Int.toNat x2_2))) lh6_2.length)]) (h' := [(6, rc encP (clearL (0, 0) (List.take (Int.toNat x1_2) lh6_2 ++ List.take (lh6_2.length - (Int.toNat x2_2)) (List.drop (Int.toNat x2_2) lh6_2) ++ List.drop ((Int.toNat x1_2) + (lh6_2.length - (Int.toNat x2_2))) lh6_2) (Int.toNat (((Int.toNat x1_2) + (lh6_2.length - (Int.toNat x2_2)) : Nat) : Int)) (Int.toNat ((lh6_2.length : Nat) : Int) - (Int.toNat (((Int.toNat x1_2) + (lh6_2.length - (Int.toNat x2_2)) : Nat) : Int)))) 0 61 2), (4, rc encP lh4_2 0 61 2), (2, rc (encI .i64) lh2_2 0 3 1), (1, rc encP lh1_2 0 61 2), (0, .cells [.int .u8 a_0_0, .int .u8 a_0_1, .int .u8 a_1_0, .int .u8 a_1_1, .int .u8 a_2_0, .int .u8 a_2_1, .int .u8 a_3_0, .int .u8 a_3_1, .int .u8 a_4_0, .int .u8 a_4_1, .int .u8 a_5_0, .int .u8 a_5_1, .int .u8 a_6_0, .int .u8 a_6_1, .int .u8 a_7_0, .int .u8 a_7_1] 0 56 0)]) (c' := 7) [0, 1, 2, 3, 4, 5, 6] (by decide) rfl ⟨by kernel_rfl, trivial⟩ ⟨⟨_, _, rfl, rfl, .inl ⟨rfl, rowC_scal encP_ok _⟩⟩, ⟨_, _, rfl, rfl, .inl ⟨rfl, rowC_scal encP_ok _⟩⟩, ⟨_, _, rfl, rfl, .inl ⟨rfl, rowC_scal (encI_ok .i64) _⟩⟩, ⟨_, _, rfl, rfl, .inl ⟨rfl, rowC_scal encP_ok _⟩⟩, ⟨_, _, rfl, rfl, .inr ⟨_, _, _, _, rfl, rfl⟩⟩, trivial⟩ rfl ?_
                        refine XQ.ret (by kernel_rfl) ?_
                        cases b12 : (decide ((Int.toNat x1_2) + (lh6_2.length - (Int.toNat x2_2)) ≤ (clearL (0, 0) (List.take (Int.toNat x1_2) lh6_2 ++ List.take (lh6_2.length - (Int.toNat x2_2)) (List.drop (Int.toNat x2_2) lh6_2) ++ List.drop ((Int.toNat x1_2) + (lh6_2.length - (Int.toNat x2_2))) lh6_2) (Int.toNat (((Int.toNat x1_2) + (lh6_2.length - (Int.toNat x2_2)) : Nat) : Int)) (Int.toNat ((lh6_2.length : Nat) : Int) - (Int.toNat (((Int.toNat x1_2) + (lh6_2.length - (Int.toNat x2_2)) : Nat) : Int)))).length) : Bool) with
                        | false => cases (cF b12 h)
                        | true =>
                          have h := cT b12 h
                          cases b13 : (decide ((Int.toNat x1_2) + (lh6_2.length - (Int.toNat x2_2)) ≤ lh6_2.length) : Bool) with
                          | false => cases (cF b13 h)
                          | true =>
                            have h := cT b13 h
                            cases h
                            exact ⟨fun i q => (by cases q), sl 6 0 ((Int.toNat x1_2) + (lh6_2.length - (Int.toNat x2_2))) lh6_2.length, (by kernel_rfl), clearL (0, 0) (List.take (Int.toNat x1_2) lh6_2 ++ List.take (lh6_2.length - (Int.toNat x2_2)) (List.drop (Int.toNat x2_2) lh6_2) ++ List.drop ((Int.toNat x1_2) + (lh6_2.length - (Int.toNat x2_2))) lh6_2) (Int.toNat (((Int.toNat x1_2) + (lh6_2.length - (Int.toNat x2_2)) : Nat) : Int)) (Int.toNat ((lh6_2.length : Nat) : Int) - (Int.toNat (((Int.toNat x1_2) + (lh6_2.length - (Int.toNat x2_2)) : Nat) : Int))), (Int.toNat x1_2) + (lh6_2.length - (Int.toNat x2_2)), lh6_2.length, [(6, rc encP (List.take ((Int.toNat x1_2) + (lh6_2.length - (Int.toNat x2_2))) (clearL (0, 0) (List.take (Int.toNat x1_2) lh6_2 ++ List.take (lh6_2.length - (Int.toNat x2_2)) (List.drop (Int.toNat x2_2) lh6_2) ++ List.drop ((Int.toNat x1_2) + (lh6_2.length - (Int.toNat x2_2))) lh6_2) (Int.toNat (((Int.toNat x1_2) + (lh6_2.length - (Int.toNat x2_2)) : Nat) : Int)) (Int.toNat ((lh6_2.length : Nat) : Int) - (Int.toNat (((Int.toNat x1_2) + (lh6_2.length - (Int.toNat x2_2)) : Nat) : Int))))) 0 61 2), (4, rc encP lh4_2 0 61 2), (2, rc (encI .i64) lh2_2 0 3 1), (1, rc encP lh1_2 0 61 2), (0, .cells [.int .u8 a_0_0, .int .u8 a_0_1, .int .u8 a_1_0, .int .u8 a_1_1, .int .u8 a_2_0, .int .u8 a_2_1, .int .u8 a_3_0, .int .u8 a_3_1, .int .u8 a_4_0, .int .u8 a_4_1, .int .u8 a_5_0, .int .u8 a_5_1, .int .u8 a_6_0, .int .u8 a_6_1, .int .u8 a_7_0, .int .u8 a_7_1] 0 56 0)], rfl, (by kernel_rfl), (of_decide_eq_true b12), (of_decide_eq_true b13), (by kernel_rfl), (by first | exact hR | simpa only [List.length_set] using hR)⟩

def f12_3 (m : Nat) (a_0_0 : Int) (a_0_1 : Int) (a_1_0 : Int) (a_1_1 : Int) (a_2_0 : Int) (a_2_1 : Int) (a_3_0 : Int) (a_3_1 : Int) (a_4_0 : Int) (a_4_1 : Int) (a_5_0 : Int) (a_5_1 : Int) (a_6_0 : Int) (a_6_1 : Int) (a_7_0 : Int) (a_7_1 : Int) (o2 : (List (Int × Int))) (x1_3 : Int) (x2_3 : Int) (lh1_3 : List (Int × Int)) (lh2_3 : List Int) (lh4_3 : List (Int × Int)) (lh8_3 : List Int) : Option (List Int) :=
  cond (cutOK x1_3 x2_3 ((lh8_3.length : Nat) : Int) lh8_3.length) (
    cond (decide (0 < Int.toNat ((lh8_3.length : Nat) : Int) - (Int.toNat x1_3))) (
      cond (x1_3 == x2_3) (
        some (List.take lh8_3.length lh8_3)
      ) (
        cond (cutOK 0 x1_3 ((lh8_3.length : Nat) : Int) lh8_3.length) (
          cond (cutOK x2_3 ((lh8_3.length : Nat) : Int) ((lh8_3.length : Nat) : Int) lh8_3.length) (
            cond (decide (1 ≤ lh8_3.length)) (
              cond (decide ((Int.toNat x1_3) + (lh8_3.length - (Int.toNat x2_3)) ≤ lh8_3.length)) (
                cond (decide ((lh8_3.length - (Int.toNat x2_3)) ≤ (lh8_3.length - (Int.toNat x2_3)))) (
                  cond (decide ((Int.toNat x2_3) + (lh8_3.length - (Int.toNat x2_3)) ≤ lh8_3.length)) (
                    cond (cutOK (((Int.toNat x1_3) + (lh8_3.length - (Int.toNat x2_3)) : Nat) : Int) ((lh8_3.length : Nat) : Int) ((lh8_3.length : Nat) : Int) lh8_3.length) (
                      cond (decide ((Int.toNat (((Int.toNat x1_3) + (lh8_3.length - (Int.toNat x2_3)) : Nat) : Int)) + (Int.toNat ((lh8_3.length : Nat) : Int) - (Int.toNat (((Int.toNat x1_3) + (lh8_3.length - (Int.toNat x2_3)) : Nat) : Int))) ≤ (List.take (Int.toNat x1_3) lh8_3 ++ List.take (lh8_3.length - (Int.toNat x2_3)) (List.drop (Int.toNat x2_3) lh8_3) ++ List.drop ((Int.toNat x1_3) + (lh8_3.length - (Int.toNat x2_3))) lh8_3).length)) (
                        cond (decide ((Int.toNat x1_3) + (lh8_3.length - (Int.toNat x2_3)) ≤ (clearL 0 (List.take (Int.toNat x1_3) lh8_3 ++ List.take (lh8_3.length - (Int.toNat x2_3)) (List.drop (Int.toNat x2_3) lh8_3) ++ List.drop ((Int.toNat x1_3) + (lh8_3.length - (Int.toNat x2_3))) lh8_3) (Int.toNat (((Int.toNat x1_3) + (lh8_3.length - (Int.toNat x2_3)) : Nat) : Int)) (Int.toNat ((lh8_3.length : Nat) : Int) - (Int.toNat (((Int.toNat x1_3) + (lh8_3.length - (Int.toNat x2_3)) : Nat) : Int)))).length)) (
                          cond (decide ((Int.toNat x1_3) + (lh8_3.length - (Int.toNat x2_3)) ≤ lh8_3.length)) (
                            some (List.take ((Int.toNat x1_3) + (lh8_3.length - (Int.toNat x2_3))) (clearL 0 (List.take (Int.toNat x1_3) lh8_3 ++ List.take (lh8_3.length - (Int.toNat x2_3)) (List.drop (Int.toNat x2_3) lh8_3) ++ List.drop ((Int.toNat x1_3) + (lh8_3.length - (Int.toNat x2_3))) lh8_3) (Int.toNat (((Int.toNat x1_3) + (lh8_3.length - (Int.toNat x2_3)) : Nat) : Int)) (Int.toNat ((lh8_3.length : Nat) : Int) - (Int.toNat (((Int.toNat x1_3) + (lh8_3.length - (Int.toNat x2_3)) : Nat) : Int)))))
                          ) none
                        ) none
                      ) none
                    ) none
                  ) none
                ) none
              ) none
            ) none
          ) none
        ) none
      )
    ) none
  ) none

theorem f12_3_ok (m : Nat) (a_0_0 : Int) (a_0_1 : Int) (a_1_0 : Int) (a_1_1 : Int) (a_2_0 : Int) (a_2_1 : Int) (a_3_0 : Int) (a_3_1 : Int) (a_4_0 : Int) (a_4_1 : Int) (a_5_0 : Int) (a_5_1 : Int) (a_6_0 : Int) (a_6_1 : Int) (a_7_0 : Int) (a_7_1 : Int) (o2 : (List (Int × Int))) (x1_3 : Int) (x2_3 : Int) (lh1_3 : List (Int × Int)) (lh2_3 : List Int) (lh4_3 : List (Int × Int)) (lh8_3 : List Int) (o : (List Int)) (h : f12_3 m a_0_0 a_0_1 a_1_0 a_1_1 a_2_0 a_2_1 a_3_0 a_3_1 a_4_0 a_4_1 a_5_0 a_5_1 a_6_0 a_6_1 a_7_0 a_7_1 o2 x1_3 x2_3 lh1_3 lh2_3 lh4_3 lh8_3 = some o) (R : Value → Heap → Nat → Prop) (hR : R (s0 8 o.length) [(8, rc (encI .i64) o 0 3 1), (6, rc encP o2 0 61 2), (4, rc encP lh4_3 0 61 2), (2, rc (encI .i64) lh2_3 0 3 1), (1, rc encP lh1_3 0 61 2), (0, .cells [.int .u8 a_0_0, .int .u8 a_0_1, .int .u8 a_1_0, .int .u8 a_1_1, .int .u8 a_2_0, .int .u8 a_2_1, .int .u8 a_3_0, .int .u8 a_3_1, .int .u8 a_4_0, .int .u8 a_4_1, .int .u8 a_5_0, .int .u8 a_5_1, .int .u8 a_6_0, .int .u8 a_6_1, .int .u8 a_7_0, .int .u8 a_7_1] 0 56 0)] 9) : KC E0 52 [s0 8 lh8_3.length, ii x1_3, ii x2_3] [(8, rc (encI .i64) lh8_3 0 3 1), (6, rc encP o2 0 61 2), (4, rc encP lh4_3 0 61 2), (2, rc (encI .i64) lh2_3 0 3 1), (1, rc encP lh1_3 0 61 2), (0, .cells [.int .u8 a_0_0, .int .u8 a_0_1, .int .u8 a_1_0, .int .u8 a_1_1, .int .u8 a_2_0, .int .u8 a_2_1, .int .u8 a_3_0, .int .u8 a_3_1, .int .u8 a_4_0, .int .u8 a_4_1, .int .u8 a_5_0, .int .u8 a_5_1, .int .u8 a_6_0, .int .u8 a_6_1, .int .u8 a_7_0, .int .u8 a_7_1] 0 56 0)] 9 R := by
  refine KC.shrink (encI_ok .i64) rfl (e := 3) 8 ?_
  refine KC.bodyN E0_ok (F := Proofs.Try.f52) (by kernel_rfl) (code := f12_C52) (by kernel_rfl) (nt := 33) (by kernel_rfl) (rs := [.tmp 6]) (by kernel_rfl) (by kernel_rfl) (σ := [(0, s0 8 lh8_3.length), (1, ii x1_3), (2, ii x2_3)]) (by kernel_rfl) ?_
  unfold f12_3 at h
  refine XQ.seq E0_ok (by kernel_rfl) ?_
  refine XQ.region (by kernel_rfl) ?_
  refine XR.runS E0_ok 1 1 [(0, s0 8 lh8_3.length), (1, ii x1_3), (2, ii x2_3)] rfl (by kernel_rfl) ?_
  refine XR.done (by kernel_rfl) ?_
  show XQ _ _ _ _ _ _ _ _
  refine XQ.seq E0_ok (by kernel_rfl) ?_
  refine XQ.region (by kernel_rfl) ?_
  refine XR.runS E0_ok 1 5 [(0, s0 8 lh8_3.length), (1, ii x1_3), (2, ii x2_3), (8, s0 8 lh8_3.length), (9, ii x1_3), (10, ii x2_3), (12, ii ((lh8_3.length : Nat) : Int))] rfl (by kernel_rfl) ?_
  cases b1 : (cutOK x1_3 x2_3 ((lh8_3.length : Nat) : Int) lh8_3.length : Bool) with
  | false => cases (cF b1 h)
  | true =>
    have h := cT b1 h
    cases b2 : (decide (0 < Int.toNat ((lh8_3.length : Nat) : Int) - (Int.toNat x1_3)) : Bool) with
    | false => cases (cF b2 h)
    | true =>
      have h := cT b2 h
      refine XR.rd E0_ok [0, 1, 2] rfl (v := sl 8 ((Int.toNat x1_3) * 1) (Int.toNat x2_3 - (Int.toNat x1_3)) (Int.toNat ((lh8_3.length : Nat) : Int) - (Int.toNat x1_3))) (v_cutM (nt := 33) (s := 1) (x := (src 33 (.tmp 8))) (lo := (some (.tmp 9))) (hi := (some (.tmp 10))) (mx := (some (.tmp 12))) (b := 8) (o := 0) (len := lh8_3.length) (cap := lh8_3.length) (l := (some x1_3)) (u := (some x2_3)) (m := (some ((lh8_3.length : Nat) : Int))) (cs := rowC (encI .i64) lh8_3) (fz := 0) (e := 3) (es := 1) (o' := (Int.toNat x1_3) * 1) (len' := Int.toNat x2_3 - (Int.toNat x1_3)) (cap' := Int.toNat ((lh8_3.length : Nat) : Int) - (Int.toNat x1_3)) (d := (some (path 12 13))) (by kernel_rfl) (by kernel_rfl) (by kernel_rfl) (by kernel_rfl) (by kernel_rfl) (by kernel_rfl) (by kernel_rfl) rfl b1 (by simpa using b2) (by simp only [Option.getD_none, Option.getD_some] <;> omega) (by simp only [Option.getD_none, Option.getD_some] <;> omega) (by simp only [Option.getD_none, Option.getD_some] <;> omega)) (σ' := [(0, s0 8 lh8_3.length), (1, ii x1_3), (2, ii x2_3)]) (by kernel_rfl) ?_
      refine XR.done (by kernel_rfl) ?_
      show XQ _ _ _ _ _ _ _ _
      refine XQ.seq E0_ok (by kernel_rfl) ?_
      refine XQ.seq E0_ok (by kernel_rfl) ?_
      refine XQ.region (by kernel_rfl) ?_
      refine XR.runS E0_ok 1 3 [(0, s0 8 lh8_3.length), (1, ii x1_3), (2, ii x2_3), (16, .bool (x1_3 == x2_3))] rfl (by kernel_rfl) ?_
      refine XR.done (by kernel_rfl) ?_
      show XQ _ _ _ _ _ _ _ _
      cases b3 : (x1_3 == x2_3 : Bool) with
      | true =>
        have h := cT b3 h
        refine XQ.cond (s := (.tmp 16)) (b := true) (by kernel_rfl) (by kernel_rfl) (fun _ => ?_) (fun q => by cases q)
        refine XQ.seq E0_ok (by kernel_rfl) ?_
        refine XQ.region (by kernel_rfl) ?_
        refine XR.runS E0_ok 1 2 [(6, s0 8 lh8_3.length)] rfl (by kernel_rfl) ?_
        refine XR.done (by kernel_rfl) ?_
        show XQ _ _ _ _ _ _ _ _
        refine XQ.ren (σ' := [(6, s0 8 lh8_3.length)]) (h' := [(8, rc (encI .i64) lh8_3 0 3 1), (6, rc encP o2 0 61 2), (4, rc encP lh4_3 0 61 2), (2, rc (encI .i64) lh2_3 0 3 1), (1, rc encP lh1_3 0 61 2), (0, .cells [.int .u8 a_0_0, .int .u8 a_0_1, .int .u8 a_1_0, .int .u8 a_1_1, .int .u8 a_2_0, .int .u8 a_2_1, .int .u8 a_3_0, .int .u8 a_3_1, .int .u8 a_4_0, .int .u8 a_4_1, .int .u8 a_5_0, .int .u8 a_5_1, .int .u8 a_6_0, .int .u8 a_6_1, .int .u8 a_7_0, .int .u8 a_7_1] 0 56 0)]) (c' := 9) [0, 1, 2, 3, 4, 5, 6, 7, 8] (by decide) rfl ⟨by kernel_rfl, trivial⟩ ⟨⟨_, _, rfl, rfl, .inl ⟨rfl, rowC_scal (encI_ok .i64) _⟩⟩, ⟨_, _, rfl, rfl, .inl ⟨rfl, rowC_scal encP_ok _⟩⟩, ⟨_, _, rfl, rfl, .inl ⟨rfl, rowC_scal encP_ok _⟩⟩, ⟨_, _, rfl, rfl, .inl ⟨rfl, rowC_scal (encI_ok .i64) _⟩⟩, ⟨_, _, rfl, rfl, .inl ⟨rfl, rowC_scal encP_ok _⟩⟩, ⟨_, _, rfl, rfl, .inr ⟨_, _, _, _, rfl, rfl⟩⟩, trivial⟩ rfl ?_
        refine XQ.ret (by kernel_rfl) ?_
        cases h
        exact ⟨fun i q => (by cases q), s0 8 lh8_3.length, (by kernel_rfl), lh8_3, lh8_3.length, lh8_3.length, [(8, rc (encI .i64) (List.take lh8_3.length lh8_3) 0 3 1), (6, rc encP o2 0 61 2), (4, rc encP lh4_3 0 61 2), (2, rc (encI .i64) lh2_3 0 3 1), (1, rc encP lh1_3 0 61 2), (0, .cells [.int .u8 a_0_0, .int .u8 a_0_1, .int .u8 a_1_0, .int .u8 a_1_1, .int .u8 a_2_0, .int .u8 a_2_1, .int .u8 a_3_0, .int .u8 a_3_1, .int .u8 a_4_0, .int .u8 a_4_1, .int .u8 a_5_0, .int .u8 a_5_1, .int .u8 a_6_0, .int .u8 a_6_1, .int .u8 a_7_0, .int .u8 a_7_1] 0 56 0)], rfl, (by kernel_rfl), (Nat.le_refl _), (Nat.le_refl _), (by kernel_rfl), (by first | exact hR | simpa only [List.length_set] using hR)⟩
      | false =>
        have h := cF b3 h
        refine XQ.cond (s := (.tmp 16)) (b := false) (by kernel_rfl) (by kernel_rfl) (fun q => by cases q) (fun _ => ?_)
        refine XQ.skip (by kernel_rfl) ?_
        show XQ _ _ _ _ _ _ _ _
        refine XQ.seq E0_ok (by kernel_rfl) ?_
        refine XQ.region (by kernel_rfl) ?_
        refine XR.runS E0_ok 1 3 [(0, s0 8 lh8_3.length), (1, ii x1_3), (2, ii x2_3), (7, ii ((lh8_3.length : Nat) : Int))] rfl (by kernel_rfl) ?_
        refine XR.done (by kernel_rfl) ?_
        show XQ _ _ _ _ _ _ _ _
        refine XQ.seq E0_ok (by kernel_rfl) ?_
        refine XQ.tail E0_ok 6 (by kernel_rfl) (by kernel_rfl) ?_
        refine XS.step E0_ok 2 rfl [0, 2, 7, 20, 21] rfl (σ' := [(0, s0 8 lh8_3.length), (2, ii x2_3), (7, ii ((lh8_3.length : Nat) : Int)), (20, s0 8 lh8_3.length), (21, ii x1_3)]) (by kernel_rfl) ?_
        cases b4 : (cutOK 0 x1_3 ((lh8_3.length : Nat) : Int) lh8_3.length : Bool) with
        | false => cases (cF b4 h)
        | true =>
          have h := cT b4 h
          refine XS.rd E0_ok rfl [0, 2, 7, 22] rfl (v := sl 8 0 (Int.toNat x1_3) lh8_3.length) (v_cut (nt := 33) (s := 1) (x := (src 33 (.tmp 20))) (lo := none) (hi := (some (.tmp 21))) (mx := none) (b := 8) (o := 0) (len := lh8_3.length) (cap := lh8_3.length) (l := none) (u := (some x1_3)) (m := none) (cs := rowC (encI .i64) lh8_3) (fz := 0) (e := 3) (es := 1) (o' := 0) (len' := Int.toNat x1_3) (cap' := lh8_3.length) (d := (some (path 12 22))) (by kernel_rfl) (by kernel_rfl) (by kernel_rfl) (by kernel_rfl) (by kernel_rfl) (by kernel_rfl) (by kernel_rfl) rfl b4 (by simp only [Option.getD_none, Option.getD_some] <;> omega) (by simp only [Option.getD_none, Option.getD_some] <;> omega) (by simp only [Option.getD_none, Option.getD_some] <;> omega)) (σ' := [(0, s0 8 lh8_3.length), (2, ii x2_3), (7, ii ((lh8_3.length : Nat) : Int)), (22, sl 8 0 (Int.toNat x1_3) lh8_3.length)]) (by kernel_rfl) ?_
          refine XS.step E0_ok 2 rfl [7, 22, 23, 24] rfl (σ' := [(7, ii ((lh8_3.length : Nat) : Int)), (22, sl 8 0 (Int.toNat x1_3) lh8_3.length), (23, s0 8 lh8_3.length), (24, ii x2_3)]) (by kernel_rfl) ?_
          cases b5 : (cutOK x2_3 ((lh8_3.length : Nat) : Int) ((lh8_3.length : Nat) : Int) lh8_3.length : Bool) with
          | false => cases (cF b5 h)
          | true =>
            have h := cT b5 h
            refine XS.rd E0_ok rfl [7, 22, 25] rfl (v := sl 8 ((Int.toNat x2_3) * 1) (lh8_3.length - (Int.toNat x2_3)) (lh8_3.length - (Int.toNat x2_3))) (v_cut (nt := 33) (s := 1) (x := (src 33 (.tmp 23))) (lo := (some (.tmp 24))) (hi := none) (mx := none) (b := 8) (o := 0) (len := lh8_3.length) (cap := lh8_3.length) (l := (some x2_3)) (u := none) (m := none) (cs := rowC (encI .i64) lh8_3) (fz := 0) (e := 3) (es := 1) (o' := (Int.toNat x2_3) * 1) (len' := lh8_3.length - (Int.toNat x2_3)) (cap' := lh8_3.length - (Int.toNat x2_3)) (d := (some (path 12 25))) (by kernel_rfl) (by kernel_rfl) (by kernel_rfl) (by kernel_rfl) (by kernel_rfl) (by kernel_rfl) (by kernel_rfl) rfl b5 (by simp only [Option.getD_none, Option.getD_some] <;> omega) (by simp only [Option.getD_none, Option.getD_some] <;> omega) (by simp only [Option.getD_none, Option.getD_some] <;> omega)) (σ' := [(7, ii ((lh8_3.length : Nat) : Int)), (22, sl 8 0 (Int.toNat x1_3) lh8_3.length), (25, sl 8 ((Int.toNat x2_3) * 1) (lh8_3.length - (Int.toNat x2_3)) (lh8_3.length - (Int.toNat x2_3)))]) (by kernel_rfl) ?_
            refine XS.done (by kernel_rfl) ?_
            cases b6 : (decide (1 ≤ lh8_3.length) : Bool) with
            | false => cases (cF b6 h)
            | true =>
              have h := cT b6 h
              cases b7 : (decide ((Int.toNat x1_3) + (lh8_3.length - (Int.toNat x2_3)) ≤ lh8_3.length) : Bool) with
              | false => cases (cF b7 h)
              | true =>
                have h := cT b7 h
                cases b8 : (decide ((lh8_3.length - (Int.toNat x2_3)) ≤ (lh8_3.length - (Int.toNat x2_3))) : Bool) with
                | false => cases (cF b8 h)
                | true =>
                  have h := cT b8 h
                  cases b9 : (decide ((Int.toNat x2_3) + (lh8_3.length - (Int.toNat x2_3)) ≤ lh8_3.length) : Bool) with
                  | false => cases (cF b9 h)
                  | true =>
                    have h := cT b9 h
                    refine XR.appF E0_ok [7, 26] (d := (some (path 12 26))) (f := eAppend false 1 8 3 (src 33 (.tmp 22)) (src 33 (.tmp 25))) (.tmp 22) (.tmp 25) 23 23 1 rfl (by kernel_rfl) (by kernel_rfl) (by kernel_rfl) (e_appendF (encI_ok .i64) (x := (src 33 (.tmp 22))) (y := (src 33 (.tmp 25))) (b := 8) (n := Int.toNat x1_3) (cap := lh8_3.length) (xs := lh8_3) (e := 3) (Y := sl 8 ((Int.toNat x2_3) * 1) (lh8_3.length - (Int.toNat x2_3)) (lh8_3.length - (Int.toNat x2_3))) (m := lh8_3.length - (Int.toNat x2_3)) (ys := List.take (lh8_3.length - (Int.toNat x2_3)) (List.drop (Int.toNat x2_3) lh8_3)) (n' := (Int.toNat x1_3) + (lh8_3.length - (Int.toNat x2_3))) (h' := [(8, rc (encI .i64) (List.take (Int.toNat x1_3) lh8_3 ++ List.take (lh8_3.length - (Int.toNat x2_3)) (List.drop (Int.toNat x2_3) lh8_3) ++ List.drop ((Int.toNat x1_3) + (lh8_3.length - (Int.toNat x2_3))) lh8_3) 0 3 1), (6, rc encP o2 0 61 2), (4, rc encP lh4_3 0 61 2), (2, rc (encI .i64) lh2_3 0 3 1), (1, rc encP lh1_3 0 61 2), (0, .cells [.int .u8 a_0_0, .int .u8 a_0_1, .int .u8 a_1_0, .int .u8 a_1_1, .int .u8 a_2_0, .int .u8 a_2_1, .int .u8 a_3_0, .int .u8 a_3_1, .int .u8 a_4_0, .int .u8 a_4_1, .int .u8 a_5_0, .int .u8 a_5_1, .int .u8 a_6_0, .int .u8 a_6_1, .int .u8 a_7_0, .int .u8 a_7_1] 0 56 0)]) (by kernel_rfl) (by kernel_rfl) (by kernel_rfl) (fetch_row (encI_ok .i64) (ys := lh8_3) (fz := 0) (e := 3) (es := 1) (by kernel_rfl) (Int.toNat x2_3) (lh8_3.length - (Int.toNat x2_3)) (lh8_3.length - (Int.toNat x2_3)) (lh8_3.length - (Int.toNat x2_3)) rfl (Nat.ble_eq_true_of_le (of_decide_eq_true b8)) (of_decide_eq_true b9) rfl) (by have := of_decide_eq_true b9; simp only [List.length_take, List.length_drop]; omega) rfl (of_decide_eq_true b6) (of_decide_eq_true b7) (of_decide_eq_true b7) rfl (by kernel_rfl)) (σ' := [(7, ii ((lh8_3.length : Nat) : Int)), (26, sl 8 0 ((Int.toNat x1_3) + (lh8_3.length - (Int.toNat x2_3))) lh8_3.length)]) (by kernel_rfl) ?_
                    refine XR.runS E0_ok 1 1 [(0, sl 8 0 ((Int.toNat x1_3) + (lh8_3.length - (Int.toNat x2_3))) lh8_3.length), (7, ii ((lh8_3.length : Nat) : Int))] rfl (by kernel_rfl) ?_
                    refine XR.done (by kernel_rfl) ?_
                    show XQ _ _ _ _ _ _ _ _
                    refine XQ.seq E0_ok (by kernel_rfl) ?_
                    refine XQ.region (by kernel_rfl) ?_
                    refine XR.runS E0_ok 1 4 [(0, sl 8 0 ((Int.toNat x1_3) + (lh8_3.length - (Int.toNat x2_3))) lh8_3.length), (27, sl 8 0 ((Int.toNat x1_3) + (lh8_3.length - (Int.toNat x2_3))) lh8_3.length), (29, ii (((Int.toNat x1_3) + (lh8_3.length - (Int.toNat x2_3)) : Nat) : Int)), (30, ii ((lh8_3.length : Nat) : Int))] rfl (by kernel_rfl) ?_
                    cases b10 : (cutOK (((Int.toNat x1_3) + (lh8_3.length - (Int.toNat x2_3)) : Nat) : Int) ((lh8_3.length : Nat) : Int) ((lh8_3.length : Nat) : Int) lh8_3.length : Bool) with
                    | false => cases (cF b10 h)
                    | true =>
                      have h := cT b10 h
                      refine XR.rd E0_ok [0, 31] rfl (v := sl 8 ((Int.toNat (((Int.toNat x1_3) + (lh8_3.length - (Int.toNat x2_3)) : Nat) : Int)) * 1) (Int.toNat ((lh8_3.length : Nat) : Int) - (Int.toNat (((Int.toNat x1_3) + (lh8_3.length - (Int.toNat x2_3)) : Nat) : Int))) (lh8_3.length - (Int.toNat (((Int.toNat x1_3) + (lh8_3.length - (Int.toNat x2_3)) : Nat) : Int)))) (v_cut (nt := 33) (s := 1) (x := (src 33 (.tmp 27))) (lo := (some (.tmp 29))) (hi := (some (.tmp 30))) (mx := none) (b := 8) (o := 0) (len := (Int.toNat x1_3) + (lh8_3.length - (Int.toNat x2_3))) (cap := lh8_3.length) (l := (some (((Int.toNat x1_3) + (lh8_3.length - (Int.toNat x2_3)) : Nat) : Int))) (u := (some ((lh8_3.length : Nat) : Int))) (m := none) (cs := rowC (encI .i64) (List.take (Int.toNat x1_3) lh8_3 ++ List.take (lh8_3.length - (Int.toNat x2_3)) (List.drop (Int.toNat x2_3) lh8_3) ++ List.drop ((Int.toNat x1_3) + (lh8_3.length - (Int.toNat x2_3))) lh8_3)) (fz := 0) (e := 3) (es := 1) (o' := (Int.toNat (((Int.toNat x1_3) + (lh8_3.length - (Int.toNat x2_3)) : Nat) : Int)) * 1) (len' := Int.toNat ((lh8_3.length : Nat) : Int) - (Int.toNat (((Int.toNat x1_3) + (lh8_3.length - (Int.toNat x2_3)) : Nat) : Int))) (cap' := lh8_3.length - (Int.toNat (((Int.toNat x1_3) + (lh8_3.length - (Int.toNat x2_3)) : Nat) : Int))) (d := (some (path 12 31))) (by kernel_rfl) (by kernel_rfl) (by kernel_rfl) (by kernel_rfl) (by kernel_rfl) (by kernel_rfl) (by kernel_rfl) rfl b10 (by simp only [Option.getD_none, Option.getD_some] <;> omega) (by simp only [Option.getD_none, Option.getD_some] <;> omega) (by simp only [Option.getD_none, Option.getD_some] <;> omega)) (σ' := [(0, sl 8 0 ((Int.toNat x1_3) + (lh8_3.length - (Int.toNat x2_3))) lh8_3.length), (31, sl 8 ((Int.toNat (((Int.toNat x1_3) + (lh8_3.length - (Int.toNat x2_3)) : Nat) : Int)) * 1) (Int.toNat ((lh8_3.length : Nat) : Int) - (Int.toNat (((Int.toNat x1_3) + (lh8_3.length - (Int.toNat x2_3)) : Nat) : Int))) (lh8_3.length - (Int.toNat (((Int.toNat x1_3) + (lh8_3.length - (Int.toNat x2_3)) : Nat) : Int))))]) (by kernel_rfl) ?_
                      cases b11 : (decide ((Int.toNat (((Int.toNat x1_3) + (lh8_3.length - (Int.toNat x2_3)) : Nat) : Int)) + (Int.toNat ((lh8_3.length : Nat) : Int) - (Int.toNat (((Int.toNat x1_3) + (lh8_3.length - (Int.toNat x2_3)) : Nat) : Int))) ≤ (List.take (Int.toNat x1_3) lh8_3 ++ List.take (lh8_3.length - (Int.toNat x2_3)) (List.drop (Int.toNat x2_3) lh8_3) ++ List.drop ((Int.toNat x1_3) + (lh8_3.length - (Int.toNat x2_3))) lh8_3).length) : Bool) with
                      | false => cases (cF b11 h)
                      | true =>
                        have h := cT b11 h
                        refine XR.ef E0_ok [0] rfl (e_clear (encI_ok .i64) (z := #[ii 0]) (x := (src 33 (.tmp 31))) (b := 8) (o := (Int.toNat (((Int.toNat x1_3) + (lh8_3.length - (Int.toNat x2_3)) : Nat) : Int)) * 1) (len := Int.toNat ((lh8_3.length : Nat) : Int) - (Int.toNat (((Int.toNat x1_3) + (lh8_3.length - (Int.toNat x2_3)) : Nat) : Int))) (cap := lh8_3.length - (Int.toNat (((Int.toNat x1_3) + (lh8_3.length - (Int.toNat x2_3)) : Nat) : Int))) (xs := List.take (Int.toNat x1_3) lh8_3 ++ List.take (lh8_3.length - (Int.toNat x2_3)) (List.drop (Int.toNat x2_3) lh8_3) ++ List.drop ((Int.toNat x1_3) + (lh8_3.length - (Int.toNat x2_3))) lh8_3) (e := 3) (es := 1) (d := none) (h' := [(8, rc (encI .i64) (clearL 0 (List.take (Int.toNat x1_3) lh8_3 ++ List.take (lh8_3.length - (Int.toNat x2_3)) (List.drop (Int.toNat x2_3) lh8_3) ++ List.drop ((Int.toNat x1_3) + (lh8_3.length - (Int.toNat x2_3))) lh8_3) (Int.toNat (((Int.toNat x1_3) + (lh8_3.length - (Int.toNat x2_3)) : Nat) : Int)) (Int.toNat ((lh8_3.length : Nat) : Int) - (Int.toNat (((Int.toNat x1_3) + (lh8_3.length - (Int.toNat x2_3)) : Nat) : Int)))) 0 3 1), (6, rc encP o2 0 61 2), (4, rc encP lh4_3 0 61 2), (2, rc (encI .i64) lh2_3 0 3 1), (1, rc encP lh1_3 0 61 2), (0, .cells [.int .u8 a_0_0, .int .u8 a_0_1, .int .u8 a_1_0, .int .u8 a_1_1, .int .u8 a_2_0, .int .u8 a_2_1, .int .u8 a_3_0, .int .u8 a_3_1, .int .u8 a_4_0, .int .u8 a_4_1, .int .u8 a_5_0, .int .u8 a_5_1, .int .u8 a_6_0, .int .u8 a_6_1, .int .u8 a_7_0, .int .u8 a_7_1] 0 56 0)]) (by kernel_rfl) (by kernel_rfl) (by kernel_rfl) (Int.toNat (((Int.toNat x1_3) + (lh8_3.length - (Int.toNat x2_3)) : Nat) : Int)) 0 rfl rfl (by first | rfl | omega) b11 (by kernel_rfl)) (σ' := [(0, sl 8 0 ((Int.toNat x1_3) + (lh8_3.length - (Int.toNat x2_3))) lh8_3.length)]) (by kernel_rfl) ?_
                        refine XR.done (by kernel_rfl) ?_
                        show XQ _ _ _ _ _ _ _ _
                        refine XQ.seq E0_ok (by kernel_rfl) ?_
                        refine XQ.region (by kernel_rfl) ?_
                        refine XR.runS E0_ok 1 2 [(6, sl 8 0 ((Int.toNat x1_3) + (lh8_3.length - (Int.toNat x2_3))) lh8_3.length)] rfl (by kernel_rfl) ?_
                        refine XR.done (by kernel_rfl) ?_
                        show XQ _ _ _ _ _ _ _ _
                        refine XQ.ren (σ' := [(6, sl 8 0 ((Int.toNat x1_3) + (lh8_3.length - (Int.toNat x2_3))) lh8_3.length)]) (h' := [(8, rc (encI .i64) (clearL 0 (List.take (Int.toNat x1_3) lh8_3 ++ List.take (lh8_3.length - (Int.toNat x2_3)) (List.drop (Int.toNat x2_3) lh8_3) ++ List.drop ((Int.toNat x1_3) + (lh8_3.length - (Int.toNat x2_3))) lh8_3) (Int.toNat (((Int.toNat x1_3) + (lh8_3.length - (Int.toNat x2_3)) : Nat) : Int)) (Int.toNat ((lh8_3.length : Nat) : Int) - (Int.toNat (((Int.toNat x1_3) + (lh8_3.length - (Int.toNat x2_3)) : Nat) : Int)))) 0 3 1), (6, rc encP o2 0 61 2), (4, rc encP lh4_3 0 61 2), (2, rc (encI .i64) lh2_3 0 3 1), (1, rc encP lh1_3 0 61 2), (0, .cells [.int .u8 a_0_0, .int .u8 a_0_1, .int .u8 a_1_0, .int .u8 a_1_1, .int .u8 a_2_0, .int .u8 a_2_1, .int .u8 a_3_0, .int .u8 a_3_1, .int .u8 a_4_0, .int .u8 a_4_1, .int .u8 a_5_0, .int .u8 a_5_1, .int .u8 a_6_0, .int .u8 a_6_1, .int .u8 a_7_0, .int .u8 a_7_1] 0 56 0)]) (c' := 9) [0, 1, 2, 3, 4, 5, 6, 7, 8] (by decide) rfl ⟨by kernel_rfl, trivial⟩ ⟨⟨_, _, rfl, rfl, .inl ⟨rfl, rowC_scal (encI_ok .i64) _⟩⟩, ⟨_, _, rfl, rfl, .inl ⟨rfl, rowC_scal encP_ok _⟩⟩, ⟨_, _, rfl, rfl, .inl ⟨rfl, rowC_scal encP_ok _⟩⟩, ⟨_, _, rfl, rfl, .inl ⟨rfl, rowC_scal (encI_ok .i64) _⟩⟩, ⟨_, _, rfl, rfl, .inl ⟨rfl, rowC_scal encP_ok _⟩⟩, ⟨_, _, rfl, rfl, .inr ⟨_, _, _, _, rfl, rfl⟩⟩, trivial⟩ rfl ?_
                        refine XQ.ret (by kernel_rfl) ?_
                        cases b12 : (decide ((Int.toNat x1_3) + (lh8_3.length - (Int.toNat x2_3)) ≤ (clearL 0 (List.take (Int.toNat x1_3) lh8_3 ++ List.take (lh8_3.length - (Int.toNat x2_3)) (List.drop (Int.toNat x2_3) lh8_3) ++ List.drop ((Int.toNat x1_3) + (lh8_3.length - (Int.toNat x2_3))) lh8_3) (Int.toNat (((Int.toNat x1_3) + (lh8_3.length - (Int.toNat x2_3)) : Nat) : Int)) (Int.toNat ((lh8_3.length : Nat) : Int) - (Int.toNat (((Int.toNat x1_3) + (lh8_3.length - (Int.toNat x2_3)) : Nat) : Int)))).length) : Bool) with
                        | false => cases (cF b12 h)
                        | true =>
                          have h := cT b12 h
                          cases b13 : (decide ((Int.toNat x1_3) + (lh8_3.length - (Int.toNat x2_3)) ≤ lh8_3.length) : Bool) with
                          | false => cases (cF b13 h)
                          | true =>
                            have h := cT b13 h
                            cases h
                            exact ⟨fun i q => (by cases q), sl 8 0 ((Int.toNat x1_3) + (lh8_3.length - (Int.toNat x2_3))) lh8_3.length, (by kernel_rfl), clearL 0 (List.take (Int.toNat x1_3) lh8_3 ++ List.take (lh8_3.length - (Int.toNat x2_3)) (List.drop (Int.toNat x2_3) lh8_3) ++ List.drop ((Int.toNat x1_3) + (lh8_3.length - (Int.toNat x2_3))) lh8_3) (Int.toNat (((Int.toNat x1_3) + (lh8_3.length - (Int.toNat x2_3)) : Nat) : Int)) (Int.toNat ((lh8_3.length : Nat) : Int) - (Int.toNat (((Int.toNat x1_3) + (lh8_3.length - (Int.toNat x2_3)) : Nat) : Int))), (Int.toNat x1_3) + (lh8_3.length - (Int.toNat x2_3)), lh8_3.length, [(8, rc (encI .i64) (List.take ((Int.toNat x1_3) + (lh8_3.length - (Int.toNat x2_3))) (clearL 0 (List.take (Int.toNat x1_3) lh8_3 ++ List.take (lh8_3.length - (Int.toNat x2_3)) (List.drop (Int.toNat x2_3) lh8_3) ++ List.drop ((Int.toNat x1_3) + (lh8_3.length - (Int.toNat x2_3))) lh8_3) (Int.toNat (((Int.toNat x1_3) + (lh8_3.length - (Int.toNat x2_3)) : Nat) : Int)) (Int.toNat ((lh8_3.length : Nat) : Int) - (Int.toNat (((Int.toNat x1_3) + (lh8_3.length - (Int.toNat x2_3)) : Nat) : Int))))) 0 3 1), (6, rc encP o2 0 61 2), (4, rc encP lh4_3 0 61 2), (2, rc (encI .i64) lh2_3 0 3 1), (1, rc encP lh1_3 0 61 2), (0, .cells [.int .u8 a_0_0, .int .u8 a_0_1, .int .u8 a_1_0, .int .u8 a_1_1, .int .u8 a_2_0, .int .u8 a_2_1, .int .u8 a_3_0, .int .u8 a_3_1, .int .u8 a_4_0, .int .u8 a_4_1, .int .u8 a_5_0, .int .u8 a_5_1, .int .u8 a_6_0, .int .u8 a_6_1, .int .u8 a_7_0, .int .u8 a_7_1] 0 56 0)], rfl, (by kernel_rfl), (of_decide_eq_true b12), (of_decide_eq_true b13), (by kernel_rfl), (by first | exact hR | simpa only [List.length_set] using hR)⟩

def f12 (m : Nat) (a_0_0 : Int) (a_0_1 : Int) (a_1_0 : Int) (a_1_1 : Int) (a_2_0 : Int) (a_2_1 : Int) (a_3_0 : Int) (a_3_1 : Int) (a_4_0 : Int) (a_4_1 : Int) (a_5_0 : Int) (a_5_1 : Int) (a_6_0 : Int) (a_6_1 : Int) (a_7_0 : Int) (a_7_1 : Int) (b : Int) (c : Int) (d : Int) : Option (Bool) :=
  (f41 m a_0_0 a_0_1 a_1_0 a_1_1 a_2_0 a_2_1 a_3_0 a_3_1 a_4_0 a_4_1 a_5_0 a_5_1 a_6_0 a_6_1 a_7_0 a_7_1 (w64 b) 8 10 1).bind fun r1 =>
    (f18 m r1 (w64 (1 + (Int.tmod (w64 c) 3)))).bind fun r2 =>
      (f29 m r1).bind fun r3 =>
        cond (r3.2 != 0) (
          some (false)
        ) (
          cond (!((r2.2 == 0) == (decide (r3.1 ≤ (w64 (1 + (Int.tmod (w64 c) 3))))))) (
            some (false)
          ) (
            cond (r2.2 != 0) (
              cond (r2.2 != 12) (
                some (false)
              ) (
                cond (((r1.length : Nat) : Int) == 0) (
                  cond (r3.1 == 0) (
                    some (true)
                  ) (
                    some (false)
                  )
                ) (
                  cond (((r1.length : Nat) : Int) != 0) (
                    cond (fitsB r1.length 16) (
                      cond (inRow (Int.tmod (w64 d) ((r1.length : Nat) : Int)) r1.length) (
                        (f12_1 m a_0_0 a_0_1 a_1_0 a_1_1 a_2_0 a_2_1 a_3_0 a_3_1 a_4_0 a_4_1 a_5_0 a_5_1 a_6_0 a_6_1 a_7_0 a_7_1 (Int.tmod (w64 d) ((r1.length : Nat) : Int)) (w64 ((Int.tmod (w64 d) ((r1.length : Nat) : Int)) + 1)) r1 r2.1 (List.set (List.set r1 (Int.toNat (Int.tmod (w64 d) ((r1.length : Nat) : Int))) (w64 (((List.getD r1 (Int.toNat (Int.tmod (w64 d) ((r1.length : Nat) : Int))) (0, 0)).1) - 1), (List.getD r1 (Int.toNat (Int.tmod (w64 d) ((r1.length : Nat) : Int))) (0, 0)).2)) (Int.toNat (Int.tmod (w64 d) ((r1.length : Nat) : Int))) ((List.getD (List.set r1 (Int.toNat (Int.tmod (w64 d) ((r1.length : Nat) : Int))) (w64 (((List.getD r1 (Int.toNat (Int.tmod (w64 d) ((r1.length : Nat) : Int))) (0, 0)).1) - 1), (List.getD r1 (Int.toNat (Int.tmod (w64 d) ((r1.length : Nat) : Int))) (0, 0)).2)) (Int.toNat (Int.tmod (w64 d) ((r1.length : Nat) : Int))) (0, 0)).1, w64 (((List.getD (List.set r1 (Int.toNat (Int.tmod (w64 d) ((r1.length : Nat) : Int))) (w64 (((List.getD r1 (Int.toNat (Int.tmod (w64 d) ((r1.length : Nat) : Int))) (0, 0)).1) - 1), (List.getD r1 (Int.toNat (Int.tmod (w64 d) ((r1.length : Nat) : Int))) (0, 0)).2)) (Int.toNat (Int.tmod (w64 d) ((r1.length : Nat) : Int))) (0, 0)).2) + 1))) r1).bind fun o1 =>
                          (f29 m (List.set (List.set r1 (Int.toNat (Int.tmod (w64 d) ((r1.length : Nat) : Int))) (w64 (((List.getD r1 (Int.toNat (Int.tmod (w64 d) ((r1.length : Nat) : Int))) (0, 0)).1) - 1), (List.getD r1 (Int.toNat (Int.tmod (w64 d) ((r1.length : Nat) : Int))) (0, 0)).2)) (Int.toNat (Int.tmod (w64 d) ((r1.length : Nat) : Int))) ((List.getD (List.set r1 (Int.toNat (Int.tmod (w64 d) ((r1.length : Nat) : Int))) (w64 (((List.getD r1 (Int.toNat (Int.tmod (w64 d) ((r1.length : Nat) : Int))) (0, 0)).1) - 1), (List.getD r1 (Int.toNat (Int.tmod (w64 d) ((r1.length : Nat) : Int))) (0, 0)).2)) (Int.toNat (Int.tmod (w64 d) ((r1.length : Nat) : Int))) (0, 0)).1, w64 (((List.getD (List.set r1 (Int.toNat (Int.tmod (w64 d) ((r1.length : Nat) : Int))) (w64 (((List.getD r1 (Int.toNat (Int.tmod (w64 d) ((r1.length : Nat) : Int))) (0, 0)).1) - 1), (List.getD r1 (Int.toNat (Int.tmod (w64 d) ((r1.length : Nat) : Int))) (0, 0)).2)) (Int.toNat (Int.tmod (w64 d) ((r1.length : Nat) : Int))) (0, 0)).2) + 1)))).bind fun r4 =>
                            (f29 m o1).bind fun r5 =>
                              cond (r4.2 != 0) (
                                some (false)
                              ) (
                                cond (r5.2 != 0) (
                                  some (false)
                                ) (
                                  cond (decide (r4.1 > r3.1)) (
                                    some (false)
                                  ) (
                                    cond (decide (r5.1 > r3.1)) (
                                      some (false)
                                    ) (
                                      cond (decide (r5.1 < (w64 (r3.1 - 1)))) (
                                        some (false)
                                      ) (
                                        some (true)
                                      )
                                    )
                                  )
                                )
                              )
                      ) none
                    ) none
                  ) none
                )
              )
            ) (
              cond (((r1.length : Nat) : Int) == 0) (
                cond (r3.1 == 0) (
                  some (true)
                ) (
                  some (false)
                )
              ) (
                cond (((r1.length : Nat) : Int) != 0) (
                  cond (fitsB r1.length 16) (
                    cond (inRow (Int.tmod (w64 d) ((r1.length : Nat) : Int)) r1.length) (
                      (f12_2 m a_0_0 a_0_1 a_1_0 a_1_1 a_2_0 a_2_1 a_3_0 a_3_1 a_4_0 a_4_1 a_5_0 a_5_1 a_6_0 a_6_1 a_7_0 a_7_1 (Int.tmod (w64 d) ((r1.length : Nat) : Int)) (w64 ((Int.tmod (w64 d) ((r1.length : Nat) : Int)) + 1)) r1 r2.1 (List.set (List.set r1 (Int.toNat (Int.tmod (w64 d) ((r1.length : Nat) : Int))) (w64 (((List.getD r1 (Int.toNat (Int.tmod (w64 d) ((r1.length : Nat) : Int))) (0, 0)).1) - 1), (List.getD r1 (Int.toNat (Int.tmod (w64 d) ((r1.length : Nat) : Int))) (0, 0)).2)) (Int.toNat (Int.tmod (w64 d) ((r1.length : Nat) : Int))) ((List.getD (List.set r1 (Int.toNat (Int.tmod (w64 d) ((r1.length : Nat) : Int))) (w64 (((List.getD r1 (Int.toNat (Int.tmod (w64 d) ((r1.length : Nat) : Int))) (0, 0)).1) - 1), (List.getD r1 (Int.toNat (Int.tmod (w64 d) ((r1.length : Nat) : Int))) (0, 0)).2)) (Int.toNat (Int.tmod (w64 d) ((r1.length : Nat) : Int))) (0, 0)).1, w64 (((List.getD (List.set r1 (Int.toNat (Int.tmod (w64 d) ((r1.length : Nat) : Int))) (w64 (((List.getD r1 (Int.toNat (Int.tmod (w64 d) ((r1.length : Nat) : Int))) (0, 0)).1) - 1), (List.getD r1 (Int.toNat (Int.tmod (w64 d) ((r1.length : Nat) : Int))) (0, 0)).2)) (Int.toNat (Int.tmod (w64 d) ((r1.length : Nat) : Int))) (0, 0)).2) + 1))) r1).bind fun o2 =>
                        (f29 m (List.set (List.set r1 (Int.toNat (Int.tmod (w64 d) ((r1.length : Nat) : Int))) (w64 (((List.getD r1 (Int.toNat (Int.tmod (w64 d) ((r1.length : Nat) : Int))) (0, 0)).1) - 1), (List.getD r1 (Int.toNat (Int.tmod (w64 d) ((r1.length : Nat) : Int))) (0, 0)).2)) (Int.toNat (Int.tmod (w64 d) ((r1.length : Nat) : Int))) ((List.getD (List.set r1 (Int.toNat (Int.tmod (w64 d) ((r1.length : Nat) : Int))) (w64 (((List.getD r1 (Int.toNat (Int.tmod (w64 d) ((r1.length : Nat) : Int))) (0, 0)).1) - 1), (List.getD r1 (Int.toNat (Int.tmod (w64 d) ((r1.length : Nat) : Int))) (0, 0)).2)) (Int.toNat (Int.tmod (w64 d) ((r1.length : Nat) : Int))) (0, 0)).1, w64 (((List.getD (List.set r1 (Int.toNat (Int.tmod (w64 d) ((r1.length : Nat) : Int))) (w64 (((List.getD r1 (Int.toNat (Int.tmod (w64 d) ((r1.length : Nat) : Int))) (0, 0)).1) - 1), (List.getD r1 (Int.toNat (Int.tmod (w64 d) ((r1.length : Nat) : Int))) (0, 0)).2)) (Int.toNat (Int.tmod (w64 d) ((r1.length : Nat) : Int))) (0, 0)).2) + 1)))).bind fun r6 =>
                          (f29 m o2).bind fun r7 =>
                            cond (r6.2 != 0) (
                              some (false)
                            ) (
                              cond (r7.2 != 0) (
                                some (false)
                              ) (
                                cond (decide (r6.1 > r3.1)) (
                                  some (false)
                                ) (
                                  cond (decide (r7.1 > r3.1)) (
                                    some (false)
                                  ) (
                                    cond (decide (r7.1 < (w64 (r3.1 - 1)))) (
                                      some (false)
                                    ) (
                                      (f21 m (List.set (List.set r1 (Int.toNat (Int.tmod (w64 d) ((r1.length : Nat) : Int))) (w64 (((List.getD r1 (Int.toNat (Int.tmod (w64 d) ((r1.length : Nat) : Int))) (0, 0)).1) - 1), (List.getD r1 (Int.toNat (Int.tmod (w64 d) ((r1.length : Nat) : Int))) (0, 0)).2)) (Int.toNat (Int.tmod (w64 d) ((r1.length : Nat) : Int))) ((List.getD (List.set r1 (Int.toNat (Int.tmod (w64 d) ((r1.length : Nat) : Int))) (w64 (((List.getD r1 (Int.toNat (Int.tmod (w64 d) ((r1.length : Nat) : Int))) (0, 0)).1) - 1), (List.getD r1 (Int.toNat (Int.tmod (w64 d) ((r1.length : Nat) : Int))) (0, 0)).2)) (Int.toNat (Int.tmod (w64 d) ((r1.length : Nat) : Int))) (0, 0)).1, w64 (((List.getD (List.set r1 (Int.toNat (Int.tmod (w64 d) ((r1.length : Nat) : Int))) (w64 (((List.getD r1 (Int.toNat (Int.tmod (w64 d) ((r1.length : Nat) : Int))) (0, 0)).1) - 1), (List.getD r1 (Int.toNat (Int.tmod (w64 d) ((r1.length : Nat) : Int))) (0, 0)).2)) (Int.toNat (Int.tmod (w64 d) ((r1.length : Nat) : Int))) (0, 0)).2) + 1))) (w64 (1 + (Int.tmod (w64 c) 3))) r2.1).bind fun r8 =>
                                        cond (r8 == 0) (
                                          cond (((r2.1.length : Nat) : Int) == ((r1.length : Nat) : Int)) (
                                            cond (fitsB r2.1.length 8) (
                                              (f12_3 m a_0_0 a_0_1 a_1_0 a_1_1 a_2_0 a_2_1 a_3_0 a_3_1 a_4_0 a_4_1 a_5_0 a_5_1 a_6_0 a_6_1 a_7_0 a_7_1 o2 (Int.tmod (w64 d) ((r1.length : Nat) : Int)) (w64 ((Int.tmod (w64 d) ((r1.length : Nat) : Int)) + 1)) r1 r2.1 (List.set (List.set r1 (Int.toNat (Int.tmod (w64 d) ((r1.length : Nat) : Int))) (w64 (((List.getD r1 (Int.toNat (Int.tmod (w64 d) ((r1.length : Nat) : Int))) (0, 0)).1) - 1), (List.getD r1 (Int.toNat (Int.tmod (w64 d) ((r1.length : Nat) : Int))) (0, 0)).2)) (Int.toNat (Int.tmod (w64 d) ((r1.length : Nat) : Int))) ((List.getD (List.set r1 (Int.toNat (Int.tmod (w64 d) ((r1.length : Nat) : Int))) (w64 (((List.getD r1 (Int.toNat (Int.tmod (w64 d) ((r1.length : Nat) : Int))) (0, 0)).1) - 1), (List.getD r1 (Int.toNat (Int.tmod (w64 d) ((r1.length : Nat) : Int))) (0, 0)).2)) (Int.toNat (Int.tmod (w64 d) ((r1.length : Nat) : Int))) (0, 0)).1, w64 (((List.getD (List.set r1 (Int.toNat (Int.tmod (w64 d) ((r1.length : Nat) : Int))) (w64 (((List.getD r1 (Int.toNat (Int.tmod (w64 d) ((r1.length : Nat) : Int))) (0, 0)).1) - 1), (List.getD r1 (Int.toNat (Int.tmod (w64 d) ((r1.length : Nat) : Int))) (0, 0)).2)) (Int.toNat (Int.tmod (w64 d) ((r1.length : Nat) : Int))) (0, 0)).2) + 1))) r2.1).bind fun o3 =>
                                                (f21 m o2 (w64 (1 + (Int.tmod (w64 c) 3))) o3).bind fun r9 =>
                                                  cond (r9 == 0) (
                                                    (f21 m r1 (w64 ((w64 (1 + (Int.tmod (w64 c) 3))) + 1)) r2.1).bind fun r10 =>
                                                      cond (r10 == 0) (
                                                        some (true)
                                                      ) (
                                                        some (false)
                                                      )
                                                  ) (
                                                    some (false)
                                                  )
                                            ) none
                                          ) (
                                            some (false)
                                          )
                                        ) (
                                          some (false)
                                        )
                                    )
                                  )
                                )
                              )
                            )
                    ) none
                  ) none
                ) none
              )
            )
          )
        )

theorem f12_ok (m : Nat) (a_0_0 : Int) (a_0_1 : Int) (a_1_0 : Int) (a_1_1 : Int) (a_2_0 : Int) (a_2_1 : Int) (a_3_0 : Int) (a_3_1 : Int) (a_4_0 : Int) (a_4_1 : Int) (a_5_0 : Int) (a_5_1 : Int) (a_6_0 : Int) (a_6_1 : Int) (a_7_0 : Int) (a_7_1 : Int) (b : Int) (c : Int) (d : Int) (o : Bool) (h : f12 m a_0_0 a_0_1 a_1_0 a_1_1 a_2_0 a_2_1 a_3_0 a_3_1 a_4_0 a_4_1 a_5_0 a_5_1 a_6_0 a_6_1 a_7_0 a_7_1 b c d = some o) (w : World) (hI : anyInv w) : Calls Proofs.Try.prog 12 #[.agg #[.int .u8 a_0_0, .int .u8 a_0_1, .int .u8 a_1_0, .int .u8 a_1_1, .int .u8 a_2_0, .int .u8 a_2_1, .int .u8 a_3_0, .int .u8 a_3_1, .int .u8 a_4_0, .int .u8 a_4_1, .int .u8 a_5_0, .int .u8 a_5_1, .int .u8 a_6_0, .int .u8 a_6_1, .int .u8 a_7_0, .int .u8 a_7_1], .int .u8 b, .int .u8 c, .int .u8 d] w fun e w' => e = .returned (.bool o) ∧ Below w.heap.size w w' := by
  refine KC.calls (E := E0) (args := [.agg #[.int .u8 a_0_0, .int .u8 a_0_1, .int .u8 a_1_0, .int .u8 a_1_1, .int .u8 a_2_0, .int .u8 a_2_1, .int .u8 a_3_0, .int .u8 a_3_1, .int .u8 a_4_0, .int .u8 a_4_1, .int .u8 a_5_0, .int .u8 a_5_1, .int .u8 a_6_0, .int .u8 a_6_1, .int .u8 a_7_0, .int .u8 a_7_1], .int .u8 b, .int .u8 c, .int .u8 d]) (v := .bool o) rfl rfl (KC.bodyN E0_ok (F := Proofs.Try.f12) (by kernel_rfl) (code := f12_C12) (by kernel_rfl) (nt := 165) (by kernel_rfl) (rs := [.tmp 8]) (by kernel_rfl) (by kernel_rfl) (σ := [(0, .agg #[.int .u8 a_0_0, .int .u8 a_0_1, .int .u8 a_1_0, .int .u8 a_1_1, .int .u8 a_2_0, .int .u8 a_2_1, .int .u8 a_3_0, .int .u8 a_3_1, .int .u8 a_4_0, .int .u8 a_4_1, .int .u8 a_5_0, .int .u8 a_5_1, .int .u8 a_6_0, .int .u8 a_6_1, .int .u8 a_7_0, .int .u8 a_7_1]), (1, .int .u8 b), (2, .int .u8 c), (3, .int .u8 d)]) (by kernel_rfl) ?_) w (anyInv_size hI) hI
  unfold f12 at h
  refine XQ.seq E0_ok (by kernel_rfl) ?_
  refine XQ.region (by kernel_rfl) ?_
  refine XR.runT E0_ok 1 2 [(1, .int .u8 b), (2, .int .u8 c), (3, .int .u8 d), (4, pp 0 0)] [(0, .cells [.int .u8 a_0_0, .int .u8 a_0_1, .int .u8 a_1_0, .int .u8 a_1_1, .int .u8 a_2_0, .int .u8 a_2_1, .int .u8 a_3_0, .int .u8 a_3_1, .int .u8 a_4_0, .int .u8 a_4_1, .int .u8 a_5_0, .int .u8 a_5_1, .int .u8 a_6_0, .int .u8 a_6_1, .int .u8 a_7_0, .int .u8 a_7_1] 0 56 0)] 1 rfl (by kernel_rfl) ?_
  refine XR.done (by kernel_rfl) ?_
  show XQ _ _ _ _ _ _ _ _
  refine XQ.seq E0_ok (by kernel_rfl) ?_
  refine XQ.region (by kernel_rfl) ?_
  refine XR.runS E0_ok 1 3 [(2, .int .u8 c), (3, .int .u8 d), (21, .agg #[.int .u8 a_0_0, .int .u8 a_0_1, .int .u8 a_1_0, .int .u8 a_1_1, .int .u8 a_2_0, .int .u8 a_2_1, .int .u8 a_3_0, .int .u8 a_3_1, .int .u8 a_4_0, .int .u8 a_4_1, .int .u8 a_5_0, .int .u8 a_5_1, .int .u8 a_6_0, .int .u8 a_6_1, .int .u8 a_7_0, .int .u8 a_7_1]), (23, ii (w64 b))] rfl (by kernel_rfl) ?_
  obtain ⟨r1, r1_h, h⟩ := bS h
  refine XR.call E0_ok [2, 3, 24] rfl (K := 41) (args := [.agg #[.int .u8 a_0_0, .int .u8 a_0_1, .int .u8 a_1_0, .int .u8 a_1_1, .int .u8 a_2_0, .int .u8 a_2_1, .int .u8 a_3_0, .int .u8 a_3_1, .int .u8 a_4_0, .int .u8 a_4_1, .int .u8 a_5_0, .int .u8 a_5_1, .int .u8 a_6_0, .int .u8 a_6_1, .int .u8 a_7_0, .int .u8 a_7_1], ii (w64 b), ii 8, ii 10, ii 1]) (d := (some (path 12 24))) (by kernel_rfl) (KC.lift (V2 := s0 1 r1.length) (H2 := [(1, rc encP r1 0 61 2)]) [1, 0] (f41_ok m a_0_0 a_0_1 a_1_0 a_1_1 a_2_0 a_2_1 a_3_0 a_3_1 a_4_0 a_4_1 a_5_0 a_5_1 a_6_0 a_6_1 a_7_0 a_7_1 (w64 b) 8 10 1 r1 r1_h) rfl (by decide) (by decide) (by kernel_rfl) ⟨⟨_, _, rfl, rfl, .inl ⟨rfl, rowC_scal encP_ok _⟩⟩, trivial⟩ (by rfl)) ?_
  rintro _ _ _ ⟨rfl, rfl, rfl⟩
  refine XR.conv (σ' := [(2, .int .u8 c), (3, .int .u8 d), (24, s0 1 r1.length)]) (h' := [(1, rc encP r1 0 61 2), (0, .cells [.int .u8 a_0_0, .int .u8 a_0_1, .int .u8 a_1_0, .int .u8 a_1_1, .int .u8 a_2_0, .int .u8 a_2_1, .int .u8 a_3_0, .int .u8 a_3_1, .int .u8 a_4_0, .int .u8 a_4_1, .int .u8 a_5_0, .int .u8 a_5_1, .int .u8 a_6_0, .int .u8 a_6_1, .int .u8 a_7_0, .int .u8 a_7_1] 0 56 0)]) (c' := 2) ?_ (by kernel_rfl)
  refine XR.runS E0_ok 1 1 [(2, .int .u8 c), (3, .int .u8 d), (9, s0 1 r1.length)] rfl (by kernel_rfl) ?_
  refine XR.done (by kernel_rfl) ?_
  show XQ _ _ _ _ _ _ _ _
  refine XQ.seq E0_ok (by kernel_rfl) ?_
  refine XQ.region (by kernel_rfl) ?_
  refine XR.runS E0_ok 1 5 [(3, .int .u8 d), (9, s0 1 r1.length), (10, ii (w64 (1 + (Int.tmod (w64 c) 3))))] rfl (by kernel_rfl) ?_
  refine XR.done (by kernel_rfl) ?_
  show XQ _ _ _ _ _ _ _ _
  refine XQ.seq E0_ok (by kernel_rfl) ?_
  refine XQ.region (by kernel_rfl) ?_
  refine XR.runS E0_ok 1 2 [(3, .int .u8 d), (9, s0 1 r1.length), (10, ii (w64 (1 + (Int.tmod (w64 c) 3)))), (30, s0 1 r1.length), (31, ii (w64 (1 + (Int.tmod (w64 c) 3))))] rfl (by kernel_rfl) ?_
  obtain ⟨r2, r2_h, h⟩ := bS h
  refine XR.call E0_ok [3, 9, 10, 32] rfl (K := 18) (args := [s0 1 r1.length, ii (w64 (1 + (Int.tmod (w64 c) 3)))]) (d := (some (path 12 32))) (by kernel_rfl) (KC.liftH (n0 := 1) (m := 1) (args0 := [s0 0 r1.length, ii (w64 (1 + (Int.tmod (w64 c) 3)))]) (h0 := [(0, rc encP r1 (0 + ((rowC encP r1).length + 1)) 61 2)]) (V := .tuple #[s0 1 r2.1.length, ii r2.2]) (V2 := .tuple #[s0 2 r2.1.length, ii r2.2]) (H := [(1, rc (encI .i64) r2.1 0 3 1)]) (H2 := [(2, rc (encI .i64) r2.1 0 3 1)]) [1] [2, 3, 1] (f18_ok m (0 + ((rowC encP r1).length + 1)) 61 r1 (w64 (1 + (Int.tmod (w64 c) 3))) r2 r2_h) (by rfl) (by decide) rfl (by kernel_rfl) ⟨⟨_, _, rfl, rfl, .inl ⟨rfl, rowC_scal encP_ok _⟩⟩, trivial⟩ (by decide) (by decide) (by kernel_rfl) ⟨⟨_, _, rfl, rfl, .inl ⟨rfl, rowC_scal (encI_ok .i64) _⟩⟩, trivial⟩ (by rfl)) ?_
  rintro _ _ _ ⟨rfl, rfl, rfl⟩
  refine XR.conv (σ' := [(3, .int .u8 d), (9, s0 1 r1.length), (10, ii (w64 (1 + (Int.tmod (w64 c) 3)))), (32, .tuple #[s0 2 r2.1.length, ii r2.2])]) (h' := [(2, rc (encI .i64) r2.1 0 3 1), (1, rc encP r1 0 61 2), (0, .cells [.int .u8 a_0_0, .int .u8 a_0_1, .int .u8 a_1_0, .int .u8 a_1_1, .int .u8 a_2_0, .int .u8 a_2_1, .int .u8 a_3_0, .int .u8 a_3_1, .int .u8 a_4_0, .int .u8 a_4_1, .int .u8 a_5_0, .int .u8 a_5_1, .int .u8 a_6_0, .int .u8 a_6_1, .int .u8 a_7_0, .int .u8 a_7_1] 0 56 0)]) (c' := 3) ?_ (by kernel_rfl)
  refine XR.runS E0_ok 1 5 [(3, .int .u8 d), (9, s0 1 r1.length), (10, ii (w64 (1 + (Int.tmod (w64 c) 3)))), (11, s0 2 r2.1.length), (12, ii r2.2)] rfl (by kernel_rfl) ?_
  refine XR.done (by kernel_rfl) ?_
  show XQ _ _ _ _ _ _ _ _
  refine XQ.seq E0_ok (by kernel_rfl) ?_
  refine XQ.region (by kernel_rfl) ?_
  refine XR.runS E0_ok 1 1 [(3, .int .u8 d), (9, s0 1 r1.length), (10, ii (w64 (1 + (Int.tmod (w64 c) 3)))), (11, s0 2 r2.1.length), (12, ii r2.2), (36, s0 1 r1.length)] rfl (by kernel_rfl) ?_
  obtain ⟨r3, r3_h, h⟩ := bS h
  refine XR.call E0_ok [3, 9, 10, 11, 12, 37] rfl (K := 29) (args := [s0 1 r1.length]) (d := (some (path 12 37))) (by kernel_rfl) (KQ.call (KC.quiet E0_ok (args0 := [s0 0 r1.length]) (h0 := [(0, rc encP r1 (0 + ((rowC encP r1).length + 1)) 61 2)]) (n := 1) (V := .tuple #[ii r3.1, ii r3.2]) [1] (f29_ok m (0 + ((rowC encP r1).length + 1)) 61 r1 r3 r3_h) rfl (by rfl) (by decide) rfl (by kernel_rfl) ⟨⟨_, _, rfl, rfl, .inl ⟨rfl, rowC_scal encP_ok _⟩⟩, trivial⟩) rfl) ?_
  rintro _ _ _ ⟨rfl, rfl, rfl⟩
  refine XR.conv (σ' := [(3, .int .u8 d), (9, s0 1 r1.length), (10, ii (w64 (1 + (Int.tmod (w64 c) 3)))), (11, s0 2 r2.1.length), (12, ii r2.2), (37, .tuple #[ii r3.1, ii r3.2])]) (h' := [(2, rc (encI .i64) r2.1 0 3 1), (1, rc encP r1 0 61 2), (0, .cells [.int .u8 a_0_0, .int .u8 a_0_1, .int .u8 a_1_0, .int .u8 a_1_1, .int .u8 a_2_0, .int .u8 a_2_1, .int .u8 a_3_0, .int .u8 a_3_1, .int .u8 a_4_0, .int .u8 a_4_1, .int .u8 a_5_0, .int .u8 a_5_1, .int .u8 a_6_0, .int .u8 a_6_1, .int .u8 a_7_0, .int .u8 a_7_1] 0 56 0)]) (c' := 3) ?_ (by kernel_rfl)
  refine XR.runS E0_ok 1 5 [(3, .int .u8 d), (9, s0 1 r1.length), (10, ii (w64 (1 + (Int.tmod (w64 c) 3)))), (11, s0 2 r2.1.length), (12, ii r2.2), (13, ii r3.1), (14, ii r3.2)] rfl (by kernel_rfl) ?_
  refine XR.done (by kernel_rfl) ?_
  show XQ _ _ _ _ _ _ _ _
  refine XQ.seq E0_ok (by kernel_rfl) ?_
  refine XQ.seq E0_ok (by kernel_rfl) ?_
  refine XQ.region (by kernel_rfl) ?_
  refine XR.runS E0_ok 1 3 [(3, .int .u8 d), (9, s0 1 r1.length), (10, ii (w64 (1 + (Int.tmod (w64 c) 3)))), (11, s0 2 r2.1.length), (12, ii r2.2), (13, ii r3.1), (42, .bool (r3.2 != 0))] rfl (by kernel_rfl) ?_
  cases b1 : (r3.2 != 0 : Bool) with
  | true =>
    have h := cT b1 h
    refine XR.runS E0_ok 1 15 [(3, .int .u8 d), (9, s0 1 r1.length), (10, ii (w64 (1 + (Int.tmod (w64 c) 3)))), (11, s0 2 r2.1.length), (12, ii r2.2), (13, ii r3.1), (57, .bool true)] rfl (by kernel_rfl) ?_
    refine XR.done (by kernel_rfl) ?_
    show XQ _ _ _ _ _ _ _ _
    refine XQ.cond (s := (.tmp 57)) (b := true) (by kernel_rfl) (by kernel_rfl) (fun _ => ?_) (fun q => by cases q)
    refine XQ.seq E0_ok (by kernel_rfl) ?_
    refine XQ.region (by kernel_rfl) ?_
    refine XR.runS E0_ok 1 1 [(8, .bool false)] rfl (by kernel_rfl) ?_
    refine XR.done (by kernel_rfl) ?_
    show XQ _ _ _ _ _ _ _ _
    refine XQ.ret (by kernel_rfl) ?_
    have h := Option.some.inj h
    subst h
    exact ⟨fun i q => (by cases q), .bool false, (by kernel_rfl), rfl⟩
  | false =>
    have h := cF b1 h
    refine XR.runS E0_ok 1 8 [(3, .int .u8 d), (9, s0 1 r1.length), (10, ii (w64 (1 + (Int.tmod (w64 c) 3)))), (11, s0 2 r2.1.length), (12, ii r2.2), (13, ii r3.1), (50, .bool (!((r2.2 == 0) == (decide (r3.1 ≤ (w64 (1 + (Int.tmod (w64 c) 3))))))))] rfl (by kernel_rfl) ?_
    cases b2 : (!((r2.2 == 0) == (decide (r3.1 ≤ (w64 (1 + (Int.tmod (w64 c) 3)))))) : Bool) with
    | true =>
      have h := cT b2 h
      refine XR.runS E0_ok 1 7 [(3, .int .u8 d), (9, s0 1 r1.length), (10, ii (w64 (1 + (Int.tmod (w64 c) 3)))), (11, s0 2 r2.1.length), (12, ii r2.2), (13, ii r3.1), (57, .bool true)] rfl (by kernel_rfl) ?_
      refine XR.done (by kernel_rfl) ?_
      show XQ _ _ _ _ _ _ _ _
      refine XQ.cond (s := (.tmp 57)) (b := true) (by kernel_rfl) (by kernel_rfl) (fun _ => ?_) (fun q => by cases q)
      refine XQ.seq E0_ok (by kernel_rfl) ?_
      refine XQ.region (by kernel_rfl) ?_
      refine XR.runS E0_ok 1 1 [(8, .bool false)] rfl (by kernel_rfl) ?_
      refine XR.done (by kernel_rfl) ?_
      show XQ _ _ _ _ _ _ _ _
      refine XQ.ret (by kernel_rfl) ?_
      have h := Option.some.inj h
      subst h
      exact ⟨fun i q => (by cases q), .bool false, (by kernel_rfl), rfl⟩
    | false =>
      have h := cF b2 h
      refine XR.runS E0_ok 1 3 [(3, .int .u8 d), (9, s0 1 r1.length), (10, ii (w64 (1 + (Int.tmod (w64 c) 3)))), (11, s0 2 r2.1.length), (12, ii r2.2), (13, ii r3.1), (50, .bool false), (53, .bool (r2.2 != 0))] rfl (by kernel_rfl) ?_
      cases b3 : (r2.2 != 0 : Bool) with
      | true =>
        have h := cT b3 h
        refine XR.runS E0_ok 1 4 [(3, .int .u8 d), (9, s0 1 r1.length), (10, ii (w64 (1 + (Int.tmod (w64 c) 3)))), (11, s0 2 r2.1.length), (12, ii r2.2), (13, ii r3.1), (57, .bool (r2.2 != 12))] rfl (by kernel_rfl) ?_
        refine XR.done (by kernel_rfl) ?_
        show XQ _ _ _ _ _ _ _ _
        cases b4 : (r2.2 != 12 : Bool) with
        | true =>
          have h := cT b4 h
          refine XQ.cond (s := (.tmp 57)) (b := true) (by kernel_rfl) (by kernel_rfl) (fun _ => ?_) (fun q => by cases q)
          refine XQ.seq E0_ok (by kernel_rfl) ?_
          refine XQ.region (by kernel_rfl) ?_
          refine XR.runS E0_ok 1 1 [(8, .bool false)] rfl (by kernel_rfl) ?_
          refine XR.done (by kernel_rfl) ?_
          show XQ _ _ _ _ _ _ _ _
          refine XQ.ret (by kernel_rfl) ?_
          have h := Option.some.inj h
          subst h
          exact ⟨fun i q => (by cases q), .bool false, (by kernel_rfl), rfl⟩
        | false =>
          have h := cF b4 h
          refine XQ.cond (s := (.tmp 57)) (b := false) (by kernel_rfl) (by kernel_rfl) (fun q => by cases q) (fun _ => ?_)
          refine XQ.skip (by kernel_rfl) ?_
          show XQ _ _ _ _ _ _ _ _
          refine XQ.seq E0_ok (by kernel_rfl) ?_
          refine XQ.seq E0_ok (by kernel_rfl) ?_
          refine XQ.region (by kernel_rfl) ?_
          refine XR.runS E0_ok 1 3 [(3, .int .u8 d), (9, s0 1 r1.length), (10, ii (w64 (1 + (Int.tmod (w64 c) 3)))), (11, s0 2 r2.1.length), (12, ii r2.2), (13, ii r3.1), (60, .bool (((r1.length : Nat) : Int) == 0))] rfl (by kernel_rfl) ?_
          refine XR.done (by kernel_rfl) ?_
          show XQ _ _ _ _ _ _ _ _
          cases b5 : (((r1.length : Nat) : Int) == 0 : Bool) with
          | true =>
            have h := cT b5 h
            refine XQ.cond (s := (.tmp 60)) (b := true) (by kernel_rfl) (by kernel_rfl) (fun _ => ?_) (fun q => by cases q)
            refine XQ.seq E0_ok (by kernel_rfl) ?_
            refine XQ.region (by kernel_rfl) ?_
            refine XR.runS E0_ok 1 3 [(63, .bool (r3.1 == 0))] rfl (by kernel_rfl) ?_
            cases b6 : (r3.1 == 0 : Bool) with
            | true =>
              have h := cT b6 h
              refine XR.call E0_ok [63, 64] rfl (K := 16) (args := []) (d := (some (path 12 64))) (by kernel_rfl) (KC.of_calls E0_ok (F := Proofs.Try.f16) (v := .bool true) (by kernel_rfl) rfl rfl (works_ok)) ?_
              rintro _ _ _ ⟨rfl, rfl, rfl⟩
              refine XR.conv (σ' := [(63, .bool true), (64, .bool true)]) (h' := [(2, rc (encI .i64) r2.1 0 3 1), (1, rc encP r1 0 61 2), (0, .cells [.int .u8 a_0_0, .int .u8 a_0_1, .int .u8 a_1_0, .int .u8 a_1_1, .int .u8 a_2_0, .int .u8 a_2_1, .int .u8 a_3_0, .int .u8 a_3_1, .int .u8 a_4_0, .int .u8 a_4_1, .int .u8 a_5_0, .int .u8 a_5_1, .int .u8 a_6_0, .int .u8 a_6_1, .int .u8 a_7_0, .int .u8 a_7_1] 0 56 0)]) (c' := 3) ?_ (by kernel_rfl)
              refine XR.runS E0_ok 1 2 [(8, .bool true)] rfl (by kernel_rfl) ?_
              refine XR.done (by kernel_rfl) ?_
              show XQ _ _ _ _ _ _ _ _
              refine XQ.ret (by kernel_rfl) ?_
              have h := Option.some.inj h
              subst h
              exact ⟨fun i q => (by cases q), .bool true, (by kernel_rfl), rfl⟩
            | false =>
              have h := cF b6 h
              refine XR.runS E0_ok 1 3 [(8, .bool false)] rfl (by kernel_rfl) ?_
              refine XR.done (by kernel_rfl) ?_
              show XQ _ _ _ _ _ _ _ _
              refine XQ.ret (by kernel_rfl) ?_
              have h := Option.some.inj h
              subst h
              exact ⟨fun i q => (by cases q), .bool false, (by kernel_rfl), rfl⟩
          | false =>
            have h := cF b5 h
            refine XQ.cond (s := (.tmp 60)) (b := false) (by kernel_rfl) (by kernel_rfl) (fun q => by cases q) (fun _ => ?_)
            refine XQ.skip (by kernel_rfl) ?_
            show XQ _ _ _ _ _ _ _ _
            refine XQ.seq E0_ok (by kernel_rfl) ?_
            refine XQ.region (by kernel_rfl) ?_
            refine XR.runS E0_ok 1 4 [(9, s0 1 r1.length), (10, ii (w64 (1 + (Int.tmod (w64 c) 3)))), (11, s0 2 r2.1.length), (12, ii r2.2), (13, ii r3.1), (67, ii (w64 d)), (69, ii ((r1.length : Nat) : Int))] rfl (by kernel_rfl) ?_
            cases b7 : (((r1.length : Nat) : Int) != 0 : Bool) with
            | false => cases (cF b7 h)
            | true =>
              have h := cT b7 h
              have e8 : insV (headI ((gsOf E0 165 (opsOf (lft (rgt (rgt (rgt (rgt (rgt (rgt (rgt f12_C12)))))))))).drop 4) (trS 165 [(9, s0 1 r1.length), (10, ii (w64 (1 + (Int.tmod (w64 c) 3)))), (11, s0 2 r2.1.length), (12, ii r2.2), (13, ii r3.1), (67, ii (w64 d)), (69, ii ((r1.length : Nat) : Int))])) (trS 165 [(9, s0 1 r1.length), (10, ii (w64 (1 + (Int.tmod (w64 c) 3)))), (11, s0 2 r2.1.length), (12, ii r2.2), (13, ii r3.1), (67, ii (w64 d)), (69, ii ((r1.length : Nat) : Int))]) [(2, rc (encI .i64) r2.1 0 3 1), (1, rc encP r1 0 61 2), (0, .cells [.int .u8 a_0_0, .int .u8 a_0_1, .int .u8 a_1_0, .int .u8 a_1_1, .int .u8 a_2_0, .int .u8 a_2_1, .int .u8 a_3_0, .int .u8 a_3_1, .int .u8 a_4_0, .int .u8 a_4_1, .int .u8 a_5_0, .int .u8 a_5_1, .int .u8 a_6_0, .int .u8 a_6_1, .int .u8 a_7_0, .int .u8 a_7_1] 0 56 0)] = (match (((r1.length : Nat) : Int) != 0 : Bool) with | true => some (ii (Int.tmod (w64 d) ((r1.length : Nat) : Int))) | false => none) := by kernel_rfl
              refine XR.rd E0_ok [9, 10, 11, 12, 13, 70] rfl (e8.trans (by rw [b7])) (σ' := [(9, s0 1 r1.length), (10, ii (w64 (1 + (Int.tmod (w64 c) 3)))), (11, s0 2 r2.1.length), (12, ii r2.2), (13, ii r3.1), (70, ii (Int.tmod (w64 d) ((r1.length : Nat) : Int)))]) (by kernel_rfl) ?_
              refine XR.runS E0_ok 1 1 [(9, s0 1 r1.length), (10, ii (w64 (1 + (Int.tmod (w64 c) 3)))), (11, s0 2 r2.1.length), (12, ii r2.2), (13, ii r3.1), (15, ii (Int.tmod (w64 d) ((r1.length : Nat) : Int)))] rfl (by kernel_rfl) ?_
              refine XR.done (by kernel_rfl) ?_
              show XQ _ _ _ _ _ _ _ _
              refine XQ.seq E0_ok (by kernel_rfl) ?_
              refine XQ.region (by kernel_rfl) ?_
              refine XR.runS E0_ok 1 1 [(9, s0 1 r1.length), (10, ii (w64 (1 + (Int.tmod (w64 c) 3)))), (11, s0 2 r2.1.length), (12, ii r2.2), (13, ii r3.1), (15, ii (Int.tmod (w64 d) ((r1.length : Nat) : Int))), (71, s0 1 r1.length)] rfl (by kernel_rfl) ?_
              cases b9 : (fitsB r1.length 16 : Bool) with
              | false => cases (cF b9 h)
              | true =>
                have h := cT b9 h
                refine XR.call E0_ok [9, 10, 11, 12, 13, 15, 72] rfl (K := 50) (args := [s0 1 r1.length]) (d := (some (path 12 72))) (by kernel_rfl) (clone50_all (xs := r1) (fz := 0) (e0 := 61) (es0 := 2) (c := 3) (by kernel_rfl) (by simp) (Nat.le_refl _) b9) ?_
                rintro _ _ _ ⟨rfl, rfl, rfl⟩
                refine XR.conv (σ' := [(9, s0 1 r1.length), (10, ii (w64 (1 + (Int.tmod (w64 c) 3)))), (11, s0 2 r2.1.length), (12, ii r2.2), (13, ii r3.1), (15, ii (Int.tmod (w64 d) ((r1.length : Nat) : Int))), (72, s0 4 r1.length)]) (h' := [(4, rc encP r1 0 61 2), (2, rc (encI .i64) r2.1 0 3 1), (1, rc encP r1 0 61 2), (0, .cells [.int .u8 a_0_0, .int .u8 a_0_1, .int .u8 a_1_0, .int .u8 a_1_1, .int .u8 a_2_0, .int .u8 a_2_1, .int .u8 a_3_0, .int .u8 a_3_1, .int .u8 a_4_0, .int .u8 a_4_1, .int .u8 a_5_0, .int .u8 a_5_1, .int .u8 a_6_0, .int .u8 a_6_1, .int .u8 a_7_0, .int .u8 a_7_1] 0 56 0)]) (c' := 5) ?_ (by kernel_rfl)
                refine XR.runS E0_ok 1 1 [(9, s0 1 r1.length), (10, ii (w64 (1 + (Int.tmod (w64 c) 3)))), (11, s0 2 r2.1.length), (12, ii r2.2), (13, ii r3.1), (15, ii (Int.tmod (w64 d) ((r1.length : Nat) : Int))), (16, s0 4 r1.length)] rfl (by kernel_rfl) ?_
                refine XR.done (by kernel_rfl) ?_
                show XQ _ _ _ _ _ _ _ _
                refine XQ.seq E0_ok (by kernel_rfl) ?_
                refine XQ.region (by kernel_rfl) ?_
                refine XR.runS E0_ok 1 2 [(9, s0 1 r1.length), (10, ii (w64 (1 + (Int.tmod (w64 c) 3)))), (11, s0 2 r2.1.length), (12, ii r2.2), (13, ii r3.1), (15, ii (Int.tmod (w64 d) ((r1.length : Nat) : Int))), (16, s0 4 r1.length), (73, s0 4 r1.length), (74, ii (Int.tmod (w64 d) ((r1.length : Nat) : Int)))] rfl (by kernel_rfl) ?_
                cases b10 : (inRow (Int.tmod (w64 d) ((r1.length : Nat) : Int)) r1.length : Bool) with
                | false => cases (cF b10 h)
                | true =>
                  have h := cT b10 h
                  refine XR.rd E0_ok [9, 10, 11, 12, 13, 15, 16, 73, 74, 75] rfl (v := pp 4 ((Int.toNat (Int.tmod (w64 d) ((r1.length : Nat) : Int))) * 2)) (v_idx (s := 2) (x := (src 165 (.tmp 73))) (y := (src 165 (.tmp 74))) (b := 4) (o := 0) (len := r1.length) (cap := r1.length) (ik := .i64) (i := Int.tmod (w64 d) ((r1.length : Nat) : Int)) (off := (Int.toNat (Int.tmod (w64 d) ((r1.length : Nat) : Int))) * 2) (d := (some (path 12 75))) (by kernel_rfl) (by kernel_rfl) (by kernel_rfl) b10 (by omega)) (σ' := [(9, s0 1 r1.length), (10, ii (w64 (1 + (Int.tmod (w64 c) 3)))), (11, s0 2 r2.1.length), (12, ii r2.2), (13, ii r3.1), (15, ii (Int.tmod (w64 d) ((r1.length : Nat) : Int))), (16, s0 4 r1.length), (73, s0 4 r1.length), (74, ii (Int.tmod (w64 d) ((r1.length : Nat) : Int))), (75, pp 4 ((Int.toNat (Int.tmod (w64 d) ((r1.length : Nat) : Int))) * 2))]) (by kernel_rfl) ?_
                  refine XR.runS E0_ok 1 1 [(9, s0 1 r1.length), (10, ii (w64 (1 + (Int.tmod (w64 c) 3)))), (11, s0 2 r2.1.length), (12, ii r2.2), (13, ii r3.1), (15, ii (Int.tmod (w64 d) ((r1.length : Nat) : Int))), (16, s0 4 r1.length), (73, s0 4 r1.length), (74, ii (Int.tmod (w64 d) ((r1.length : Nat) : Int))), (76, pp 4 ((Int.toNat (Int.tmod (w64 d) ((r1.length : Nat) : Int))) * 2))] rfl (by kernel_rfl) ?_
                  refine XR.rd E0_ok [9, 10, 11, 12, 13, 15, 16, 73, 74, 77] rfl (v := ii ((List.getD r1 (Int.toNat (Int.tmod (w64 d) ((r1.length : Nat) : Int))) (0, 0)).1)) (v_load1 encP_ok (x := (src 165 (.tmp 76))) (b := 4) (off := (Int.toNat (Int.tmod (w64 d) ((r1.length : Nat) : Int))) * 2) (xs := r1) (fz := 0) (e := 61) (es := 2) (d := (some (path 12 77))) (by kernel_rfl) (by kernel_rfl) (by kernel_rfl) (Int.toNat (Int.tmod (w64 d) ((r1.length : Nat) : Int))) 0 (0, 0) (by first | rfl | omega) (row_len (inRow_toNat b10) (by simp)) rfl rfl) (σ' := [(9, s0 1 r1.length), (10, ii (w64 (1 + (Int.tmod (w64 c) 3)))), (11, s0 2 r2.1.length), (12, ii r2.2), (13, ii r3.1), (15, ii (Int.tmod (w64 d) ((r1.length : Nat) : Int))), (16, s0 4 r1.length), (73, s0 4 r1.length), (74, ii (Int.tmod (w64 d) ((r1.length : Nat) : Int))), (77, ii ((List.getD r1 (Int.toNat (Int.tmod (w64 d) ((r1.length : Nat) : Int))) (0, 0)).1))]) (by kernel_rfl) ?_
                  refine XR.runS E0_ok 1 1 [(9, s0 1 r1.length), (10, ii (w64 (1 + (Int.tmod (w64 c) 3)))), (11, s0 2 r2.1.length), (12, ii r2.2), (13, ii r3.1), (15, ii (Int.tmod (w64 d) ((r1.length : Nat) : Int))), (16, s0 4 r1.length), (73, s0 4 r1.length), (74, ii (Int.tmod (w64 d) ((r1.length : Nat) : Int))), (78, ii (w64 (((List.getD r1 (Int.toNat (Int.tmod (w64 d) ((r1.length : Nat) : Int))) (0, 0)).1) - 1)))] rfl (by kernel_rfl) ?_
                  refine XR.rd E0_ok [9, 10, 11, 12, 13, 15, 16, 78, 79] rfl (v := pp 4 ((Int.toNat (Int.tmod (w64 d) ((r1.length : Nat) : Int))) * 2)) (v_idx (s := 2) (x := (src 165 (.tmp 73))) (y := (src 165 (.tmp 74))) (b := 4) (o := 0) (len := r1.length) (cap := r1.length) (ik := .i64) (i := Int.tmod (w64 d) ((r1.length : Nat) : Int)) (off := (Int.toNat (Int.tmod (w64 d) ((r1.length : Nat) : Int))) * 2) (d := (some (path 12 79))) (by kernel_rfl) (by kernel_rfl) (by kernel_rfl) b10 (by omega)) (σ' := [(9, s0 1 r1.length), (10, ii (w64 (1 + (Int.tmod (w64 c) 3)))), (11, s0 2 r2.1.length), (12, ii r2.2), (13, ii r3.1), (15, ii (Int.tmod (w64 d) ((r1.length : Nat) : Int))), (16, s0 4 r1.length), (78, ii (w64 (((List.getD r1 (Int.toNat (Int.tmod (w64 d) ((r1.length : Nat) : Int))) (0, 0)).1) - 1))), (79, pp 4 ((Int.toNat (Int.tmod (w64 d) ((r1.length : Nat) : Int))) * 2))]) (by kernel_rfl) ?_
                  refine XR.runS E0_ok 1 1 [(9, s0 1 r1.length), (10, ii (w64 (1 + (Int.tmod (w64 c) 3)))), (11, s0 2 r2.1.length), (12, ii r2.2), (13, ii r3.1), (15, ii (Int.tmod (w64 d) ((r1.length : Nat) : Int))), (16, s0 4 r1.length), (78, ii (w64 (((List.getD r1 (Int.toNat (Int.tmod (w64 d) ((r1.length : Nat) : Int))) (0, 0)).1) - 1))), (80, pp 4 ((Int.toNat (Int.tmod (w64 d) ((r1.length : Nat) : Int))) * 2))] rfl (by kernel_rfl) ?_
                  refine XR.ef E0_ok [9, 10, 11, 12, 13, 15, 16] rfl (e_store encP_ok (size := 1) (x := (src 165 (.tmp 80))) (y := (src 165 (.tmp 78))) (b := 4) (off := (Int.toNat (Int.tmod (w64 d) ((r1.length : Nat) : Int))) * 2) (xs := r1) (e := 61) (es := 2) (d := none) (h' := [(4, rc encP (List.set r1 (Int.toNat (Int.tmod (w64 d) ((r1.length : Nat) : Int))) (w64 (((List.getD r1 (Int.toNat (Int.tmod (w64 d) ((r1.length : Nat) : Int))) (0, 0)).1) - 1), (List.getD r1 (Int.toNat (Int.tmod (w64 d) ((r1.length : Nat) : Int))) (0, 0)).2)) 0 61 2), (2, rc (encI .i64) r2.1 0 3 1), (1, rc encP r1 0 61 2), (0, .cells [.int .u8 a_0_0, .int .u8 a_0_1, .int .u8 a_1_0, .int .u8 a_1_1, .int .u8 a_2_0, .int .u8 a_2_1, .int .u8 a_3_0, .int .u8 a_3_1, .int .u8 a_4_0, .int .u8 a_4_1, .int .u8 a_5_0, .int .u8 a_5_1, .int .u8 a_6_0, .int .u8 a_6_1, .int .u8 a_7_0, .int .u8 a_7_1] 0 56 0)]) (w := ii (w64 (((List.getD r1 (Int.toNat (Int.tmod (w64 d) ((r1.length : Nat) : Int))) (0, 0)).1) - 1))) (ws := [ii (w64 (((List.getD r1 (Int.toNat (Int.tmod (w64 d) ((r1.length : Nat) : Int))) (0, 0)).1) - 1))]) (a := (w64 (((List.getD r1 (Int.toNat (Int.tmod (w64 d) ((r1.length : Nat) : Int))) (0, 0)).1) - 1), (List.getD r1 (Int.toNat (Int.tmod (w64 d) ((r1.length : Nat) : Int))) (0, 0)).2)) (by kernel_rfl) (by kernel_rfl) (by kernel_rfl) (Int.toNat (Int.tmod (w64 d) ((r1.length : Nat) : Int))) 0 (0, 0) (by first | rfl | omega) (row_len (inRow_toNat b10) (by simp)) (by kernel_rfl) rfl rfl rfl rfl rfl (by kernel_rfl)) (σ' := [(9, s0 1 r1.length), (10, ii (w64 (1 + (Int.tmod (w64 c) 3)))), (11, s0 2 r2.1.length), (12, ii r2.2), (13, ii r3.1), (15, ii (Int.tmod (w64 d) ((r1.length : Nat) : Int))), (16, s0 4 r1.length)]) (by kernel_rfl) ?_
                  refine XR.done (by kernel_rfl) ?_
                  show XQ _ _ _ _ _ _ _ _
                  refine XQ.seq E0_ok (by kernel_rfl) ?_
                  refine XQ.region (by kernel_rfl) ?_
                  refine XR.runS E0_ok 1 2 [(9, s0 1 r1.length), (10, ii (w64 (1 + (Int.tmod (w64 c) 3)))), (11, s0 2 r2.1.length), (12, ii r2.2), (13, ii r3.1), (15, ii (Int.tmod (w64 d) ((r1.length : Nat) : Int))), (16, s0 4 r1.length), (81, s0 4 r1.length), (82, ii (Int.tmod (w64 d) ((r1.length : Nat) : Int)))] rfl (by kernel_rfl) ?_
                  refine XR.rd E0_ok [9, 10, 11, 12, 13, 15, 16, 81, 82, 83] rfl (v := pp 4 ((Int.toNat (Int.tmod (w64 d) ((r1.length : Nat) : Int))) * 2)) (v_idx (s := 2) (x := (src 165 (.tmp 81))) (y := (src 165 (.tmp 82))) (b := 4) (o := 0) (len := r1.length) (cap := r1.length) (ik := .i64) (i := Int.tmod (w64 d) ((r1.length : Nat) : Int)) (off := (Int.toNat (Int.tmod (w64 d) ((r1.length : Nat) : Int))) * 2) (d := (some (path 12 83))) (by kernel_rfl) (by kernel_rfl) (by kernel_rfl) b10 (by omega)) (σ' := [(9, s0 1 r1.length), (10, ii (w64 (1 + (Int.tmod (w64 c) 3)))), (11, s0 2 r2.1.length), (12, ii r2.2), (13, ii r3.1), (15, ii (Int.tmod (w64 d) ((r1.length : Nat) : Int))), (16, s0 4 r1.length), (81, s0 4 r1.length), (82, ii (Int.tmod (w64 d) ((r1.length : Nat) : Int))), (83, pp 4 ((Int.toNat (Int.tmod (w64 d) ((r1.length : Nat) : Int))) * 2))]) (by kernel_rfl) ?_
                  refine XR.runS E0_ok 1 1 [(9, s0 1 r1.length), (10, ii (w64 (1 + (Int.tmod (w64 c) 3)))), (11, s0 2 r2.1.length), (12, ii r2.2), (13, ii r3.1), (15, ii (Int.tmod (w64 d) ((r1.length : Nat) : Int))), (16, s0 4 r1.length), (81, s0 4 r1.length), (82, ii (Int.tmod (w64 d) ((r1.length : Nat) : Int))), (84, pp 4 ((Int.toNat (Int.tmod (w64 d) ((r1.length : Nat) : Int))) * 2 + 1))] rfl (by kernel_rfl) ?_
                  refine XR.rd E0_ok [9, 10, 11, 12, 13, 15, 16, 81, 82, 85] rfl (v := ii ((List.getD (List.set r1 (Int.toNat (Int.tmod (w64 d) ((r1.length : Nat) : Int))) (w64 (((List.getD r1 (Int.toNat (Int.tmod (w64 d) ((r1.length : Nat) : Int))) (0, 0)).1) - 1), (List.getD r1 (Int.toNat (Int.tmod (w64 d) ((r1.length : Nat) : Int))) (0, 0)).2)) (Int.toNat (Int.tmod (w64 d) ((r1.length : Nat) : Int))) (0, 0)).2)) (v_load1 encP_ok (x := (src 165 (.tmp 84))) (b := 4) (off := (Int.toNat (Int.tmod (w64 d) ((r1.length : Nat) : Int))) * 2 + 1) (xs := List.set r1 (Int.toNat (Int.tmod (w64 d) ((r1.length : Nat) : Int))) (w64 (((List.getD r1 (Int.toNat (Int.tmod (w64 d) ((r1.length : Nat) : Int))) (0, 0)).1) - 1), (List.getD r1 (Int.toNat (Int.tmod (w64 d) ((r1.length : Nat) : Int))) (0, 0)).2)) (fz := 0) (e := 61) (es := 2) (d := (some (path 12 85))) (by kernel_rfl) (by kernel_rfl) (by kernel_rfl) (Int.toNat (Int.tmod (w64 d) ((r1.length : Nat) : Int))) 1 (0, 0) (by first | rfl | omega) (row_len (inRow_toNat b10) (by simp)) rfl rfl) (σ' := [(9, s0 1 r1.length), (10, ii (w64 (1 + (Int.tmod (w64 c) 3)))), (11, s0 2 r2.1.length), (12, ii r2.2), (13, ii r3.1), (15, ii (Int.tmod (w64 d) ((r1.length : Nat) : Int))), (16, s0 4 r1.length), (81, s0 4 r1.length), (82, ii (Int.tmod (w64 d) ((r1.length : Nat) : Int))), (85, ii ((List.getD (List.set r1 (Int.toNat (Int.tmod (w64 d) ((r1.length : Nat) : Int))) (w64 (((List.getD r1 (Int.toNat (Int.tmod (w64 d) ((r1.length : Nat) : Int))) (0, 0)).1) - 1), (List.getD r1 (Int.toNat (Int.tmod (w64 d) ((r1.length : Nat) : Int))) (0, 0)).2)) (Int.toNat (Int.tmod (w64 d) ((r1.length : Nat) : Int))) (0, 0)).2))]) (by kernel_rfl) ?_
                  refine XR.runS E0_ok 1 1 [(9, s0 1 r1.length), (10, ii (w64 (1 + (Int.tmod (w64 c) 3)))), (11, s0 2 r2.1.length), (12, ii r2.2), (13, ii r3.1), (15, ii (Int.tmod (w64 d) ((r1.length : Nat) : Int))), (16, s0 4 r1.length), (81, s0 4 r1.length), (82, ii (Int.tmod (w64 d) ((r1.length : Nat) : Int))), (86, ii (w64 (((List.getD (List.set r1 (Int.toNat (Int.tmod (w64 d) ((r1.length : Nat) : Int))) (w64 (((List.getD r1 (Int.toNat (Int.tmod (w64 d) ((r1.length : Nat) : Int))) (0, 0)).1) - 1), (List.getD r1 (Int.toNat (Int.tmod (w64 d) ((r1.length : Nat) : Int))) (0, 0)).2)) (Int.toNat (Int.tmod (w64 d) ((r1.length : Nat) : Int))) (0, 0)).2) + 1)))] rfl (by kernel_rfl) ?_
                  refine XR.rd E0_ok [9, 10, 11, 12, 13, 15, 16, 86, 87] rfl (v := pp 4 ((Int.toNat (Int.tmod (w64 d) ((r1.length : Nat) : Int))) * 2)) (v_idx (s := 2) (x := (src 165 (.tmp 81))) (y := (src 165 (.tmp 82))) (b := 4) (o := 0) (len := r1.length) (cap := r1.length) (ik := .i64) (i := Int.tmod (w64 d) ((r1.length : Nat) : Int)) (off := (Int.toNat (Int.tmod (w64 d) ((r1.length : Nat) : Int))) * 2) (d := (some (path 12 87))) (by kernel_rfl) (by kernel_rfl) (by kernel_rfl) b10 (by omega)) (σ' := [(9, s0 1 r1.length), (10, ii (w64 (1 + (Int.tmod (w64 c) 3)))), (11, s0 2 r2.1.length), (12, ii r2.2), (13, ii r3.1), (15, ii (Int.tmod (w64 d) ((r1.length : Nat) : Int))), (16, s0 4 r1.length), (86, ii (w64 (((List.getD (List.set r1 (Int.toNat (Int.tmod (w64 d) ((r1.length : Nat) : Int))) (w64 (((List.getD r1 (Int.toNat (Int.tmod (w64 d) ((r1.length : Nat) : Int))) (0, 0)).1) - 1), (List.getD r1 (Int.toNat (Int.tmod (w64 d) ((r1.length : Nat) : Int))) (0, 0)).2)) (Int.toNat (Int.tmod (w64 d) ((r1.length : Nat) : Int))) (0, 0)).2) + 1))), (87, pp 4 ((Int.toNat (Int.tmod (w64 d) ((r1.length : Nat) : Int))) * 2))]) (by kernel_rfl) ?_
                  refine XR.runS E0_ok 1 1 [(9, s0 1 r1.length), (10, ii (w64 (1 + (Int.tmod (w64 c) 3)))), (11, s0 2 r2.1.length), (12, ii r2.2), (13, ii r3.1), (15, ii (Int.tmod (w64 d) ((r1.length : Nat) : Int))), (16, s0 4 r1.length), (86, ii (w64 (((List.getD (List.set r1 (Int.toNat (Int.tmod (w64 d) ((r1.length : Nat) : Int))) (w64 (((List.getD r1 (Int.toNat (Int.tmod (w64 d) ((r1.length : Nat) : Int))) (0, 0)).1) - 1), (List.getD r1 (Int.toNat (Int.tmod (w64 d) ((r1.length : Nat) : Int))) (0, 0)).2)) (Int.toNat (Int.tmod (w64 d) ((r1.length : Nat) : Int))) (0, 0)).2) + 1))), (88, pp 4 ((Int.toNat (Int.tmod (w64 d) ((r1.length : Nat) : Int))) * 2 + 1))] rfl (by kernel_rfl) ?_
                  refine XR.ef E0_ok [9, 10, 11, 12, 13, 15, 16] rfl (e_store encP_ok (size := 1) (x := (src 165 (.tmp 88))) (y := (src 165 (.tmp 86))) (b := 4) (off := (Int.toNat (Int.tmod (w64 d) ((r1.length : Nat) : Int))) * 2 + 1) (xs := List.set r1 (Int.toNat (Int.tmod (w64 d) ((r1.length : Nat) : Int))) (w64 (((List.getD r1 (Int.toNat (Int.tmod (w64 d) ((r1.length : Nat) : Int))) (0, 0)).1) - 1), (List.getD r1 (Int.toNat (Int.tmod (w64 d) ((r1.length : Nat) : Int))) (0, 0)).2)) (e := 61) (es := 2) (d := none) (h' := [(4, rc encP (List.set (List.set r1 (Int.toNat (Int.tmod (w64 d) ((r1.length : Nat) : Int))) (w64 (((List.getD r1 (Int.toNat (Int.tmod (w64 d) ((r1.length : Nat) : Int))) (0, 0)).1) - 1), (List.getD r1 (Int.toNat (Int.tmod (w64 d) ((r1.length : Nat) : Int))) (0, 0)).2)) (Int.toNat (Int.tmod (w64 d) ((r1.length : Nat) : Int))) ((List.getD (List.set r1 (Int.toNat (Int.tmod (w64 d) ((r1.length : Nat) : Int))) (w64 (((List.getD r1 (Int.toNat (Int.tmod (w64 d) ((r1.length : Nat) : Int))) (0, 0)).1) - 1), (List.getD r1 (Int.toNat (Int.tmod (w64 d) ((r1.length : Nat) : Int))) (0, 0)).2)) (Int.toNat (Int.tmod (w64 d) ((r1.length : Nat) : Int))) (0, 0)).1, w64 (((List.getD (List.set r1 (Int.toNat (Int.tmod (w64 d) ((r1.length : Nat) : Int))) (w64 (((List.getD r1 (Int.toNat (Int.tmod (w64 d) ((r1.length : Nat) : Int))) (0, 0)).1) - 1), (List.getD r1 (Int.toNat (Int.tmod (w64 d) ((r1.length : Nat) : Int))) (0, 0)).2)) (Int.toNat (Int.tmod (w64 d) ((r1.length : Nat) : Int))) (0, 0)).2) + 1))) 0 61 2), (2, rc (encI .i64) r2.1 0 3 1), (1, rc encP r1 0 61 2), (0, .cells [.int .u8 a_0_0, .int .u8 a_0_1, .int .u8 a_1_0, .int .u8 a_1_1, .int .u8 a_2_0, .int .u8 a_2_1, .int .u8 a_3_0, .int .u8 a_3_1, .int .u8 a_4_0, .int .u8 a_4_1, .int .u8 a_5_0, .int .u8 a_5_1, .int .u8 a_6_0, .int .u8 a_6_1, .int .u8 a_7_0, .int .u8 a_7_1] 0 56 0)]) (w := ii (w64 (((List.getD (List.set r1 (Int.toNat (Int.tmod (w64 d) ((r1.length : Nat) : Int))) (w64 (((List.getD r1 (Int.toNat (Int.tmod (w64 d) ((r1.length : Nat) : Int))) (0, 0)).1) - 1), (List.getD r1 (Int.toNat (Int.tmod (w64 d) ((r1.length : Nat) : Int))) (0, 0)).2)) (Int.toNat (Int.tmod (w64 d) ((r1.length : Nat) : Int))) (0, 0)).2) + 1))) (ws := [ii (w64 (((List.getD (List.set r1 (Int.toNat (Int.tmod (w64 d) ((r1.length : Nat) : Int))) (w64 (((List.getD r1 (Int.toNat (Int.tmod (w64 d) ((r1.length : Nat) : Int))) (0, 0)).1) - 1), (List.getD r1 (Int.toNat (Int.tmod (w64 d) ((r1.length : Nat) : Int))) (0, 0)).2)) (Int.toNat (Int.tmod (w64 d) ((r1.length : Nat) : Int))) (0, 0)).2) + 1))]) (a := ((List.getD (List.set r1 (Int.toNat (Int.tmod (w64 d) ((r1.length : Nat) : Int))) (w64 (((List.getD r1 (Int.toNat (Int.tmod (w64 d) ((r1.length : Nat) : Int))) (0, 0)).1) - 1), (List.getD r1 (Int.toNat (Int.tmod (w64 d) ((r1.length : Nat) : Int))) (0, 0)).2)) (Int.toNat (Int.tmod (w64 d) ((r1.length : Nat) : Int))) (0, 0)).1, w64 (((List.getD (List.set r1 (Int.toNat (Int.tmod (w64 d) ((r1.length : Nat) : Int))) (w64 (((List.getD r1 (Int.toNat (Int.tmod (w64 d) ((r1.length : Nat) : Int))) (0, 0)).1) - 1), (List.getD r1 (Int.toNat (Int.tmod (w64 d) ((r1.length : Nat) : Int))) (0, 0)).2)) (Int.toNat (Int.tmod (w64 d) ((r1.length : Nat) : Int))) (0, 0)).2) + 1))) (by kernel_rfl) (by kernel_rfl) (by kernel_rfl) (Int.toNat (Int.tmod (w64 d) ((r1.length : Nat) : Int))) 1 (0, 0) (by first | rfl | omega) (row_len (inRow_toNat b10) (by simp)) (by kernel_rfl) rfl rfl rfl rfl rfl (by kernel_rfl)) (σ' := [(9, s0 1 r1.length), (10, ii (w64 (1 + (Int.tmod (w64 c) 3)))), (11, s0 2 r2.1.length), (12, ii r2.2), (13, ii r3.1), (15, ii (Int.tmod (w64 d) ((r1.length : Nat) : Int))), (16, s0 4 r1.length)]) (by kernel_rfl) ?_
                  refine XR.done (by kernel_rfl) ?_
                  show XQ _ _ _ _ _ _ _ _
                  refine XQ.seq E0_ok (by kernel_rfl) ?_
                  refine XQ.region (by kernel_rfl) ?_
                  refine XR.runS E0_ok 1 1 [(9, s0 1 r1.length), (10, ii (w64 (1 + (Int.tmod (w64 c) 3)))), (11, s0 2 r2.1.length), (12, ii r2.2), (13, ii r3.1), (15, ii (Int.tmod (w64 d) ((r1.length : Nat) : Int))), (16, s0 4 r1.length), (89, s0 1 r1.length)] rfl (by kernel_rfl) ?_
                  refine XR.call E0_ok [9, 10, 11, 12, 13, 15, 16, 90] rfl (K := 50) (args := [s0 1 r1.length]) (d := (some (path 12 90))) (by kernel_rfl) (clone50_all (xs := r1) (fz := 0) (e0 := 61) (es0 := 2) (c := 5) (by kernel_rfl) (by simp) (Nat.le_refl _) b9) ?_
                  rintro _ _ _ ⟨rfl, rfl, rfl⟩
                  refine XR.conv (σ' := [(9, s0 1 r1.length), (10, ii (w64 (1 + (Int.tmod (w64 c) 3)))), (11, s0 2 r2.1.length), (12, ii r2.2), (13, ii r3.1), (15, ii (Int.tmod (w64 d) ((r1.length : Nat) : Int))), (16, s0 4 r1.length), (90, s0 6 r1.length)]) (h' := [(6, rc encP r1 0 61 2), (4, rc encP (List.set (List.set r1 (Int.toNat (Int.tmod (w64 d) ((r1.length : Nat) : Int))) (w64 (((List.getD r1 (Int.toNat (Int.tmod (w64 d) ((r1.length : Nat) : Int))) (0, 0)).1) - 1), (List.getD r1 (Int.toNat (Int.tmod (w64 d) ((r1.length : Nat) : Int))) (0, 0)).2)) (Int.toNat (Int.tmod (w64 d) ((r1.length : Nat) : Int))) ((List.getD (List.set r1 (Int.toNat (Int.tmod (w64 d) ((r1.length : Nat) : Int))) (w64 (((List.getD r1 (Int.toNat (Int.tmod (w64 d) ((r1.length : Nat) : Int))) (0, 0)).1) - 1), (List.getD r1 (Int.toNat (Int.tmod (w64 d) ((r1.length : Nat) : Int))) (0, 0)).2)) (Int.toNat (Int.tmod (w64 d) ((r1.length : Nat) : Int))) (0, 0)).1, w64 (((List.getD (List.set r1 (Int.toNat (Int.tmod (w64 d) ((r1.length : Nat) : Int))) (w64 (((List.getD r1 (Int.toNat (Int.tmod (w64 d) ((r1.length : Nat) : Int))) (0, 0)).1) - 1), (List.getD r1 (Int.toNat (Int.tmod (w64 d) ((r1.length : Nat) : Int))) (0, 0)).2)) (Int.toNat (Int.tmod (w64 d) ((r1.length : Nat) : Int))) (0, 0)).2) + 1))) 0 61 2), (2, rc (encI .i64) r2.1 0 3 1), (1, rc encP r1 0 61 2), (0, .cells [.int .u8 a_0_0, .int .u8 a_0_1, .int .u8 a_1_0, .int .u8 a_1_1, .int .u8 a_2_0, .int .u8 a_2_1, .int .u8 a_3_0, .int .u8 a_3_1, .int .u8 a_4_0, .int .u8 a_4_1, .int .u8 a_5_0, .int .u8 a_5_1, .int .u8 a_6_0, .int .u8 a_6_1, .int .u8 a_7_0, .int .u8 a_7_1] 0 56 0)]) (c' := 7) ?_ (by kernel_rfl)
                  refine XR.runS E0_ok 1 3 [(9, s0 1 r1.length), (10, ii (w64 (1 + (Int.tmod (w64 c) 3)))), (11, s0 2 r2.1.length), (12, ii r2.2), (13, ii r3.1), (15, ii (Int.tmod (w64 d) ((r1.length : Nat) : Int))), (16, s0 4 r1.length), (90, s0 6 r1.length), (91, ii (Int.tmod (w64 d) ((r1.length : Nat) : Int))), (93, ii (w64 ((Int.tmod (w64 d) ((r1.length : Nat) : Int)) + 1)))] rfl (by kernel_rfl) ?_
                  obtain ⟨o1, o1_h, h⟩ := bS h
                  refine XR.call E0_ok [9, 10, 11, 12, 13, 15, 16, 94] rfl (K := 51) (args := [s0 6 r1.length, ii (Int.tmod (w64 d) ((r1.length : Nat) : Int)), ii (w64 ((Int.tmod (w64 d) ((r1.length : Nat) : Int)) + 1))]) (d := (some (path 12 94))) (by kernel_rfl) (f12_1_ok m a_0_0 a_0_1 a_1_0 a_1_1 a_2_0 a_2_1 a_3_0 a_3_1 a_4_0 a_4_1 a_5_0 a_5_1 a_6_0 a_6_1 a_7_0 a_7_1 (Int.tmod (w64 d) ((r1.length : Nat) : Int)) (w64 ((Int.tmod (w64 d) ((r1.length : Nat) : Int)) + 1)) r1 r2.1 (List.set (List.set r1 (Int.toNat (Int.tmod (w64 d) ((r1.length : Nat) : Int))) (w64 (((List.getD r1 (Int.toNat (Int.tmod (w64 d) ((r1.length : Nat) : Int))) (0, 0)).1) - 1), (List.getD r1 (Int.toNat (Int.tmod (w64 d) ((r1.length : Nat) : Int))) (0, 0)).2)) (Int.toNat (Int.tmod (w64 d) ((r1.length : Nat) : Int))) ((List.getD (List.set r1 (Int.toNat (Int.tmod (w64 d) ((r1.length : Nat) : Int))) (w64 (((List.getD r1 (Int.toNat (Int.tmod (w64 d) ((r1.length : Nat) : Int))) (0, 0)).1) - 1), (List.getD r1 (Int.toNat (Int.tmod (w64 d) ((r1.length : Nat) : Int))) (0, 0)).2)) (Int.toNat (Int.tmod (w64 d) ((r1.length : Nat) : Int))) (0, 0)).1, w64 (((List.getD (List.set r1 (Int.toNat (Int.tmod (w64 d) ((r1.length : Nat) : Int))) (w64 (((List.getD r1 (Int.toNat (Int.tmod (w64 d) ((r1.length : Nat) : Int))) (0, 0)).1) - 1), (List.getD r1 (Int.toNat (Int.tmod (w64 d) ((r1.length : Nat) : Int))) (0, 0)).2)) (Int.toNat (Int.tmod (w64 d) ((r1.length : Nat) : Int))) (0, 0)).2) + 1))) r1 o1 o1_h (fun v h' c' => v = s0 6 o1.length ∧ h' = [(6, rc encP o1 0 61 2), (4, rc encP (List.set (List.set r1 (Int.toNat (Int.tmod (w64 d) ((r1.length : Nat) : Int))) (w64 (((List.getD r1 (Int.toNat (Int.tmod (w64 d) ((r1.length : Nat) : Int))) (0, 0)).1) - 1), (List.getD r1 (Int.toNat (Int.tmod (w64 d) ((r1.length : Nat) : Int))) (0, 0)).2)) (Int.toNat (Int.tmod (w64 d) ((r1.length : Nat) : Int))) ((List.getD (List.set r1 (Int.toNat (Int.tmod (w64 d) ((r1.length : Nat) : Int))) (w64 (((List.getD r1 (Int.toNat (Int.tmod (w64 d) ((r1.length : Nat) : Int))) (0, 0)).1) - 1), (List.getD r1 (Int.toNat (Int.tmod (w64 d) ((r1.length : Nat) : Int))) (0, 0)).2)) (Int.toNat (Int.tmod (w64 d) ((r1.length : Nat) : Int))) (0, 0)).1, w64 (((List.getD (List.set r1 (Int.toNat (Int.tmod (w64 d) ((r1.length : Nat) : Int))) (w64 (((List.getD r1 (Int.toNat (Int.tmod (w64 d) ((r1.length : Nat) : Int))) (0, 0)).1) - 1), (List.getD r1 (Int.toNat (Int.tmod (w64 d) ((r1.length : Nat) : Int))) (0, 0)).2)) (Int.toNat (Int.tmod (w64 d) ((r1.length : Nat) : Int))) (0, 0)).2) + 1))) 0 61 2), (2, rc (encI .i64) r2.1 0 3 1), (1, rc encP r1 0 61 2), (0, .cells [.int .u8 a_0_0, .int .u8 a_0_1, .int .u8 a_1_0, .int .u8 a_1_1, .int .u8 a_2_0, .int .u8 a_2_1, .int .u8 a_3_0, .int .u8 a_3_1, .int .u8 a_4_0, .int .u8 a_4_1, .int .u8 a_5_0, .int .u8 a_5_1, .int .u8 a_6_0, .int .u8 a_6_1, .int .u8 a_7_0, .int .u8 a_7_1] 0 56 0)] ∧ c' = 7) ⟨rfl, rfl, rfl⟩) ?_
                  rintro _ _ _ ⟨rfl, rfl, rfl⟩
                  refine XR.conv (σ' := [(9, s0 1 r1.length), (10, ii (w64 (1 + (Int.tmod (w64 c) 3)))), (11, s0 2 r2.1.length), (12, ii r2.2), (13, ii r3.1), (15, ii (Int.tmod (w64 d) ((r1.length : Nat) : Int))), (16, s0 4 r1.length), (94, s0 6 o1.length)]) (h' := [(6, rc encP o1 0 61 2), (4, rc encP (List.set (List.set r1 (Int.toNat (Int.tmod (w64 d) ((r1.length : Nat) : Int))) (w64 (((List.getD r1 (Int.toNat (Int.tmod (w64 d) ((r1.length : Nat) : Int))) (0, 0)).1) - 1), (List.getD r1 (Int.toNat (Int.tmod (w64 d) ((r1.length : Nat) : Int))) (0, 0)).2)) (Int.toNat (Int.tmod (w64 d) ((r1.length : Nat) : Int))) ((List.getD (List.set r1 (Int.toNat (Int.tmod (w64 d) ((r1.length : Nat) : Int))) (w64 (((List.getD r1 (Int.toNat (Int.tmod (w64 d) ((r1.length : Nat) : Int))) (0, 0)).1) - 1), (List.getD r1 (Int.toNat (Int.tmod (w64 d) ((r1.length : Nat) : Int))) (0, 0)).2)) (Int.toNat (Int.tmod (w64 d) ((r1.length : Nat) : Int))) (0, 0)).1, w64 (((List.getD (List.set r1 (Int.toNat (Int.tmod (w64 d) ((r1.length : Nat) : Int))) (w64 (((List.getD r1 (Int.toNat (Int.tmod (w64 d) ((r1.length : Nat) : Int))) (0, 0)).1) - 1), (List.getD r1 (Int.toNat (Int.tmod (w64 d) ((r1.length : Nat) : Int))) (0, 0)).2)) (Int.toNat (Int.tmod (w64 d) ((r1.length : Nat) : Int))) (0, 0)).2) + 1))) 0 61 2), (2, rc (encI .i64) r2.1 0 3 1), (1, rc encP r1 0 61 2), (0, .cells [.int .u8 a_0_0, .int .u8 a_0_1, .int .u8 a_1_0, .int .u8 a_1_1, .int .u8 a_2_0, .int .u8 a_2_1, .int .u8 a_3_0, .int .u8 a_3_1, .int .u8 a_4_0, .int .u8 a_4_1, .int .u8 a_5_0, .int .u8 a_5_1, .int .u8 a_6_0, .int .u8 a_6_1, .int .u8 a_7_0, .int .u8 a_7_1] 0 56 0)]) (c' := 7) ?_ (by kernel_rfl)
                  refine XR.runS E0_ok 1 1 [(9, s0 1 r1.length), (10, ii (w64 (1 + (Int.tmod (w64 c) 3)))), (11, s0 2 r2.1.length), (12, ii r2.2), (13, ii r3.1), (15, ii (Int.tmod (w64 d) ((r1.length : Nat) : Int))), (16, s0 4 r1.length), (17, s0 6 o1.length)] rfl (by kernel_rfl) ?_
                  refine XR.done (by kernel_rfl) ?_
                  show XQ _ _ _ _ _ _ _ _
                  refine XQ.seq E0_ok (by kernel_rfl) ?_
                  refine XQ.region (by kernel_rfl) ?_
                  refine XR.runS E0_ok 1 1 [(9, s0 1 r1.length), (10, ii (w64 (1 + (Int.tmod (w64 c) 3)))), (11, s0 2 r2.1.length), (12, ii r2.2), (13, ii r3.1), (15, ii (Int.tmod (w64 d) ((r1.length : Nat) : Int))), (16, s0 4 r1.length), (17, s0 6 o1.length), (96, s0 4 r1.length)] rfl (by kernel_rfl) ?_
                  obtain ⟨r4, r4_h, h⟩ := bS h
                  refine XR.call E0_ok [9, 10, 11, 12, 13, 15, 16, 17, 97] rfl (K := 29) (args := [s0 4 r1.length]) (d := (some (path 12 97))) (by kernel_rfl) (KQ.call (KC.quiet E0_ok (args0 := [s0 0 r1.length]) (h0 := [(0, rc encP (List.set (List.set r1 (Int.toNat (Int.tmod (w64 d) ((r1.length : Nat) : Int))) (w64 (((List.getD r1 (Int.toNat (Int.tmod (w64 d) ((r1.length : Nat) : Int))) (0, 0)).1) - 1), (List.getD r1 (Int.toNat (Int.tmod (w64 d) ((r1.length : Nat) : Int))) (0, 0)).2)) (Int.toNat (Int.tmod (w64 d) ((r1.length : Nat) : Int))) ((List.getD (List.set r1 (Int.toNat (Int.tmod (w64 d) ((r1.length : Nat) : Int))) (w64 (((List.getD r1 (Int.toNat (Int.tmod (w64 d) ((r1.length : Nat) : Int))) (0, 0)).1) - 1), (List.getD r1 (Int.toNat (Int.tmod (w64 d) ((r1.length : Nat) : Int))) (0, 0)).2)) (Int.toNat (Int.tmod (w64 d) ((r1.length : Nat) : Int))) (0, 0)).1, w64 (((List.getD (List.set r1 (Int.toNat (Int.tmod (w64 d) ((r1.length : Nat) : Int))) (w64 (((List.getD r1 (Int.toNat (Int.tmod (w64 d) ((r1.length : Nat) : Int))) (0, 0)).1) - 1), (List.getD r1 (Int.toNat (Int.tmod (w64 d) ((r1.length : Nat) : Int))) (0, 0)).2)) (Int.toNat (Int.tmod (w64 d) ((r1.length : Nat) : Int))) (0, 0)).2) + 1))) (0 + ((rowC encP (List.set (List.set r1 (Int.toNat (Int.tmod (w64 d) ((r1.length : Nat) : Int))) (w64 (((List.getD r1 (Int.toNat (Int.tmod (w64 d) ((r1.length : Nat) : Int))) (0, 0)).1) - 1), (List.getD r1 (Int.toNat (Int.tmod (w64 d) ((r1.length : Nat) : Int))) (0, 0)).2)) (Int.toNat (Int.tmod (w64 d) ((r1.length : Nat) : Int))) ((List.getD (List.set r1 (Int.toNat (Int.tmod (w64 d) ((r1.length : Nat) : Int))) (w64 (((List.getD r1 (Int.toNat (Int.tmod (w64 d) ((r1.length : Nat) : Int))) (0, 0)).1) - 1), (List.getD r1 (Int.toNat (Int.tmod (w64 d) ((r1.length : Nat) : Int))) (0, 0)).2)) (Int.toNat (Int.tmod (w64 d) ((r1.length : Nat) : Int))) (0, 0)).1, w64 (((List.getD (List.set r1 (Int.toNat (Int.tmod (w64 d) ((r1.length : Nat) : Int))) (w64 (((List.getD r1 (Int.toNat (Int.tmod (w64 d) ((r1.length : Nat) : Int))) (0, 0)).1) - 1), (List.getD r1 (Int.toNat (Int.tmod (w64 d) ((r1.length : Nat) : Int))) (0, 0)).2)) (Int.toNat (Int.tmod (w64 d) ((r1.length : Nat) : Int))) (0, 0)).2) + 1)))).length + 1)) 61 2)]) (n := 1) (V := .tuple #[ii r4.1, ii r4.2]) [4] (by have q := (f29_ok m (0 + ((rowC encP (List.set (List.set r1 (Int.toNat (Int.tmod (w64 d) ((r1.length : Nat) : Int))) (w64 (((List.getD r1 (Int.toNat (Int.tmod (w64 d) ((r1.length : Nat) : Int))) (0, 0)).1) - 1), (List.getD r1 (Int.toNat (Int.tmod (w64 d) ((r1.length : Nat) : Int))) (0, 0)).2)) (Int.toNat (Int.tmod (w64 d) ((r1.length : Nat) : Int))) ((List.getD (List.set r1 (Int.toNat (Int.tmod (w64 d) ((r1.length : Nat) : Int))) (w64 (((List.getD r1 (Int.toNat (Int.tmod (w64 d) ((r1.length : Nat) : Int))) (0, 0)).1) - 1), (List.getD r1 (Int.toNat (Int.tmod (w64 d) ((r1.length : Nat) : Int))) (0, 0)).2)) (Int.toNat (Int.tmod (w64 d) ((r1.length : Nat) : Int))) (0, 0)).1, w64 (((List.getD (List.set r1 (Int.toNat (Int.tmod (w64 d) ((r1.length : Nat) : Int))) (w64 (((List.getD r1 (Int.toNat (Int.tmod (w64 d) ((r1.length : Nat) : Int))) (0, 0)).1) - 1), (List.getD r1 (Int.toNat (Int.tmod (w64 d) ((r1.length : Nat) : Int))) (0, 0)).2)) (Int.toNat (Int.tmod (w64 d) ((r1.length : Nat) : Int))) (0, 0)).2) + 1)))).length + 1)) 61 (List.set (List.set r1 (Int.toNat (Int.tmod (w64 d) ((r1.length : Nat) : Int))) (w64 (((List.getD r1 (Int.toNat (Int.tmod (w64 d) ((r1.length : Nat) : Int))) (0, 0)).1) - 1), (List.getD r1 (Int.toNat (Int.tmod (w64 d) ((r1.length : Nat) : Int))) (0, 0)).2)) (Int.toNat (Int.tmod (w64 d) ((r1.length : Nat) : Int))) ((List.getD (List.set r1 (Int.toNat (Int.tmod (w64 d) ((r1.length : Nat) : Int))) (w64 (((List.getD r1 (Int.toNat (Int.tmod (w64 d) ((r1.length : Nat) : Int))) (0, 0)).1) - 1), (List.getD r1 (Int.toNat (Int.tmod (w64 d) ((r1.length : Nat) : Int))) (0, 0)).2)) (Int.toNat (Int.tmod (w64 d) ((r1.length : Nat) : Int))) (0, 0)).1, w64 (((List.getD (List.set r1 (Int.toNat (Int.tmod (w64 d) ((r1.length : Nat) : Int))) (w64 (((List.getD r1 (Int.toNat (Int.tmod (w64 d) ((r1.length : Nat) : Int))) (0, 0)).1) - 1), (List.getD r1 (Int.toNat (Int.tmod (w64 d) ((r1.length : Nat) : Int))) (0, 0)).2)) (Int.toNat (Int.tmod (w64 d) ((r1.length : Nat) : Int))) (0, 0)).2) + 1))) r4 r4_h); simp only [List.length_set] at q; exact q) rfl (by rfl) (by decide) rfl (by kernel_rfl) ⟨⟨_, _, rfl, rfl, .inl ⟨rfl, rowC_scal encP_ok _⟩⟩, trivial⟩) rfl) ?_
                  rintro _ _ _ ⟨rfl, rfl, rfl⟩
                  refine XR.conv (σ' := [(9, s0 1 r1.length), (10, ii (w64 (1 + (Int.tmod (w64 c) 3)))), (11, s0 2 r2.1.length), (12, ii r2.2), (13, ii r3.1), (15, ii (Int.tmod (w64 d) ((r1.length : Nat) : Int))), (16, s0 4 r1.length), (17, s0 6 o1.length), (97, .tuple #[ii r4.1, ii r4.2])]) (h' := [(6, rc encP o1 0 61 2), (4, rc encP (List.set (List.set r1 (Int.toNat (Int.tmod (w64 d) ((r1.length : Nat) : Int))) (w64 (((List.getD r1 (Int.toNat (Int.tmod (w64 d) ((r1.length : Nat) : Int))) (0, 0)).1) - 1), (List.getD r1 (Int.toNat (Int.tmod (w64 d) ((r1.length : Nat) : Int))) (0, 0)).2)) (Int.toNat (Int.tmod (w64 d) ((r1.length : Nat) : Int))) ((List.getD (List.set r1 (Int.toNat (Int.tmod (w64 d) ((r1.length : Nat) : Int))) (w64 (((List.getD r1 (Int.toNat (Int.tmod (w64 d) ((r1.length : Nat) : Int))) (0, 0)).1) - 1), (List.getD r1 (Int.toNat (Int.tmod (w64 d) ((r1.length : Nat) : Int))) (0, 0)).2)) (Int.toNat (Int.tmod (w64 d) ((r1.length : Nat) : Int))) (0, 0)).1, w64 (((List.getD (List.set r1 (Int.toNat (Int.tmod (w64 d) ((r1.length : Nat) : Int))) (w64 (((List.getD r1 (Int.toNat (Int.tmod (w64 d) ((r1.length : Nat) : Int))) (0, 0)).1) - 1), (List.getD r1 (Int.toNat (Int.tmod (w64 d) ((r1.length : Nat) : Int))) (0, 0)).2)) (Int.toNat (Int.tmod (w64 d) ((r1.length : Nat) : Int))) (0, 0)).2) + 1))) 0 61 2), (2, rc (encI .i64) r2.1 0 3 1), (1, rc encP r1 0 61 2), (0, .cells [.int .u8 a_0_0, .int .u8 a_0_1, .int .u8 a_1_0, .int .u8 a_1_1, .int .u8 a_2_0, .int .u8 a_2_1, .int .u8 a_3_0, .int .u8 a_3_1, .int .u8 a_4_0, .int .u8 a_4_1, .int .u8 a_5_0, .int .u8 a_5_1, .int .u8 a_6_0, .int .u8 a_6_1, .int .u8 a_7_0, .int .u8 a_7_1] 0 56 0)]) (c' := 7) ?_ (by kernel_rfl)
                  refine XR.runS E0_ok 1 5 [(9, s0 1 r1.length), (10, ii (w64 (1 + (Int.tmod (w64 c) 3)))), (11, s0 2 r2.1.length), (12, ii r2.2), (13, ii r3.1), (14, ii r4.2), (15, ii (Int.tmod (w64 d) ((r1.length : Nat) : Int))), (16, s0 4 r1.length), (17, s0 6 o1.length), (18, ii r4.1)] rfl (by kernel_rfl) ?_
                  refine XR.done (by kernel_rfl) ?_
                  show XQ _ _ _ _ _ _ _ _
                  refine XQ.seq E0_ok (by kernel_rfl) ?_
                  refine XQ.region (by kernel_rfl) ?_
                  refine XR.runS E0_ok 1 1 [(9, s0 1 r1.length), (10, ii (w64 (1 + (Int.tmod (w64 c) 3)))), (11, s0 2 r2.1.length), (12, ii r2.2), (13, ii r3.1), (14, ii r4.2), (15, ii (Int.tmod (w64 d) ((r1.length : Nat) : Int))), (16, s0 4 r1.length), (17, s0 6 o1.length), (18, ii r4.1), (101, s0 6 o1.length)] rfl (by kernel_rfl) ?_
                  obtain ⟨r5, r5_h, h⟩ := bS h
                  refine XR.call E0_ok [9, 10, 11, 12, 13, 14, 15, 16, 17, 18, 102] rfl (K := 29) (args := [s0 6 o1.length]) (d := (some (path 12 102))) (by kernel_rfl) (KQ.call (KC.quiet E0_ok (args0 := [s0 0 o1.length]) (h0 := [(0, rc encP o1 (0 + ((rowC encP o1).length + 1)) 61 2)]) (n := 1) (V := .tuple #[ii r5.1, ii r5.2]) [6] (f29_ok m (0 + ((rowC encP o1).length + 1)) 61 o1 r5 r5_h) rfl (by rfl) (by decide) rfl (by kernel_rfl) ⟨⟨_, _, rfl, rfl, .inl ⟨rfl, rowC_scal encP_ok _⟩⟩, trivial⟩) rfl) ?_
                  rintro _ _ _ ⟨rfl, rfl, rfl⟩
                  refine XR.conv (σ' := [(9, s0 1 r1.length), (10, ii (w64 (1 + (Int.tmod (w64 c) 3)))), (11, s0 2 r2.1.length), (12, ii r2.2), (13, ii r3.1), (14, ii r4.2), (15, ii (Int.tmod (w64 d) ((r1.length : Nat) : Int))), (16, s0 4 r1.length), (17, s0 6 o1.length), (18, ii r4.1), (102, .tuple #[ii r5.1, ii r5.2])]) (h' := [(6, rc encP o1 0 61 2), (4, rc encP (List.set (List.set r1 (Int.toNat (Int.tmod (w64 d) ((r1.length : Nat) : Int))) (w64 (((List.getD r1 (Int.toNat (Int.tmod (w64 d) ((r1.length : Nat) : Int))) (0, 0)).1) - 1), (List.getD r1 (Int.toNat (Int.tmod (w64 d) ((r1.length : Nat) : Int))) (0, 0)).2)) (Int.toNat (Int.tmod (w64 d) ((r1.length : Nat) : Int))) ((List.getD (List.set r1 (Int.toNat (Int.tmod (w64 d) ((r1.length : Nat) : Int))) (w64 (((List.getD r1 (Int.toNat (Int.tmod (w64 d) ((r1.length : Nat) : Int))) (0, 0)).1) - 1), (List.getD r1 (Int.toNat (Int.tmod (w64 d) ((r1.length : Nat) : Int))) (0, 0)).2)) (Int.toNat (Int.tmod (w64 d) ((r1.length : Nat) : Int))) (0, 0)).1, w64 (((List.getD (List.set r1 (Int.toNat (Int.tmod (w64 d) ((r1.length : Nat) : Int))) (w64 (((List.getD r1 (Int.toNat (Int.tmod (w64 d) ((r1.length : Nat) : Int))) (0, 0)).1) - 1), (List.getD r1 (Int.toNat (Int.tmod (w64 d) ((r1.length : Nat) : Int))) (0, 0)).2)) (Int.toNat (Int.tmod (w64 d) ((r1.length : Nat) : Int))) (0, 0)).2) + 1))) 0 61 2), (2, rc (encI .i64) r2.1 0 3 1), (1, rc encP r1 0 61 2), (0, .cells [.int .u8 a_0_0, .int .u8 a_0_1, .int .u8 a_1_0, .int .u8 a_1_1, .int .u8 a_2_0, .int .u8 a_2_1, .int .u8 a_3_0, .int .u8 a_3_1, .int .u8 a_4_0, .int .u8 a_4_1, .int .u8 a_5_0, .int .u8 a_5_1, .int .u8 a_6_0, .int .u8 a_6_1, .int .u8 a_7_0, .int .u8 a_7_1] 0 56 0)]) (c' := 7) ?_ (by kernel_rfl)
                  refine XR.runS E0_ok 1 5 [(9, s0 1 r1.length), (10, ii (w64 (1 + (Int.tmod (w64 c) 3)))), (11, s0 2 r2.1.length), (12, ii r2.2), (13, ii r3.1), (14, ii r4.2), (15, ii (Int.tmod (w64 d) ((r1.length : Nat) : Int))), (16, s0 4 r1.length), (17, s0 6 o1.length), (18, ii r4.1), (19, ii r5.1), (20, ii r5.2)] rfl (by kernel_rfl) ?_
                  refine XR.done (by kernel_rfl) ?_
                  show XQ _ _ _ _ _ _ _ _
                  refine XQ.seq E0_ok (by kernel_rfl) ?_
                  refine XQ.seq E0_ok (by kernel_rfl) ?_
                  refine XQ.region (by kernel_rfl) ?_
                  refine XR.runS E0_ok 1 3 [(9, s0 1 r1.length), (10, ii (w64 (1 + (Int.tmod (w64 c) 3)))), (11, s0 2 r2.1.length), (12, ii r2.2), (13, ii r3.1), (15, ii (Int.tmod (w64 d) ((r1.length : Nat) : Int))), (16, s0 4 r1.length), (17, s0 6 o1.length), (18, ii r4.1), (19, ii r5.1), (20, ii r5.2), (107, .bool (r4.2 != 0))] rfl (by kernel_rfl) ?_
                  cases b12 : (r4.2 != 0 : Bool) with
                  | true =>
                    have h := cT b12 h
                    refine XR.runS E0_ok 1 19 [(9, s0 1 r1.length), (10, ii (w64 (1 + (Int.tmod (w64 c) 3)))), (11, s0 2 r2.1.length), (12, ii r2.2), (15, ii (Int.tmod (w64 d) ((r1.length : Nat) : Int))), (16, s0 4 r1.length), (17, s0 6 o1.length), (126, .bool true)] rfl (by kernel_rfl) ?_
                    refine XR.done (by kernel_rfl) ?_
                    show XQ _ _ _ _ _ _ _ _
                    refine XQ.cond (s := (.tmp 126)) (b := true) (by kernel_rfl) (by kernel_rfl) (fun _ => ?_) (fun q => by cases q)
                    refine XQ.seq E0_ok (by kernel_rfl) ?_
                    refine XQ.region (by kernel_rfl) ?_
                    refine XR.runS E0_ok 1 1 [(8, .bool false)] rfl (by kernel_rfl) ?_
                    refine XR.done (by kernel_rfl) ?_
                    show XQ _ _ _ _ _ _ _ _
                    refine XQ.ret (by kernel_rfl) ?_
                    have h := Option.some.inj h
                    subst h
                    exact ⟨fun i q => (by cases q), .bool false, (by kernel_rfl), rfl⟩
                  | false =>
                    have h := cF b12 h
                    refine XR.runS E0_ok 1 4 [(9, s0 1 r1.length), (10, ii (w64 (1 + (Int.tmod (w64 c) 3)))), (11, s0 2 r2.1.length), (12, ii r2.2), (13, ii r3.1), (15, ii (Int.tmod (w64 d) ((r1.length : Nat) : Int))), (16, s0 4 r1.length), (17, s0 6 o1.length), (18, ii r4.1), (19, ii r5.1), (111, .bool (r5.2 != 0))] rfl (by kernel_rfl) ?_
                    cases b13 : (r5.2 != 0 : Bool) with
                    | true =>
                      have h := cT b13 h
                      refine XR.runS E0_ok 1 15 [(9, s0 1 r1.length), (10, ii (w64 (1 + (Int.tmod (w64 c) 3)))), (11, s0 2 r2.1.length), (12, ii r2.2), (15, ii (Int.tmod (w64 d) ((r1.length : Nat) : Int))), (16, s0 4 r1.length), (17, s0 6 o1.length), (126, .bool true)] rfl (by kernel_rfl) ?_
                      refine XR.done (by kernel_rfl) ?_
                      show XQ _ _ _ _ _ _ _ _
                      refine XQ.cond (s := (.tmp 126)) (b := true) (by kernel_rfl) (by kernel_rfl) (fun _ => ?_) (fun q => by cases q)
                      refine XQ.seq E0_ok (by kernel_rfl) ?_
                      refine XQ.region (by kernel_rfl) ?_
                      refine XR.runS E0_ok 1 1 [(8, .bool false)] rfl (by kernel_rfl) ?_
                      refine XR.done (by kernel_rfl) ?_
                      show XQ _ _ _ _ _ _ _ _
                      refine XQ.ret (by kernel_rfl) ?_
                      have h := Option.some.inj h
                      subst h
                      exact ⟨fun i q => (by cases q), .bool false, (by kernel_rfl), rfl⟩
                    | false =>
                      have h := cF b13 h
                      refine XR.runS E0_ok 1 5 [(9, s0 1 r1.length), (10, ii (w64 (1 + (Int.tmod (w64 c) 3)))), (11, s0 2 r2.1.length), (12, ii r2.2), (13, ii r3.1), (15, ii (Int.tmod (w64 d) ((r1.length : Nat) : Int))), (16, s0 4 r1.length), (17, s0 6 o1.length), (19, ii r5.1), (116, .bool (decide (r4.1 > r3.1)))] rfl (by kernel_rfl) ?_
                      cases b14 : (decide (r4.1 > r3.1) : Bool) with
                      | true =>
                        have h := cT b14 h
                        refine XR.runS E0_ok 1 10 [(9, s0 1 r1.length), (10, ii (w64 (1 + (Int.tmod (w64 c) 3)))), (11, s0 2 r2.1.length), (12, ii r2.2), (15, ii (Int.tmod (w64 d) ((r1.length : Nat) : Int))), (16, s0 4 r1.length), (17, s0 6 o1.length), (126, .bool true)] rfl (by kernel_rfl) ?_
                        refine XR.done (by kernel_rfl) ?_
                        show XQ _ _ _ _ _ _ _ _
                        refine XQ.cond (s := (.tmp 126)) (b := true) (by kernel_rfl) (by kernel_rfl) (fun _ => ?_) (fun q => by cases q)
                        refine XQ.seq E0_ok (by kernel_rfl) ?_
                        refine XQ.region (by kernel_rfl) ?_
                        refine XR.runS E0_ok 1 1 [(8, .bool false)] rfl (by kernel_rfl) ?_
                        refine XR.done (by kernel_rfl) ?_
                        show XQ _ _ _ _ _ _ _ _
                        refine XQ.ret (by kernel_rfl) ?_
                        have h := Option.some.inj h
                        subst h
                        exact ⟨fun i q => (by cases q), .bool false, (by kernel_rfl), rfl⟩
                      | false =>
                        have h := cF b14 h
                        refine XR.runS E0_ok 1 5 [(9, s0 1 r1.length), (10, ii (w64 (1 + (Int.tmod (w64 c) 3)))), (11, s0 2 r2.1.length), (12, ii r2.2), (13, ii r3.1), (15, ii (Int.tmod (w64 d) ((r1.length : Nat) : Int))), (16, s0 4 r1.length), (17, s0 6 o1.length), (19, ii r5.1), (121, .bool (decide (r5.1 > r3.1)))] rfl (by kernel_rfl) ?_
                        cases b15 : (decide (r5.1 > r3.1) : Bool) with
                        | true =>
                          have h := cT b15 h
                          refine XR.runS E0_ok 1 5 [(9, s0 1 r1.length), (10, ii (w64 (1 + (Int.tmod (w64 c) 3)))), (11, s0 2 r2.1.length), (12, ii r2.2), (15, ii (Int.tmod (w64 d) ((r1.length : Nat) : Int))), (16, s0 4 r1.length), (17, s0 6 o1.length), (126, .bool true)] rfl (by kernel_rfl) ?_
                          refine XR.done (by kernel_rfl) ?_
                          show XQ _ _ _ _ _ _ _ _
                          refine XQ.cond (s := (.tmp 126)) (b := true) (by kernel_rfl) (by kernel_rfl) (fun _ => ?_) (fun q => by cases q)
                          refine XQ.seq E0_ok (by kernel_rfl) ?_
                          refine XQ.region (by kernel_rfl) ?_
                          refine XR.runS E0_ok 1 1 [(8, .bool false)] rfl (by kernel_rfl) ?_
                          refine XR.done (by kernel_rfl) ?_
                          show XQ _ _ _ _ _ _ _ _
                          refine XQ.ret (by kernel_rfl) ?_
                          have h := Option.some.inj h
                          subst h
                          exact ⟨fun i q => (by cases q), .bool false, (by kernel_rfl), rfl⟩
                        | false =>
                          have h := cF b15 h
                          refine XR.runS E0_ok 1 5 [(9, s0 1 r1.length), (10, ii (w64 (1 + (Int.tmod (w64 c) 3)))), (11, s0 2 r2.1.length), (12, ii r2.2), (15, ii (Int.tmod (w64 d) ((r1.length : Nat) : Int))), (16, s0 4 r1.length), (17, s0 6 o1.length), (126, .bool (decide (r5.1 < (w64 (r3.1 - 1)))))] rfl (by kernel_rfl) ?_
                          refine XR.done (by kernel_rfl) ?_
                          show XQ _ _ _ _ _ _ _ _
                          cases b16 : (decide (r5.1 < (w64 (r3.1 - 1))) : Bool) with
                          | true =>
                            have h := cT b16 h
                            refine XQ.cond (s := (.tmp 126)) (b := true) (by kernel_rfl) (by kernel_rfl) (fun _ => ?_) (fun q => by cases q)
                            refine XQ.seq E0_ok (by kernel_rfl) ?_
                            refine XQ.region (by kernel_rfl) ?_
                            refine XR.runS E0_ok 1 1 [(8, .bool false)] rfl (by kernel_rfl) ?_
                            refine XR.done (by kernel_rfl) ?_
                            show XQ _ _ _ _ _ _ _ _
                            refine XQ.ret (by kernel_rfl) ?_
                            have h := Option.some.inj h
                            subst h
                            exact ⟨fun i q => (by cases q), .bool false, (by kernel_rfl), rfl⟩
                          | false =>
                            have h := cF b16 h
                            refine XQ.cond (s := (.tmp 126)) (b := false) (by kernel_rfl) (by kernel_rfl) (fun q => by cases q) (fun _ => ?_)
                            refine XQ.skip (by kernel_rfl) ?_
                            show XQ _ _ _ _ _ _ _ _
                            refine XQ.seq E0_ok (by kernel_rfl) ?_
                            refine XQ.seq E0_ok (by kernel_rfl) ?_
                            refine XQ.region (by kernel_rfl) ?_
                            refine XR.runS E0_ok 1 2 [(9, s0 1 r1.length), (10, ii (w64 (1 + (Int.tmod (w64 c) 3)))), (11, s0 2 r2.1.length), (15, ii (Int.tmod (w64 d) ((r1.length : Nat) : Int))), (16, s0 4 r1.length), (17, s0 6 o1.length), (128, .bool (r2.2 != 0))] rfl (by kernel_rfl) ?_
                            refine XR.done (by kernel_rfl) ?_
                            show XQ _ _ _ _ _ _ _ _
                            rw [b3]
                            refine XQ.cond (s := (.tmp 128)) (b := true) (by kernel_rfl) (by kernel_rfl) (fun _ => ?_) (fun q => by cases q)
                            refine XQ.seq E0_ok (by kernel_rfl) ?_
                            refine XQ.region (by kernel_rfl) ?_
                            refine XR.call E0_ok [129] rfl (K := 16) (args := []) (d := (some (path 12 129))) (by kernel_rfl) (KC.of_calls E0_ok (F := Proofs.Try.f16) (v := .bool true) (by kernel_rfl) rfl rfl (works_ok)) ?_
                            rintro _ _ _ ⟨rfl, rfl, rfl⟩
                            refine XR.conv (σ' := [(129, .bool true)]) (h' := [(6, rc encP o1 0 61 2), (4, rc encP (List.set (List.set r1 (Int.toNat (Int.tmod (w64 d) ((r1.length : Nat) : Int))) (w64 (((List.getD r1 (Int.toNat (Int.tmod (w64 d) ((r1.length : Nat) : Int))) (0, 0)).1) - 1), (List.getD r1 (Int.toNat (Int.tmod (w64 d) ((r1.length : Nat) : Int))) (0, 0)).2)) (Int.toNat (Int.tmod (w64 d) ((r1.length : Nat) : Int))) ((List.getD (List.set r1 (Int.toNat (Int.tmod (w64 d) ((r1.length : Nat) : Int))) (w64 (((List.getD r1 (Int.toNat (Int.tmod (w64 d) ((r1.length : Nat) : Int))) (0, 0)).1) - 1), (List.getD r1 (Int.toNat (Int.tmod (w64 d) ((r1.length : Nat) : Int))) (0, 0)).2)) (Int.toNat (Int.tmod (w64 d) ((r1.length : Nat) : Int))) (0, 0)).1, w64 (((List.getD (List.set r1 (Int.toNat (Int.tmod (w64 d) ((r1.length : Nat) : Int))) (w64 (((List.getD r1 (Int.toNat (Int.tmod (w64 d) ((r1.length : Nat) : Int))) (0, 0)).1) - 1), (List.getD r1 (Int.toNat (Int.tmod (w64 d) ((r1.length : Nat) : Int))) (0, 0)).2)) (Int.toNat (Int.tmod (w64 d) ((r1.length : Nat) : Int))) (0, 0)).2) + 1))) 0 61 2), (2, rc (encI .i64) r2.1 0 3 1), (1, rc encP r1 0 61 2), (0, .cells [.int .u8 a_0_0, .int .u8 a_0_1, .int .u8 a_1_0, .int .u8 a_1_1, .int .u8 a_2_0, .int .u8 a_2_1, .int .u8 a_3_0, .int .u8 a_3_1, .int .u8 a_4_0, .int .u8 a_4_1, .int .u8 a_5_0, .int .u8 a_5_1, .int .u8 a_6_0, .int .u8 a_6_1, .int .u8 a_7_0, .int .u8 a_7_1] 0 56 0)]) (c' := 7) ?_ (by kernel_rfl)
                            refine XR.runS E0_ok 1 1 [(8, .bool true)] rfl (by kernel_rfl) ?_
                            refine XR.done (by kernel_rfl) ?_
                            show XQ _ _ _ _ _ _ _ _
                            refine XQ.ret (by kernel_rfl) ?_
                            have h := Option.some.inj h
                            subst h
                            exact ⟨fun i q => (by cases q), .bool true, (by kernel_rfl), rfl⟩
      | false =>
        have h := cF b3 h
        refine XR.runS E0_ok 1 4 [(3, .int .u8 d), (9, s0 1 r1.length), (10, ii (w64 (1 + (Int.tmod (w64 c) 3)))), (11, s0 2 r2.1.length), (12, ii r2.2), (13, ii r3.1), (57, .bool false)] rfl (by kernel_rfl) ?_
        refine XR.done (by kernel_rfl) ?_
        show XQ _ _ _ _ _ _ _ _
        refine XQ.cond (s := (.tmp 57)) (b := false) (by kernel_rfl) (by kernel_rfl) (fun q => by cases q) (fun _ => ?_)
        refine XQ.skip (by kernel_rfl) ?_
        show XQ _ _ _ _ _ _ _ _
        refine XQ.seq E0_ok (by kernel_rfl) ?_
        refine XQ.seq E0_ok (by kernel_rfl) ?_
        refine XQ.region (by kernel_rfl) ?_
        refine XR.runS E0_ok 1 3 [(3, .int .u8 d), (9, s0 1 r1.length), (10, ii (w64 (1 + (Int.tmod (w64 c) 3)))), (11, s0 2 r2.1.length), (12, ii r2.2), (13, ii r3.1), (60, .bool (((r1.length : Nat) : Int) == 0))] rfl (by kernel_rfl) ?_
        refine XR.done (by kernel_rfl) ?_
        show XQ _ _ _ _ _ _ _ _
        cases b17 : (((r1.length : Nat) : Int) == 0 : Bool) with
        | true =>
          have h := cT b17 h
          refine XQ.cond (s := (.tmp 60)) (b := true) (by kernel_rfl) (by kernel_rfl) (fun _ => ?_) (fun q => by cases q)
          refine XQ.seq E0_ok (by kernel_rfl) ?_
          refine XQ.region (by kernel_rfl) ?_
          refine XR.runS E0_ok 1 3 [(63, .bool (r3.1 == 0))] rfl (by kernel_rfl) ?_
          cases b18 : (r3.1 == 0 : Bool) with
          | true =>
            have h := cT b18 h
            refine XR.call E0_ok [63, 64] rfl (K := 16) (args := []) (d := (some (path 12 64))) (by kernel_rfl) (KC.of_calls E0_ok (F := Proofs.Try.f16) (v := .bool true) (by kernel_rfl) rfl rfl (works_ok)) ?_
            rintro _ _ _ ⟨rfl, rfl, rfl⟩
            refine XR.conv (σ' := [(63, .bool true), (64, .bool true)]) (h' := [(2, rc (encI .i64) r2.1 0 3 1), (1, rc encP r1 0 61 2), (0, .cells [.int .u8 a_0_0, .int .u8 a_0_1, .int .u8 a_1_0, .int .u8 a_1_1, .int .u8 a_2_0, .int .u8 a_2_1, .int .u8 a_3_0, .int .u8 a_3_1, .int .u8 a_4_0, .int .u8 a_4_1, .int .u8 a_5_0, .int .u8 a_5_1, .int .u8 a_6_0, .int .u8 a_6_1, .int .u8 a_7_0, .int .u8 a_7_1] 0 56 0)]) (c' := 3) ?_ (by kernel_rfl)
            refine XR.runS E0_ok 1 2 [(8, .bool true)] rfl (by kernel_rfl) ?_
            refine XR.done (by kernel_rfl) ?_
            show XQ _ _ _ _ _ _ _ _
            refine XQ.ret (by kernel_rfl) ?_
            have h := Option.some.inj h
            subst h
            exact ⟨fun i q => (by cases q), .bool true, (by kernel_rfl), rfl⟩
          | false =>
            have h := cF b18 h
            refine XR.runS E0_ok 1 3 [(8, .bool false)] rfl (by kernel_rfl) ?_
            refine XR.done (by kernel_rfl) ?_
            show XQ _ _ _ _ _ _ _ _
            refine XQ.ret (by kernel_rfl) ?_
            have h := Option.some.inj h
            subst h
            exact ⟨fun i q => (by cases q), .bool false, (by kernel_rfl), rfl⟩
        | false =>
          have h := cF b17 h
          refine XQ.cond (s := (.tmp 60)) (b := false) (by kernel_rfl) (by kernel_rfl) (fun q => by cases q) (fun _ => ?_)
          refine XQ.skip (by kernel_rfl) ?_
          show XQ _ _ _ _ _ _ _ _
          refine XQ.seq E0_ok (by kernel_rfl) ?_
          refine XQ.region (by kernel_rfl) ?_
          refine XR.runS E0_ok 1 4 [(9, s0 1 r1.length), (10, ii (w64 (1 + (Int.tmod (w64 c) 3)))), (11, s0 2 r2.1.length), (12, ii r2.2), (13, ii r3.1), (67, ii (w64 d)), (69, ii ((r1.length : Nat) : Int))] rfl (by kernel_rfl) ?_
          cases b19 : (((r1.length : Nat) : Int) != 0 : Bool) with
          | false => cases (cF b19 h)
          | true =>
            have h := cT b19 h
            have e20 : insV (headI ((gsOf E0 165 (opsOf (lft (rgt (rgt (rgt (rgt (rgt (rgt (rgt f12_C12)))))))))).drop 4) (trS 165 [(9, s0 1 r1.length), (10, ii (w64 (1 + (Int.tmod (w64 c) 3)))), (11, s0 2 r2.1.length), (12, ii r2.2), (13, ii r3.1), (67, ii (w64 d)), (69, ii ((r1.length : Nat) : Int))])) (trS 165 [(9, s0 1 r1.length), (10, ii (w64 (1 + (Int.tmod (w64 c) 3)))), (11, s0 2 r2.1.length), (12, ii r2.2), (13, ii r3.1), (67, ii (w64 d)), (69, ii ((r1.length : Nat) : Int))]) [(2, rc (encI .i64) r2.1 0 3 1), (1, rc encP r1 0 61 2), (0, .cells [.int .u8 a_0_0, .int .u8 a_0_1, .int .u8 a_1_0, .int .u8 a_1_1, .int .u8 a_2_0, .int .u8 a_2_1, .int .u8 a_3_0, .int .u8 a_3_1, .int .u8 a_4_0, .int .u8 a_4_1, .int .u8 a_5_0, .int .u8 a_5_1, .int .u8 a_6_0, .int .u8 a_6_1, .int .u8 a_7_0, .int .u8 a_7_1] 0 56 0)] = (match (((r1.length : Nat) : Int) != 0 : Bool) with | true => some (ii (Int.tmod (w64 d) ((r1.length : Nat) : Int))) | false => none) := by kernel_rfl
            refine XR.rd E0_ok [9, 10, 11, 12, 13, 70] rfl (e20.trans (by rw [b19])) (σ' := [(9, s0 1 r1.length), (10, ii (w64 (1 + (Int.tmod (w64 c) 3)))), (11, s0 2 r2.1.length), (12, ii r2.2), (13, ii r3.1), (70, ii (Int.tmod (w64 d) ((r1.length : Nat) : Int)))]) (by kernel_rfl) ?_
            refine XR.runS E0_ok 1 1 [(9, s0 1 r1.length), (10, ii (w64 (1 + (Int.tmod (w64 c) 3)))), (11, s0 2 r2.1.length), (12, ii r2.2), (13, ii r3.1), (15, ii (Int.tmod (w64 d) ((r1.length : Nat) : Int)))] rfl (by kernel_rfl) ?_
            refine XR.done (by kernel_rfl) ?_
            show XQ _ _ _ _ _ _ _ _
            refine XQ.seq E0_ok (by kernel_rfl) ?_
            refine XQ.region (by kernel_rfl) ?_
            refine XR.runS E0_ok 1 1 [(9, s0 1 r1.length), (10, ii (w64 (1 + (Int.tmod (w64 c) 3)))), (11, s0 2 r2.1.length), (12, ii r2.2), (13, ii r3.1), (15, ii (Int.tmod (w64 d) ((r1.length : Nat) : Int))), (71, s0 1 r1.length)] rfl (by kernel_rfl) ?_
            cases b21 : (fitsB r1.length 16 : Bool) with
            | false => cases (cF b21 h)
            | true =>
              have h := cT b21 h
              refine XR.call E0_ok [9, 10, 11, 12, 13, 15, 72] rfl (K := 50) (args := [s0 1 r1.length]) (d := (some (path 12 72))) (by kernel_rfl) (clone50_all (xs := r1) (fz := 0) (e0 := 61) (es0 := 2) (c := 3) (by kernel_rfl) (by simp) (Nat.le_refl _) b21) ?_
              rintro _ _ _ ⟨rfl, rfl, rfl⟩
              refine XR.conv (σ' := [(9, s0 1 r1.length), (10, ii (w64 (1 + (Int.tmod (w64 c) 3)))), (11, s0 2 r2.1.length), (12, ii r2.2), (13, ii r3.1), (15, ii (Int.tmod (w64 d) ((r1.length : Nat) : Int))), (72, s0 4 r1.length)]) (h' := [(4, rc encP r1 0 61 2), (2, rc (encI .i64) r2.1 0 3 1), (1, rc encP r1 0 61 2), (0, .cells [.int .u8 a_0_0, .int .u8 a_0_1, .int .u8 a_1_0, .int .u8 a_1_1, .int .u8 a_2_0, .int .u8 a_2_1, .int .u8 a_3_0, .int .u8 a_3_1, .int .u8 a_4_0, .int .u8 a_4_1, .int .u8 a_5_0, .int .u8 a_5_1, .int .u8 a_6_0, .int .u8 a_6_1, .int .u8 a_7_0, .int .u8 a_7_1] 0 56 0)]) (c' := 5) ?_ (by kernel_rfl)
              refine XR.runS E0_ok 1 1 [(9, s0 1 r1.length), (10, ii (w64 (1 + (Int.tmod (w64 c) 3)))), (11, s0 2 r2.1.length), (12, ii r2.2), (13, ii r3.1), (15, ii (Int.tmod (w64 d) ((r1.length : Nat) : Int))), (16, s0 4 r1.length)] rfl (by kernel_rfl) ?_
              refine XR.done (by kernel_rfl) ?_
              show XQ _ _ _ _ _ _ _ _
              refine XQ.seq E0_ok (by kernel_rfl) ?_
              refine XQ.region (by kernel_rfl) ?_
              refine XR.runS E0_ok 1 2 [(9, s0 1 r1.length), (10, ii (w64 (1 + (Int.tmod (w64 c) 3)))), (11, s0 2 r2.1.length), (12, ii r2.2), (13, ii r3.1), (15, ii (Int.tmod (w64 d) ((r1.length : Nat) : Int))), (16, s0 4 r1.length), (73, s0 4 r1.length), (74, ii (Int.tmod (w64 d) ((r1.length : Nat) : Int)))] rfl (by kernel_rfl) ?_
              cases b22 : (inRow (Int.tmod (w64 d) ((r1.length : Nat) : Int)) r1.length : Bool) with
              | false => cases (cF b22 h)
              | true =>
                have h := cT b22 h
                refine XR.rd E0_ok [9, 10, 11, 12, 13, 15, 16, 73, 74, 75] rfl (v := pp 4 ((Int.toNat (Int.tmod (w64 d) ((r1.length : Nat) : Int))) * 2)) (v_idx (s := 2) (x := (src 165 (.tmp 73))) (y := (src 165 (.tmp 74))) (b := 4) (o := 0) (len := r1.length) (cap := r1.length) (ik := .i64) (i := Int.tmod (w64 d) ((r1.length : Nat) : Int)) (off := (Int.toNat (Int.tmod (w64 d) ((r1.length : Nat) : Int))) * 2) (d := (some (path 12 75))) (by kernel_rfl) (by kernel_rfl) (by kernel_rfl) b22 (by omega)) (σ' := [(9, s0 1 r1.length), (10, ii (w64 (1 + (Int.tmod (w64 c) 3)))), (11, s0 2 r2.1.length), (12, ii r2.2), (13, ii r3.1), (15, ii (Int.tmod (w64 d) ((r1.length : Nat) : Int))), (16, s0 4 r1.length), (73, s0 4 r1.length), (74, ii (Int.tmod (w64 d) ((r1.length : Nat) : Int))), (75, pp 4 ((Int.toNat (Int.tmod (w64 d) ((r1.length : Nat) : Int))) * 2))]) (by kernel_rfl) ?_
                refine XR.runS E0_ok 1 1 [(9, s0 1 r1.length), (10, ii (w64 (1 + (Int.tmod (w64 c) 3)))), (11, s0 2 r2.1.length), (12, ii r2.2), (13, ii r3.1), (15, ii (Int.tmod (w64 d) ((r1.length : Nat) : Int))), (16, s0 4 r1.length), (73, s0 4 r1.length), (74, ii (Int.tmod (w64 d) ((r1.length : Nat) : Int))), (76, pp 4 ((Int.toNat (Int.tmod (w64 d) ((r1.length : Nat) : Int))) * 2))] rfl (by kernel_rfl) ?_
                refine XR.rd E0_ok [9, 10, 11, 12, 13, 15, 16, 73, 74, 77] rfl (v := ii ((List.getD r1 (Int.toNat (Int.tmod (w64 d) ((r1.length : Nat) : Int))) (0, 0)).1)) (v_load1 encP_ok (x := (src 165 (.tmp 76))) (b := 4) (off := (Int.toNat (Int.tmod (w64 d) ((r1.length : Nat) : Int))) * 2) (xs := r1) (fz := 0) (e := 61) (es := 2) (d := (some (path 12 77))) (by kernel_rfl) (by kernel_rfl) (by kernel_rfl) (Int.toNat (Int.tmod (w64 d) ((r1.length : Nat) : Int))) 0 (0, 0) (by first | rfl | omega) (row_len (inRow_toNat b22) (by simp)) rfl rfl) (σ' := [(9, s0 1 r1.length), (10, ii (w64 (1 + (Int.tmod (w64 c) 3)))), (11, s0 2 r2.1.length), (12, ii r2.2), (13, ii r3.1), (15, ii (Int.tmod (w64 d) ((r1.length : Nat) : Int))), (16, s0 4 r1.length), (73, s0 4 r1.length), (74, ii (Int.tmod (w64 d) ((r1.length : Nat) : Int))), (77, ii ((List.getD r1 (Int.toNat (Int.tmod (w64 d) ((r1.length : Nat) : Int))) (0, 0)).1))]) (by kernel_rfl) ?_
                refine XR.runS E0_ok 1 1 [(9, s0 1 r1.length), (10, ii (w64 (1 + (Int.tmod (w64 c) 3)))), (11, s0 2 r2.1.length), (12, ii r2.2), (13, ii r3.1), (15, ii (Int.tmod (w64 d) ((r1.length : Nat) : Int))), (16, s0 4 r1.length), (73, s0 4 r1.length), (74, ii (Int.tmod (w64 d) ((r1.length : Nat) : Int))), (78, ii (w64 (((List.getD r1 (Int.toNat (Int.tmod (w64 d) ((r1.length : Nat) : Int))) (0, 0)).1) - 1)))] rfl (by kernel_rfl) ?_
                refine XR.rd E0_ok [9, 10, 11, 12, 13, 15, 16, 78, 79] rfl (v := pp 4 ((Int.toNat (Int.tmod (w64 d) ((r1.length : Nat) : Int))) * 2)) (v_idx (s := 2) (x := (src 165 (.tmp 73))) (y := (src 165 (.tmp 74))) (b := 4) (o := 0) (len := r1.length) (cap := r1.length) (ik := .i64) (i := Int.tmod (w64 d) ((r1.length : Nat) : Int)) (off := (Int.toNat (Int.tmod (w64 d) ((r1.length : Nat) : Int))) * 2) (d := (some (path 12 79))) (by kernel_rfl) (by kernel_rfl) (by kernel_rfl) b22 (by omega)) (σ' := [(9, s0 1 r1.length), (10, ii (w64 (1 + (Int.tmod (w64 c) 3)))), (11, s0 2 r2.1.length), (12, ii r2.2), (13, ii r3.1), (15, ii (Int.tmod (w64 d) ((r1.length : Nat) : Int))), (16, s0 4 r1.length), (78, ii (w64 (((List.getD r1 (Int.toNat (Int.tmod (w64 d) ((r1.length : Nat) : Int))) (0, 0)).1) - 1))), (79, pp 4 ((Int.toNat (Int.tmod (w64 d) ((r1.length : Nat) : Int))) * 2))]) (by kernel_rfl) ?_
                refine XR.runS E0_ok 1 1 [(9, s0 1 r1.length), (10, ii (w64 (1 + (Int.tmod (w64 c) 3)))), (11, s0 2 r2.1.length), (12, ii r2.2), (13, ii r3.1), (15, ii (Int.tmod (w64 d) ((r1.length : Nat) : Int))), (16, s0 4 r1.length), (78, ii (w64 (((List.getD r1 (Int.toNat (Int.tmod (w64 d) ((r1.length : Nat) : Int))) (0, 0)).1) - 1))), (80, pp 4 ((Int.toNat (Int.tmod (w64 d) ((r1.length : Nat) : Int))) * 2))] rfl (by kernel_rfl) ?_
                refine XR.ef E0_ok [9, 10, 11, 12, 13, 15, 16] rfl (e_store encP_ok (size := 1) (x := (src 165 (.tmp 80))) (y := (src 165 (.tmp 78))) (b := 4) (off := (Int.toNat (Int.tmod (w64 d) ((r1.length : Nat) : Int))) * 2) (xs := r1) (e := 61) (es := 2) (d := none) (h' := [(4, rc encP (List.set r1 (Int.toNat (Int.tmod (w64 d) ((r1.length : Nat) : Int))) (w64 (((List.getD r1 (Int.toNat (Int.tmod (w64 d) ((r1.length : Nat) : Int))) (0, 0)).1) - 1), (List.getD r1 (Int.toNat (Int.tmod (w64 d) ((r1.length : Nat) : Int))) (0, 0)).2)) 0 61 2), (2, rc (encI .i64) r2.1 0 3 1), (1, rc encP r1 0 61 2), (0, .cells [.int .u8 a_0_0, .int .u8 a_0_1, .int .u8 a_1_0, .int .u8 a_1_1, .int .u8 a_2_0, .int .u8 a_2_1, .int .u8 a_3_0, .int .u8 a_3_1, .int .u8 a_4_0, .int .u8 a_4_1, .int .u8 a_5_0, .int .u8 a_5_1, .int .u8 a_6_0, .int .u8 a_6_1, .int .u8 a_7_0, .int .u8 a_7_1] 0 56 0)]) (w := ii (w64 (((List.getD r1 (Int.toNat (Int.tmod (w64 d) ((r1.length : Nat) : Int))) (0, 0)).1) - 1))) (ws := [ii (w64 (((List.getD r1 (Int.toNat (Int.tmod (w64 d) ((r1.length : Nat) : Int))) (0, 0)).1) - 1))]) (a := (w64 (((List.getD r1 (Int.toNat (Int.tmod (w64 d) ((r1.length : Nat) : Int))) (0, 0)).1) - 1), (List.getD r1 (Int.toNat (Int.tmod (w64 d) ((r1.length : Nat) : Int))) (0, 0)).2)) (by kernel_rfl) (by kernel_rfl) (by kernel_rfl) (Int.toNat (Int.tmod (w64 d) ((r1.length : Nat) : Int))) 0 (0, 0) (by first | rfl | omega) (row_len (inRow_toNat b22) (by simp)) (by kernel_rfl) rfl rfl rfl rfl rfl (by kernel_rfl)) (σ' := [(9, s0 1 r1.length), (10, ii (w64 (1 + (Int.tmod (w64 c) 3)))), (11, s0 2 r2.1.length), (12, ii r2.2), (13, ii r3.1), (15, ii (Int.tmod (w64 d) ((r1.length : Nat) : Int))), (16, s0 4 r1.length)]) (by kernel_rfl) ?_
                refine XR.done (by kernel_rfl) ?_
                show XQ _ _ _ _ _ _ _ _
                refine XQ.seq E0_ok (by kernel_rfl) ?_
                refine XQ.region (by kernel_rfl) ?_
                refine XR.runS E0_ok 1 2 [(9, s0 1 r1.length), (10, ii (w64 (1 + (Int.tmod (w64 c) 3)))), (11, s0 2 r2.1.length), (12, ii r2.2), (13, ii r3.1), (15, ii (Int.tmod (w64 d) ((r1.length : Nat) : Int))), (16, s0 4 r1.length), (81, s0 4 r1.length), (82, ii (Int.tmod (w64 d) ((r1.length : Nat) : Int)))] rfl (by kernel_rfl) ?_
                refine XR.rd E0_ok [9, 10, 11, 12, 13, 15, 16, 81, 82, 83] rfl (v := pp 4 ((Int.toNat (Int.tmod (w64 d) ((r1.length : Nat) : Int))) * 2)) (v_idx (s := 2) (x := (src 165 (.tmp 81))) (y := (src 165 (.tmp 82))) (b := 4) (o := 0) (len := r1.length) (cap := r1.length) (ik := .i64) (i := Int.tmod (w64 d) ((r1.length : Nat) : Int)) (off := (Int.toNat (Int.tmod (w64 d) ((r1.length : Nat) : Int))) * 2) (d := (some (path 12 83))) (by kernel_rfl) (by kernel_rfl) (by kernel_rfl) b22 (by omega)) (σ' := [(9, s0 1 r1.length), (10, ii (w64 (1 + (Int.tmod (w64 c) 3)))), (11, s0 2 r2.1.length), (12, ii r2.2), (13, ii r3.1), (15, ii (Int.tmod (w64 d) ((r1.length : Nat) : Int))), (16, s0 4 r1.length), (81, s0 4 r1.length), (82, ii (Int.tmod (w64 d) ((r1.length : Nat) : Int))), (83, pp 4 ((Int.toNat (Int.tmod (w64 d) ((r1.length : Nat) : Int))) * 2))]) (by kernel_rfl) ?_
                refine XR.runS E0_ok 1 1 [(9, s0 1 r1.length), (10, ii (w64 (1 + (Int.tmod (w64 c) 3)))), (11, s0 2 r2.1.length), (12, ii r2.2), (13, ii r3.1), (15, ii (Int.tmod (w64 d) ((r1.length : Nat) : Int))), (16, s0 4 r1.length), (81, s0 4 r1.length), (82, ii (Int.tmod (w64 d) ((r1.length : Nat) : Int))), (84, pp 4 ((Int.toNat (Int.tmod (w64 d) ((r1.length : Nat) : Int))) * 2 + 1))] rfl (by kernel_rfl) ?_
                refine XR.rd E0_ok [9, 10, 11, 12, 13, 15, 16, 81, 82, 85] rfl (v := ii ((List.getD (List.set r1 (Int.toNat (Int.tmod (w64 d) ((r1.length : Nat) : Int))) (w64 (((List.getD r1 (Int.toNat (Int.tmod (w64 d) ((r1.length : Nat) : Int))) (0, 0)).1) - 1), (List.getD r1 (Int.toNat (Int.tmod (w64 d) ((r1.length : Nat) : Int))) (0, 0)).2)) (Int.toNat (Int.tmod (w64 d) ((r1.length : Nat) : Int))) (0, 0)).2)) (v_load1 encP_ok (x := (src 165 (.tmp 84))) (b := 4) (off := (Int.toNat (Int.tmod (w64 d) ((r1.length : Nat) : Int))) * 2 + 1) (xs := List.set r1 (Int.toNat (Int.tmod (w64 d) ((r1.length : Nat) : Int))) (w64 (((List.getD r1 (Int.toNat (Int.tmod (w64 d) ((r1.length : Nat) : Int))) (0, 0)).1) - 1), (List.getD r1 (Int.toNat (Int.tmod (w64 d) ((r1.length : Nat) : Int))) (0, 0)).2)) (fz := 0) (e := 61) (es := 2) (d := (some (path 12 85))) (by kernel_rfl) (by kernel_rfl) (by kernel_rfl) (Int.toNat (Int.tmod (w64 d) ((r1.length : Nat) : Int))) 1 (0, 0) (by first | rfl | omega) (row_len (inRow_toNat b22) (by simp)) rfl rfl) (σ' := [(9, s0 1 r1.length), (10, ii (w64 (1 + (Int.tmod (w64 c) 3)))), (11, s0 2 r2.1.length), (12, ii r2.2), (13, ii r3.1), (15, ii (Int.tmod (w64 d) ((r1.length : Nat) : Int))), (16, s0 4 r1.length), (81, s0 4 r1.length), (82, ii (Int.tmod (w64 d) ((r1.length : Nat) : Int))), (85, ii ((List.getD (List.set r1 (Int.toNat (Int.tmod (w64 d) ((r1.length : Nat) : Int))) (w64 (((List.getD r1 (Int.toNat (Int.tmod (w64 d) ((r1.length : Nat) : Int))) (0, 0)).1) - 1), (List.getD r1 (Int.toNat (Int.tmod (w64 d) ((r1.length : Nat) : Int))) (0, 0)).2)) (Int.toNat (Int.tmod (w64 d) ((r1.length : Nat) : Int))) (0, 0)).2))]) (by kernel_rfl) ?_
                refine XR.runS E0_ok 1 1 [(9, s0 1 r1.length), (10, ii (w64 (1 + (Int.tmod (w64 c) 3)))), (11, s0 2 r2.1.length), (12, ii r2.2), (13, ii r3.1), (15, ii (Int.tmod (w64 d) ((r1.length : Nat) : Int))), (16, s0 4 r1.length), (81, s0 4 r1.length), (82, ii (Int.tmod (w64 d) ((r1.length : Nat) : Int))), (86, ii (w64 (((List.getD (List.set r1 (Int.toNat (Int.tmod (w64 d) ((r1.length : Nat) : Int))) (w64 (((List.getD r1 (Int.toNat (Int.tmod (w64 d) ((r1.length : Nat) : Int))) (0, 0)).1) - 1), (List.getD r1 (Int.toNat (Int.tmod (w64 d) ((r1.length : Nat) : Int))) (0, 0)).2)) (Int.toNat (Int.tmod (w64 d) ((r1.length : Nat) : Int))) (0, 0)).2) + 1)))] rfl (by kernel_rfl) ?_
                refine XR.rd E0_ok [9, 10, 11, 12, 13, 15, 16, 86, 87] rfl (v := pp 4 ((Int.toNat (Int.tmod (w64 d) ((r1.length : Nat) : Int))) * 2)) (v_idx (s := 2) (x := (src 165 (.tmp 81))) (y := (src 165 (.tmp 82))) (b := 4) (o := 0) (len := r1.length) (cap := r1.length) (ik := .i64) (i := Int.tmod (w64 d) ((r1.length : Nat) : Int)) (off := (Int.toNat (Int.tmod (w64 d) ((r1.length : Nat) : Int))) * 2) (d := (some (path 12 87))) (by kernel_rfl) (by kernel_rfl) (by kernel_rfl) b22 (by omega)) (σ' := [(9, s0 1 r1.length), (10, ii (w64 (1 + (Int.tmod (w64 c) 3)))), (11, s0 2 r2.1.length), (12, ii r2.2), (13, ii r3.1), (15, ii (Int.tmod (w64 d) ((r1.length : Nat) : Int))), (16, s0 4 r1.length), (86, ii (w64 (((List.getD (List.set r1 (Int.toNat (Int.tmod (w64 d) ((r1.length : Nat) : Int))) (w64 (((List.getD r1 (Int.toNat (Int.tmod (w64 d) ((r1.length : Nat) : Int))) (0, 0)).1) - 1), (List.getD r1 (Int.toNat (Int.tmod (w64 d) ((r1.length : Nat) : Int))) (0, 0)).2)) (Int.toNat (Int.tmod (w64 d) ((r1.length : Nat) : Int))) (0, 0)).2) + 1))), (87, pp 4 ((Int.toNat (Int.tmod (w64 d) ((r1.length : Nat) : Int))) * 2))]) (by kernel_rfl) ?_
                refine XR.runS E0_ok 1 1 [(9, s0 1 r1.length), (10, ii (w64 (1 + (Int.tmod (w64 c) 3)))), (11, s0 2 r2.1.length), (12, ii r2.2), (13, ii r3.1), (15, ii (Int.tmod (w64 d) ((r1.length : Nat) : Int))), (16, s0 4 r1.length), (86, ii (w64 (((List.getD (List.set r1 (Int.toNat (Int.tmod (w64 d) ((r1.length : Nat) : Int))) (w64 (((List.getD r1 (Int.toNat (Int.tmod (w64 d) ((r1.length : Nat) : Int))) (0, 0)).1) - 1), (List.getD r1 (Int.toNat (Int.tmod (w64 d) ((r1.length : Nat) : Int))) (0, 0)).2)) (Int.toNat (Int.tmod (w64 d) ((r1.length : Nat) : Int))) (0, 0)).2) + 1))), (88, pp 4 ((Int.toNat (Int.tmod (w64 d) ((r1.length : Nat) : Int))) * 2 + 1))] rfl (by kernel_rfl) ?_
                refine XR.ef E0_ok [9, 10, 11, 12, 13, 15, 16] rfl (e_store encP_ok (size := 1) (x := (src 165 (.tmp 88))) (y := (src 165 (.tmp 86))) (b := 4) (off := (Int.toNat (Int.tmod (w64 d) ((r1.length : Nat) : Int))) * 2 + 1) (xs := List.set r1 (Int.toNat (Int.tmod (w64 d) ((r1.length : Nat) : Int))) (w64 (((List.getD r1 (Int.toNat (Int.tmod (w64 d) ((r1.length : Nat) : Int))) (0, 0)).1) - 1), (List.getD r1 (Int.toNat (Int.tmod (w64 d) ((r1.length : Nat) : Int))) (0, 0)).2)) (e := 61) (es := 2) (d := none) (h' := [(4, rc encP (List.set (List.set r1 (Int.toNat (Int.tmod (w64 d) ((r1.length : Nat) : Int))) (w64 (((List.getD r1 (Int.toNat (Int.tmod (w64 d) ((r1.length : Nat) : Int))) (0, 0)).1) - 1), (List.getD r1 (Int.toNat (Int.tmod (w64 d) ((r1.length : Nat) : Int))) (0, 0)).2)) (Int.toNat (Int.tmod (w64 d) ((r1.length : Nat) : Int))) ((List.getD (List.set r1 (Int.toNat (Int.tmod (w64 d) ((r1.length : Nat) : Int))) (w64 (((List.getD r1 (Int.toNat (Int.tmod (w64 d) ((r1.length : Nat) : Int))) (0, 0)).1) - 1), (List.getD r1 (Int.toNat (Int.tmod (w64 d) ((r1.length : Nat) : Int))) (0, 0)).2)) (Int.toNat (Int.tmod (w64 d) ((r1.length : Nat) : Int))) (0, 0)).1, w64 (((List.getD (List.set r1 (Int.toNat (Int.tmod (w64 d) ((r1.length : Nat) : Int))) (w64 (((List.getD r1 (Int.toNat (Int.tmod (w64 d) ((r1.length : Nat) : Int))) (0, 0)).1) - 1), (List.getD r1 (Int.toNat (Int.tmod (w64 d) ((r1.length : Nat) : Int))) (0, 0)).2)) (Int.toNat (Int.tmod (w64 d) ((r1.length : Nat) : Int))) (0, 0)).2) + 1))) 0 61 2), (2, rc (encI .i64) r2.1 0 3 1), (1, rc encP r1 0 61 2), (0, .cells [.int .u8 a_0_0, .int .u8 a_0_1, .int .u8 a_1_0, .int .u8 a_1_1, .int .u8 a_2_0, .int .u8 a_2_1, .int .u8 a_3_0, .int .u8 a_3_1, .int .u8 a_4_0, .int .u8 a_4_1, .int .u8 a_5_0, .int .u8 a_5_1, .int .u8 a_6_0, .int .u8 a_6_1, .int .u8 a_7_0, .int .u8 a_7_1] 0 56 0)]) (w := ii (w64 (((List.getD (List.set r1 (Int.toNat (Int.tmod (w64 d) ((r1.length : Nat) : Int))) (w64 (((List.getD r1 (Int.toNat (Int.tmod (w64 d) ((r1.length : Nat) : Int))) (0, 0)).1) - 1), (List.getD r1 (Int.toNat (Int.tmod (w64 d) ((r1.length : Nat) : Int))) (0, 0)).2)) (Int.toNat (Int.tmod (w64 d) ((r1.length : Nat) : Int))) (0, 0)).2) + 1))) (ws := [ii (w64 (((List.getD (List.set r1 (Int.toNat (Int.tmod (w64 d) ((r1.length : Nat) : Int))) (w64 (((List.getD r1 (Int.toNat (Int.tmod (w64 d) ((r1.length : Nat) : Int))) (0, 0)).1) - 1), (List.getD r1 (Int.toNat (Int.tmod (w64 d) ((r1.length : Nat) : Int))) (0, 0)).2)) (Int.toNat (Int.tmod (w64 d) ((r1.length : Nat) : Int))) (0, 0)).2) + 1))]) (a := ((List.getD (List.set r1 (Int.toNat (Int.tmod (w64 d) ((r1.length : Nat) : Int))) (w64 (((List.getD r1 (Int.toNat (Int.tmod (w64 d) ((r1.length : Nat) : Int))) (0, 0)).1) - 1), (List.getD r1 (Int.toNat (Int.tmod (w64 d) ((r1.length : Nat) : Int))) (0, 0)).2)) (Int.toNat (Int.tmod (w64 d) ((r1.length : Nat) : Int))) (0, 0)).1, w64 (((List.getD (List.set r1 (Int.toNat (Int.tmod (w64 d) ((r1.length : Nat) : Int))) (w64 (((List.getD r1 (Int.toNat (Int.tmod (w64 d) ((r1.length : Nat) : Int))) (0, 0)).1) - 1), (List.getD r1 (Int.toNat (Int.tmod (w64 d) ((r1.length : Nat) : Int))) (0, 0)).2)) (Int.toNat (Int.tmod (w64 d) ((r1.length : Nat) : Int))) (0, 0)).2) + 1))) (by kernel_rfl) (by kernel_rfl) (by kernel_rfl) (Int.toNat (Int.tmod (w64 d) ((r1.length : Nat) : Int))) 1 (0, 0) (by first | rfl | omega) (row_len (inRow_toNat b22) (by simp)) (by kernel_rfl) rfl rfl rfl rfl rfl (by kernel_rfl)) (σ' := [(9, s0 1 r1.length), (10, ii (w64 (1 + (Int.tmod (w64 c) 3)))), (11, s0 2 r2.1.length), (12, ii r2.2), (13, ii r3.1), (15, ii (Int.tmod (w64 d) ((r1.length : Nat) : Int))), (16, s0 4 r1.length)]) (by kernel_rfl) ?_
                refine XR.done (by kernel_rfl) ?_
                show XQ _ _ _ _ _ _ _ _
                refine XQ.seq E0_ok (by kernel_rfl) ?_
                refine XQ.region (by kernel_rfl) ?_
                refine XR.runS E0_ok 1 1 [(9, s0 1 r1.length), (10, ii (w64 (1 + (Int.tmod (w64 c) 3)))), (11, s0 2 r2.1.length), (12, ii r2.2), (13, ii r3.1), (15, ii (Int.tmod (w64 d) ((r1.length : Nat) : Int))), (16, s0 4 r1.length), (89, s0 1 r1.length)] rfl (by kernel_rfl) ?_
                refine XR.call E0_ok [9, 10, 11, 12, 13, 15, 16, 90] rfl (K := 50) (args := [s0 1 r1.length]) (d := (some (path 12 90))) (by kernel_rfl) (clone50_all (xs := r1) (fz := 0) (e0 := 61) (es0 := 2) (c := 5) (by kernel_rfl) (by simp) (Nat.le_refl _) b21) ?_
                rintro _ _ _ ⟨rfl, rfl, rfl⟩
                refine XR.conv (σ' := [(9, s0 1 r1.length), (10, ii (w64 (1 + (Int.tmod (w64 c) 3)))), (11, s0 2 r2.1.length), (12, ii r2.2), (13, ii r3.1), (15, ii (Int.tmod (w64 d) ((r1.length : Nat) : Int))), (16, s0 4 r1.length), (90, s0 6 r1.length)]) (h' := [(6, rc encP r1 0 61 2), (4, rc encP (List.set (List.set r1 (Int.toNat (Int.tmod (w64 d) ((r1.length : Nat) : Int))) (w64 (((List.getD r1 (Int.toNat (Int.tmod (w64 d) ((r1.length : Nat) : Int))) (0, 0)).1) - 1), (List.getD r1 (Int.toNat (Int.tmod (w64 d) ((r1.length : Nat) : Int))) (0, 0)).2)) (Int.toNat (Int.tmod (w64 d) ((r1.length : Nat) : Int))) ((List.getD (List.set r1 (Int.toNat (Int.tmod (w64 d) ((r1.length : Nat) : Int))) (w64 (((List.getD r1 (Int.toNat (Int.tmod (w64 d) ((r1.length : Nat) : Int))) (0, 0)).1) - 1), (List.getD r1 (Int.toNat (Int.tmod (w64 d) ((r1.length : Nat) : Int))) (0, 0)).2)) (Int.toNat (Int.tmod (w64 d) ((r1.length : Nat) : Int))) (0, 0)).1, w64 (((List.getD (List.set r1 (Int.toNat (Int.tmod (w64 d) ((r1.length : Nat) : Int))) (w64 (((List.getD r1 (Int.toNat (Int.tmod (w64 d) ((r1.length : Nat) : Int))) (0, 0)).1) - 1), (List.getD r1 (Int.toNat (Int.tmod (w64 d) ((r1.length : Nat) : Int))) (0, 0)).2)) (Int.toNat (Int.tmod (w64 d) ((r1.length : Nat) : Int))) (0, 0)).2) + 1))) 0 61 2), (2, rc (encI .i64) r2.1 0 3 1), (1, rc encP r1 0 61 2), (0, .cells [.int .u8 a_0_0, .int .u8 a_0_1, .int .u8 a_1_0, .int .u8 a_1_1, .int .u8 a_2_0, .int .u8 a_2_1, .int .u8 a_3_0, .int .u8 a_3_1, .int .u8 a_4_0, .int .u8 a_4_1, .int .u8 a_5_0, .int .u8 a_5_1, .int .u8 a_6_0, .int .u8 a_6_1, .int .u8 a_7_0, .int .u8 a_7_1] 0 56 0)]) (c' := 7) ?_ (by kernel_rfl)
                refine XR.runS E0_ok 1 3 [(9, s0 1 r1.length), (10, ii (w64 (1 + (Int.tmod (w64 c) 3)))), (11, s0 2 r2.1.length), (12, ii r2.2), (13, ii r3.1), (15, ii (Int.tmod (w64 d) ((r1.length : Nat) : Int))), (16, s0 4 r1.length), (90, s0 6 r1.length), (91, ii (Int.tmod (w64 d) ((r1.length : Nat) : Int))), (93, ii (w64 ((Int.tmod (w64 d) ((r1.length : Nat) : Int)) + 1)))] rfl (by kernel_rfl) ?_
                obtain ⟨o2, o2_h, h⟩ := bS h
                refine XR.call E0_ok [9, 10, 11, 12, 13, 15, 16, 94] rfl (K := 51) (args := [s0 6 r1.length, ii (Int.tmod (w64 d) ((r1.length : Nat) : Int)), ii (w64 ((Int.tmod (w64 d) ((r1.length : Nat) : Int)) + 1))]) (d := (some (path 12 94))) (by kernel_rfl) (f12_2_ok m a_0_0 a_0_1 a_1_0 a_1_1 a_2_0 a_2_1 a_3_0 a_3_1 a_4_0 a_4_1 a_5_0 a_5_1 a_6_0 a_6_1 a_7_0 a_7_1 (Int.tmod (w64 d) ((r1.length : Nat) : Int)) (w64 ((Int.tmod (w64 d) ((r1.length : Nat) : Int)) + 1)) r1 r2.1 (List.set (List.set r1 (Int.toNat (Int.tmod (w64 d) ((r1.length : Nat) : Int))) (w64 (((List.getD r1 (Int.toNat (Int.tmod (w64 d) ((r1.length : Nat) : Int))) (0, 0)).1) - 1), (List.getD r1 (Int.toNat (Int.tmod (w64 d) ((r1.length : Nat) : Int))) (0, 0)).2)) (Int.toNat (Int.tmod (w64 d) ((r1.length : Nat) : Int))) ((List.getD (List.set r1 (Int.toNat (Int.tmod (w64 d) ((r1.length : Nat) : Int))) (w64 (((List.getD r1 (Int.toNat (Int.tmod (w64 d) ((r1.length : Nat) : Int))) (0, 0)).1) - 1), (List.getD r1 (Int.toNat (Int.tmod (w64 d) ((r1.length : Nat) : Int))) (0, 0)).2)) (Int.toNat (Int.tmod (w64 d) ((r1.length : Nat) : Int))) (0, 0)).1, w64 (((List.getD (List.set r1 (Int.toNat (Int.tmod (w64 d) ((r1.length : Nat) : Int))) (w64 (((List.getD r1 (Int.toNat (Int.tmod (w64 d) ((r1.length : Nat) : Int))) (0, 0)).1) - 1), (List.getD r1 (Int.toNat (Int.tmod (w64 d) ((r1.length : Nat) : Int))) (0, 0)).2)) (Int.toNat (Int.tmod (w64 d) ((r1.length : Nat) : Int))) (0, 0)).2) + 1))) r1 o2 o2_h (fun v h' c' => v = s0 6 o2.length ∧ h' = [(6, rc encP o2 0 61 2), (4, rc encP (List.set (List.set r1 (Int.toNat (Int.tmod (w64 d) ((r1.length : Nat) : Int))) (w64 (((List.getD r1 (Int.toNat (Int.tmod (w64 d) ((r1.length : Nat) : Int))) (0, 0)).1) - 1), (List.getD r1 (Int.toNat (Int.tmod (w64 d) ((r1.length : Nat) : Int))) (0, 0)).2)) (Int.toNat (Int.tmod (w64 d) ((r1.length : Nat) : Int))) ((List.getD (List.set r1 (Int.toNat (Int.tmod (w64 d) ((r1.length : Nat) : Int))) (w64 (((List.getD r1 (Int.toNat (Int.tmod (w64 d) ((r1.length : Nat) : Int))) (0, 0)).1) - 1), (List.getD r1 (Int.toNat (Int.tmod (w64 d) ((r1.length : Nat) : Int))) (0, 0)).2)) (Int.toNat (Int.tmod (w64 d) ((r1.length : Nat) : Int))) (0, 0)).1, w64 (((List.getD (List.set r1 (Int.toNat (Int.tmod (w64 d) ((r1.length : Nat) : Int))) (w64 (((List.getD r1 (Int.toNat (Int.tmod (w64 d) ((r1.length : Nat) : Int))) (0, 0)).1) - 1), (List.getD r1 (Int.toNat (Int.tmod (w64 d) ((r1.length : Nat) : Int))) (0, 0)).2)) (Int.toNat (Int.tmod (w64 d) ((r1.length : Nat) : Int))) (0, 0)).2) + 1))) 0 61 2), (2, rc (encI .i64) r2.1 0 3 1), (1, rc encP r1 0 61 2), (0, .cells [.int .u8 a_0_0, .int .u8 a_0_1, .int .u8 a_1_0, .int .u8 a_1_1, .int .u8 a_2_0, .int .u8 a_2_1, .int .u8 a_3_0, .int .u8 a_3_1, .int .u8 a_4_0, .int .u8 a_4_1, .int .u8 a_5_0, .int .u8 a_5_1, .int .u8 a_6_0, .int .u8 a_6_1, .int .u8 a_7_0, .int .u8 a_7_1] 0 56 0)] ∧ c' = 7) ⟨rfl, rfl, rfl⟩) ?_
                rintro _ _ _ ⟨rfl, rfl, rfl⟩
                refine XR.conv (σ' := [(9, s0 1 r1.length), (10, ii (w64 (1 + (Int.tmod (w64 c) 3)))), (11, s0 2 r2.1.length), (12, ii r2.2), (13, ii r3.1), (15, ii (Int.tmod (w64 d) ((r1.length : Nat) : Int))), (16, s0 4 r1.length), (94, s0 6 o2.length)]) (h' := [(6, rc encP o2 0 61 2), (4, rc encP (List.set (List.set r1 (Int.toNat (Int.tmod (w64 d) ((r1.length : Nat) : Int))) (w64 (((List.getD r1 (Int.toNat (Int.tmod (w64 d) ((r1.length : Nat) : Int))) (0, 0)).1) - 1), (List.getD r1 (Int.toNat (Int.tmod (w64 d) ((r1.length : Nat) : Int))) (0, 0)).2)) (Int.toNat (Int.tmod (w64 d) ((r1.length : Nat) : Int))) ((List.getD (List.set r1 (Int.toNat (Int.tmod (w64 d) ((r1.length : Nat) : Int))) (w64 (((List.getD r1 (Int.toNat (Int.tmod (w64 d) ((r1.length : Nat) : Int))) (0, 0)).1) - 1), (List.getD r1 (Int.toNat (Int.tmod (w64 d) ((r1.length : Nat) : Int))) (0, 0)).2)) (Int.toNat (Int.tmod (w64 d) ((r1.length : Nat) : Int))) (0, 0)).1, w64 (((List.getD (List.set r1 (Int.toNat (Int.tmod (w64 d) ((r1.length : Nat) : Int))) (w64 (((List.getD r1 (Int.toNat (Int.tmod (w64 d) ((r1.length : Nat) : Int))) (0, 0)).1) - 1), (List.getD r1 (Int.toNat (Int.tmod (w64 d) ((r1.length : Nat) : Int))) (0, 0)).2)) (Int.toNat (Int.tmod (w64 d) ((r1.length : Nat) : Int))) (0, 0)).2) + 1))) 0 61 2), (2, rc (encI .i64) r2.1 0 3 1), (1, rc encP r1 0 61 2), (0, .cells [.int .u8 a_0_0, .int .u8 a_0_1, .int .u8 a_1_0, .int .u8 a_1_1, .int .u8 a_2_0, .int .u8 a_2_1, .int .u8 a_3_0, .int .u8 a_3_1, .int .u8 a_4_0, .int .u8 a_4_1, .int .u8 a_5_0, .int .u8 a_5_1, .int .u8 a_6_0, .int .u8 a_6_1, .int .u8 a_7_0, .int .u8 a_7_1] 0 56 0)]) (c' := 7) ?_ (by kernel_rfl)
                refine XR.runS E0_ok 1 1 [(9, s0 1 r1.length), (10, ii (w64 (1 + (Int.tmod (w64 c) 3)))), (11, s0 2 r2.1.length), (12, ii r2.2), (13, ii r3.1), (15, ii (Int.tmod (w64 d) ((r1.length : Nat) : Int))), (16, s0 4 r1.length), (17, s0 6 o2.length)] rfl (by kernel_rfl) ?_
                refine XR.done (by kernel_rfl) ?_
                show XQ _ _ _ _ _ _ _ _
                refine XQ.seq E0_ok (by kernel_rfl) ?_
                refine XQ.region (by kernel_rfl) ?_
                refine XR.runS E0_ok 1 1 [(9, s0 1 r1.length), (10, ii (w64 (1 + (Int.tmod (w64 c) 3)))), (11, s0 2 r2.1.length), (12, ii r2.2), (13, ii r3.1), (15, ii (Int.tmod (w64 d) ((r1.length : Nat) : Int))), (16, s0 4 r1.length), (17, s0 6 o2.length), (96, s0 4 r1.length)] rfl (by kernel_rfl) ?_
                obtain ⟨r6, r6_h, h⟩ := bS h
                refine XR.call E0_ok [9, 10, 11, 12, 13, 15, 16, 17, 97] rfl (K := 29) (args := [s0 4 r1.length]) (d := (some (path 12 97))) (by kernel_rfl) (KQ.call (KC.quiet E0_ok (args0 := [s0 0 r1.length]) (h0 := [(0, rc encP (List.set (List.set r1 (Int.toNat (Int.tmod (w64 d) ((r1.length : Nat) : Int))) (w64 (((List.getD r1 (Int.toNat (Int.tmod (w64 d) ((r1.length : Nat) : Int))) (0, 0)).1) - 1), (List.getD r1 (Int.toNat (Int.tmod (w64 d) ((r1.length : Nat) : Int))) (0, 0)).2)) (Int.toNat (Int.tmod (w64 d) ((r1.length : Nat) : Int))) ((List.getD (List.set r1 (Int.toNat (Int.tmod (w64 d) ((r1.length : Nat) : Int))) (w64 (((List.getD r1 (Int.toNat (Int.tmod (w64 d) ((r1.length : Nat) : Int))) (0, 0)).1) - 1), (List.getD r1 (Int.toNat (Int.tmod (w64 d) ((r1.length : Nat) : Int))) (0, 0)).2)) (Int.toNat (Int.tmod (w64 d) ((r1.length : Nat) : Int))) (0, 0)).1, w64 (((List.getD (List.set r1 (Int.toNat (Int.tmod (w64 d) ((r1.length : Nat) : Int))) (w64 (((List.getD r1 (Int.toNat (Int.tmod (w64 d) ((r1.length : Nat) : Int))) (0, 0)).1) - 1), (List.getD r1 (Int.toNat (Int.tmod (w64 d) ((r1.length : Nat) : Int))) (0, 0)).2)) (Int.toNat (Int.tmod (w64 d) ((r1.length : Nat) : Int))) (0, 0)).2) + 1))) (0 + ((rowC encP (List.set (List.set r1 (Int.toNat (Int.tmod (w64 d) ((r1.length : Nat) : Int))) (w64 (((List.getD r1 (Int.toNat (Int.tmod (w64 d) ((r1.length : Nat) : Int))) (0, 0)).1) - 1), (List.getD r1 (Int.toNat (Int.tmod (w64 d) ((r1.length : Nat) : Int))) (0, 0)).2)) (Int.toNat (Int.tmod (w64 d) ((r1.length : Nat) : Int))) ((List.getD (List.set r1 (Int.toNat (Int.tmod (w64 d) ((r1.length : Nat) : Int))) (w64 (((List.getD r1 (Int.toNat (Int.tmod (w64 d) ((r1.length : Nat) : Int))) (0, 0)).1) - 1), (List.getD r1 (Int.toNat (Int.tmod (w64 d) ((r1.length : Nat) : Int))) (0, 0)).2)) (Int.toNat (Int.tmod (w64 d) ((r1.length : Nat) : Int))) (0, 0)).1, w64 (((List.getD (List.set r1 (Int.toNat (Int.tmod (w64 d) ((r1.length : Nat) : Int))) (w64 (((List.getD r1 (Int.toNat (Int.tmod (w64 d) ((r1.length : Nat) : Int))) (0, 0)).1) - 1), (List.getD r1 (Int.toNat (Int.tmod (w64 d) ((r1.length : Nat) : Int))) (0, 0)).2)) (Int.toNat (Int.tmod (w64 d) ((r1.length : Nat) : Int))) (0, 0)).2) + 1)))).length + 1)) 61 2)]) (n := 1) (V := .tuple #[ii r6.1, ii r6.2]) [4] (by have q := (f29_ok m (0 + ((rowC encP (List.set (List.set r1 (Int.toNat (Int.tmod (w64 d) ((r1.length : Nat) : Int))) (w64 (((List.getD r1 (Int.toNat (Int.tmod (w64 d) ((r1.length : Nat) : Int))) (0, 0)).1) - 1), (List.getD r1 (Int.toNat (Int.tmod (w64 d) ((r1.length : Nat) : Int))) (0, 0)).2)) (Int.toNat (Int.tmod (w64 d) ((r1.length : Nat) : Int))) ((List.getD (List.set r1 (Int.toNat (Int.tmod (w64 d) ((r1.length : Nat) : Int))) (w64 (((List.getD r1 (Int.toNat (Int.tmod (w64 d) ((r1.length : Nat) : Int))) (0, 0)).1) - 1), (List.getD r1 (Int.toNat (Int.tmod (w64 d) ((r1.length : Nat) : Int))) (0, 0)).2)) (Int.toNat (Int.tmod (w64 d) ((r1.length : Nat) : Int))) (0, 0)).1, w64 (((List.getD (List.set r1 (Int.toNat (Int.tmod (w64 d) ((r1.length : Nat) : Int))) (w64 (((List.getD r1 (Int.toNat (Int.tmod (w64 d) ((r1.length : Nat) : Int))) (0, 0)).1) - 1), (List.getD r1 (Int.toNat (Int.tmod (w64 d) ((r1.length : Nat) : Int))) (0, 0)).2)) (Int.toNat (Int.tmod (w64 d) ((r1.length : Nat) : Int))) (0, 0)).2) + 1)))).length + 1)) 61 (List.set (List.set r1 (Int.toNat (Int.tmod (w64 d) ((r1.length : Nat) : Int))) (w64 (((List.getD r1 (Int.toNat (Int.tmod (w64 d) ((r1.length : Nat) : Int))) (0, 0)).1) - 1), (List.getD r1 (Int.toNat (Int.tmod (w64 d) ((r1.length : Nat) : Int))) (0, 0)).2)) (Int.toNat (Int.tmod (w64 d) ((r1.length : Nat) : Int))) ((List.getD (List.set r1 (Int.toNat (Int.tmod (w64 d) ((r1.length : Nat) : Int))) (w64 (((List.getD r1 (Int.toNat (Int.tmod (w64 d) ((r1.length : Nat) : Int))) (0, 0)).1) - 1), (List.getD r1 (Int.toNat (Int.tmod (w64 d) ((r1.length : Nat) : Int))) (0, 0)).2)) (Int.toNat (Int.tmod (w64 d) ((r1.length : Nat) : Int))) (0, 0)).1, w64 (((List.getD (List.set r1 (Int.toNat (Int.tmod (w64 d) ((r1.length : Nat) : Int))) (w64 (((List.getD r1 (Int.toNat (Int.tmod (w64 d) ((r1.length : Nat) : Int))) (0, 0)).1) - 1), (List.getD r1 (Int.toNat (Int.tmod (w64 d) ((r1.length : Nat) : Int))) (0, 0)).2)) (Int.toNat (Int.tmod (w64 d) ((r1.length : Nat) : Int))) (0, 0)).2) + 1))) r6 r6_h); simp only [List.length_set] at q; exact q) rfl (by rfl) (by decide) rfl (by kernel_rfl) ⟨⟨_, _, rfl, rfl, .inl ⟨rfl, rowC_scal encP_ok _⟩⟩, trivial⟩) rfl) ?_
                rintro _ _ _ ⟨rfl, rfl, rfl⟩
                refine XR.conv (σ' := [(9, s0 1 r1.length), (10, ii (w64 (1 + (Int.tmod (w64 c) 3)))), (11, s0 2 r2.1.length), (12, ii r2.2), (13, ii r3.1), (15, ii (Int.tmod (w64 d) ((r1.length : Nat) : Int))), (16, s0 4 r1.length), (17, s0 6 o2.length), (97, .tuple #[ii r6.1, ii r6.2])]) (h' := [(6, rc encP o2 0 61 2), (4, rc encP (List.set (List.set r1 (Int.toNat (Int.tmod (w64 d) ((r1.length : Nat) : Int))) (w64 (((List.getD r1 (Int.toNat (Int.tmod (w64 d) ((r1.length : Nat) : Int))) (0, 0)).1) - 1), (List.getD r1 (Int.toNat (Int.tmod (w64 d) ((r1.length : Nat) : Int))) (0, 0)).2)) (Int.toNat (Int.tmod (w64 d) ((r1.length : Nat) : Int))) ((List.getD (List.set r1 (Int.toNat (Int.tmod (w64 d) ((r1.length : Nat) : Int))) (w64 (((List.getD r1 (Int.toNat (Int.tmod (w64 d) ((r1.length : Nat) : Int))) (0, 0)).1) - 1), (List.getD r1 (Int.toNat (Int.tmod (w64 d) ((r1.length : Nat) : Int))) (0, 0)).2)) (Int.toNat (Int.tmod (w64 d) ((r1.length : Nat) : Int))) (0, 0)).1, w64 (((List.getD (List.set r1 (Int.toNat (Int.tmod (w64 d) ((r1.length : Nat) : Int))) (w64 (((List.getD r1 (Int.toNat (Int.tmod (w64 d) ((r1.length : Nat) : Int))) (0, 0)).1) - 1), (List.getD r1 (Int.toNat (Int.tmod (w64 d) ((r1.length : Nat) : Int))) (0, 0)).2)) (Int.toNat (Int.tmod (w64 d) ((r1.length : Nat) : Int))) (0, 0)).2) + 1))) 0 61 2), (2, rc (encI .i64) r2.1 0 3 1), (1, rc encP r1 0 61 2), (0, .cells [.int .u8 a_0_0, .int .u8 a_0_1, .int .u8 a_1_0, .int .u8 a_1_1, .int .u8 a_2_0, .int .u8 a_2_1, .int .u8 a_3_0, .int .u8 a_3_1, .int .u8 a_4_0, .int .u8 a_4_1, .int .u8 a_5_0, .int .u8 a_5_1, .int .u8 a_6_0, .int .u8 a_6_1, .int .u8 a_7_0, .int .u8 a_7_1] 0 56 0)]) (c' := 7) ?_ (by kernel_rfl)
                refine XR.runS E0_ok 1 5 [(9, s0 1 r1.length), (10, ii (w64 (1 + (Int.tmod (w64 c) 3)))), (11, s0 2 r2.1.length), (12, ii r2.2), (13, ii r3.1), (14, ii r6.2), (15, ii (Int.tmod (w64 d) ((r1.length : Nat) : Int))), (16, s0 4 r1.length), (17, s0 6 o2.length), (18, ii r6.1)] rfl (by kernel_rfl) ?_
                refine XR.done (by kernel_rfl) ?_
                show XQ _ _ _ _ _ _ _ _
                refine XQ.seq E0_ok (by kernel_rfl) ?_
                refine XQ.region (by kernel_rfl) ?_
                refine XR.runS E0_ok 1 1 [(9, s0 1 r1.length), (10, ii (w64 (1 + (Int.tmod (w64 c) 3)))), (11, s0 2 r2.1.length), (12, ii r2.2), (13, ii r3.1), (14, ii r6.2), (15, ii (Int.tmod (w64 d) ((r1.length : Nat) : Int))), (16, s0 4 r1.length), (17, s0 6 o2.length), (18, ii r6.1), (101, s0 6 o2.length)] rfl (by kernel_rfl) ?_
                obtain ⟨r7, r7_h, h⟩ := bS h
                refine XR.call E0_ok [9, 10, 11, 12, 13, 14, 15, 16, 17, 18, 102] rfl (K := 29) (args := [s0 6 o2.length]) (d := (some (path 12 102))) (by kernel_rfl) (KQ.call (KC.quiet E0_ok (args0 := [s0 0 o2.length]) (h0 := [(0, rc encP o2 (0 + ((rowC encP o2).length + 1)) 61 2)]) (n := 1) (V := .tuple #[ii r7.1, ii r7.2]) [6] (f29_ok m (0 + ((rowC encP o2).length + 1)) 61 o2 r7 r7_h) rfl (by rfl) (by decide) rfl (by kernel_rfl) ⟨⟨_, _, rfl, rfl, .inl ⟨rfl, rowC_scal encP_ok _⟩⟩, trivial⟩) rfl) ?_
                rintro _ _ _ ⟨rfl, rfl, rfl⟩
                refine XR.conv (σ' := [(9, s0 1 r1.length), (10, ii (w64 (1 + (Int.tmod (w64 c) 3)))), (11, s0 2 r2.1.length), (12, ii r2.2), (13, ii r3.1), (14, ii r6.2), (15, ii (Int.tmod (w64 d) ((r1.length : Nat) : Int))), (16, s0 4 r1.length), (17, s0 6 o2.length), (18, ii r6.1), (102, .tuple #[ii r7.1, ii r7.2])]) (h' := [(6, rc encP o2 0 61 2), (4, rc encP (List.set (List.set r1 (Int.toNat (Int.tmod (w64 d) ((r1.length : Nat) : Int))) (w64 (((List.getD r1 (Int.toNat (Int.tmod (w64 d) ((r1.length : Nat) : Int))) (0, 0)).1) - 1), (List.getD r1 (Int.toNat (Int.tmod (w64 d) ((r1.length : Nat) : Int))) (0, 0)).2)) (Int.toNat (Int.tmod (w64 d) ((r1.length : Nat) : Int))) ((List.getD (List.set r1 (Int.toNat (Int.tmod (w64 d) ((r1.length : Nat) : Int))) (w64 (((List.getD r1 (Int.toNat (Int.tmod (w64 d) ((r1.length : Nat) : Int))) (0, 0)).1) - 1), (List.getD r1 (Int.toNat (Int.tmod (w64 d) ((r1.length : Nat) : Int))) (0, 0)).2)) (Int.toNat (Int.tmod (w64 d) ((r1.length : Nat) : Int))) (0, 0)).1, w64 (((List.getD (List.set r1 (Int.toNat (Int.tmod (w64 d) ((r1.length : Nat) : Int))) (w64 (((List.getD r1 (Int.toNat (Int.tmod (w64 d) ((r1.length : Nat) : Int))) (0, 0)).1) - 1), (List.getD r1 (Int.toNat (Int.tmod (w64 d) ((r1.length : Nat) : Int))) (0, 0)).2)) (Int.toNat (Int.tmod (w64 d) ((r1.length : Nat) : Int))) (0, 0)).2) + 1))) 0 61 2), (2, rc (encI .i64) r2.1 0 3 1), (1, rc encP r1 0 61 2), (0, .cells [.int .u8 a_0_0, .int .u8 a_0_1, .int .u8 a_1_0, .int .u8 a_1_1, .int .u8 a_2_0, .int .u8 a_2_1, .int .u8 a_3_0, .int .u8 a_3_1, .int .u8 a_4_0, .int .u8 a_4_1, .int .u8 a_5_0, .int .u8 a_5_1, .int .u8 a_6_0, .int .u8 a_6_1, .int .u8 a_7_0, .int .u8 a_7_1] 0 56 0)]) (c' := 7) ?_ (by kernel_rfl)
                refine XR.runS E0_ok 1 5 [(9, s0 1 r1.length), (10, ii (w64 (1 + (Int.tmod (w64 c) 3)))), (11, s0 2 r2.1.length), (12, ii r2.2), (13, ii r3.1), (14, ii r6.2), (15, ii (Int.tmod (w64 d) ((r1.length : Nat) : Int))), (16, s0 4 r1.length), (17, s0 6 o2.length), (18, ii r6.1), (19, ii r7.1), (20, ii r7.2)] rfl (by kernel_rfl) ?_
                refine XR.done (by kernel_rfl) ?_
                show XQ _ _ _ _ _ _ _ _
                refine XQ.seq E0_ok (by kernel_rfl) ?_
                refine XQ.seq E0_ok (by kernel_rfl) ?_
                refine XQ.region (by kernel_rfl) ?_
                refine XR.runS E0_ok 1 3 [(9, s0 1 r1.length), (10, ii (w64 (1 + (Int.tmod (w64 c) 3)))), (11, s0 2 r2.1.length), (12, ii r2.2), (13, ii r3.1), (15, ii (Int.tmod (w64 d) ((r1.length : Nat) : Int))), (16, s0 4 r1.length), (17, s0 6 o2.length), (18, ii r6.1), (19, ii r7.1), (20, ii r7.2), (107, .bool (r6.2 != 0))] rfl (by kernel_rfl) ?_
                cases b24 : (r6.2 != 0 : Bool) with
                | true =>
                  have h := cT b24 h
                  refine XR.runS E0_ok 1 19 [(9, s0 1 r1.length), (10, ii (w64 (1 + (Int.tmod (w64 c) 3)))), (11, s0 2 r2.1.length), (12, ii r2.2), (15, ii (Int.tmod (w64 d) ((r1.length : Nat) : Int))), (16, s0 4 r1.length), (17, s0 6 o2.length), (126, .bool true)] rfl (by kernel_rfl) ?_
                  refine XR.done (by kernel_rfl) ?_
                  show XQ _ _ _ _ _ _ _ _
                  refine XQ.cond (s := (.tmp 126)) (b := true) (by kernel_rfl) (by kernel_rfl) (fun _ => ?_) (fun q => by cases q)
                  refine XQ.seq E0_ok (by kernel_rfl) ?_
                  refine XQ.region (by kernel_rfl) ?_
                  refine XR.runS E0_ok 1 1 [(8, .bool false)] rfl (by kernel_rfl) ?_
                  refine XR.done (by kernel_rfl) ?_
                  show XQ _ _ _ _ _ _ _ _
                  refine XQ.ret (by kernel_rfl) ?_
                  have h := Option.some.inj h
                  subst h
                  exact ⟨fun i q => (by cases q), .bool false, (by kernel_rfl), rfl⟩
                | false =>
                  have h := cF b24 h
                  refine XR.runS E0_ok 1 4 [(9, s0 1 r1.length), (10, ii (w64 (1 + (Int.tmod (w64 c) 3)))), (11, s0 2 r2.1.length), (12, ii r2.2), (13, ii r3.1), (15, ii (Int.tmod (w64 d) ((r1.length : Nat) : Int))), (16, s0 4 r1.length), (17, s0 6 o2.length), (18, ii r6.1), (19, ii r7.1), (111, .bool (r7.2 != 0))] rfl (by kernel_rfl) ?_
                  cases b25 : (r7.2 != 0 : Bool) with
                  | true =>
                    have h := cT b25 h
                    refine XR.runS E0_ok 1 15 [(9, s0 1 r1.length), (10, ii (w64 (1 + (Int.tmod (w64 c) 3)))), (11, s0 2 r2.1.length), (12, ii r2.2), (15, ii (Int.tmod (w64 d) ((r1.length : Nat) : Int))), (16, s0 4 r1.length), (17, s0 6 o2.length), (126, .bool true)] rfl (by kernel_rfl) ?_
                    refine XR.done (by kernel_rfl) ?_
                    show XQ _ _ _ _ _ _ _ _
                    refine XQ.cond (s := (.tmp 126)) (b := true) (by kernel_rfl) (by kernel_rfl) (fun _ => ?_) (fun q => by cases q)
                    refine XQ.seq E0_ok (by kernel_rfl) ?_
                    refine XQ.region (by kernel_rfl) ?_
                    refine XR.runS E0_ok 1 1 [(8, .bool false)] rfl (by kernel_rfl) ?_
                    refine XR.done (by kernel_rfl) ?_
                    show XQ _ _ _ _ _ _ _ _
                    refine XQ.ret (by kernel_rfl) ?_
                    have h := Option.some.inj h
                    subst h
                    exact ⟨fun i q => (by cases q), .bool false, (by kernel_rfl), rfl⟩
                  | false =>
                    have h := cF b25 h
                    refine XR.runS E0_ok 1 5 [(9, s0 1 r1.length), (10, ii (w64 (1 + (Int.tmod (w64 c) 3)))), (11, s0 2 r2.1.length), (12, ii r2.2), (13, ii r3.1), (15, ii (Int.tmod (w64 d) ((r1.length : Nat) : Int))), (16, s0 4 r1.length), (17, s0 6 o2.length), (19, ii r7.1), (116, .bool (decide (r6.1 > r3.1)))] rfl (by kernel_rfl) ?_
                    cases b26 : (decide (r6.1 > r3.1) : Bool) with
                    | true =>
                      have h := cT b26 h
                      refine XR.runS E0_ok 1 10 [(9, s0 1 r1.length), (10, ii (w64 (1 + (Int.tmod (w64 c) 3)))), (11, s0 2 r2.1.length), (12, ii r2.2), (15, ii (Int.tmod (w64 d) ((r1.length : Nat) : Int))), (16, s0 4 r1.length), (17, s0 6 o2.length), (126, .bool true)] rfl (by kernel_rfl) ?_
                      refine XR.done (by kernel_rfl) ?_
                      show XQ _ _ _ _ _ _ _ _
                      refine XQ.cond (s := (.tmp 126)) (b := true) (by kernel_rfl) (by kernel_rfl) (fun _ => ?_) (fun q => by cases q)
                      refine XQ.seq E0_ok (by kernel_rfl) ?_
                      refine XQ.region (by kernel_rfl) ?_
                      refine XR.runS E0_ok 1 1 [(8, .bool false)] rfl (by kernel_rfl) ?_
                      refine XR.done (by kernel_rfl) ?_
                      show XQ _ _ _ _ _ _ _ _
                      refine XQ.ret (by kernel_rfl) ?_
                      have h := Option.some.inj h
                      subst h
                      exact ⟨fun i q => (by cases q), .bool false, (by kernel_rfl), rfl⟩
                    | false =>
                      have h := cF b26 h
                      refine XR.runS E0_ok 1 5 [(9, s0 1 r1.length), (10, ii (w64 (1 + (Int.tmod (w64 c) 3)))), (11, s0 2 r2.1.length), (12, ii r2.2), (13, ii r3.1), (15, ii (Int.tmod (w64 d) ((r1.length : Nat) : Int))), (16, s0 4 r1.length), (17, s0 6 o2.length), (19, ii r7.1), (121, .bool (decide (r7.1 > r3.1)))] rfl (by kernel_rfl) ?_
                      cases b27 : (decide (r7.1 > r3.1) : Bool) with
                      | true =>
                        have h := cT b27 h
                        refine XR.runS E0_ok 1 5 [(9, s0 1 r1.length), (10, ii (w64 (1 + (Int.tmod (w64 c) 3)))), (11, s0 2 r2.1.length), (12, ii r2.2), (15, ii (Int.tmod (w64 d) ((r1.length : Nat) : Int))), (16, s0 4 r1.length), (17, s0 6 o2.length), (126, .bool true)] rfl (by kernel_rfl) ?_
                        refine XR.done (by kernel_rfl) ?_
                        show XQ _ _ _ _ _ _ _ _
                        refine XQ.cond (s := (.tmp 126)) (b := true) (by kernel_rfl) (by kernel_rfl) (fun _ => ?_) (fun q => by cases q)
                        refine XQ.seq E0_ok (by kernel_rfl) ?_
                        refine XQ.region (by kernel_rfl) ?_
                        refine XR.runS E0_ok 1 1 [(8, .bool false)] rfl (by kernel_rfl) ?_
                        refine XR.done (by kernel_rfl) ?_
                        show XQ _ _ _ _ _ _ _ _
                        refine XQ.ret (by kernel_rfl) ?_
                        have h := Option.some.inj h
                        subst h
                        exact ⟨fun i q => (by cases q), .bool false, (by kernel_rfl), rfl⟩
                      | false =>
                        have h := cF b27 h
                        refine XR.runS E0_ok 1 5 [(9, s0 1 r1.length), (10, ii (w64 (1 + (Int.tmod (w64 c) 3)))), (11, s0 2 r2.1.length), (12, ii r2.2), (15, ii (Int.tmod (w64 d) ((r1.length : Nat) : Int))), (16, s0 4 r1.length), (17, s0 6 o2.length), (126, .bool (decide (r7.1 < (w64 (r3.1 - 1)))))] rfl (by kernel_rfl) ?_
                        refine XR.done (by kernel_rfl) ?_
                        show XQ _ _ _ _ _ _ _ _
                        cases b28 : (decide (r7.1 < (w64 (r3.1 - 1))) : Bool) with
                        | true =>
                          have h := cT b28 h
                          refine XQ.cond (s := (.tmp 126)) (b := true) (by kernel_rfl) (by kernel_rfl) (fun _ => ?_) (fun q => by cases q)
                          refine XQ.seq E0_ok (by kernel_rfl) ?_
                          refine XQ.region (by kernel_rfl) ?_
                          refine XR.runS E0_ok 1 1 [(8, .bool false)] rfl (by kernel_rfl) ?_
                          refine XR.done (by kernel_rfl) ?_
                          show XQ _ _ _ _ _ _ _ _
                          refine XQ.ret (by kernel_rfl) ?_
                          have h := Option.some.inj h
                          subst h
                          exact ⟨fun i q => (by cases q), .bool false, (by kernel_rfl), rfl⟩
                        | false =>
                          have h := cF b28 h
                          refine XQ.cond (s := (.tmp 126)) (b := false) (by kernel_rfl) (by kernel_rfl) (fun q => by cases q) (fun _ => ?_)
                          refine XQ.skip (by kernel_rfl) ?_
                          show XQ _ _ _ _ _ _ _ _
                          refine XQ.seq E0_ok (by kernel_rfl) ?_
                          refine XQ.seq E0_ok (by kernel_rfl) ?_
                          refine XQ.region (by kernel_rfl) ?_
                          refine XR.runS E0_ok 1 2 [(9, s0 1 r1.length), (10, ii (w64 (1 + (Int.tmod (w64 c) 3)))), (11, s0 2 r2.1.length), (15, ii (Int.tmod (w64 d) ((r1.length : Nat) : Int))), (16, s0 4 r1.length), (17, s0 6 o2.length), (128, .bool (r2.2 != 0))] rfl (by kernel_rfl) ?_
                          refine XR.done (by kernel_rfl) ?_
                          show XQ _ _ _ _ _ _ _ _
                          rw [b3]
                          refine XQ.cond (s := (.tmp 128)) (b := false) (by kernel_rfl) (by kernel_rfl) (fun q => by cases q) (fun _ => ?_)
                          refine XQ.skip (by kernel_rfl) ?_
                          show XQ _ _ _ _ _ _ _ _
                          refine XQ.seq E0_ok (by kernel_rfl) ?_
                          refine XQ.region (by kernel_rfl) ?_
                          refine XR.runS E0_ok 1 3 [(9, s0 1 r1.length), (10, ii (w64 (1 + (Int.tmod (w64 c) 3)))), (11, s0 2 r2.1.length), (15, ii (Int.tmod (w64 d) ((r1.length : Nat) : Int))), (17, s0 6 o2.length), (130, s0 4 r1.length), (131, ii (w64 (1 + (Int.tmod (w64 c) 3)))), (132, s0 2 r2.1.length)] rfl (by kernel_rfl) ?_
                          obtain ⟨r8, r8_h, h⟩ := bS h
                          refine XR.call E0_ok [9, 10, 11, 15, 17, 133] rfl (K := 21) (args := [s0 4 r1.length, ii (w64 (1 + (Int.tmod (w64 c) 3))), s0 2 r2.1.length]) (d := (some (path 12 133))) (by kernel_rfl) (KQ.call (KC.quiet E0_ok (args0 := [s0 0 r1.length, ii (w64 (1 + (Int.tmod (w64 c) 3))), s0 1 r2.1.length]) (h0 := [(1, rc (encI .i64) r2.1 (0 + ((rowC (encI .i64) r2.1).length + 1)) 3 1), (0, rc encP (List.set (List.set r1 (Int.toNat (Int.tmod (w64 d) ((r1.length : Nat) : Int))) (w64 (((List.getD r1 (Int.toNat (Int.tmod (w64 d) ((r1.length : Nat) : Int))) (0, 0)).1) - 1), (List.getD r1 (Int.toNat (Int.tmod (w64 d) ((r1.length : Nat) : Int))) (0, 0)).2)) (Int.toNat (Int.tmod (w64 d) ((r1.length : Nat) : Int))) ((List.getD (List.set r1 (Int.toNat (Int.tmod (w64 d) ((r1.length : Nat) : Int))) (w64 (((List.getD r1 (Int.toNat (Int.tmod (w64 d) ((r1.length : Nat) : Int))) (0, 0)).1) - 1), (List.getD r1 (Int.toNat (Int.tmod (w64 d) ((r1.length : Nat) : Int))) (0, 0)).2)) (Int.toNat (Int.tmod (w64 d) ((r1.length : Nat) : Int))) (0, 0)).1, w64 (((List.getD (List.set r1 (Int.toNat (Int.tmod (w64 d) ((r1.length : Nat) : Int))) (w64 (((List.getD r1 (Int.toNat (Int.tmod (w64 d) ((r1.length : Nat) : Int))) (0, 0)).1) - 1), (List.getD r1 (Int.toNat (Int.tmod (w64 d) ((r1.length : Nat) : Int))) (0, 0)).2)) (Int.toNat (Int.tmod (w64 d) ((r1.length : Nat) : Int))) (0, 0)).2) + 1))) (0 + ((rowC encP (List.set (List.set r1 (Int.toNat (Int.tmod (w64 d) ((r1.length : Nat) : Int))) (w64 (((List.getD r1 (Int.toNat (Int.tmod (w64 d) ((r1.length : Nat) : Int))) (0, 0)).1) - 1), (List.getD r1 (Int.toNat (Int.tmod (w64 d) ((r1.length : Nat) : Int))) (0, 0)).2)) (Int.toNat (Int.tmod (w64 d) ((r1.length : Nat) : Int))) ((List.getD (List.set r1 (Int.toNat (Int.tmod (w64 d) ((r1.length : Nat) : Int))) (w64 (((List.getD r1 (Int.toNat (Int.tmod (w64 d) ((r1.length : Nat) : Int))) (0, 0)).1) - 1), (List.getD r1 (Int.toNat (Int.tmod (w64 d) ((r1.length : Nat) : Int))) (0, 0)).2)) (Int.toNat (Int.tmod (w64 d) ((r1.length : Nat) : Int))) (0, 0)).1, w64 (((List.getD (List.set r1 (Int.toNat (Int.tmod (w64 d) ((r1.length : Nat) : Int))) (w64 (((List.getD r1 (Int.toNat (Int.tmod (w64 d) ((r1.length : Nat) : Int))) (0, 0)).1) - 1), (List.getD r1 (Int.toNat (Int.tmod (w64 d) ((r1.length : Nat) : Int))) (0, 0)).2)) (Int.toNat (Int.tmod (w64 d) ((r1.length : Nat) : Int))) (0, 0)).2) + 1)))).length + 1)) 61 2)]) (n := 2) (V := ii r8) [4, 2] (by have q := (f21_ok m (0 + ((rowC encP (List.set (List.set r1 (Int.toNat (Int.tmod (w64 d) ((r1.length : Nat) : Int))) (w64 (((List.getD r1 (Int.toNat (Int.tmod (w64 d) ((r1.length : Nat) : Int))) (0, 0)).1) - 1), (List.getD r1 (Int.toNat (Int.tmod (w64 d) ((r1.length : Nat) : Int))) (0, 0)).2)) (Int.toNat (Int.tmod (w64 d) ((r1.length : Nat) : Int))) ((List.getD (List.set r1 (Int.toNat (Int.tmod (w64 d) ((r1.length : Nat) : Int))) (w64 (((List.getD r1 (Int.toNat (Int.tmod (w64 d) ((r1.length : Nat) : Int))) (0, 0)).1) - 1), (List.getD r1 (Int.toNat (Int.tmod (w64 d) ((r1.length : Nat) : Int))) (0, 0)).2)) (Int.toNat (Int.tmod (w64 d) ((r1.length : Nat) : Int))) (0, 0)).1, w64 (((List.getD (List.set r1 (Int.toNat (Int.tmod (w64 d) ((r1.length : Nat) : Int))) (w64 (((List.getD r1 (Int.toNat (Int.tmod (w64 d) ((r1.length : Nat) : Int))) (0, 0)).1) - 1), (List.getD r1 (Int.toNat (Int.tmod (w64 d) ((r1.length : Nat) : Int))) (0, 0)).2)) (Int.toNat (Int.tmod (w64 d) ((r1.length : Nat) : Int))) (0, 0)).2) + 1)))).length + 1)) 61 (0 + ((rowC (encI .i64) r2.1).length + 1)) 3 (List.set (List.set r1 (Int.toNat (Int.tmod (w64 d) ((r1.length : Nat) : Int))) (w64 (((List.getD r1 (Int.toNat (Int.tmod (w64 d) ((r1.length : Nat) : Int))) (0, 0)).1) - 1), (List.getD r1 (Int.toNat (Int.tmod (w64 d) ((r1.length : Nat) : Int))) (0, 0)).2)) (Int.toNat (Int.tmod (w64 d) ((r1.length : Nat) : Int))) ((List.getD (List.set r1 (Int.toNat (Int.tmod (w64 d) ((r1.length : Nat) : Int))) (w64 (((List.getD r1 (Int.toNat (Int.tmod (w64 d) ((r1.length : Nat) : Int))) (0, 0)).1) - 1), (List.getD r1 (Int.toNat (Int.tmod (w64 d) ((r1.length : Nat) : Int))) (0, 0)).2)) (Int.toNat (Int.tmod (w64 d) ((r1.length : Nat) : Int))) (0, 0)).1, w64 (((List.getD (List.set r1 (Int.toNat (Int.tmod (w64 d) ((r1.length : Nat) : Int))) (w64 (((List.getD r1 (Int.toNat (Int.tmod (w64 d) ((r1.length : Nat) : Int))) (0, 0)).1) - 1), (List.getD r1 (Int.toNat (Int.tmod (w64 d) ((r1.length : Nat) : Int))) (0, 0)).2)) (Int.toNat (Int.tmod (w64 d) ((r1.length : Nat) : Int))) (0, 0)).2) + 1))) (w64 (1 + (Int.tmod (w64 c) 3))) r2.1 r8 r8_h); simp only [List.length_set] at q; exact q) rfl (by rfl) (by decide) rfl (by kernel_rfl) ⟨⟨_, _, rfl, rfl, .inl ⟨rfl, rowC_scal (encI_ok .i64) _⟩⟩, ⟨_, _, rfl, rfl, .inl ⟨rfl, rowC_scal encP_ok _⟩⟩, trivial⟩) rfl) ?_
                          rintro _ _ _ ⟨rfl, rfl, rfl⟩
                          refine XR.conv (σ' := [(9, s0 1 r1.length), (10, ii (w64 (1 + (Int.tmod (w64 c) 3)))), (11, s0 2 r2.1.length), (15, ii (Int.tmod (w64 d) ((r1.length : Nat) : Int))), (17, s0 6 o2.length), (133, ii r8)]) (h' := [(6, rc encP o2 0 61 2), (4, rc encP (List.set (List.set r1 (Int.toNat (Int.tmod (w64 d) ((r1.length : Nat) : Int))) (w64 (((List.getD r1 (Int.toNat (Int.tmod (w64 d) ((r1.length : Nat) : Int))) (0, 0)).1) - 1), (List.getD r1 (Int.toNat (Int.tmod (w64 d) ((r1.length : Nat) : Int))) (0, 0)).2)) (Int.toNat (Int.tmod (w64 d) ((r1.length : Nat) : Int))) ((List.getD (List.set r1 (Int.toNat (Int.tmod (w64 d) ((r1.length : Nat) : Int))) (w64 (((List.getD r1 (Int.toNat (Int.tmod (w64 d) ((r1.length : Nat) : Int))) (0, 0)).1) - 1), (List.getD r1 (Int.toNat (Int.tmod (w64 d) ((r1.length : Nat) : Int))) (0, 0)).2)) (Int.toNat (Int.tmod (w64 d) ((r1.length : Nat) : Int))) (0, 0)).1, w64 (((List.getD (List.set r1 (Int.toNat (Int.tmod (w64 d) ((r1.length : Nat) : Int))) (w64 (((List.getD r1 (Int.toNat (Int.tmod (w64 d) ((r1.length : Nat) : Int))) (0, 0)).1) - 1), (List.getD r1 (Int.toNat (Int.tmod (w64 d) ((r1.length : Nat) : Int))) (0, 0)).2)) (Int.toNat (Int.tmod (w64 d) ((r1.length : Nat) : Int))) (0, 0)).2) + 1))) 0 61 2), (2, rc (encI .i64) r2.1 0 3 1), (1, rc encP r1 0 61 2), (0, .cells [.int .u8 a_0_0, .int .u8 a_0_1, .int .u8 a_1_0, .int .u8 a_1_1, .int .u8 a_2_0, .int .u8 a_2_1, .int .u8 a_3_0, .int .u8 a_3_1, .int .u8 a_4_0, .int .u8 a_4_1, .int .u8 a_5_0, .int .u8 a_5_1, .int .u8 a_6_0, .int .u8 a_6_1, .int .u8 a_7_0, .int .u8 a_7_1] 0 56 0)]) (c' := 7) ?_ (by kernel_rfl)
                          refine XR.runS E0_ok 1 2 [(9, s0 1 r1.length), (10, ii (w64 (1 + (Int.tmod (w64 c) 3)))), (11, s0 2 r2.1.length), (15, ii (Int.tmod (w64 d) ((r1.length : Nat) : Int))), (17, s0 6 o2.length), (135, .bool (r8 == 0))] rfl (by kernel_rfl) ?_
                          cases b29 : (r8 == 0 : Bool) with
                          | true =>
                            have h := cT b29 h
                            refine XR.runS E0_ok 1 7 [(9, s0 1 r1.length), (10, ii (w64 (1 + (Int.tmod (w64 c) 3)))), (11, s0 2 r2.1.length), (15, ii (Int.tmod (w64 d) ((r1.length : Nat) : Int))), (17, s0 6 o2.length), (142, .bool (((r2.1.length : Nat) : Int) == ((r1.length : Nat) : Int)))] rfl (by kernel_rfl) ?_
                            cases b30 : (((r2.1.length : Nat) : Int) == ((r1.length : Nat) : Int) : Bool) with
                            | true =>
                              have h := cT b30 h
                              refine XR.runS E0_ok 1 3 [(9, s0 1 r1.length), (10, ii (w64 (1 + (Int.tmod (w64 c) 3)))), (11, s0 2 r2.1.length), (15, ii (Int.tmod (w64 d) ((r1.length : Nat) : Int))), (142, .bool true), (143, s0 6 o2.length), (144, ii (w64 (1 + (Int.tmod (w64 c) 3)))), (145, s0 2 r2.1.length)] rfl (by kernel_rfl) ?_
                              cases b31 : (fitsB r2.1.length 8 : Bool) with
                              | false => cases (cF b31 h)
                              | true =>
                                have h := cT b31 h
                                refine XR.call E0_ok [9, 10, 11, 15, 142, 143, 144, 146] rfl (K := 53) (args := [s0 2 r2.1.length]) (d := (some (path 12 146))) (by kernel_rfl) (clone53_all (xs := r2.1) (fz := 0) (e0 := 3) (es0 := 1) (c := 7) (by kernel_rfl) (by simp) (Nat.le_refl _) b31) ?_
                                rintro _ _ _ ⟨rfl, rfl, rfl⟩
                                refine XR.conv (σ' := [(9, s0 1 r1.length), (10, ii (w64 (1 + (Int.tmod (w64 c) 3)))), (11, s0 2 r2.1.length), (15, ii (Int.tmod (w64 d) ((r1.length : Nat) : Int))), (142, .bool true), (143, s0 6 o2.length), (144, ii (w64 (1 + (Int.tmod (w64 c) 3)))), (146, s0 8 r2.1.length)]) (h' := [(8, rc (encI .i64) r2.1 0 3 1), (6, rc encP o2 0 61 2), (4, rc encP (List.set (List.set r1 (Int.toNat (Int.tmod (w64 d) ((r1.length : Nat) : Int))) (w64 (((List.getD r1 (Int.toNat (Int.tmod (w64 d) ((r1.length : Nat) : Int))) (0, 0)).1) - 1), (List.getD r1 (Int.toNat (Int.tmod (w64 d) ((r1.length : Nat) : Int))) (0, 0)).2)) (Int.toNat (Int.tmod (w64 d) ((r1.length : Nat) : Int))) ((List.getD (List.set r1 (Int.toNat (Int.tmod (w64 d) ((r1.length : Nat) : Int))) (w64 (((List.getD r1 (Int.toNat (Int.tmod (w64 d) ((r1.length : Nat) : Int))) (0, 0)).1) - 1), (List.getD r1 (Int.toNat (Int.tmod (w64 d) ((r1.length : Nat) : Int))) (0, 0)).2)) (Int.toNat (Int.tmod (w64 d) ((r1.length : Nat) : Int))) (0, 0)).1, w64 (((List.getD (List.set r1 (Int.toNat (Int.tmod (w64 d) ((r1.length : Nat) : Int))) (w64 (((List.getD r1 (Int.toNat (Int.tmod (w64 d) ((r1.length : Nat) : Int))) (0, 0)).1) - 1), (List.getD r1 (Int.toNat (Int.tmod (w64 d) ((r1.length : Nat) : Int))) (0, 0)).2)) (Int.toNat (Int.tmod (w64 d) ((r1.length : Nat) : Int))) (0, 0)).2) + 1))) 0 61 2), (2, rc (encI .i64) r2.1 0 3 1), (1, rc encP r1 0 61 2), (0, .cells [.int .u8 a_0_0, .int .u8 a_0_1, .int .u8 a_1_0, .int .u8 a_1_1, .int .u8 a_2_0, .int .u8 a_2_1, .int .u8 a_3_0, .int .u8 a_3_1, .int .u8 a_4_0, .int .u8 a_4_1, .int .u8 a_5_0, .int .u8 a_5_1, .int .u8 a_6_0, .int .u8 a_6_1, .int .u8 a_7_0, .int .u8 a_7_1] 0 56 0)]) (c' := 9) ?_ (by kernel_rfl)
                                refine XR.runS E0_ok 1 3 [(9, s0 1 r1.length), (10, ii (w64 (1 + (Int.tmod (w64 c) 3)))), (11, s0 2 r2.1.length), (142, .bool true), (143, s0 6 o2.length), (144, ii (w64 (1 + (Int.tmod (w64 c) 3)))), (146, s0 8 r2.1.length), (147, ii (Int.tmod (w64 d) ((r1.length : Nat) : Int))), (149, ii (w64 ((Int.tmod (w64 d) ((r1.length : Nat) : Int)) + 1)))] rfl (by kernel_rfl) ?_
                                obtain ⟨o3, o3_h, h⟩ := bS h
                                refine XR.call E0_ok [9, 10, 11, 142, 143, 144, 150] rfl (K := 52) (args := [s0 8 r2.1.length, ii (Int.tmod (w64 d) ((r1.length : Nat) : Int)), ii (w64 ((Int.tmod (w64 d) ((r1.length : Nat) : Int)) + 1))]) (d := (some (path 12 150))) (by kernel_rfl) (f12_3_ok m a_0_0 a_0_1 a_1_0 a_1_1 a_2_0 a_2_1 a_3_0 a_3_1 a_4_0 a_4_1 a_5_0 a_5_1 a_6_0 a_6_1 a_7_0 a_7_1 o2 (Int.tmod (w64 d) ((r1.length : Nat) : Int)) (w64 ((Int.tmod (w64 d) ((r1.length : Nat) : Int)) + 1)) r1 r2.1 (List.set (List.set r1 (Int.toNat (Int.tmod (w64 d) ((r1.length : Nat) : Int))) (w64 (((List.getD r1 (Int.toNat (Int.tmod (w64 d) ((r1.length : Nat) : Int))) (0, 0)).1) - 1), (List.getD r1 (Int.toNat (Int.tmod (w64 d) ((r1.length : Nat) : Int))) (0, 0)).2)) (Int.toNat (Int.tmod (w64 d) ((r1.length : Nat) : Int))) ((List.getD (List.set r1 (Int.toNat (Int.tmod (w64 d) ((r1.length : Nat) : Int))) (w64 (((List.getD r1 (Int.toNat (Int.tmod (w64 d) ((r1.length : Nat) : Int))) (0, 0)).1) - 1), (List.getD r1 (Int.toNat (Int.tmod (w64 d) ((r1.length : Nat) : Int))) (0, 0)).2)) (Int.toNat (Int.tmod (w64 d) ((r1.length : Nat) : Int))) (0, 0)).1, w64 (((List.getD (List.set r1 (Int.toNat (Int.tmod (w64 d) ((r1.length : Nat) : Int))) (w64 (((List.getD r1 (Int.toNat (Int.tmod (w64 d) ((r1.length : Nat) : Int))) (0, 0)).1) - 1), (List.getD r1 (Int.toNat (Int.tmod (w64 d) ((r1.length : Nat) : Int))) (0, 0)).2)) (Int.toNat (Int.tmod (w64 d) ((r1.length : Nat) : Int))) (0, 0)).2) + 1))) r2.1 o3 o3_h (fun v h' c' => v = s0 8 o3.length ∧ h' = [(8, rc (encI .i64) o3 0 3 1), (6, rc encP o2 0 61 2), (4, rc encP ((List.set (List.set r1 (Int.toNat (Int.tmod (w64 d) ((r1.length : Nat) : Int))) (w64 (((List.getD r1 (Int.toNat (Int.tmod (w64 d) ((r1.length : Nat) : Int))) (0, 0)).1) - 1), (List.getD r1 (Int.toNat (Int.tmod (w64 d) ((r1.length : Nat) : Int))) (0, 0)).2)) (Int.toNat (Int.tmod (w64 d) ((r1.length : Nat) : Int))) ((List.getD (List.set r1 (Int.toNat (Int.tmod (w64 d) ((r1.length : Nat) : Int))) (w64 (((List.getD r1 (Int.toNat (Int.tmod (w64 d) ((r1.length : Nat) : Int))) (0, 0)).1) - 1), (List.getD r1 (Int.toNat (Int.tmod (w64 d) ((r1.length : Nat) : Int))) (0, 0)).2)) (Int.toNat (Int.tmod (w64 d) ((r1.length : Nat) : Int))) (0, 0)).1, w64 (((List.getD (List.set r1 (Int.toNat (Int.tmod (w64 d) ((r1.length : Nat) : Int))) (w64 (((List.getD r1 (Int.toNat (Int.tmod (w64 d) ((r1.length : Nat) : Int))) (0, 0)).1) - 1), (List.getD r1 (Int.toNat (Int.tmod (w64 d) ((r1.length : Nat) : Int))) (0, 0)).2)) (Int.toNat (Int.tmod (w64 d) ((r1.length : Nat) : Int))) (0, 0)).2) + 1)))) 0 61 2), (2, rc (encI .i64) r2.1 0 3 1), (1, rc encP r1 0 61 2), (0, .cells [.int .u8 a_0_0, .int .u8 a_0_1, .int .u8 a_1_0, .int .u8 a_1_1, .int .u8 a_2_0, .int .u8 a_2_1, .int .u8 a_3_0, .int .u8 a_3_1, .int .u8 a_4_0, .int .u8 a_4_1, .int .u8 a_5_0, .int .u8 a_5_1, .int .u8 a_6_0, .int .u8 a_6_1, .int .u8 a_7_0, .int .u8 a_7_1] 0 56 0)] ∧ c' = 9) ⟨rfl, rfl, rfl⟩) ?_
                                rintro _ _ _ ⟨rfl, rfl, rfl⟩
                                refine XR.conv (σ' := [(9, s0 1 r1.length), (10, ii (w64 (1 + (Int.tmod (w64 c) 3)))), (11, s0 2 r2.1.length), (142, .bool true), (143, s0 6 o2.length), (144, ii (w64 (1 + (Int.tmod (w64 c) 3)))), (150, s0 8 o3.length)]) (h' := [(8, rc (encI .i64) o3 0 3 1), (6, rc encP o2 0 61 2), (4, rc encP ((List.set (List.set r1 (Int.toNat (Int.tmod (w64 d) ((r1.length : Nat) : Int))) (w64 (((List.getD r1 (Int.toNat (Int.tmod (w64 d) ((r1.length : Nat) : Int))) (0, 0)).1) - 1), (List.getD r1 (Int.toNat (Int.tmod (w64 d) ((r1.length : Nat) : Int))) (0, 0)).2)) (Int.toNat (Int.tmod (w64 d) ((r1.length : Nat) : Int))) ((List.getD (List.set r1 (Int.toNat (Int.tmod (w64 d) ((r1.length : Nat) : Int))) (w64 (((List.getD r1 (Int.toNat (Int.tmod (w64 d) ((r1.length : Nat) : Int))) (0, 0)).1) - 1), (List.getD r1 (Int.toNat (Int.tmod (w64 d) ((r1.length : Nat) : Int))) (0, 0)).2)) (Int.toNat (Int.tmod (w64 d) ((r1.length : Nat) : Int))) (0, 0)).1, w64 (((List.getD (List.set r1 (Int.toNat (Int.tmod (w64 d) ((r1.length : Nat) : Int))) (w64 (((List.getD r1 (Int.toNat (Int.tmod (w64 d) ((r1.length : Nat) : Int))) (0, 0)).1) - 1), (List.getD r1 (Int.toNat (Int.tmod (w64 d) ((r1.length : Nat) : Int))) (0, 0)).2)) (Int.toNat (Int.tmod (w64 d) ((r1.length : Nat) : Int))) (0, 0)).2) + 1)))) 0 61 2), (2, rc (encI .i64) r2.1 0 3 1), (1, rc encP r1 0 61 2), (0, .cells [.int .u8 a_0_0, .int .u8 a_0_1, .int .u8 a_1_0, .int .u8 a_1_1, .int .u8 a_2_0, .int .u8 a_2_1, .int .u8 a_3_0, .int .u8 a_3_1, .int .u8 a_4_0, .int .u8 a_4_1, .int .u8 a_5_0, .int .u8 a_5_1, .int .u8 a_6_0, .int .u8 a_6_1, .int .u8 a_7_0, .int .u8 a_7_1] 0 56 0)]) (c' := 9) ?_ (by kernel_rfl)
                                obtain ⟨r9, r9_h, h⟩ := bS h
                                refine XR.call E0_ok [9, 10, 11, 142, 151] rfl (K := 21) (args := [s0 6 o2.length, ii (w64 (1 + (Int.tmod (w64 c) 3))), s0 8 o3.length]) (d := (some (path 12 151))) (by kernel_rfl) (KQ.call (KC.quiet E0_ok (args0 := [s0 0 o2.length, ii (w64 (1 + (Int.tmod (w64 c) 3))), s0 1 o3.length]) (h0 := [(1, rc (encI .i64) o3 (0 + ((rowC (encI .i64) o3).length + 1)) 3 1), (0, rc encP o2 (0 + ((rowC encP o2).length + 1)) 61 2)]) (n := 2) (V := ii r9) [6, 8] (f21_ok m (0 + ((rowC encP o2).length + 1)) 61 (0 + ((rowC (encI .i64) o3).length + 1)) 3 o2 (w64 (1 + (Int.tmod (w64 c) 3))) o3 r9 r9_h) rfl (by rfl) (by decide) rfl (by kernel_rfl) ⟨⟨_, _, rfl, rfl, .inl ⟨rfl, rowC_scal (encI_ok .i64) _⟩⟩, ⟨_, _, rfl, rfl, .inl ⟨rfl, rowC_scal encP_ok _⟩⟩, trivial⟩) rfl) ?_
                                rintro _ _ _ ⟨rfl, rfl, rfl⟩
                                refine XR.conv (σ' := [(9, s0 1 r1.length), (10, ii (w64 (1 + (Int.tmod (w64 c) 3)))), (11, s0 2 r2.1.length), (142, .bool true), (151, ii r9)]) (h' := [(8, rc (encI .i64) o3 0 3 1), (6, rc encP o2 0 61 2), (4, rc encP ((List.set (List.set r1 (Int.toNat (Int.tmod (w64 d) ((r1.length : Nat) : Int))) (w64 (((List.getD r1 (Int.toNat (Int.tmod (w64 d) ((r1.length : Nat) : Int))) (0, 0)).1) - 1), (List.getD r1 (Int.toNat (Int.tmod (w64 d) ((r1.length : Nat) : Int))) (0, 0)).2)) (Int.toNat (Int.tmod (w64 d) ((r1.length : Nat) : Int))) ((List.getD (List.set r1 (Int.toNat (Int.tmod (w64 d) ((r1.length : Nat) : Int))) (w64 (((List.getD r1 (Int.toNat (Int.tmod (w64 d) ((r1.length : Nat) : Int))) (0, 0)).1) - 1), (List.getD r1 (Int.toNat (Int.tmod (w64 d) ((r1.length : Nat) : Int))) (0, 0)).2)) (Int.toNat (Int.tmod (w64 d) ((r1.length : Nat) : Int))) (0, 0)).1, w64 (((List.getD (List.set r1 (Int.toNat (Int.tmod (w64 d) ((r1.length : Nat) : Int))) (w64 (((List.getD r1 (Int.toNat (Int.tmod (w64 d) ((r1.length : Nat) : Int))) (0, 0)).1) - 1), (List.getD r1 (Int.toNat (Int.tmod (w64 d) ((r1.length : Nat) : Int))) (0, 0)).2)) (Int.toNat (Int.tmod (w64 d) ((r1.length : Nat) : Int))) (0, 0)).2) + 1)))) 0 61 2), (2, rc (encI .i64) r2.1 0 3 1), (1, rc encP r1 0 61 2), (0, .cells [.int .u8 a_0_0, .int .u8 a_0_1, .int .u8 a_1_0, .int .u8 a_1_1, .int .u8 a_2_0, .int .u8 a_2_1, .int .u8 a_3_0, .int .u8 a_3_1, .int .u8 a_4_0, .int .u8 a_4_1, .int .u8 a_5_0, .int .u8 a_5_1, .int .u8 a_6_0, .int .u8 a_6_1, .int .u8 a_7_0, .int .u8 a_7_1] 0 56 0)]) (c' := 9) ?_ (by kernel_rfl)
                                refine XR.runS E0_ok 1 3 [(9, s0 1 r1.length), (10, ii (w64 (1 + (Int.tmod (w64 c) 3)))), (11, s0 2 r2.1.length), (154, .bool (r9 == 0))] rfl (by kernel_rfl) ?_
                                cases b33 : (r9 == 0 : Bool) with
                                | true =>
                                  have h := cT b33 h
                                  refine XR.runS E0_ok 1 4 [(154, .bool true), (155, s0 1 r1.length), (157, ii (w64 ((w64 (1 + (Int.tmod (w64 c) 3))) + 1))), (158, s0 2 r2.1.length)] rfl (by kernel_rfl) ?_
                                  obtain ⟨r10, r10_h, h⟩ := bS h
                                  refine XR.call E0_ok [154, 159] rfl (K := 21) (args := [s0 1 r1.length, ii (w64 ((w64 (1 + (Int.tmod (w64 c) 3))) + 1)), s0 2 r2.1.length]) (d := (some (path 12 159))) (by kernel_rfl) (KQ.call (KC.quiet E0_ok (args0 := [s0 0 r1.length, ii (w64 ((w64 (1 + (Int.tmod (w64 c) 3))) + 1)), s0 1 r2.1.length]) (h0 := [(1, rc (encI .i64) r2.1 (0 + ((rowC (encI .i64) r2.1).length + 1)) 3 1), (0, rc encP r1 (0 + ((rowC encP r1).length + 1)) 61 2)]) (n := 2) (V := ii r10) [1, 2] (f21_ok m (0 + ((rowC encP r1).length + 1)) 61 (0 + ((rowC (encI .i64) r2.1).length + 1)) 3 r1 (w64 ((w64 (1 + (Int.tmod (w64 c) 3))) + 1)) r2.1 r10 r10_h) rfl (by rfl) (by decide) rfl (by kernel_rfl) ⟨⟨_, _, rfl, rfl, .inl ⟨rfl, rowC_scal (encI_ok .i64) _⟩⟩, ⟨_, _, rfl, rfl, .inl ⟨rfl, rowC_scal encP_ok _⟩⟩, trivial⟩) rfl) ?_
                                  rintro _ _ _ ⟨rfl, rfl, rfl⟩
                                  refine XR.conv (σ' := [(154, .bool true), (159, ii r10)]) (h' := [(8, rc (encI .i64) o3 0 3 1), (6, rc encP o2 0 61 2), (4, rc encP ((List.set (List.set r1 (Int.toNat (Int.tmod (w64 d) ((r1.length : Nat) : Int))) (w64 (((List.getD r1 (Int.toNat (Int.tmod (w64 d) ((r1.length : Nat) : Int))) (0, 0)).1) - 1), (List.getD r1 (Int.toNat (Int.tmod (w64 d) ((r1.length : Nat) : Int))) (0, 0)).2)) (Int.toNat (Int.tmod (w64 d) ((r1.length : Nat) : Int))) ((List.getD (List.set r1 (Int.toNat (Int.tmod (w64 d) ((r1.length : Nat) : Int))) (w64 (((List.getD r1 (Int.toNat (Int.tmod (w64 d) ((r1.length : Nat) : Int))) (0, 0)).1) - 1), (List.getD r1 (Int.toNat (Int.tmod (w64 d) ((r1.length : Nat) : Int))) (0, 0)).2)) (Int.toNat (Int.tmod (w64 d) ((r1.length : Nat) : Int))) (0, 0)).1, w64 (((List.getD (List.set r1 (Int.toNat (Int.tmod (w64 d) ((r1.length : Nat) : Int))) (w64 (((List.getD r1 (Int.toNat (Int.tmod (w64 d) ((r1.length : Nat) : Int))) (0, 0)).1) - 1), (List.getD r1 (Int.toNat (Int.tmod (w64 d) ((r1.length : Nat) : Int))) (0, 0)).2)) (Int.toNat (Int.tmod (w64 d) ((r1.length : Nat) : Int))) (0, 0)).2) + 1)))) 0 61 2), (2, rc (encI .i64) r2.1 0 3 1), (1, rc encP r1 0 61 2), (0, .cells [.int .u8 a_0_0, .int .u8 a_0_1, .int .u8 a_1_0, .int .u8 a_1_1, .int .u8 a_2_0, .int .u8 a_2_1, .int .u8 a_3_0, .int .u8 a_3_1, .int .u8 a_4_0, .int .u8 a_4_1, .int .u8 a_5_0, .int .u8 a_5_1, .int .u8 a_6_0, .int .u8 a_6_1, .int .u8 a_7_0, .int .u8 a_7_1] 0 56 0)]) (c' := 9) ?_ (by kernel_rfl)
                                  refine XR.runS E0_ok 1 3 [(162, .bool (r10 == 0))] rfl (by kernel_rfl) ?_
                                  cases b34 : (r10 == 0 : Bool) with
                                  | true =>
                                    have h := cT b34 h
                                    refine XR.call E0_ok [162, 163] rfl (K := 16) (args := []) (d := (some (path 12 163))) (by kernel_rfl) (KC.of_calls E0_ok (F := Proofs.Try.f16) (v := .bool true) (by kernel_rfl) rfl rfl (works_ok)) ?_
                                    rintro _ _ _ ⟨rfl, rfl, rfl⟩
                                    refine XR.conv (σ' := [(162, .bool true), (163, .bool true)]) (h' := [(8, rc (encI .i64) o3 0 3 1), (6, rc encP o2 0 61 2), (4, rc encP ((List.set (List.set r1 (Int.toNat (Int.tmod (w64 d) ((r1.length : Nat) : Int))) (w64 (((List.getD r1 (Int.toNat (Int.tmod (w64 d) ((r1.length : Nat) : Int))) (0, 0)).1) - 1), (List.getD r1 (Int.toNat (Int.tmod (w64 d) ((r1.length : Nat) : Int))) (0, 0)).2)) (Int.toNat (Int.tmod (w64 d) ((r1.length : Nat) : Int))) ((List.getD (List.set r1 (Int.toNat (Int.tmod (w64 d) ((r1.length : Nat) : Int))) (w64 (((List.getD r1 (Int.toNat (Int.tmod (w64 d) ((r1.length : Nat) : Int))) (0, 0)).1) - 1), (List.getD r1 (Int.toNat (Int.tmod (w64 d) ((r1.length : Nat) : Int))) (0, 0)).2)) (Int.toNat (Int.tmod (w64 d) ((r1.length : Nat) : Int))) (0, 0)).1, w64 (((List.getD (List.set r1 (Int.toNat (Int.tmod (w64 d) ((r1.length : Nat) : Int))) (w64 (((List.getD r1 (Int.toNat (Int.tmod (w64 d) ((r1.length : Nat) : Int))) (0, 0)).1) - 1), (List.getD r1 (Int.toNat (Int.tmod (w64 d) ((r1.length : Nat) : Int))) (0, 0)).2)) (Int.toNat (Int.tmod (w64 d) ((r1.length : Nat) : Int))) (0, 0)).2) + 1)))) 0 61 2), (2, rc (encI .i64) r2.1 0 3 1), (1, rc encP r1 0 61 2), (0, .cells [.int .u8 a_0_0, .int .u8 a_0_1, .int .u8 a_1_0, .int .u8 a_1_1, .int .u8 a_2_0, .int .u8 a_2_1, .int .u8 a_3_0, .int .u8 a_3_1, .int .u8 a_4_0, .int .u8 a_4_1, .int .u8 a_5_0, .int .u8 a_5_1, .int .u8 a_6_0, .int .u8 a_6_1, .int .u8 a_7_0, .int .u8 a_7_1] 0 56 0)]) (c' := 9) ?_ (by kernel_rfl)
                                    refine XR.runS E0_ok 1 2 [(8, .bool true)] rfl (by kernel_rfl) ?_
                                    refine XR.done (by kernel_rfl) ?_
                                    show XQ _ _ _ _ _ _ _ _
                                    refine XQ.ret (by kernel_rfl) ?_
                                    have h := Option.some.inj h
                                    subst h
                                    exact ⟨fun i q => (by cases q), .bool true, (by kernel_rfl), rfl⟩
                                  | false =>
                                    have h := cF b34 h
                                    refine XR.runS E0_ok 1 3 [(8, .bool false)] rfl (by kernel_rfl) ?_
                                    refine XR.done (by kernel_rfl) ?_
                                    show XQ _ _ _ _ _ _ _ _
                                    refine XQ.ret (by kernel_rfl) ?_
                                    have h := Option.some.inj h
                                    subst h
                                    exact ⟨fun i q => (by cases q), .bool false, (by kernel_rfl), rfl⟩
                                | false =>
                                  have h := cF b33 h
                                  refine XR.runS E0_ok 1 11 [(8, .bool false)] rfl (by kernel_rfl) ?_
                                  refine XR.done (by kernel_rfl) ?_
                                  show XQ _ _ _ _ _ _ _ _
                                  refine XQ.ret (by kernel_rfl) ?_
                                  have h := Option.some.inj h
                                  subst h
                                  exact ⟨fun i q => (by cases q), .bool false, (by kernel_rfl), rfl⟩
                            | false =>
                              have h := cF b30 h
                              refine XR.runS E0_ok 1 23 [(8, .bool false)] rfl (by kernel_rfl) ?_
                              refine XR.done (by kernel_rfl) ?_
                              show XQ _ _ _ _ _ _ _ _
                              refine XQ.ret (by kernel_rfl) ?_
                              have h := Option.some.inj h
                              subst h
                              exact ⟨fun i q => (by cases q), .bool false, (by kernel_rfl), rfl⟩
                          | false =>
                            have h := cF b29 h
                            refine XR.runS E0_ok 1 30 [(8, .bool false)] rfl (by kernel_rfl) ?_
                            refine XR.done (by kernel_rfl) ?_
                            show XQ _ _ _ _ _ _ _ _
                            refine XQ.ret (by kernel_rfl) ?_
                            have h := Option.some.inj h
                            subst h
                            exact ⟨fun i q => (by cases q), .bool false, (by kernel_rfl), rfl⟩

end Go.Xm
