/- What these functions of the program compute, as functions in Lean, and the proofs that they do: vitolaref05.beside, vitolaref05.round. Conditions: none. -/
import Derived.Test.YtagagpkjlkoieaaPa
namespace Go.Xm
open Go.RowKit
set_option linter.unusedVariables false
set_option linter.unusedSimpArgs false
set_option maxRecDepth 20000

/-! vitola/vitolaref05.beside -/
noncomputable def f70_C70 : Code := Proofs.Try.f70.body.getD .skip
noncomputable def f70_C76 : Code := Proofs.Try.f76.body.getD .skip
noncomputable def f70_L1 : Code := lft (lft (rgt (lft (rgt (rgt f70_C76)))))
noncomputable def f70_L2 : Code := lft (lft (rgt (lft (rgt (rgt f70_C70)))))

def f70_1 (m : Nat) : Nat → Int → Int → Int → Int → List Int → Option (List Int)
  | 0, _, _, _, _, _ => none
  | fuel + 1, a_Marks, a_Step, a_Turns, x4_1, lh2_1 =>
    cond (decide (x4_1 < a_Marks)) (
      (f63 m a_Marks a_Step a_Turns x4_1).bind fun r7 =>
        cond (decide (r7 ≥ 0)) (
          (f63 m a_Marks a_Step a_Turns x4_1).bind fun r9 =>
            cond (fitsB (lh2_1.length + 1) 8) (
              f70_1 m fuel a_Marks a_Step a_Turns (w64 (x4_1 + 1)) (lh2_1 ++ [r9])
            ) none
        ) (
          f70_1 m fuel a_Marks a_Step a_Turns (w64 (x4_1 + 1)) lh2_1
        )
    ) (
      some (lh2_1)
    )

theorem f70_1_ok (m : Nat) : ∀ (fuel : Nat) (a_Marks : Int) (a_Step : Int) (a_Turns : Int) (x4_1 : Int) (lh2_1 : List Int) (o : (List Int)), f70_1 m fuel a_Marks a_Step a_Turns x4_1 lh2_1 = some o → ∀ Q : QP, Q (.exit 0) [(3, s0 1 o.length)] [(1, rc (encI .i64) o 0 3 1), (0, .cells [ii a_Marks, ii a_Step, ii a_Turns] 0 24 0)] 2 → XL E0 22 1 fuel f70_L1 [(1, pp 1 0), (3, s0 2 lh2_1.length), (4, ii x4_1)] [(2, rc (encI .i64) lh2_1 0 3 1), (1, .cells [ii a_Marks, ii a_Step, ii a_Turns] 0 24 0), (0, .cells [ii a_Marks, ii a_Step, ii a_Turns] 0 24 0)] 3 Q
  | 0, a_Marks, a_Step, a_Turns, x4_1, lh2_1, o, h, Q, hQ => by cases h
  | fuel + 1, a_Marks, a_Step, a_Turns, x4_1, lh2_1, o, h, Q, hQ => by
    unfold f70_1 at h
    refine XL.succ E0_ok ?_
    refine XQ.seq E0_ok (by kernel_rfl) ?_
    refine XQ.seq E0_ok (by kernel_rfl) ?_
    refine XQ.region (by kernel_rfl) ?_
    refine XR.runS E0_ok 1 4 [(1, pp 1 0), (3, s0 2 lh2_1.length), (4, ii x4_1), (8, .bool (decide (x4_1 < a_Marks)))] rfl (by kernel_rfl) ?_
    refine XR.done (by kernel_rfl) ?_
    show XQ _ _ _ _ _ _ _ _
    cases b1 : (decide (x4_1 < a_Marks) : Bool) with
    | true =>
      have h := cT b1 h
      refine XQ.cond (s := (.tmp 8)) (b := true) (by kernel_rfl) (by kernel_rfl) (fun _ => ?_) (fun q => by cases q)
      refine XQ.skip (by kernel_rfl) ?_
      show XQ _ _ _ _ _ _ _ _
      refine XQ.seq E0_ok (by kernel_rfl) ?_
      refine XQ.block (id := 1) (by kernel_rfl) ?_
      refine XQ.seq E0_ok (by kernel_rfl) ?_
      refine XQ.region (by kernel_rfl) ?_
      refine XR.runS E0_ok 1 2 [(1, pp 1 0), (3, s0 2 lh2_1.length), (4, ii x4_1), (11, .agg #[ii a_Marks, ii a_Step, ii a_Turns]), (12, ii x4_1)] rfl (by kernel_rfl) ?_
      obtain ⟨r7, r7_h, h⟩ := bS h
      refine XR.call E0_ok [1, 3, 4, 13] rfl (K := 63) (args := [.agg #[ii a_Marks, ii a_Step, ii a_Turns], ii x4_1]) (d := (some (path 12 13))) (by kernel_rfl) (KC.of_calls E0_ok (F := Proofs.Try.f63) (v := ii r7) (by kernel_rfl) rfl rfl (fun w hI => f63_ok m a_Marks a_Step a_Turns x4_1 r7 r7_h w hI)) ?_
      rintro _ _ _ ⟨rfl, rfl, rfl⟩
      refine XR.conv (σ' := [(1, pp 1 0), (3, s0 2 lh2_1.length), (4, ii x4_1), (13, ii r7)]) (h' := [(2, rc (encI .i64) lh2_1 0 3 1), (1, .cells [ii a_Marks, ii a_Step, ii a_Turns] 0 24 0), (0, .cells [ii a_Marks, ii a_Step, ii a_Turns] 0 24 0)]) (c' := 3) ?_ (by kernel_rfl)
      refine XR.runS E0_ok 1 1 [(1, pp 1 0), (3, s0 2 lh2_1.length), (4, ii x4_1), (14, .bool (decide (r7 ≥ 0)))] rfl (by kernel_rfl) ?_
      refine XR.done (by kernel_rfl) ?_
      show XQ _ _ _ _ _ _ _ _
      cases b2 : (decide (r7 ≥ 0) : Bool) with
      | true =>
        have h := cT b2 h
        refine XQ.cond (s := (.tmp 14)) (b := true) (by kernel_rfl) (by kernel_rfl) (fun _ => ?_) (fun q => by cases q)
        refine XQ.region (by kernel_rfl) ?_
        refine XR.runS E0_ok 1 3 [(1, pp 1 0), (4, ii x4_1), (15, s0 2 lh2_1.length), (16, .agg #[ii a_Marks, ii a_Step, ii a_Turns]), (17, ii x4_1)] rfl (by kernel_rfl) ?_
        obtain ⟨r9, r9_h, h⟩ := bS h
        refine XR.call E0_ok [1, 4, 15, 18] rfl (K := 63) (args := [.agg #[ii a_Marks, ii a_Step, ii a_Turns], ii x4_1]) (d := (some (path 12 18))) (by kernel_rfl) (KC.of_calls E0_ok (F := Proofs.Try.f63) (v := ii r9) (by kernel_rfl) rfl rfl (fun w hI => f63_ok m a_Marks a_Step a_Turns x4_1 r9 r9_h w hI)) ?_
        rintro _ _ _ ⟨rfl, rfl, rfl⟩
        refine XR.conv (σ' := [(1, pp 1 0), (4, ii x4_1), (15, s0 2 lh2_1.length), (18, ii r9)]) (h' := [(2, rc (encI .i64) lh2_1 0 3 1), (1, .cells [ii a_Marks, ii a_Step, ii a_Turns] 0 24 0), (0, .cells [ii a_Marks, ii a_Step, ii a_Turns] 0 24 0)]) (c' := 3) ?_ (by kernel_rfl)
        refine XR.runT E0_ok 1 1 [(1, pp 1 0), (4, ii x4_1), (15, s0 2 lh2_1.length), (19, s0 3 1)] [(3, .cells [ii r9] 0 3 1), (2, rc (encI .i64) lh2_1 0 3 1), (1, .cells [ii a_Marks, ii a_Step, ii a_Turns] 0 24 0), (0, .cells [ii a_Marks, ii a_Step, ii a_Turns] 0 24 0)] 4 rfl (by kernel_rfl) ?_
        cases b3 : (fitsB (lh2_1.length + 1) 8 : Bool) with
        | false => cases (cF b3 h)
        | true =>
          have h := cT b3 h
          refine XR.ef E0_ok [1, 4, 20] rfl (e_append (encI_ok .i64) (bytes := 8) (e := 3) (x := (src 22 (.tmp 15))) (y := (src 22 (.tmp 19))) (b := 2) (len := lh2_1.length) (cap := lh2_1.length) (xs := lh2_1) (m := 0) (ys := [r9]) (d := (some (path 12 20))) (n' := (lh2_1 ++ [r9]).length) (h' := [(4, rc (encI .i64) (lh2_1 ++ [r9]) 0 3 1), (3, .cells [ii r9] 0 3 1), (1, .cells [ii a_Marks, ii a_Step, ii a_Turns] 0 24 0), (0, .cells [ii a_Marks, ii a_Step, ii a_Turns] 0 24 0)]) (by kernel_rfl) (by kernel_rfl) (by kernel_rfl) (by kernel_rfl) rfl (by simp) (by simp) b3 (by simp) (by kernel_rfl)) (σ' := [(1, pp 1 0), (4, ii x4_1), (20, s0 4 ((lh2_1 ++ [r9]).length))]) (by kernel_rfl) ?_
          refine XR.runS E0_ok 1 1 [(1, pp 1 0), (3, s0 4 ((lh2_1 ++ [r9]).length)), (4, ii x4_1)] rfl (by kernel_rfl) ?_
          refine XR.done (by kernel_rfl) ?_
          show XQ _ _ _ _ _ _ _ _
          refine XQ.region (by kernel_rfl) ?_
          refine XR.runS E0_ok 1 3 [(1, pp 1 0), (3, s0 4 ((lh2_1 ++ [r9]).length)), (4, ii (w64 (x4_1 + 1)))] rfl (by kernel_rfl) ?_
          refine XR.done (by kernel_rfl) ?_
          show XL _ _ _ _ _ _ _ _ _
          refine XL.ren (σ' := [(1, pp 1 0), (3, s0 2 ((lh2_1 ++ [r9]).length)), (4, ii (w64 (x4_1 + 1)))]) (h' := [(2, rc (encI .i64) (lh2_1 ++ [r9]) 0 3 1), (1, .cells [ii a_Marks, ii a_Step, ii a_Turns] 0 24 0), (0, .cells [ii a_Marks, ii a_Step, ii a_Turns] 0 24 0)]) (c' := 3) [0, 1, 4] (by decide) rfl ⟨by kernel_rfl, by kernel_rfl, by kernel_rfl, trivial⟩ ⟨⟨_, _, rfl, rfl, .inl ⟨rfl, rowC_scal (encI_ok .i64) _⟩⟩, ⟨_, _, rfl, rfl, .inr ⟨_, _, _, _, rfl, rfl⟩⟩, ⟨_, _, rfl, rfl, .inr ⟨_, _, _, _, rfl, rfl⟩⟩, trivial⟩ rfl ?_
          refine XL.conv (f70_1_ok m fuel a_Marks a_Step a_Turns (w64 (x4_1 + 1)) (lh2_1 ++ [r9]) o h Q hQ) (by first | rfl | simp)
      | false =>
        have h := cF b2 h
        refine XQ.cond (s := (.tmp 14)) (b := false) (by kernel_rfl) (by kernel_rfl) (fun q => by cases q) (fun _ => ?_)
        refine XQ.skip (by kernel_rfl) ?_
        show XQ _ _ _ _ _ _ _ _
        refine XQ.region (by kernel_rfl) ?_
        refine XR.runS E0_ok 1 3 [(1, pp 1 0), (3, s0 2 lh2_1.length), (4, ii (w64 (x4_1 + 1)))] rfl (by kernel_rfl) ?_
        refine XR.done (by kernel_rfl) ?_
        show XL _ _ _ _ _ _ _ _ _
        refine XL.ren (σ' := [(1, pp 1 0), (3, s0 2 lh2_1.length), (4, ii (w64 (x4_1 + 1)))]) (h' := [(2, rc (encI .i64) lh2_1 0 3 1), (1, .cells [ii a_Marks, ii a_Step, ii a_Turns] 0 24 0), (0, .cells [ii a_Marks, ii a_Step, ii a_Turns] 0 24 0)]) (c' := 3) [0, 1, 2] (by decide) rfl ⟨by kernel_rfl, by kernel_rfl, by kernel_rfl, trivial⟩ ⟨⟨_, _, rfl, rfl, .inl ⟨rfl, rowC_scal (encI_ok .i64) _⟩⟩, ⟨_, _, rfl, rfl, .inr ⟨_, _, _, _, rfl, rfl⟩⟩, ⟨_, _, rfl, rfl, .inr ⟨_, _, _, _, rfl, rfl⟩⟩, trivial⟩ rfl ?_
        refine XL.conv (f70_1_ok m fuel a_Marks a_Step a_Turns (w64 (x4_1 + 1)) lh2_1 o h Q hQ) (by first | rfl | simp)
    | false =>
      have h := cF b1 h
      refine XQ.cond (s := (.tmp 8)) (b := false) (by kernel_rfl) (by kernel_rfl) (fun q => by cases q) (fun _ => ?_)
      refine XQ.ren (σ' := [(3, s0 1 lh2_1.length)]) (h' := [(1, rc (encI .i64) lh2_1 0 3 1), (0, .cells [ii a_Marks, ii a_Step, ii a_Turns] 0 24 0)]) (c' := 2) [0, 2] (by decide) rfl ⟨by kernel_rfl, trivial⟩ ⟨⟨_, _, rfl, rfl, .inl ⟨rfl, rowC_scal (encI_ok .i64) _⟩⟩, ⟨_, _, rfl, rfl, .inr ⟨_, _, _, _, rfl, rfl⟩⟩, trivial⟩ rfl ?_
      refine XQ.exit (i := 0) (by kernel_rfl) ?_
      cases h
      exact hQ

inductive Of70_2 where
  | r (x6_r2 : Int)
  | x0

def f70_2 (m : Nat) : Nat → Int → Int → (List Int) → Int → Option Of70_2
  | 0, _, _, _, _ => none
  | fuel + 1, b, c, o1, x8_2 =>
    cond (decide (x8_2 < ((o1.length : Nat) : Int))) (
      cond (inRow x8_2 o1.length) (
        cond ((List.getD o1 (Int.toNat x8_2) 0) == b) (
          cond (((o1.length : Nat) : Int) != 0) (
            cond (inRow (Int.tmod (w64 (x8_2 + c)) ((o1.length : Nat) : Int)) o1.length) (
              some (.r (List.getD o1 (Int.toNat (Int.tmod (w64 (x8_2 + c)) ((o1.length : Nat) : Int))) 0))
            ) none
          ) none
        ) (
          f70_2 m fuel b c o1 (w64 (x8_2 + 1))
        )
      ) none
    ) (
      some (.x0)
    )

theorem f70_2_ok (m : Nat) : ∀ (fuel : Nat) (b : Int) (c : Int) (o1 : (List Int)) (x8_2 : Int) (o : Of70_2), f70_2 m fuel b c o1 x8_2 = some o → ∀ Q : QP, (match o with | .r x6_r2 => Q .ret [(6, ii x6_r2)] [] 0 | .x0 => Q (.exit 0) [] [] 0) → XL E0 32 0 fuel f70_L2 [(1, ii b), (2, ii c), (7, s0 0 o1.length), (8, ii x8_2)] [(0, rc (encI .i64) o1 0 3 1)] 1 Q
  | 0, b, c, o1, x8_2, o, h, Q, hQ => by cases h
  | fuel + 1, b, c, o1, x8_2, o, h, Q, hQ => by
    unfold f70_2 at h
    refine XL.succ E0_ok ?_
    refine XQ.seq E0_ok (by kernel_rfl) ?_
    refine XQ.seq E0_ok (by kernel_rfl) ?_
    refine XQ.region (by kernel_rfl) ?_
    refine XR.runS E0_ok 1 4 [(1, ii b), (2, ii c), (7, s0 0 o1.length), (8, ii x8_2), (14, .bool (decide (x8_2 < ((o1.length : Nat) : Int))))] rfl (by kernel_rfl) ?_
    refine XR.done (by kernel_rfl) ?_
    show XQ _ _ _ _ _ _ _ _
    cases b1 : (decide (x8_2 < ((o1.length : Nat) : Int)) : Bool) with
    | true =>
      have h := cT b1 h
      refine XQ.cond (s := (.tmp 14)) (b := true) (by kernel_rfl) (by kernel_rfl) (fun _ => ?_) (fun q => by cases q)
      refine XQ.skip (by kernel_rfl) ?_
      show XQ _ _ _ _ _ _ _ _
      refine XQ.seq E0_ok (by kernel_rfl) ?_
      refine XQ.block (id := 1) (by kernel_rfl) ?_
      refine XQ.seq E0_ok (by kernel_rfl) ?_
      refine XQ.region (by kernel_rfl) ?_
      refine XR.runS E0_ok 1 2 [(1, ii b), (2, ii c), (7, s0 0 o1.length), (8, ii x8_2), (17, s0 0 o1.length), (18, ii x8_2)] rfl (by kernel_rfl) ?_
      cases b2 : (inRow x8_2 o1.length : Bool) with
      | false => cases (cF b2 h)
      | true =>
        have h := cT b2 h
        refine XR.rd E0_ok [1, 2, 7, 8, 19] rfl (v := pp 0 ((Int.toNat x8_2) * 1)) (v_idx (s := 1) (x := (src 32 (.tmp 17))) (y := (src 32 (.tmp 18))) (b := 0) (o := 0) (len := o1.length) (cap := o1.length) (ik := .i64) (i := x8_2) (off := (Int.toNat x8_2) * 1) (d := (some (path 12 19))) (by kernel_rfl) (by kernel_rfl) (by kernel_rfl) b2 (by omega)) (σ' := [(1, ii b), (2, ii c), (7, s0 0 o1.length), (8, ii x8_2), (19, pp 0 ((Int.toNat x8_2) * 1))]) (by kernel_rfl) ?_
        refine XR.rd E0_ok [1, 2, 7, 8, 20] rfl (v := ii (List.getD o1 (Int.toNat x8_2) 0)) (v_load1 (encI_ok .i64) (x := (src 32 (.tmp 19))) (b := 0) (off := (Int.toNat x8_2) * 1) (xs := o1) (fz := 0) (e := 3) (es := 1) (d := (some (path 12 20))) (by kernel_rfl) (by kernel_rfl) (by kernel_rfl) (Int.toNat x8_2) 0 0 (by first | rfl | omega) (row_len (inRow_toNat b2) (by simp)) rfl rfl) (σ' := [(1, ii b), (2, ii c), (7, s0 0 o1.length), (8, ii x8_2), (20, ii (List.getD o1 (Int.toNat x8_2) 0))]) (by kernel_rfl) ?_
        refine XR.runS E0_ok 1 2 [(1, ii b), (2, ii c), (7, s0 0 o1.length), (8, ii x8_2), (22, .bool ((List.getD o1 (Int.toNat x8_2) 0) == b))] rfl (by kernel_rfl) ?_
        refine XR.done (by kernel_rfl) ?_
        show XQ _ _ _ _ _ _ _ _
        cases b3 : ((List.getD o1 (Int.toNat x8_2) 0) == b : Bool) with
        | true =>
          have h := cT b3 h
          refine XQ.cond (s := (.tmp 22)) (b := true) (by kernel_rfl) (by kernel_rfl) (fun _ => ?_) (fun q => by cases q)
          refine XQ.seq E0_ok (by kernel_rfl) ?_
          refine XQ.region (by kernel_rfl) ?_
          refine XR.runS E0_ok 1 6 [(23, s0 0 o1.length), (26, ii (w64 (x8_2 + c))), (28, ii ((o1.length : Nat) : Int))] rfl (by kernel_rfl) ?_
          cases b4 : (((o1.length : Nat) : Int) != 0 : Bool) with
          | false => cases (cF b4 h)
          | true =>
            have h := cT b4 h
            have e5 : insV (headI ((gsOf E0 32 (opsOf (lft (lft (rgt (lft (lft (rgt f70_L2)))))))).drop 6) (trS 32 [(23, s0 0 o1.length), (26, ii (w64 (x8_2 + c))), (28, ii ((o1.length : Nat) : Int))])) (trS 32 [(23, s0 0 o1.length), (26, ii (w64 (x8_2 + c))), (28, ii ((o1.length : Nat) : Int))]) [(0, rc (encI .i64) o1 0 3 1)] = (match (((o1.length : Nat) : Int) != 0 : Bool) with | true => some (ii (Int.tmod (w64 (x8_2 + c)) ((o1.length : Nat) : Int))) | false => none) := by kernel_rfl
            refine XR.rd E0_ok [23, 29] rfl (e5.trans (by rw [b4])) (σ' := [(23, s0 0 o1.length), (29, ii (Int.tmod (w64 (x8_2 + c)) ((o1.length : Nat) : Int)))]) (by kernel_rfl) ?_
            cases b6 : (inRow (Int.tmod (w64 (x8_2 + c)) ((o1.length : Nat) : Int)) o1.length : Bool) with
            | false => cases (cF b6 h)
            | true =>
              have h := cT b6 h
              refine XR.rd E0_ok [30] rfl (v := pp 0 ((Int.toNat (Int.tmod (w64 (x8_2 + c)) ((o1.length : Nat) : Int))) * 1)) (v_idx (s := 1) (x := (src 32 (.tmp 23))) (y := (src 32 (.tmp 29))) (b := 0) (o := 0) (len := o1.length) (cap := o1.length) (ik := .i64) (i := Int.tmod (w64 (x8_2 + c)) ((o1.length : Nat) : Int)) (off := (Int.toNat (Int.tmod (w64 (x8_2 + c)) ((o1.length : Nat) : Int))) * 1) (d := (some (path 12 30))) (by kernel_rfl) (by kernel_rfl) (by kernel_rfl) b6 (by omega)) (σ' := [(30, pp 0 ((Int.toNat (Int.tmod (w64 (x8_2 + c)) ((o1.length : Nat) : Int))) * 1))]) (by kernel_rfl) ?_
              refine XR.rd E0_ok [31] rfl (v := ii (List.getD o1 (Int.toNat (Int.tmod (w64 (x8_2 + c)) ((o1.length : Nat) : Int))) 0)) (v_load1 (encI_ok .i64) (x := (src 32 (.tmp 30))) (b := 0) (off := (Int.toNat (Int.tmod (w64 (x8_2 + c)) ((o1.length : Nat) : Int))) * 1) (xs := o1) (fz := 0) (e := 3) (es := 1) (d := (some (path 12 31))) (by kernel_rfl) (by kernel_rfl) (by kernel_rfl) (Int.toNat (Int.tmod (w64 (x8_2 + c)) ((o1.length : Nat) : Int))) 0 0 (by first | rfl | omega) (row_len (inRow_toNat b6) (by simp)) rfl rfl) (σ' := [(31, ii (List.getD o1 (Int.toNat (Int.tmod (w64 (x8_2 + c)) ((o1.length : Nat) : Int))) 0))]) (by kernel_rfl) ?_
              refine XR.runS E0_ok 1 1 [(6, ii (List.getD o1 (Int.toNat (Int.tmod (w64 (x8_2 + c)) ((o1.length : Nat) : Int))) 0))] rfl (by kernel_rfl) ?_
              refine XR.done (by kernel_rfl) ?_
              show XQ _ _ _ _ _ _ _ _
              refine XQ.ren (σ' := [(6, ii (List.getD o1 (Int.toNat (Int.tmod (w64 (x8_2 + c)) ((o1.length : Nat) : Int))) 0))]) (h' := []) (c' := 0) [] (by decide) rfl ⟨by kernel_rfl, trivial⟩ trivial rfl ?_
              refine XQ.ret (by kernel_rfl) ?_
              cases h
              exact hQ
        | false =>
          have h := cF b3 h
          refine XQ.cond (s := (.tmp 22)) (b := false) (by kernel_rfl) (by kernel_rfl) (fun q => by cases q) (fun _ => ?_)
          refine XQ.skip (by kernel_rfl) ?_
          show XQ _ _ _ _ _ _ _ _
          refine XQ.region (by kernel_rfl) ?_
          refine XR.runS E0_ok 1 3 [(1, ii b), (2, ii c), (7, s0 0 o1.length), (8, ii (w64 (x8_2 + 1)))] rfl (by kernel_rfl) ?_
          refine XR.done (by kernel_rfl) ?_
          show XL _ _ _ _ _ _ _ _ _
          refine XL.ren (σ' := [(1, ii b), (2, ii c), (7, s0 0 o1.length), (8, ii (w64 (x8_2 + 1)))]) (h' := [(0, rc (encI .i64) o1 0 3 1)]) (c' := 1) [0] (by decide) rfl ⟨by kernel_rfl, by kernel_rfl, by kernel_rfl, by kernel_rfl, trivial⟩ ⟨⟨_, _, rfl, rfl, .inl ⟨rfl, rowC_scal (encI_ok .i64) _⟩⟩, trivial⟩ rfl ?_
          refine XL.conv (f70_2_ok m fuel b c o1 (w64 (x8_2 + 1)) o h Q hQ) (by first | rfl | simp)
    | false =>
      have h := cF b1 h
      refine XQ.cond (s := (.tmp 14)) (b := false) (by kernel_rfl) (by kernel_rfl) (fun q => by cases q) (fun _ => ?_)
      refine XQ.ren (σ' := []) (h' := []) (c' := 0) [] (by decide) rfl trivial trivial rfl ?_
      refine XQ.exit (i := 0) (by kernel_rfl) ?_
      cases h
      exact hQ

def f70 (m : Nat) (a_Marks : Int) (a_Step : Int) (a_Turns : Int) (b : Int) (c : Int) : Option (Int) :=
  (f70_1 m m a_Marks a_Step a_Turns 0 []).bind fun o1 =>
    (f70_2 m m b c o1 0).bind fun o2 =>
      match o2 with
      | .r x6_r2 =>
        some (x6_r2)
      | .x0 =>
        some ((-1))

theorem f70_ok (m : Nat) (a_Marks : Int) (a_Step : Int) (a_Turns : Int) (b : Int) (c : Int) (o : Int) (h : f70 m a_Marks a_Step a_Turns b c = some o) (w : World) (hI : anyInv w) : Calls Proofs.Try.prog 70 #[.agg #[ii a_Marks, ii a_Step, ii a_Turns], ii b, ii c] w fun e w' => e = .returned (ii o) ∧ Below w.heap.size w w' := by
  refine KC.calls (E := E0) (args := [.agg #[ii a_Marks, ii a_Step, ii a_Turns], ii b, ii c]) (v := ii o) rfl rfl (KC.bodyN E0_ok (F := Proofs.Try.f70) (by kernel_rfl) (code := f70_C70) (by kernel_rfl) (nt := 32) (by kernel_rfl) (rs := [.tmp 6]) (by kernel_rfl) (by kernel_rfl) (σ := [(0, .agg #[ii a_Marks, ii a_Step, ii a_Turns]), (1, ii b), (2, ii c)]) (by kernel_rfl) ?_) w (anyInv_size hI) hI
  unfold f70 at h
  refine XQ.seq E0_ok (by kernel_rfl) ?_
  refine XQ.region (by kernel_rfl) ?_
  refine XR.runT E0_ok 1 2 [(1, ii b), (2, ii c), (3, pp 0 0)] [(0, .cells [ii a_Marks, ii a_Step, ii a_Turns] 0 24 0)] 1 rfl (by kernel_rfl) ?_
  refine XR.done (by kernel_rfl) ?_
  show XQ _ _ _ _ _ _ _ _
  refine XQ.seq E0_ok (by kernel_rfl) ?_
  refine XQ.region (by kernel_rfl) ?_
  refine XR.runS E0_ok 1 1 [(1, ii b), (2, ii c), (9, .agg #[ii a_Marks, ii a_Step, ii a_Turns])] rfl (by kernel_rfl) ?_
  refine XR.callK E0_ok [1, 2, 10] rfl (K := 76) (args := [.agg #[ii a_Marks, ii a_Step, ii a_Turns]]) (d := (some (path 12 10))) (by kernel_rfl) ?_
  refine KC.bodyN E0_ok (F := Proofs.Try.f76) (by kernel_rfl) (code := f70_C76) (by kernel_rfl) (nt := 22) (by kernel_rfl) (rs := [.tmp 2]) (by kernel_rfl) (by kernel_rfl) (σ := [(0, .agg #[ii a_Marks, ii a_Step, ii a_Turns])]) (by kernel_rfl) ?_
  refine XQ.seq E0_ok (by kernel_rfl) ?_
  refine XQ.region (by kernel_rfl) ?_
  refine XR.runT E0_ok 1 2 [(1, pp 1 0)] [(1, .cells [ii a_Marks, ii a_Step, ii a_Turns] 0 24 0), (0, .cells [ii a_Marks, ii a_Step, ii a_Turns] 0 24 0)] 2 rfl (by kernel_rfl) ?_
  refine XR.done (by kernel_rfl) ?_
  show XQ _ _ _ _ _ _ _ _
  refine XQ.seq E0_ok (by kernel_rfl) ?_
  refine XQ.region (by kernel_rfl) ?_
  refine XR.runS E0_ok 1 1 [(1, pp 1 0), (3, .slice none 0 0)] rfl (by kernel_rfl) ?_
  refine XR.done (by kernel_rfl) ?_
  show XQ _ _ _ _ _ _ _ _
  refine XQ.ghost 3 1 rfl (σ' := [(1, pp 1 0), (3, s0 2 0)]) (h' := [(1, .cells [ii a_Marks, ii a_Step, ii a_Turns] 0 24 0), (0, .cells [ii a_Marks, ii a_Step, ii a_Turns] 0 24 0)]) ⟨by kernel_rfl, by kernel_rfl, trivial⟩ ⟨⟨_, rfl, .inl rfl⟩, ⟨_, rfl, .inl rfl⟩, trivial⟩ ?_
  refine XQ.conv (σ' := [(1, pp 1 0), (3, s0 2 0)]) (h' := [(2, rc (encI .i64) [] 0 3 1), (1, .cells [ii a_Marks, ii a_Step, ii a_Turns] 0 24 0), (0, .cells [ii a_Marks, ii a_Step, ii a_Turns] 0 24 0)]) (c' := 3) ?_ (by kernel_rfl)
  refine XQ.seq E0_ok (by kernel_rfl) ?_
  refine XQ.seq E0_ok (by kernel_rfl) ?_
  refine XQ.region (by kernel_rfl) ?_
  refine XR.runS E0_ok 1 1 [(1, pp 1 0), (3, s0 2 0), (4, ii 0)] rfl (by kernel_rfl) ?_
  refine XR.done (by kernel_rfl) ?_
  show XQ _ _ _ _ _ _ _ _
  refine XQ.block (id := 0) (by kernel_rfl) ?_
  refine XQ.loop m (by kernel_rfl) ?_
  obtain ⟨o1, o1_h, h⟩ := bS h
  refine XL.ren (σ' := [(1, pp 1 0), (3, s0 2 0), (4, ii 0)]) (h' := [(2, rc (encI .i64) [] 0 3 1), (1, .cells [ii a_Marks, ii a_Step, ii a_Turns] 0 24 0), (0, .cells [ii a_Marks, ii a_Step, ii a_Turns] 0 24 0)]) (c' := 3) [0, 1, 2] (by decide) rfl ⟨by kernel_rfl, by kernel_rfl, by kernel_rfl, trivial⟩ ⟨⟨_, _, rfl, rfl, .inl ⟨rfl, rowC_scal (encI_ok .i64) _⟩⟩, ⟨_, _, rfl, rfl, .inr ⟨_, _, _, _, rfl, rfl⟩⟩, ⟨_, _, rfl, rfl, .inr ⟨_, _, _, _, rfl, rfl⟩⟩, trivial⟩ rfl ?_
  refine XL.conv (f70_1_ok m m a_Marks a_Step a_Turns 0 [] o1 o1_h _ ?_) (by first | rfl | simp)
  show XQ _ _ _ _ _ _ _ _
  refine XQ.seq E0_ok (by kernel_rfl) ?_
  refine XQ.region (by kernel_rfl) ?_
  refine XR.runS E0_ok 1 2 [(2, s0 1 o1.length)] rfl (by kernel_rfl) ?_
  refine XR.done (by kernel_rfl) ?_
  show XQ _ _ _ _ _ _ _ _
  refine XQ.ret (by kernel_rfl) ?_
  refine ⟨fun i q => (by cases q), s0 1 o1.length, (by kernel_rfl), ?_⟩
  refine XR.conv (σ' := [(1, ii b), (2, ii c), (10, s0 1 o1.length)]) (h' := [(1, rc (encI .i64) o1 0 3 1), (0, .cells [ii a_Marks, ii a_Step, ii a_Turns] 0 24 0)]) (c' := 2) ?_ (by kernel_rfl)
  refine XR.runS E0_ok 1 1 [(1, ii b), (2, ii c), (7, s0 1 o1.length)] rfl (by kernel_rfl) ?_
  refine XR.done (by kernel_rfl) ?_
  show XQ _ _ _ _ _ _ _ _
  refine XQ.seq E0_ok (by kernel_rfl) ?_
  refine XQ.seq E0_ok (by kernel_rfl) ?_
  refine XQ.region (by kernel_rfl) ?_
  refine XR.runS E0_ok 1 1 [(1, ii b), (2, ii c), (7, s0 1 o1.length), (8, ii 0)] rfl (by kernel_rfl) ?_
  refine XR.done (by kernel_rfl) ?_
  show XQ _ _ _ _ _ _ _ _
  refine XQ.block (id := 0) (by kernel_rfl) ?_
  refine XQ.loop m (by kernel_rfl) ?_
  obtain ⟨o2, o2_h, h⟩ := bS h
  refine XL.ren (σ' := [(1, ii b), (2, ii c), (7, s0 0 o1.length), (8, ii 0)]) (h' := [(0, rc (encI .i64) o1 0 3 1)]) (c' := 1) [1] (by decide) rfl ⟨by kernel_rfl, by kernel_rfl, by kernel_rfl, by kernel_rfl, trivial⟩ ⟨⟨_, _, rfl, rfl, .inl ⟨rfl, rowC_scal (encI_ok .i64) _⟩⟩, trivial⟩ rfl ?_
  cases o2 with
  | r x6_r2 =>
    dsimp only at h
    refine XL.conv (f70_2_ok m m b c o1 0 (.r x6_r2) o2_h _ ?_) (by first | rfl | simp)
    have h := Option.some.inj h
    subst h
    exact ⟨fun i q => (by cases q), ii x6_r2, (by kernel_rfl), rfl⟩
  | x0 =>
    dsimp only at h
    refine XL.conv (f70_2_ok m m b c o1 0 (.x0) o2_h _ ?_) (by first | rfl | simp)
    show XQ _ _ _ _ _ _ _ _
    refine XQ.seq E0_ok (by kernel_rfl) ?_
    refine XQ.region (by kernel_rfl) ?_
    refine XR.runS E0_ok 1 1 [(6, ii (-1))] rfl (by kernel_rfl) ?_
    refine XR.done (by kernel_rfl) ?_
    show XQ _ _ _ _ _ _ _ _
    refine XQ.ret (by kernel_rfl) ?_
    have h := Option.some.inj h
    subst h
    exact ⟨fun i q => (by cases q), ii (-1), (by kernel_rfl), rfl⟩

/-! vitola/vitolaref05.round -/
noncomputable def f76_C76 : Code := Proofs.Try.f76.body.getD .skip
noncomputable def f76_L1 : Code := lft (lft (rgt (lft (rgt (rgt f76_C76)))))

def f76_1 (m : Nat) : Nat → Int → Int → Int → Int → List Int → Option (List Int)
  | 0, _, _, _, _, _ => none
  | fuel + 1, a_Marks, a_Step, a_Turns, x4_1, lh1_1 =>
    cond (decide (x4_1 < a_Marks)) (
      (f63 m a_Marks a_Step a_Turns x4_1).bind fun r7 =>
        cond (decide (r7 ≥ 0)) (
          (f63 m a_Marks a_Step a_Turns x4_1).bind fun r9 =>
            cond (fitsB (lh1_1.length + 1) 8) (
              f76_1 m fuel a_Marks a_Step a_Turns (w64 (x4_1 + 1)) (lh1_1 ++ [r9])
            ) none
        ) (
          f76_1 m fuel a_Marks a_Step a_Turns (w64 (x4_1 + 1)) lh1_1
        )
    ) (
      some (lh1_1)
    )

theorem f76_1_ok (m : Nat) : ∀ (fuel : Nat) (a_Marks : Int) (a_Step : Int) (a_Turns : Int) (x4_1 : Int) (lh1_1 : List Int) (o : (List Int)), f76_1 m fuel a_Marks a_Step a_Turns x4_1 lh1_1 = some o → ∀ Q : QP, Q (.exit 0) [(3, s0 0 o.length)] [(0, rc (encI .i64) o 0 3 1)] 1 → XL E0 22 0 fuel f76_L1 [(1, pp 0 0), (3, s0 1 lh1_1.length), (4, ii x4_1)] [(1, rc (encI .i64) lh1_1 0 3 1), (0, .cells [ii a_Marks, ii a_Step, ii a_Turns] 0 24 0)] 2 Q
  | 0, a_Marks, a_Step, a_Turns, x4_1, lh1_1, o, h, Q, hQ => by cases h
  | fuel + 1, a_Marks, a_Step, a_Turns, x4_1, lh1_1, o, h, Q, hQ => by
    unfold f76_1 at h
    refine XL.succ E0_ok ?_
    refine XQ.seq E0_ok (by kernel_rfl) ?_
    refine XQ.seq E0_ok (by kernel_rfl) ?_
    refine XQ.region (by kernel_rfl) ?_
    refine XR.runS E0_ok 1 4 [(1, pp 0 0), (3, s0 1 lh1_1.length), (4, ii x4_1), (8, .bool (decide (x4_1 < a_Marks)))] rfl (by kernel_rfl) ?_
    refine XR.done (by kernel_rfl) ?_
    show XQ _ _ _ _ _ _ _ _
    cases b1 : (decide (x4_1 < a_Marks) : Bool) with
    | true =>
      have h := cT b1 h
      refine XQ.cond (s := (.tmp 8)) (b := true) (by kernel_rfl) (by kernel_rfl) (fun _ => ?_) (fun q => by cases q)
      refine XQ.skip (by kernel_rfl) ?_
      show XQ _ _ _ _ _ _ _ _
      refine XQ.seq E0_ok (by kernel_rfl) ?_
      refine XQ.block (id := 1) (by kernel_rfl) ?_
      refine XQ.seq E0_ok (by kernel_rfl) ?_
      refine XQ.region (by kernel_rfl) ?_
      refine XR.runS E0_ok 1 2 [(1, pp 0 0), (3, s0 1 lh1_1.length), (4, ii x4_1), (11, .agg #[ii a_Marks, ii a_Step, ii a_Turns]), (12, ii x4_1)] rfl (by kernel_rfl) ?_
      obtain ⟨r7, r7_h, h⟩ := bS h
      refine XR.call E0_ok [1, 3, 4, 13] rfl (K := 63) (args := [.agg #[ii a_Marks, ii a_Step, ii a_Turns], ii x4_1]) (d := (some (path 12 13))) (by kernel_rfl) (KC.of_calls E0_ok (F := Proofs.Try.f63) (v := ii r7) (by kernel_rfl) rfl rfl (fun w hI => f63_ok m a_Marks a_Step a_Turns x4_1 r7 r7_h w hI)) ?_
      rintro _ _ _ ⟨rfl, rfl, rfl⟩
      refine XR.conv (σ' := [(1, pp 0 0), (3, s0 1 lh1_1.length), (4, ii x4_1), (13, ii r7)]) (h' := [(1, rc (encI .i64) lh1_1 0 3 1), (0, .cells [ii a_Marks, ii a_Step, ii a_Turns] 0 24 0)]) (c' := 2) ?_ (by kernel_rfl)
      refine XR.runS E0_ok 1 1 [(1, pp 0 0), (3, s0 1 lh1_1.length), (4, ii x4_1), (14, .bool (decide (r7 ≥ 0)))] rfl (by kernel_rfl) ?_
      refine XR.done (by kernel_rfl) ?_
      show XQ _ _ _ _ _ _ _ _
      cases b2 : (decide (r7 ≥ 0) : Bool) with
      | true =>
        have h := cT b2 h
        refine XQ.cond (s := (.tmp 14)) (b := true) (by kernel_rfl) (by kernel_rfl) (fun _ => ?_) (fun q => by cases q)
        refine XQ.region (by kernel_rfl) ?_
        refine XR.runS E0_ok 1 3 [(1, pp 0 0), (4, ii x4_1), (15, s0 1 lh1_1.length), (16, .agg #[ii a_Marks, ii a_Step, ii a_Turns]), (17, ii x4_1)] rfl (by kernel_rfl) ?_
        obtain ⟨r9, r9_h, h⟩ := bS h
        refine XR.call E0_ok [1, 4, 15, 18] rfl (K := 63) (args := [.agg #[ii a_Marks, ii a_Step, ii a_Turns], ii x4_1]) (d := (some (path 12 18))) (by kernel_rfl) (KC.of_calls E0_ok (F := Proofs.Try.f63) (v := ii r9) (by kernel_rfl) rfl rfl (fun w hI => f63_ok m a_Marks a_Step a_Turns x4_1 r9 r9_h w hI)) ?_
        rintro _ _ _ ⟨rfl, rfl, rfl⟩
        refine XR.conv (σ' := [(1, pp 0 0), (4, ii x4_1), (15, s0 1 lh1_1.length), (18, ii r9)]) (h' := [(1, rc (encI .i64) lh1_1 0 3 1), (0, .cells [ii a_Marks, ii a_Step, ii a_Turns] 0 24 0)]) (c' := 2) ?_ (by kernel_rfl)
        refine XR.runT E0_ok 1 1 [(1, pp 0 0), (4, ii x4_1), (15, s0 1 lh1_1.length), (19, s0 2 1)] [(2, .cells [ii r9] 0 3 1), (1, rc (encI .i64) lh1_1 0 3 1), (0, .cells [ii a_Marks, ii a_Step, ii a_Turns] 0 24 0)] 3 rfl (by kernel_rfl) ?_
        cases b3 : (fitsB (lh1_1.length + 1) 8 : Bool) with
        | false => cases (cF b3 h)
        | true =>
          have h := cT b3 h
          refine XR.ef E0_ok [1, 4, 20] rfl (e_append (encI_ok .i64) (bytes := 8) (e := 3) (x := (src 22 (.tmp 15))) (y := (src 22 (.tmp 19))) (b := 1) (len := lh1_1.length) (cap := lh1_1.length) (xs := lh1_1) (m := 0) (ys := [r9]) (d := (some (path 12 20))) (n' := (lh1_1 ++ [r9]).length) (h' := [(3, rc (encI .i64) (lh1_1 ++ [r9]) 0 3 1), (2, .cells [ii r9] 0 3 1), (0, .cells [ii a_Marks, ii a_Step, ii a_Turns] 0 24 0)]) (by kernel_rfl) (by kernel_rfl) (by kernel_rfl) (by kernel_rfl) rfl (by simp) (by simp) b3 (by simp) (by kernel_rfl)) (σ' := [(1, pp 0 0), (4, ii x4_1), (20, s0 3 ((lh1_1 ++ [r9]).length))]) (by kernel_rfl) ?_
          refine XR.runS E0_ok 1 1 [(1, pp 0 0), (3, s0 3 ((lh1_1 ++ [r9]).length)), (4, ii x4_1)] rfl (by kernel_rfl) ?_
          refine XR.done (by kernel_rfl) ?_
          show XQ _ _ _ _ _ _ _ _
          refine XQ.region (by kernel_rfl) ?_
          refine XR.runS E0_ok 1 3 [(1, pp 0 0), (3, s0 3 ((lh1_1 ++ [r9]).length)), (4, ii (w64 (x4_1 + 1)))] rfl (by kernel_rfl) ?_
          refine XR.done (by kernel_rfl) ?_
          show XL _ _ _ _ _ _ _ _ _
          refine XL.ren (σ' := [(1, pp 0 0), (3, s0 1 ((lh1_1 ++ [r9]).length)), (4, ii (w64 (x4_1 + 1)))]) (h' := [(1, rc (encI .i64) (lh1_1 ++ [r9]) 0 3 1), (0, .cells [ii a_Marks, ii a_Step, ii a_Turns] 0 24 0)]) (c' := 2) [0, 3] (by decide) rfl ⟨by kernel_rfl, by kernel_rfl, by kernel_rfl, trivial⟩ ⟨⟨_, _, rfl, rfl, .inl ⟨rfl, rowC_scal (encI_ok .i64) _⟩⟩, ⟨_, _, rfl, rfl, .inr ⟨_, _, _, _, rfl, rfl⟩⟩, trivial⟩ rfl ?_
          refine XL.conv (f76_1_ok m fuel a_Marks a_Step a_Turns (w64 (x4_1 + 1)) (lh1_1 ++ [r9]) o h Q hQ) (by first | rfl | simp)
      | false =>
        have h := cF b2 h
        refine XQ.cond (s := (.tmp 14)) (b := false) (by kernel_rfl) (by kernel_rfl) (fun q => by cases q) (fun _ => ?_)
        refine XQ.skip (by kernel_rfl) ?_
        show XQ _ _ _ _ _ _ _ _
        refine XQ.region (by kernel_rfl) ?_
        refine XR.runS E0_ok 1 3 [(1, pp 0 0), (3, s0 1 lh1_1.length), (4, ii (w64 (x4_1 + 1)))] rfl (by kernel_rfl) ?_
        refine XR.done (by kernel_rfl) ?_
        show XL _ _ _ _ _ _ _ _ _
        refine XL.ren (σ' := [(1, pp 0 0), (3, s0 1 lh1_1.length), (4, ii (w64 (x4_1 + 1)))]) (h' := [(1, rc (encI .i64) lh1_1 0 3 1), (0, .cells [ii a_Marks, ii a_Step, ii a_Turns] 0 24 0)]) (c' := 2) [0, 1] (by decide) rfl ⟨by kernel_rfl, by kernel_rfl, by kernel_rfl, trivial⟩ ⟨⟨_, _, rfl, rfl, .inl ⟨rfl, rowC_scal (encI_ok .i64) _⟩⟩, ⟨_, _, rfl, rfl, .inr ⟨_, _, _, _, rfl, rfl⟩⟩, trivial⟩ rfl ?_
        refine XL.conv (f76_1_ok m fuel a_Marks a_Step a_Turns (w64 (x4_1 + 1)) lh1_1 o h Q hQ) (by first | rfl | simp)
    | false =>
      have h := cF b1 h
      refine XQ.cond (s := (.tmp 8)) (b := false) (by kernel_rfl) (by kernel_rfl) (fun q => by cases q) (fun _ => ?_)
      refine XQ.ren (σ' := [(3, s0 0 lh1_1.length)]) (h' := [(0, rc (encI .i64) lh1_1 0 3 1)]) (c' := 1) [1] (by decide) rfl ⟨by kernel_rfl, trivial⟩ ⟨⟨_, _, rfl, rfl, .inl ⟨rfl, rowC_scal (encI_ok .i64) _⟩⟩, trivial⟩ rfl ?_
      refine XQ.exit (i := 0) (by kernel_rfl) ?_
      cases h
      exact hQ

def f76 (m : Nat) (a_Marks : Int) (a_Step : Int) (a_Turns : Int) : Option (List Int) :=
  (f76_1 m m a_Marks a_Step a_Turns 0 []).bind fun o1 =>
    some (o1)

theorem f76_ok (m : Nat) (a_Marks : Int) (a_Step : Int) (a_Turns : Int) (o : List Int) (h : f76 m a_Marks a_Step a_Turns = some o) : KC E0 76 [.agg #[ii a_Marks, ii a_Step, ii a_Turns]] [] 0 (fun v h' c' => v = s0 0 o.length ∧ h' = [(0, rc (encI .i64) o 0 3 1)] ∧ c' = 1) := by
  refine KC.bodyN E0_ok (F := Proofs.Try.f76) (by kernel_rfl) (code := f76_C76) (by kernel_rfl) (nt := 22) (by kernel_rfl) (rs := [.tmp 2]) (by kernel_rfl) (by kernel_rfl) (σ := [(0, .agg #[ii a_Marks, ii a_Step, ii a_Turns])]) (by kernel_rfl) ?_
  unfold f76 at h
  refine XQ.seq E0_ok (by kernel_rfl) ?_
  refine XQ.region (by kernel_rfl) ?_
  refine XR.runT E0_ok 1 2 [(1, pp 0 0)] [(0, .cells [ii a_Marks, ii a_Step, ii a_Turns] 0 24 0)] 1 rfl (by kernel_rfl) ?_
  refine XR.done (by kernel_rfl) ?_
  show XQ _ _ _ _ _ _ _ _
  refine XQ.seq E0_ok (by kernel_rfl) ?_
  refine XQ.region (by kernel_rfl) ?_
  refine XR.runS E0_ok 1 1 [(1, pp 0 0), (3, .slice none 0 0)] rfl (by kernel_rfl) ?_
  refine XR.done (by kernel_rfl) ?_
  show XQ _ _ _ _ _ _ _ _
  refine XQ.ghost 3 1 rfl (σ' := [(1, pp 0 0), (3, s0 1 0)]) (h' := [(0, .cells [ii a_Marks, ii a_Step, ii a_Turns] 0 24 0)]) ⟨by kernel_rfl, by kernel_rfl, trivial⟩ ⟨⟨_, rfl, .inl rfl⟩, trivial⟩ ?_
  refine XQ.conv (σ' := [(1, pp 0 0), (3, s0 1 0)]) (h' := [(1, rc (encI .i64) [] 0 3 1), (0, .cells [ii a_Marks, ii a_Step, ii a_Turns] 0 24 0)]) (c' := 2) ?_ (by kernel_rfl)
  refine XQ.seq E0_ok (by kernel_rfl) ?_
  refine XQ.seq E0_ok (by kernel_rfl) ?_
  refine XQ.region (by kernel_rfl) ?_
  refine XR.runS E0_ok 1 1 [(1, pp 0 0), (3, s0 1 0), (4, ii 0)] rfl (by kernel_rfl) ?_
  refine XR.done (by kernel_rfl) ?_
  show XQ _ _ _ _ _ _ _ _
  refine XQ.block (id := 0) (by kernel_rfl) ?_
  refine XQ.loop m (by kernel_rfl) ?_
  obtain ⟨o1, o1_h, h⟩ := bS h
  refine XL.ren (σ' := [(1, pp 0 0), (3, s0 1 0), (4, ii 0)]) (h' := [(1, rc (encI .i64) [] 0 3 1), (0, .cells [ii a_Marks, ii a_Step, ii a_Turns] 0 24 0)]) (c' := 2) [0, 1] (by decide) rfl ⟨by kernel_rfl, by kernel_rfl, by kernel_rfl, trivial⟩ ⟨⟨_, _, rfl, rfl, .inl ⟨rfl, rowC_scal (encI_ok .i64) _⟩⟩, ⟨_, _, rfl, rfl, .inr ⟨_, _, _, _, rfl, rfl⟩⟩, trivial⟩ rfl ?_
  refine XL.conv (f76_1_ok m m a_Marks a_Step a_Turns 0 [] o1 o1_h _ ?_) (by first | rfl | simp)
  show XQ _ _ _ _ _ _ _ _
  refine XQ.seq E0_ok (by kernel_rfl) ?_
  refine XQ.region (by kernel_rfl) ?_
  refine XR.runS E0_ok 1 2 [(2, s0 0 o1.length)] rfl (by kernel_rfl) ?_
  refine XR.done (by kernel_rfl) ?_
  show XQ _ _ _ _ _ _ _ _
  refine XQ.ren (σ' := [(2, s0 0 o1.length)]) (h' := [(0, rc (encI .i64) o1 0 3 1)]) (c' := 1) [0] (by decide) rfl ⟨by kernel_rfl, trivial⟩ ⟨⟨_, _, rfl, rfl, .inl ⟨rfl, rowC_scal (encI_ok .i64) _⟩⟩, trivial⟩ rfl ?_
  refine XQ.ret (by kernel_rfl) ?_
  have h := Option.some.inj h
  subst h
  exact ⟨fun i q => (by cases q), s0 0 o1.length, (by kernel_rfl), (by kernel_rfl), (by kernel_rfl), rfl⟩

end Go.Xm
