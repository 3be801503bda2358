/- What these functions of the program compute, as functions in Lean, and the proofs that they do: wrap.Evens. Conditions: none. -/
import Derived.Test.YtagagpkjlkoieaaPu
namespace Go.Xm
open Go.RowKit
set_option linter.unusedVariables false
set_option linter.unusedSimpArgs false
set_option maxRecDepth 20000

/-! vitola/wrap.Evens -/
noncomputable def f37_C37 : Code := Proofs.Try.f37.body.getD .skip
noncomputable def f37_C79 : Code := Proofs.Try.f79.body.getD .skip
noncomputable def f37_C73 : Code := Proofs.Try.f73.body.getD .skip
noncomputable def f37_C85 : Code := Proofs.Try.f85.body.getD .skip
noncomputable def f37_C86 : Code := Proofs.Try.f86.body.getD .skip
noncomputable def f37_C87 : Code := Proofs.Try.f87.body.getD .skip
noncomputable def f37_C92 : Code := Proofs.Try.f92.body.getD .skip
noncomputable def f37_C96 : Code := Proofs.Try.f96.body.getD .skip
noncomputable def f37_L1 : Code := lft (lft (rgt (lft (rgt (rgt (rgt (rgt f37_C37)))))))
noncomputable def f37_L2 : Code := lft (lft (rgt (lft (rgt (rgt (rgt (rgt (rgt f37_C79))))))))
noncomputable def f37_L3 : Code := lft (lft (rgt (lft (rgt f37_C85))))
noncomputable def f37_L4 : Code := lft (lft (rgt (rgt f37_C92)))
noncomputable def f37_L5 : Code := lft (lft (rgt f37_C96))
noncomputable def f37_L6 : Code := lft (lft (rgt (lft (lft (rgt f37_L5)))))

inductive Of37_3 where
 | r (x4_r3 : Int) (xh4_0_r3 : Int) (xh4_1_r3 : Int)
 | x0 (xh4_0_x03 : Int) (xh4_1_x03 : Int)

def f37_3 (m : Nat) : Nat → Int → Int → Int → Int → Int → List Int → List (Int × Int) → List (Int × Int) → Int → Int → Int → Int → Option Of37_3
 | 0, _, _, _, _, _, _, _, _, _, _, _, _ => none
 | fuel + 1, a, b, xh0_2_1, xh0_3_1, xh0_4_1, lh1_1, lh2_2, lh3_2, x7_3, x8_3, xh4_0_3, xh4_1_3 =>
  cond (decide (x8_3 < x7_3)) (
   cond (inRow x8_3 lh2_2.length) (
    cond (((List.getD lh2_2 (Int.toNat x8_3) (0, 0)).1) == xh4_0_3) (
     some (.r x8_3 xh4_0_3 xh4_1_3)
    ) (
     f37_3 m fuel a b xh0_2_1 xh0_3_1 xh0_4_1 lh1_1 lh2_2 lh3_2 x7_3 (w64 (x8_3 + 1)) xh4_0_3 xh4_1_3
    )
   ) none
  ) (
   some (.x0 xh4_0_3 xh4_1_3)
  )

theorem f37_3_ok (m : Nat) : ∀ (fuel : Nat) (a : Int) (b : Int) (xh0_2_1 : Int) (xh0_3_1 : Int) (xh0_4_1 : Int) (lh1_1 : List Int) (lh2_2 : List (Int × Int)) (lh3_2 : List (Int × Int)) (x7_3 : Int) (x8_3 : Int) (xh4_0_3 : Int) (xh4_1_3 : Int) (o : Of37_3), f37_3 m fuel a b xh0_2_1 xh0_3_1 xh0_4_1 lh1_1 lh2_2 lh3_2 x7_3 x8_3 xh4_0_3 xh4_1_3 = some o → ∀ Q : QP, (match o with | .r x4_r3 xh4_0_r3 xh4_1_r3 => Q .ret [(4, ii x4_r3)] [(4, .cells [ii xh4_0_r3, ii xh4_1_r3] 0 63 0), (3, rc encP lh3_2 0 63 2), (2, rc encP lh2_2 0 63 2), (1, rc (encI .i64) lh1_1 0 3 1), (0, .cells [ii a, ii b, ii xh0_2_1, ii xh0_3_1, ii xh0_4_1] 0 88 0)] 5 | .x0 xh4_0_x03 xh4_1_x03 => Q (.exit 0) [] [(4, .cells [ii xh4_0_x03, ii xh4_1_x03] 0 63 0), (3, rc encP lh3_2 0 63 2), (2, rc encP lh2_2 0 63 2), (1, rc (encI .i64) lh1_1 0 3 1), (0, .cells [ii a, ii b, ii xh0_2_1, ii xh0_3_1, ii xh0_4_1] 0 88 0)] 5) → XL E0 19 5 fuel f37_L3 [(0, s0 2 lh2_2.length), (1, .func (.func 86) #[] #[pp 4 0]), (7, ii x7_3), (8, ii x8_3)] [(4, .cells [ii xh4_0_3, ii xh4_1_3] 0 63 0), (3, rc encP lh3_2 0 63 2), (2, rc encP lh2_2 0 63 2), (1, rc (encI .i64) lh1_1 0 3 1), (0, .cells [ii a, ii b, ii xh0_2_1, ii xh0_3_1, ii xh0_4_1] 0 88 0)] 5 Q
 | 0, a, b, xh0_2_1, xh0_3_1, xh0_4_1, lh1_1, lh2_2, lh3_2, x7_3, x8_3, xh4_0_3, xh4_1_3, o, h, Q, hQ => by cases h
 | fuel + 1, a, b, xh0_2_1, xh0_3_1, xh0_4_1, lh1_1, lh2_2, lh3_2, x7_3, x8_3, xh4_0_3, xh4_1_3, o, h, Q, hQ => by
  unfold f37_3 at h
  refine XL.succ E0_ok ?_
  refine XQ.seq E0_ok (by kernel_rfl) ?_
  refine XQ.region (by kernel_rfl) ?_
  refine XR.runS E0_ok 1 1 [(0, s0 2 lh2_2.length), (1, .func (.func 86) #[] #[pp 4 0]), (7, ii x7_3), (8, ii x8_3), (9, .bool (decide (x8_3 < x7_3)))] rfl (by kernel_rfl) ?_
  refine XR.done (by kernel_rfl) ?_
  show XQ _ _ _ _ _ _ _ _
  refine XQ.seq E0_ok (by kernel_rfl) ?_
  cases b1 : (decide (x8_3 < x7_3) : Bool) with
  | true =>
   have h := cT b1 h
   refine XQ.cond (s := (.tmp 9)) (b := true) (by kernel_rfl) (by kernel_rfl) (fun _ => ?_) (fun q => by cases q)
   refine XQ.skip (by kernel_rfl) ?_
   show XQ _ _ _ _ _ _ _ _
   refine XQ.seq E0_ok (by kernel_rfl) ?_
   refine XQ.block (id := 1) (by kernel_rfl) ?_
   refine XQ.seq E0_ok (by kernel_rfl) ?_
   refine XQ.region (by kernel_rfl) ?_
   refine XR.runS E0_ok 1 2 [(0, s0 2 lh2_2.length), (1, .func (.func 86) #[] #[pp 4 0]), (5, ii x8_3), (7, ii x7_3), (8, ii x8_3)] rfl (by kernel_rfl) ?_
   refine XR.done (by kernel_rfl) ?_
   show XQ _ _ _ _ _ _ _ _
   refine XQ.seq E0_ok (by kernel_rfl) ?_
   refine XQ.region (by kernel_rfl) ?_
   refine XR.runS E0_ok 1 3 [(0, s0 2 lh2_2.length), (1, .func (.func 86) #[] #[pp 4 0]), (5, ii x8_3), (7, ii x7_3), (8, ii x8_3), (11, .func (.func 86) #[] #[pp 4 0]), (12, s0 2 lh2_2.length), (13, ii x8_3)] rfl (by kernel_rfl) ?_
   cases b2 : (inRow x8_3 lh2_2.length : Bool) with
   | false => cases (cF b2 h)
   | true =>
    have h := cT b2 h
    refine XR.rd E0_ok [0, 1, 5, 7, 8, 11, 14] rfl (v := pp 2 ((Int.toNat x8_3) * 2)) (v_idx (s := 2) (x := (src 19 (.tmp 12))) (y := (src 19 (.tmp 13))) (b := 2) (o := 0) (len := lh2_2.length) (cap := lh2_2.length) (ik := .i64) (i := x8_3) (off := (Int.toNat x8_3) * 2) (d := (some (path 12 14))) (by kernel_rfl) (by kernel_rfl) (by kernel_rfl) b2 (by omega)) (σ' := [(0, s0 2 lh2_2.length), (1, .func (.func 86) #[] #[pp 4 0]), (5, ii x8_3), (7, ii x7_3), (8, ii x8_3), (11, .func (.func 86) #[] #[pp 4 0]), (14, pp 2 ((Int.toNat x8_3) * 2))]) (by kernel_rfl) ?_
    refine XR.rd E0_ok [0, 1, 5, 7, 8, 11, 15] rfl (v := .agg #[ii ((List.getD lh2_2 (Int.toNat x8_3) (0, 0)).1), ii ((List.getD lh2_2 (Int.toNat x8_3) (0, 0)).2)]) (v_loadN encP_ok (x := (src 19 (.tmp 14))) (b := 2) (off := (Int.toNat x8_3) * 2) (xs := lh2_2) (fz := 0) (e := 63) (es := 2) (d := (some (path 12 15))) (by kernel_rfl) (by kernel_rfl) (by kernel_rfl) (Int.toNat x8_3) (0, 0) (by first | rfl | omega) (row_len (inRow_toNat b2) (by simp)) rfl) (σ' := [(0, s0 2 lh2_2.length), (1, .func (.func 86) #[] #[pp 4 0]), (5, ii x8_3), (7, ii x7_3), (8, ii x8_3), (11, .func (.func 86) #[] #[pp 4 0]), (15, .agg #[ii ((List.getD lh2_2 (Int.toNat x8_3) (0, 0)).1), ii ((List.getD lh2_2 (Int.toNat x8_3) (0, 0)).2)])]) (by kernel_rfl) ?_
    refine XR.callK E0_ok [0, 1, 5, 7, 8, 16] rfl (K := 86) (args := [.agg #[ii ((List.getD lh2_2 (Int.toNat x8_3) (0, 0)).1), ii ((List.getD lh2_2 (Int.toNat x8_3) (0, 0)).2)], pp 4 0]) (d := (some (path 12 16))) (by kernel_rfl) ?_
    refine KC.bodyN E0_ok (F := Proofs.Try.f86) (by kernel_rfl) (code := f37_C86) (by kernel_rfl) (nt := 9) (by kernel_rfl) (rs := [.tmp 3]) (by kernel_rfl) (by kernel_rfl) (σ := [(0, .agg #[ii ((List.getD lh2_2 (Int.toNat x8_3) (0, 0)).1), ii ((List.getD lh2_2 (Int.toNat x8_3) (0, 0)).2)]), (1, pp 4 0)]) (by kernel_rfl) ?_
    refine XQ.seq E0_ok (by kernel_rfl) ?_
    refine XQ.region (by kernel_rfl) ?_
    refine XR.runT E0_ok 1 2 [(1, pp 4 0), (2, pp 5 0)] [(5, .cells [ii ((List.getD lh2_2 (Int.toNat x8_3) (0, 0)).1), ii ((List.getD lh2_2 (Int.toNat x8_3) (0, 0)).2)] 0 63 0), (4, .cells [ii xh4_0_3, ii xh4_1_3] 0 63 0), (3, rc encP lh3_2 0 63 2), (2, rc encP lh2_2 0 63 2), (1, rc (encI .i64) lh1_1 0 3 1), (0, .cells [ii a, ii b, ii xh0_2_1, ii xh0_3_1, ii xh0_4_1] 0 88 0)] 6 rfl (by kernel_rfl) ?_
    refine XR.done (by kernel_rfl) ?_
    show XQ _ _ _ _ _ _ _ _
    refine XQ.seq E0_ok (by kernel_rfl) ?_
    refine XQ.region (by kernel_rfl) ?_
    refine XR.runS E0_ok 1 6 [(3, .bool (((List.getD lh2_2 (Int.toNat x8_3) (0, 0)).1) == xh4_0_3))] rfl (by kernel_rfl) ?_
    refine XR.done (by kernel_rfl) ?_
    show XQ _ _ _ _ _ _ _ _
    refine XQ.ret (by kernel_rfl) ?_
    refine ⟨fun i q => (by cases q), .bool (((List.getD lh2_2 (Int.toNat x8_3) (0, 0)).1) == xh4_0_3), (by kernel_rfl), ?_⟩
    refine XR.conv (σ' := [(0, s0 2 lh2_2.length), (1, .func (.func 86) #[] #[pp 4 0]), (5, ii x8_3), (7, ii x7_3), (8, ii x8_3), (16, .bool (((List.getD lh2_2 (Int.toNat x8_3) (0, 0)).1) == xh4_0_3))]) (h' := [(5, .cells [ii ((List.getD lh2_2 (Int.toNat x8_3) (0, 0)).1), ii ((List.getD lh2_2 (Int.toNat x8_3) (0, 0)).2)] 0 63 0), (4, .cells [ii xh4_0_3, ii xh4_1_3] 0 63 0), (3, rc encP lh3_2 0 63 2), (2, rc encP lh2_2 0 63 2), (1, rc (encI .i64) lh1_1 0 3 1), (0, .cells [ii a, ii b, ii xh0_2_1, ii xh0_3_1, ii xh0_4_1] 0 88 0)]) (c' := 6) ?_ (by kernel_rfl)
    refine XR.done (by kernel_rfl) ?_
    show XQ _ _ _ _ _ _ _ _
    cases b3 : (((List.getD lh2_2 (Int.toNat x8_3) (0, 0)).1) == xh4_0_3 : Bool) with
    | true =>
     have h := cT b3 h
     refine XQ.cond (s := (.tmp 16)) (b := true) (by kernel_rfl) (by kernel_rfl) (fun _ => ?_) (fun q => by cases q)
     refine XQ.seq E0_ok (by kernel_rfl) ?_
     refine XQ.region (by kernel_rfl) ?_
     refine XR.runS E0_ok 1 2 [(4, ii x8_3)] rfl (by kernel_rfl) ?_
     refine XR.done (by kernel_rfl) ?_
     show XQ _ _ _ _ _ _ _ _
     refine XQ.ren (σ' := [(4, ii x8_3)]) (h' := [(4, .cells [ii xh4_0_3, ii xh4_1_3] 0 63 0), (3, rc encP lh3_2 0 63 2), (2, rc encP lh2_2 0 63 2), (1, rc (encI .i64) lh1_1 0 3 1), (0, .cells [ii a, ii b, ii xh0_2_1, ii xh0_3_1, ii xh0_4_1] 0 88 0)]) (c' := 5) [0, 1, 2, 3, 4] (by decide) rfl ⟨by kernel_rfl, trivial⟩ ⟨⟨_, _, rfl, rfl, .inr ⟨_, _, _, _, rfl, rfl⟩⟩, ⟨_, _, rfl, rfl, .inl ⟨rfl, rowC_scal encP_ok _⟩⟩, ⟨_, _, rfl, rfl, .inl ⟨rfl, rowC_scal encP_ok _⟩⟩, ⟨_, _, rfl, rfl, .inl ⟨rfl, rowC_scal (encI_ok .i64) _⟩⟩, ⟨_, _, rfl, rfl, .inr ⟨_, _, _, _, rfl, rfl⟩⟩, trivial⟩ rfl ?_
     refine XQ.ret (by kernel_rfl) ?_
     cases h
     exact hQ
    | false =>
     have h := cF b3 h
     refine XQ.cond (s := (.tmp 16)) (b := false) (by kernel_rfl) (by kernel_rfl) (fun q => by cases q) (fun _ => ?_)
     refine XQ.skip (by kernel_rfl) ?_
     show XQ _ _ _ _ _ _ _ _
     refine XQ.region (by kernel_rfl) ?_
     refine XR.runS E0_ok 1 2 [(0, s0 2 lh2_2.length), (1, .func (.func 86) #[] #[pp 4 0]), (7, ii x7_3), (8, ii (w64 (x8_3 + 1)))] rfl (by kernel_rfl) ?_
     refine XR.done (by kernel_rfl) ?_
     show XL _ _ _ _ _ _ _ _ _
     refine XL.ren (σ' := [(0, s0 2 lh2_2.length), (1, .func (.func 86) #[] #[pp 4 0]), (7, ii x7_3), (8, ii (w64 (x8_3 + 1)))]) (h' := [(4, .cells [ii xh4_0_3, ii xh4_1_3] 0 63 0), (3, rc encP lh3_2 0 63 2), (2, rc encP lh2_2 0 63 2), (1, rc (encI .i64) lh1_1 0 3 1), (0, .cells [ii a, ii b, ii xh0_2_1, ii xh0_3_1, ii xh0_4_1] 0 88 0)]) (c' := 5) [0, 1, 2, 3, 4] (by decide) rfl ⟨by kernel_rfl, by kernel_rfl, by kernel_rfl, by kernel_rfl, trivial⟩ ⟨⟨_, _, rfl, rfl, .inr ⟨_, _, _, _, rfl, rfl⟩⟩, ⟨_, _, rfl, rfl, .inl ⟨rfl, rowC_scal encP_ok _⟩⟩, ⟨_, _, rfl, rfl, .inl ⟨rfl, rowC_scal encP_ok _⟩⟩, ⟨_, _, rfl, rfl, .inl ⟨rfl, rowC_scal (encI_ok .i64) _⟩⟩, ⟨_, _, rfl, rfl, .inr ⟨_, _, _, _, rfl, rfl⟩⟩, trivial⟩ rfl ?_
     refine XL.conv (f37_3_ok m fuel a b xh0_2_1 xh0_3_1 xh0_4_1 lh1_1 lh2_2 lh3_2 x7_3 (w64 (x8_3 + 1)) xh4_0_3 xh4_1_3 o h Q hQ) (by first | rfl | simp)
  | false =>
   have h := cF b1 h
   refine XQ.cond (s := (.tmp 9)) (b := false) (by kernel_rfl) (by kernel_rfl) (fun q => by cases q) (fun _ => ?_)
   refine XQ.ren (σ' := []) (h' := [(4, .cells [ii xh4_0_3, ii xh4_1_3] 0 63 0), (3, rc encP lh3_2 0 63 2), (2, rc encP lh2_2 0 63 2), (1, rc (encI .i64) lh1_1 0 3 1), (0, .cells [ii a, ii b, ii xh0_2_1, ii xh0_3_1, ii xh0_4_1] 0 88 0)]) (c' := 5) [0, 1, 2, 3, 4] (by decide) rfl trivial ⟨⟨_, _, rfl, rfl, .inr ⟨_, _, _, _, rfl, rfl⟩⟩, ⟨_, _, rfl, rfl, .inl ⟨rfl, rowC_scal encP_ok _⟩⟩, ⟨_, _, rfl, rfl, .inl ⟨rfl, rowC_scal encP_ok _⟩⟩, ⟨_, _, rfl, rfl, .inl ⟨rfl, rowC_scal (encI_ok .i64) _⟩⟩, ⟨_, _, rfl, rfl, .inr ⟨_, _, _, _, rfl, rfl⟩⟩, trivial⟩ rfl ?_
   refine XQ.exit (i := 0) (by kernel_rfl) ?_
   cases h
   exact hQ

def f37_2 (m : Nat) : Nat → Int → Int → Int → Int → Int → List Int → Int → List (Int × Int) → List (Int × Int) → Option (List (Int × Int))
 | 0, _, _, _, _, _, _, _, _, _ => none
 | fuel + 1, a, b, xh0_2_1, xh0_3_1, xh0_4_1, lh1_1, x85_2, lh2_2, lh3_2 =>
  cond (decide (x85_2 < 3)) (
   cond (inRow x85_2 lh3_2.length) (
    cond (((List.getD lh3_2 (Int.toNat x85_2) (0, 0)).2) == 0) (
     f37_2 m fuel a b xh0_2_1 xh0_3_1 xh0_4_1 lh1_1 (w64 (x85_2 + 1)) lh2_2 lh3_2
    ) (
     (f37_3 m m a b xh0_2_1 xh0_3_1 xh0_4_1 lh1_1 lh2_2 lh3_2 ((lh2_2.length : Nat) : Int) 0 ((List.getD lh3_2 (Int.toNat x85_2) (0, 0)).1) ((List.getD lh3_2 (Int.toNat x85_2) (0, 0)).2)).bind fun o3 =>
      match o3 with
      | .r x4_r3 xh4_0_r3 xh4_1_r3 =>
       cond (decide (x4_r3 ≥ 0)) (
        cond (inRow x4_r3 lh2_2.length) (
         f37_2 m fuel a b xh0_2_1 xh0_3_1 xh0_4_1 lh1_1 (w64 (x85_2 + 1)) (List.set lh2_2 (Int.toNat x4_r3) ((List.getD lh2_2 (Int.toNat x4_r3) (0, 0)).1, w64 (((List.getD lh2_2 (Int.toNat x4_r3) (0, 0)).2) + xh4_1_r3))) lh3_2
        ) none
       ) (
        cond (fitsB (lh2_2.length + 1) 16) (
         f37_2 m fuel a b xh0_2_1 xh0_3_1 xh0_4_1 lh1_1 (w64 (x85_2 + 1)) (lh2_2 ++ [(xh4_0_r3, xh4_1_r3)]) lh3_2
        ) none
       )
      | .x0 xh4_0_x03 xh4_1_x03 =>
       cond (fitsB (lh2_2.length + 1) 16) (
        f37_2 m fuel a b xh0_2_1 xh0_3_1 xh0_4_1 lh1_1 (w64 (x85_2 + 1)) (lh2_2 ++ [(xh4_0_x03, xh4_1_x03)]) lh3_2
       ) none
    )
   ) none
  ) (
   some (lh2_2)
  )

theorem f37_2_ok (m : Nat) : ∀ (fuel : Nat) (a : Int) (b : Int) (xh0_2_1 : Int) (xh0_3_1 : Int) (xh0_4_1 : Int) (lh1_1 : List Int) (x85_2 : Int) (lh2_2 : List (Int × Int)) (lh3_2 : List (Int × Int)) (o : (List (Int × Int))), f37_2 m fuel a b xh0_2_1 xh0_3_1 xh0_4_1 lh1_1 x85_2 lh2_2 lh3_2 = some o → ∀ Q : QP, Q (.exit 0) [(7, s0 2 o.length)] [(2, rc encP o 0 63 2), (1, rc (encI .i64) lh1_1 0 3 1), (0, .cells [ii a, ii b, ii xh0_2_1, ii xh0_3_1, ii xh0_4_1] 0 88 0)] 3 → XL E0 115 2 fuel f37_L2 [(7, s0 2 lh2_2.length), (83, s0 3 lh3_2.length), (84, ii 3), (85, ii x85_2)] [(3, rc encP lh3_2 0 63 2), (2, rc encP lh2_2 0 63 2), (1, rc (encI .i64) lh1_1 0 3 1), (0, .cells [ii a, ii b, ii xh0_2_1, ii xh0_3_1, ii xh0_4_1] 0 88 0)] 4 Q
 | 0, a, b, xh0_2_1, xh0_3_1, xh0_4_1, lh1_1, x85_2, lh2_2, lh3_2, o, h, Q, hQ => by cases h
 | fuel + 1, a, b, xh0_2_1, xh0_3_1, xh0_4_1, lh1_1, x85_2, lh2_2, lh3_2, o, h, Q, hQ => by
  unfold f37_2 at h
  refine XL.succ E0_ok ?_
  refine XQ.seq E0_ok (by kernel_rfl) ?_
  refine XQ.region (by kernel_rfl) ?_
  refine XR.runS E0_ok 1 1 [(7, s0 2 lh2_2.length), (83, s0 3 lh3_2.length), (84, ii 3), (85, ii x85_2), (86, .bool (decide (x85_2 < 3)))] rfl (by kernel_rfl) ?_
  refine XR.done (by kernel_rfl) ?_
  show XQ _ _ _ _ _ _ _ _
  refine XQ.seq E0_ok (by kernel_rfl) ?_
  cases b1 : (decide (x85_2 < 3) : Bool) with
  | true =>
   have h := cT b1 h
   refine XQ.cond (s := (.tmp 86)) (b := true) (by kernel_rfl) (by kernel_rfl) (fun _ => ?_) (fun q => by cases q)
   refine XQ.skip (by kernel_rfl) ?_
   show XQ _ _ _ _ _ _ _ _
   refine XQ.seq E0_ok (by kernel_rfl) ?_
   refine XQ.block (id := 1) (by kernel_rfl) ?_
   refine XQ.seq E0_ok (by kernel_rfl) ?_
   refine XQ.region (by kernel_rfl) ?_
   cases b2 : (inRow x85_2 lh3_2.length : Bool) with
   | false => cases (cF b2 h)
   | true =>
    have h := cT b2 h
    refine XR.rd E0_ok [7, 83, 84, 85, 87] rfl (v := pp 3 ((Int.toNat x85_2) * 2)) (v_idx (s := 2) (x := (src 115 (.tmp 83))) (y := (src 115 (.tmp 85))) (b := 3) (o := 0) (len := lh3_2.length) (cap := lh3_2.length) (ik := .i64) (i := x85_2) (off := (Int.toNat x85_2) * 2) (d := (some (path 12 87))) (by kernel_rfl) (by kernel_rfl) (by kernel_rfl) b2 (by omega)) (σ' := [(7, s0 2 lh2_2.length), (83, s0 3 lh3_2.length), (84, ii 3), (85, ii x85_2), (87, pp 3 ((Int.toNat x85_2) * 2))]) (by kernel_rfl) ?_
    refine XR.rd E0_ok [7, 83, 84, 85, 88] rfl (v := .agg #[ii ((List.getD lh3_2 (Int.toNat x85_2) (0, 0)).1), ii ((List.getD lh3_2 (Int.toNat x85_2) (0, 0)).2)]) (v_loadN encP_ok (x := (src 115 (.tmp 87))) (b := 3) (off := (Int.toNat x85_2) * 2) (xs := lh3_2) (fz := 0) (e := 63) (es := 2) (d := (some (path 12 88))) (by kernel_rfl) (by kernel_rfl) (by kernel_rfl) (Int.toNat x85_2) (0, 0) (by first | rfl | omega) (row_len (inRow_toNat b2) (by simp)) rfl) (σ' := [(7, s0 2 lh2_2.length), (83, s0 3 lh3_2.length), (84, ii 3), (85, ii x85_2), (88, .agg #[ii ((List.getD lh3_2 (Int.toNat x85_2) (0, 0)).1), ii ((List.getD lh3_2 (Int.toNat x85_2) (0, 0)).2)])]) (by kernel_rfl) ?_
    refine XR.runT E0_ok 1 2 [(7, s0 2 lh2_2.length), (9, pp 4 0), (83, s0 3 lh3_2.length), (84, ii 3), (85, ii x85_2)] [(4, .cells [ii ((List.getD lh3_2 (Int.toNat x85_2) (0, 0)).1), ii ((List.getD lh3_2 (Int.toNat x85_2) (0, 0)).2)] 0 63 0), (3, rc encP lh3_2 0 63 2), (2, rc encP lh2_2 0 63 2), (1, rc (encI .i64) lh1_1 0 3 1), (0, .cells [ii a, ii b, ii xh0_2_1, ii xh0_3_1, ii xh0_4_1] 0 88 0)] 5 rfl (by kernel_rfl) ?_
    refine XR.done (by kernel_rfl) ?_
    show XQ _ _ _ _ _ _ _ _
    refine XQ.seq E0_ok (by kernel_rfl) ?_
    refine XQ.seq E0_ok (by kernel_rfl) ?_
    refine XQ.region (by kernel_rfl) ?_
    refine XR.runS E0_ok 1 3 [(7, s0 2 lh2_2.length), (9, pp 4 0), (83, s0 3 lh3_2.length), (84, ii 3), (85, ii x85_2), (91, .bool (((List.getD lh3_2 (Int.toNat x85_2) (0, 0)).2) == 0))] rfl (by kernel_rfl) ?_
    refine XR.done (by kernel_rfl) ?_
    show XQ _ _ _ _ _ _ _ _
    cases b3 : (((List.getD lh3_2 (Int.toNat x85_2) (0, 0)).2) == 0 : Bool) with
    | true =>
     have h := cT b3 h
     refine XQ.cond (s := (.tmp 91)) (b := true) (by kernel_rfl) (by kernel_rfl) (fun _ => ?_) (fun q => by cases q)
     refine XQ.exit (i := 1) (by kernel_rfl) ?_
     show XQ _ _ _ _ _ _ _ _
     refine XQ.region (by kernel_rfl) ?_
     refine XR.runS E0_ok 1 2 [(7, s0 2 lh2_2.length), (83, s0 3 lh3_2.length), (84, ii 3), (85, ii (w64 (x85_2 + 1)))] rfl (by kernel_rfl) ?_
     refine XR.done (by kernel_rfl) ?_
     show XL _ _ _ _ _ _ _ _ _
     refine XL.ren (σ' := [(7, s0 2 lh2_2.length), (83, s0 3 lh3_2.length), (84, ii 3), (85, ii (w64 (x85_2 + 1)))]) (h' := [(3, rc encP lh3_2 0 63 2), (2, rc encP lh2_2 0 63 2), (1, rc (encI .i64) lh1_1 0 3 1), (0, .cells [ii a, ii b, ii xh0_2_1, ii xh0_3_1, ii xh0_4_1] 0 88 0)]) (c' := 4) [0, 1, 2, 3] (by decide) rfl ⟨by kernel_rfl, by kernel_rfl, by kernel_rfl, by kernel_rfl, trivial⟩ ⟨⟨_, _, rfl, rfl, .inl ⟨rfl, rowC_scal encP_ok _⟩⟩, ⟨_, _, rfl, rfl, .inl ⟨rfl, rowC_scal encP_ok _⟩⟩, ⟨_, _, rfl, rfl, .inl ⟨rfl, rowC_scal (encI_ok .i64) _⟩⟩, ⟨_, _, rfl, rfl, .inr ⟨_, _, _, _, rfl, rfl⟩⟩, trivial⟩ rfl ?_
     refine XL.conv (f37_2_ok m fuel a b xh0_2_1 xh0_3_1 xh0_4_1 lh1_1 (w64 (x85_2 + 1)) lh2_2 lh3_2 o h Q hQ) (by first | rfl | simp)
    | false =>
     have h := cF b3 h
     refine XQ.cond (s := (.tmp 91)) (b := false) (by kernel_rfl) (by kernel_rfl) (fun q => by cases q) (fun _ => ?_)
     refine XQ.skip (by kernel_rfl) ?_
     show XQ _ _ _ _ _ _ _ _
     refine XQ.seq E0_ok (by kernel_rfl) ?_
     refine XQ.seq E0_ok (by kernel_rfl) ?_
     refine XQ.region (by kernel_rfl) ?_
     refine XR.runS E0_ok 1 2 [(7, s0 2 lh2_2.length), (9, pp 4 0), (83, s0 3 lh3_2.length), (84, ii 3), (85, ii x85_2), (92, s0 2 lh2_2.length), (93, .func (.func 86) #[] #[pp 4 0])] rfl (by kernel_rfl) ?_
     refine XR.callK E0_ok [7, 9, 83, 84, 85, 94] rfl (K := 85) (args := [s0 2 lh2_2.length, .func (.func 86) #[] #[pp 4 0]]) (d := (some (path 12 94))) (by kernel_rfl) ?_
     refine KC.bodyN E0_ok (F := Proofs.Try.f85) (by kernel_rfl) (code := f37_C85) (by kernel_rfl) (nt := 19) (by kernel_rfl) (rs := [.tmp 4]) (by kernel_rfl) (by kernel_rfl) (σ := [(0, s0 2 lh2_2.length), (1, .func (.func 86) #[] #[pp 4 0])]) (by kernel_rfl) ?_
     refine XQ.seq E0_ok (by kernel_rfl) ?_
     refine XQ.region (by kernel_rfl) ?_
     refine XR.runS E0_ok 1 1 [(0, s0 2 lh2_2.length), (1, .func (.func 86) #[] #[pp 4 0])] rfl (by kernel_rfl) ?_
     refine XR.done (by kernel_rfl) ?_
     show XQ _ _ _ _ _ _ _ _
     refine XQ.seq E0_ok (by kernel_rfl) ?_
     refine XQ.seq E0_ok (by kernel_rfl) ?_
     refine XQ.region (by kernel_rfl) ?_
     refine XR.runS E0_ok 1 3 [(0, s0 2 lh2_2.length), (1, .func (.func 86) #[] #[pp 4 0]), (7, ii ((lh2_2.length : Nat) : Int)), (8, ii 0)] rfl (by kernel_rfl) ?_
     refine XR.done (by kernel_rfl) ?_
     show XQ _ _ _ _ _ _ _ _
     refine XQ.block (id := 0) (by kernel_rfl) ?_
     refine XQ.loop m (by kernel_rfl) ?_
     obtain ⟨o3, o3_h, h⟩ := bS h
     refine XL.ren (σ' := [(0, s0 2 lh2_2.length), (1, .func (.func 86) #[] #[pp 4 0]), (7, ii ((lh2_2.length : Nat) : Int)), (8, ii 0)]) (h' := [(4, .cells [ii ((List.getD lh3_2 (Int.toNat x85_2) (0, 0)).1), ii ((List.getD lh3_2 (Int.toNat x85_2) (0, 0)).2)] 0 63 0), (3, rc encP lh3_2 0 63 2), (2, rc encP lh2_2 0 63 2), (1, rc (encI .i64) lh1_1 0 3 1), (0, .cells [ii a, ii b, ii xh0_2_1, ii xh0_3_1, ii xh0_4_1] 0 88 0)]) (c' := 5) [0, 1, 2, 3, 4] (by decide) rfl ⟨by kernel_rfl, by kernel_rfl, by kernel_rfl, by kernel_rfl, trivial⟩ ⟨⟨_, _, rfl, rfl, .inr ⟨_, _, _, _, rfl, rfl⟩⟩, ⟨_, _, rfl, rfl, .inl ⟨rfl, rowC_scal encP_ok _⟩⟩, ⟨_, _, rfl, rfl, .inl ⟨rfl, rowC_scal encP_ok _⟩⟩, ⟨_, _, rfl, rfl, .inl ⟨rfl, rowC_scal (encI_ok .i64) _⟩⟩, ⟨_, _, rfl, rfl, .inr ⟨_, _, _, _, rfl, rfl⟩⟩, trivial⟩ rfl ?_
     cases o3 with
     | r x4_r3 xh4_0_r3 xh4_1_r3 =>
      dsimp only at h
      refine XL.conv (f37_3_ok m m a b xh0_2_1 xh0_3_1 xh0_4_1 lh1_1 lh2_2 lh3_2 ((lh2_2.length : Nat) : Int) 0 ((List.getD lh3_2 (Int.toNat x85_2) (0, 0)).1) ((List.getD lh3_2 (Int.toNat x85_2) (0, 0)).2) (.r x4_r3 xh4_0_r3 xh4_1_r3) o3_h _ ?_) (by first | rfl | simp)
      refine ⟨fun i q => (by cases q), ii x4_r3, (by kernel_rfl), ?_⟩
      refine XR.conv (σ' := [(7, s0 2 lh2_2.length), (9, pp 4 0), (83, s0 3 lh3_2.length), (84, ii 3), (85, ii x85_2), (94, ii x4_r3)]) (h' := [(4, .cells [ii xh4_0_r3, ii xh4_1_r3] 0 63 0), (3, rc encP lh3_2 0 63 2), (2, rc encP lh2_2 0 63 2), (1, rc (encI .i64) lh1_1 0 3 1), (0, .cells [ii a, ii b, ii xh0_2_1, ii xh0_3_1, ii xh0_4_1] 0 88 0)]) (c' := 5) ?_ (by kernel_rfl)
      refine XR.runS E0_ok 1 1 [(7, s0 2 lh2_2.length), (9, pp 4 0), (10, ii x4_r3), (83, s0 3 lh3_2.length), (84, ii 3), (85, ii x85_2)] rfl (by kernel_rfl) ?_
      refine XR.done (by kernel_rfl) ?_
      show XQ _ _ _ _ _ _ _ _
      refine XQ.seq E0_ok (by kernel_rfl) ?_
      refine XQ.region (by kernel_rfl) ?_
      refine XR.runS E0_ok 1 2 [(7, s0 2 lh2_2.length), (9, pp 4 0), (10, ii x4_r3), (83, s0 3 lh3_2.length), (84, ii 3), (85, ii x85_2), (96, .bool (decide (x4_r3 ≥ 0)))] rfl (by kernel_rfl) ?_
      refine XR.done (by kernel_rfl) ?_
      show XQ _ _ _ _ _ _ _ _
      cases b5 : (decide (x4_r3 ≥ 0) : Bool) with
      | true =>
       have h := cT b5 h
       refine XQ.cond (s := (.tmp 96)) (b := true) (by kernel_rfl) (by kernel_rfl) (fun _ => ?_) (fun q => by cases q)
       refine XQ.seq E0_ok (by kernel_rfl) ?_
       refine XQ.tail E0_ok 10 (by kernel_rfl) (by kernel_rfl) ?_
       refine XS.step E0_ok 2 rfl [7, 9, 83, 84, 85, 97, 98] rfl (σ' := [(7, s0 2 lh2_2.length), (9, pp 4 0), (83, s0 3 lh3_2.length), (84, ii 3), (85, ii x85_2), (97, s0 2 lh2_2.length), (98, ii x4_r3)]) (by kernel_rfl) ?_
       cases b6 : (inRow x4_r3 lh2_2.length : Bool) with
       | false => cases (cF b6 h)
       | true =>
        have h := cT b6 h
        refine XS.rd E0_ok rfl [7, 9, 83, 84, 85, 97, 98, 99] rfl (v := pp 2 ((Int.toNat x4_r3) * 2)) (v_idx (s := 2) (x := (src 115 (.tmp 97))) (y := (src 115 (.tmp 98))) (b := 2) (o := 0) (len := lh2_2.length) (cap := lh2_2.length) (ik := .i64) (i := x4_r3) (off := (Int.toNat x4_r3) * 2) (d := (some (path 12 99))) (by kernel_rfl) (by kernel_rfl) (by kernel_rfl) b6 (by omega)) (σ' := [(7, s0 2 lh2_2.length), (9, pp 4 0), (83, s0 3 lh3_2.length), (84, ii 3), (85, ii x85_2), (97, s0 2 lh2_2.length), (98, ii x4_r3), (99, pp 2 ((Int.toNat x4_r3) * 2))]) (by kernel_rfl) ?_
        refine XS.step E0_ok 1 rfl [7, 9, 83, 84, 85, 97, 98, 100] rfl (σ' := [(7, s0 2 lh2_2.length), (9, pp 4 0), (83, s0 3 lh3_2.length), (84, ii 3), (85, ii x85_2), (97, s0 2 lh2_2.length), (98, ii x4_r3), (100, pp 2 ((Int.toNat x4_r3) * 2 + 1))]) (by kernel_rfl) ?_
        refine XS.rd E0_ok rfl [7, 9, 83, 84, 85, 97, 98, 101] rfl (v := ii ((List.getD lh2_2 (Int.toNat x4_r3) (0, 0)).2)) (v_load1 encP_ok (x := (src 115 (.tmp 100))) (b := 2) (off := (Int.toNat x4_r3) * 2 + 1) (xs := lh2_2) (fz := 0) (e := 63) (es := 2) (d := (some (path 12 101))) (by kernel_rfl) (by kernel_rfl) (by kernel_rfl) (Int.toNat x4_r3) 1 (0, 0) (by first | rfl | omega) (row_len (inRow_toNat b6) (by simp)) rfl rfl) (σ' := [(7, s0 2 lh2_2.length), (9, pp 4 0), (83, s0 3 lh3_2.length), (84, ii 3), (85, ii x85_2), (97, s0 2 lh2_2.length), (98, ii x4_r3), (101, ii ((List.getD lh2_2 (Int.toNat x4_r3) (0, 0)).2))]) (by kernel_rfl) ?_
        refine XS.step E0_ok 3 rfl [7, 83, 84, 85, 97, 98, 104] rfl (σ' := [(7, s0 2 lh2_2.length), (83, s0 3 lh3_2.length), (84, ii 3), (85, ii x85_2), (97, s0 2 lh2_2.length), (98, ii x4_r3), (104, ii (w64 (((List.getD lh2_2 (Int.toNat x4_r3) (0, 0)).2) + xh4_1_r3)))]) (by kernel_rfl) ?_
        refine XS.rd E0_ok rfl [7, 83, 84, 85, 104, 105] rfl (v := pp 2 ((Int.toNat x4_r3) * 2)) (v_idx (s := 2) (x := (src 115 (.tmp 97))) (y := (src 115 (.tmp 98))) (b := 2) (o := 0) (len := lh2_2.length) (cap := lh2_2.length) (ik := .i64) (i := x4_r3) (off := (Int.toNat x4_r3) * 2) (d := (some (path 12 105))) (by kernel_rfl) (by kernel_rfl) (by kernel_rfl) b6 (by omega)) (σ' := [(7, s0 2 lh2_2.length), (83, s0 3 lh3_2.length), (84, ii 3), (85, ii x85_2), (104, ii (w64 (((List.getD lh2_2 (Int.toNat x4_r3) (0, 0)).2) + xh4_1_r3))), (105, pp 2 ((Int.toNat x4_r3) * 2))]) (by kernel_rfl) ?_
        refine XS.step E0_ok 1 rfl [7, 83, 84, 85, 104, 106] rfl (σ' := [(7, s0 2 lh2_2.length), (83, s0 3 lh3_2.length), (84, ii 3), (85, ii x85_2), (104, ii (w64 (((List.getD lh2_2 (Int.toNat x4_r3) (0, 0)).2) + xh4_1_r3))), (106, pp 2 ((Int.toNat x4_r3) * 2 + 1))]) (by kernel_rfl) ?_
        refine XS.done (by kernel_rfl) ?_
        refine XR.ef E0_ok [7, 83, 84, 85] rfl (e_store encP_ok (size := 1) (x := (src 115 (.tmp 106))) (y := (src 115 (.tmp 104))) (b := 2) (off := (Int.toNat x4_r3) * 2 + 1) (xs := lh2_2) (e := 63) (es := 2) (d := none) (h' := [(4, .cells [ii xh4_0_r3, ii xh4_1_r3] 0 63 0), (3, rc encP lh3_2 0 63 2), (2, rc encP (List.set lh2_2 (Int.toNat x4_r3) ((List.getD lh2_2 (Int.toNat x4_r3) (0, 0)).1, w64 (((List.getD lh2_2 (Int.toNat x4_r3) (0, 0)).2) + xh4_1_r3))) 0 63 2), (1, rc (encI .i64) lh1_1 0 3 1), (0, .cells [ii a, ii b, ii xh0_2_1, ii xh0_3_1, ii xh0_4_1] 0 88 0)]) (w := ii (w64 (((List.getD lh2_2 (Int.toNat x4_r3) (0, 0)).2) + xh4_1_r3))) (ws := [ii (w64 (((List.getD lh2_2 (Int.toNat x4_r3) (0, 0)).2) + xh4_1_r3))]) (a := ((List.getD lh2_2 (Int.toNat x4_r3) (0, 0)).1, w64 (((List.getD lh2_2 (Int.toNat x4_r3) (0, 0)).2) + xh4_1_r3))) (by kernel_rfl) (by kernel_rfl) (by kernel_rfl) (Int.toNat x4_r3) 1 (0, 0) (by first | rfl | omega) (row_len (inRow_toNat b6) (by simp)) (by kernel_rfl) rfl rfl rfl rfl rfl (by kernel_rfl)) (σ' := [(7, s0 2 lh2_2.length), (83, s0 3 lh3_2.length), (84, ii 3), (85, ii x85_2)]) (by kernel_rfl) ?_
        refine XR.done (by kernel_rfl) ?_
        show XQ _ _ _ _ _ _ _ _
        refine XQ.exit (i := 1) (by kernel_rfl) ?_
        show XQ _ _ _ _ _ _ _ _
        refine XQ.region (by kernel_rfl) ?_
        refine XR.runS E0_ok 1 2 [(7, s0 2 lh2_2.length), (83, s0 3 lh3_2.length), (84, ii 3), (85, ii (w64 (x85_2 + 1)))] rfl (by kernel_rfl) ?_
        refine XR.done (by kernel_rfl) ?_
        show XL _ _ _ _ _ _ _ _ _
        refine XL.ren (σ' := [(7, s0 2 lh2_2.length), (83, s0 3 lh3_2.length), (84, ii 3), (85, ii (w64 (x85_2 + 1)))]) (h' := [(3, rc encP lh3_2 0 63 2), (2, rc encP (List.set lh2_2 (Int.toNat x4_r3) ((List.getD lh2_2 (Int.toNat x4_r3) (0, 0)).1, w64 (((List.getD lh2_2 (Int.toNat x4_r3) (0, 0)).2) + xh4_1_r3))) 0 63 2), (1, rc (encI .i64) lh1_1 0 3 1), (0, .cells [ii a, ii b, ii xh0_2_1, ii xh0_3_1, ii xh0_4_1] 0 88 0)]) (c' := 4) [0, 1, 2, 3] (by decide) rfl ⟨by kernel_rfl, by kernel_rfl, by kernel_rfl, by kernel_rfl, trivial⟩ ⟨⟨_, _, rfl, rfl, .inl ⟨rfl, rowC_scal encP_ok _⟩⟩, ⟨_, _, rfl, rfl, .inl ⟨rfl, rowC_scal encP_ok _⟩⟩, ⟨_, _, rfl, rfl, .inl ⟨rfl, rowC_scal (encI_ok .i64) _⟩⟩, ⟨_, _, rfl, rfl, .inr ⟨_, _, _, _, rfl, rfl⟩⟩, trivial⟩ rfl ?_
        refine XL.conv (f37_2_ok m fuel a b xh0_2_1 xh0_3_1 xh0_4_1 lh1_1 (w64 (x85_2 + 1)) (List.set lh2_2 (Int.toNat x4_r3) ((List.getD lh2_2 (Int.toNat x4_r3) (0, 0)).1, w64 (((List.getD lh2_2 (Int.toNat x4_r3) (0, 0)).2) + xh4_1_r3))) lh3_2 o h Q hQ) (by first | rfl | simp)
      | false =>
       have h := cF b5 h
       refine XQ.cond (s := (.tmp 96)) (b := false) (by kernel_rfl) (by kernel_rfl) (fun q => by cases q) (fun _ => ?_)
       refine XQ.skip (by kernel_rfl) ?_
       show XQ _ _ _ _ _ _ _ _
       refine XQ.region (by kernel_rfl) ?_
       refine XR.runT E0_ok 1 3 [(83, s0 3 lh3_2.length), (84, ii 3), (85, ii x85_2), (107, s0 2 lh2_2.length), (109, s0 5 1)] [(5, .cells [ii xh4_0_r3, ii xh4_1_r3] 0 63 2), (4, .cells [ii xh4_0_r3, ii xh4_1_r3] 0 63 0), (3, rc encP lh3_2 0 63 2), (2, rc encP lh2_2 0 63 2), (1, rc (encI .i64) lh1_1 0 3 1), (0, .cells [ii a, ii b, ii xh0_2_1, ii xh0_3_1, ii xh0_4_1] 0 88 0)] 6 rfl (by kernel_rfl) ?_
       cases b7 : (fitsB (lh2_2.length + 1) 16 : Bool) with
       | false => cases (cF b7 h)
       | true =>
        have h := cT b7 h
        refine XR.ef E0_ok [83, 84, 85, 110] rfl (e_append encP_ok (bytes := 16) (e := 63) (x := (src 115 (.tmp 107))) (y := (src 115 (.tmp 109))) (b := 2) (len := lh2_2.length) (cap := lh2_2.length) (xs := lh2_2) (m := 0) (ys := [(xh4_0_r3, xh4_1_r3)]) (d := (some (path 12 110))) (n' := (lh2_2 ++ [(xh4_0_r3, xh4_1_r3)]).length) (h' := [(6, rc encP (lh2_2 ++ [(xh4_0_r3, xh4_1_r3)]) 0 63 2), (5, .cells [ii xh4_0_r3, ii xh4_1_r3] 0 63 2), (4, .cells [ii xh4_0_r3, ii xh4_1_r3] 0 63 0), (3, rc encP lh3_2 0 63 2), (1, rc (encI .i64) lh1_1 0 3 1), (0, .cells [ii a, ii b, ii xh0_2_1, ii xh0_3_1, ii xh0_4_1] 0 88 0)]) (by kernel_rfl) (by kernel_rfl) (by kernel_rfl) (by kernel_rfl) rfl (by simp) (by simp) b7 (by simp) (by kernel_rfl)) (σ' := [(83, s0 3 lh3_2.length), (84, ii 3), (85, ii x85_2), (110, s0 6 ((lh2_2 ++ [(xh4_0_r3, xh4_1_r3)]).length))]) (by kernel_rfl) ?_
        refine XR.runS E0_ok 1 1 [(7, s0 6 ((lh2_2 ++ [(xh4_0_r3, xh4_1_r3)]).length)), (83, s0 3 lh3_2.length), (84, ii 3), (85, ii x85_2)] rfl (by kernel_rfl) ?_
        refine XR.done (by kernel_rfl) ?_
        show XQ _ _ _ _ _ _ _ _
        refine XQ.region (by kernel_rfl) ?_
        refine XR.runS E0_ok 1 2 [(7, s0 6 ((lh2_2 ++ [(xh4_0_r3, xh4_1_r3)]).length)), (83, s0 3 lh3_2.length), (84, ii 3), (85, ii (w64 (x85_2 + 1)))] rfl (by kernel_rfl) ?_
        refine XR.done (by kernel_rfl) ?_
        show XL _ _ _ _ _ _ _ _ _
        refine XL.ren (σ' := [(7, s0 2 ((lh2_2 ++ [(xh4_0_r3, xh4_1_r3)]).length)), (83, s0 3 lh3_2.length), (84, ii 3), (85, ii (w64 (x85_2 + 1)))]) (h' := [(3, rc encP lh3_2 0 63 2), (2, rc encP (lh2_2 ++ [(xh4_0_r3, xh4_1_r3)]) 0 63 2), (1, rc (encI .i64) lh1_1 0 3 1), (0, .cells [ii a, ii b, ii xh0_2_1, ii xh0_3_1, ii xh0_4_1] 0 88 0)]) (c' := 4) [0, 1, 6, 3] (by decide) rfl ⟨by kernel_rfl, by kernel_rfl, by kernel_rfl, by kernel_rfl, trivial⟩ ⟨⟨_, _, rfl, rfl, .inl ⟨rfl, rowC_scal encP_ok _⟩⟩, ⟨_, _, rfl, rfl, .inl ⟨rfl, rowC_scal encP_ok _⟩⟩, ⟨_, _, rfl, rfl, .inl ⟨rfl, rowC_scal (encI_ok .i64) _⟩⟩, ⟨_, _, rfl, rfl, .inr ⟨_, _, _, _, rfl, rfl⟩⟩, trivial⟩ rfl ?_
        refine XL.conv (f37_2_ok m fuel a b xh0_2_1 xh0_3_1 xh0_4_1 lh1_1 (w64 (x85_2 + 1)) (lh2_2 ++ [(xh4_0_r3, xh4_1_r3)]) lh3_2 o h Q hQ) (by first | rfl | simp)
     | x0 xh4_0_x03 xh4_1_x03 =>
      dsimp only at h
      refine XL.conv (f37_3_ok m m a b xh0_2_1 xh0_3_1 xh0_4_1 lh1_1 lh2_2 lh3_2 ((lh2_2.length : Nat) : Int) 0 ((List.getD lh3_2 (Int.toNat x85_2) (0, 0)).1) ((List.getD lh3_2 (Int.toNat x85_2) (0, 0)).2) (.x0 xh4_0_x03 xh4_1_x03) o3_h _ ?_) (by first | rfl | simp)
      show XQ _ _ _ _ _ _ _ _
      refine XQ.seq E0_ok (by kernel_rfl) ?_
      refine XQ.region (by kernel_rfl) ?_
      refine XR.runS E0_ok 1 1 [(4, ii (-1))] rfl (by kernel_rfl) ?_
      refine XR.done (by kernel_rfl) ?_
      show XQ _ _ _ _ _ _ _ _
      refine XQ.ret (by kernel_rfl) ?_
      refine ⟨fun i q => (by cases q), ii (-1), (by kernel_rfl), ?_⟩
      refine XR.conv (σ' := [(7, s0 2 lh2_2.length), (9, pp 4 0), (83, s0 3 lh3_2.length), (84, ii 3), (85, ii x85_2), (94, ii (-1))]) (h' := [(4, .cells [ii xh4_0_x03, ii xh4_1_x03] 0 63 0), (3, rc encP lh3_2 0 63 2), (2, rc encP lh2_2 0 63 2), (1, rc (encI .i64) lh1_1 0 3 1), (0, .cells [ii a, ii b, ii xh0_2_1, ii xh0_3_1, ii xh0_4_1] 0 88 0)]) (c' := 5) ?_ (by kernel_rfl)
      refine XR.runS E0_ok 1 1 [(7, s0 2 lh2_2.length), (9, pp 4 0), (10, ii (-1)), (83, s0 3 lh3_2.length), (84, ii 3), (85, ii x85_2)] rfl (by kernel_rfl) ?_
      refine XR.done (by kernel_rfl) ?_
      show XQ _ _ _ _ _ _ _ _
      refine XQ.seq E0_ok (by kernel_rfl) ?_
      refine XQ.region (by kernel_rfl) ?_
      refine XR.runS E0_ok 1 2 [(7, s0 2 lh2_2.length), (9, pp 4 0), (10, ii (-1)), (83, s0 3 lh3_2.length), (84, ii 3), (85, ii x85_2), (96, .bool false)] rfl (by kernel_rfl) ?_
      refine XR.done (by kernel_rfl) ?_
      show XQ _ _ _ _ _ _ _ _
      refine XQ.cond (s := (.tmp 96)) (b := false) (by kernel_rfl) (by kernel_rfl) (fun q => by cases q) (fun _ => ?_)
      refine XQ.skip (by kernel_rfl) ?_
      show XQ _ _ _ _ _ _ _ _
      refine XQ.region (by kernel_rfl) ?_
      refine XR.runT E0_ok 1 3 [(83, s0 3 lh3_2.length), (84, ii 3), (85, ii x85_2), (107, s0 2 lh2_2.length), (109, s0 5 1)] [(5, .cells [ii xh4_0_x03, ii xh4_1_x03] 0 63 2), (4, .cells [ii xh4_0_x03, ii xh4_1_x03] 0 63 0), (3, rc encP lh3_2 0 63 2), (2, rc encP lh2_2 0 63 2), (1, rc (encI .i64) lh1_1 0 3 1), (0, .cells [ii a, ii b, ii xh0_2_1, ii xh0_3_1, ii xh0_4_1] 0 88 0)] 6 rfl (by kernel_rfl) ?_
      cases b8 : (fitsB (lh2_2.length + 1) 16 : Bool) with
      | false => cases (cF b8 h)
      | true =>
       have h := cT b8 h
       refine XR.ef E0_ok [83, 84, 85, 110] rfl (e_append encP_ok (bytes := 16) (e := 63) (x := (src 115 (.tmp 107))) (y := (src 115 (.tmp 109))) (b := 2) (len := lh2_2.length) (cap := lh2_2.length) (xs := lh2_2) (m := 0) (ys := [(xh4_0_x03, xh4_1_x03)]) (d := (some (path 12 110))) (n' := (lh2_2 ++ [(xh4_0_x03, xh4_1_x03)]).length) (h' := [(6, rc encP (lh2_2 ++ [(xh4_0_x03, xh4_1_x03)]) 0 63 2), (5, .cells [ii xh4_0_x03, ii xh4_1_x03] 0 63 2), (4, .cells [ii xh4_0_x03, ii xh4_1_x03] 0 63 0), (3, rc encP lh3_2 0 63 2), (1, rc (encI .i64) lh1_1 0 3 1), (0, .cells [ii a, ii b, ii xh0_2_1, ii xh0_3_1, ii xh0_4_1] 0 88 0)]) (by kernel_rfl) (by kernel_rfl) (by kernel_rfl) (by kernel_rfl) rfl (by simp) (by simp) b8 (by simp) (by kernel_rfl)) (σ' := [(83, s0 3 lh3_2.length), (84, ii 3), (85, ii x85_2), (110, s0 6 ((lh2_2 ++ [(xh4_0_x03, xh4_1_x03)]).length))]) (by kernel_rfl) ?_
       refine XR.runS E0_ok 1 1 [(7, s0 6 ((lh2_2 ++ [(xh4_0_x03, xh4_1_x03)]).length)), (83, s0 3 lh3_2.length), (84, ii 3), (85, ii x85_2)] rfl (by kernel_rfl) ?_
       refine XR.done (by kernel_rfl) ?_
       show XQ _ _ _ _ _ _ _ _
       refine XQ.region (by kernel_rfl) ?_
       refine XR.runS E0_ok 1 2 [(7, s0 6 ((lh2_2 ++ [(xh4_0_x03, xh4_1_x03)]).length)), (83, s0 3 lh3_2.length), (84, ii 3), (85, ii (w64 (x85_2 + 1)))] rfl (by kernel_rfl) ?_
       refine XR.done (by kernel_rfl) ?_
       show XL _ _ _ _ _ _ _ _ _
       refine XL.ren (σ' := [(7, s0 2 ((lh2_2 ++ [(xh4_0_x03, xh4_1_x03)]).length)), (83, s0 3 lh3_2.length), (84, ii 3), (85, ii (w64 (x85_2 + 1)))]) (h' := [(3, rc encP lh3_2 0 63 2), (2, rc encP (lh2_2 ++ [(xh4_0_x03, xh4_1_x03)]) 0 63 2), (1, rc (encI .i64) lh1_1 0 3 1), (0, .cells [ii a, ii b, ii xh0_2_1, ii xh0_3_1, ii xh0_4_1] 0 88 0)]) (c' := 4) [0, 1, 6, 3] (by decide) rfl ⟨by kernel_rfl, by kernel_rfl, by kernel_rfl, by kernel_rfl, trivial⟩ ⟨⟨_, _, rfl, rfl, .inl ⟨rfl, rowC_scal encP_ok _⟩⟩, ⟨_, _, rfl, rfl, .inl ⟨rfl, rowC_scal encP_ok _⟩⟩, ⟨_, _, rfl, rfl, .inl ⟨rfl, rowC_scal (encI_ok .i64) _⟩⟩, ⟨_, _, rfl, rfl, .inr ⟨_, _, _, _, rfl, rfl⟩⟩, trivial⟩ rfl ?_
       refine XL.conv (f37_2_ok m fuel a b xh0_2_1 xh0_3_1 xh0_4_1 lh1_1 (w64 (x85_2 + 1)) (lh2_2 ++ [(xh4_0_x03, xh4_1_x03)]) lh3_2 o h Q hQ) (by first | rfl | simp)
  | false =>
   have h := cF b1 h
   refine XQ.cond (s := (.tmp 86)) (b := false) (by kernel_rfl) (by kernel_rfl) (fun q => by cases q) (fun _ => ?_)
   refine XQ.ren (σ' := [(7, s0 2 lh2_2.length)]) (h' := [(2, rc encP lh2_2 0 63 2), (1, rc (encI .i64) lh1_1 0 3 1), (0, .cells [ii a, ii b, ii xh0_2_1, ii xh0_3_1, ii xh0_4_1] 0 88 0)]) (c' := 3) [0, 1, 2] (by decide) rfl ⟨by kernel_rfl, trivial⟩ ⟨⟨_, _, rfl, rfl, .inl ⟨rfl, rowC_scal encP_ok _⟩⟩, ⟨_, _, rfl, rfl, .inl ⟨rfl, rowC_scal (encI_ok .i64) _⟩⟩, ⟨_, _, rfl, rfl, .inr ⟨_, _, _, _, rfl, rfl⟩⟩, trivial⟩ rfl ?_
   refine XQ.exit (i := 0) (by kernel_rfl) ?_
   cases h
   exact hQ

def f37_6 (m : Nat) : Nat → Int → Int → Int → Int → Int → List Int → Int → Int → Int → List (Int × Int) → Option (List (Int × Int))
 | 0, _, _, _, _, _, _, _, _, _, _ => none
 | fuel + 1, a, b, xh0_2_1, xh0_3_1, xh0_4_1, lh1_1, x2_4, x8_5, x9_6, lh2_6 =>
  cond (decide (x9_6 > 0)) (
   cond (inRow x9_6 lh2_6.length) (
    cond (inRow (w64 (x9_6 - 1)) lh2_6.length) (
     (f88 m ((List.getD lh2_6 (Int.toNat x9_6) (0, 0)).1) ((List.getD lh2_6 (Int.toNat x9_6) (0, 0)).2) ((List.getD lh2_6 (Int.toNat (w64 (x9_6 - 1))) (0, 0)).1) ((List.getD lh2_6 (Int.toNat (w64 (x9_6 - 1))) (0, 0)).2)).bind fun r52 =>
      cond (decide (r52 < 0)) (
       f37_6 m fuel a b xh0_2_1 xh0_3_1 xh0_4_1 lh1_1 x2_4 x8_5 (w64 (x9_6 - 1)) (List.set (List.set lh2_6 (Int.toNat x9_6) ((List.getD lh2_6 (Int.toNat (w64 (x9_6 - 1))) (0, 0)).1, (List.getD lh2_6 (Int.toNat (w64 (x9_6 - 1))) (0, 0)).2)) (Int.toNat (w64 (x9_6 - 1))) ((List.getD lh2_6 (Int.toNat x9_6) (0, 0)).1, (List.getD lh2_6 (Int.toNat x9_6) (0, 0)).2))
      ) (
       some (lh2_6)
      )
    ) none
   ) none
  ) (
   some (lh2_6)
  )

theorem f37_6_ok (m : Nat) : ∀ (fuel : Nat) (a : Int) (b : Int) (xh0_2_1 : Int) (xh0_3_1 : Int) (xh0_4_1 : Int) (lh1_1 : List Int) (x2_4 : Int) (x8_5 : Int) (x9_6 : Int) (lh2_6 : List (Int × Int)) (o : (List (Int × Int))), f37_6 m fuel a b xh0_2_1 xh0_3_1 xh0_4_1 lh1_1 x2_4 x8_5 x9_6 lh2_6 = some o → ∀ Q : QP, Q (.exit 2) [(0, s0 2 o.length), (1, ii 0), (2, ii x2_4), (3, .func (.func 88) #[] #[]), (8, ii x8_5)] [(2, rc encP o 0 63 2), (1, rc (encI .i64) lh1_1 0 3 1), (0, .cells [ii a, ii b, ii xh0_2_1, ii xh0_3_1, ii xh0_4_1] 0 88 0)] 3 → XL E0 53 3 fuel f37_L6 [(0, s0 2 lh2_6.length), (1, ii 0), (2, ii x2_4), (3, .func (.func 88) #[] #[]), (8, ii x8_5), (9, ii x9_6)] [(2, rc encP lh2_6 0 63 2), (1, rc (encI .i64) lh1_1 0 3 1), (0, .cells [ii a, ii b, ii xh0_2_1, ii xh0_3_1, ii xh0_4_1] 0 88 0)] 3 Q
 | 0, a, b, xh0_2_1, xh0_3_1, xh0_4_1, lh1_1, x2_4, x8_5, x9_6, lh2_6, o, h, Q, hQ => by cases h
 | fuel + 1, a, b, xh0_2_1, xh0_3_1, xh0_4_1, lh1_1, x2_4, x8_5, x9_6, lh2_6, o, h, Q, hQ => by
  unfold f37_6 at h
  refine XL.succ E0_ok ?_
  refine XQ.seq E0_ok (by kernel_rfl) ?_
  refine XQ.seq E0_ok (by kernel_rfl) ?_
  refine XQ.quiet E0_ok (by kernel_rfl) (by kernel_rfl) ?_
  refine XU.run E0_ok 1 4 [0, 1, 2, 3, 8, 9, 21] rfl (σ' := [(0, s0 2 lh2_6.length), (1, ii 0), (2, ii x2_4), (3, .func (.func 88) #[] #[]), (8, ii x8_5), (9, ii x9_6), (21, .bool (decide (x9_6 > 0)))]) (by kernel_rfl) ?_
  cases b1 : (decide (x9_6 > 0) : Bool) with
  | true =>
   have h := cT b1 h
   refine XU.run E0_ok 1 3 [0, 1, 2, 3, 8, 9, 21, 22, 23, 24] rfl (σ' := [(0, s0 2 lh2_6.length), (1, ii 0), (2, ii x2_4), (3, .func (.func 88) #[] #[]), (8, ii x8_5), (9, ii x9_6), (21, .bool true), (22, .func (.func 88) #[] #[]), (23, s0 2 lh2_6.length), (24, ii x9_6)]) (by kernel_rfl) ?_
   cases b2 : (inRow x9_6 lh2_6.length : Bool) with
   | false => cases (cF b2 h)
   | true =>
    have h := cT b2 h
    refine XU.rd E0_ok [0, 1, 2, 3, 8, 9, 21, 22, 25] rfl (v := pp 2 ((Int.toNat x9_6) * 2)) (v_idx (s := 2) (x := (src 53 (.tmp 23))) (y := (src 53 (.tmp 24))) (b := 2) (o := 0) (len := lh2_6.length) (cap := lh2_6.length) (ik := .i64) (i := x9_6) (off := (Int.toNat x9_6) * 2) (d := (some (path 12 25))) (by kernel_rfl) (by kernel_rfl) (by kernel_rfl) b2 (by omega)) (σ' := [(0, s0 2 lh2_6.length), (1, ii 0), (2, ii x2_4), (3, .func (.func 88) #[] #[]), (8, ii x8_5), (9, ii x9_6), (21, .bool true), (22, .func (.func 88) #[] #[]), (25, pp 2 ((Int.toNat x9_6) * 2))]) (by kernel_rfl) ?_
    refine XU.rd E0_ok [0, 1, 2, 3, 8, 9, 21, 22, 26] rfl (v := .agg #[ii ((List.getD lh2_6 (Int.toNat x9_6) (0, 0)).1), ii ((List.getD lh2_6 (Int.toNat x9_6) (0, 0)).2)]) (v_loadN encP_ok (x := (src 53 (.tmp 25))) (b := 2) (off := (Int.toNat x9_6) * 2) (xs := lh2_6) (fz := 0) (e := 63) (es := 2) (d := (some (path 12 26))) (by kernel_rfl) (by kernel_rfl) (by kernel_rfl) (Int.toNat x9_6) (0, 0) (by first | rfl | omega) (row_len (inRow_toNat b2) (by simp)) rfl) (σ' := [(0, s0 2 lh2_6.length), (1, ii 0), (2, ii x2_4), (3, .func (.func 88) #[] #[]), (8, ii x8_5), (9, ii x9_6), (21, .bool true), (22, .func (.func 88) #[] #[]), (26, .agg #[ii ((List.getD lh2_6 (Int.toNat x9_6) (0, 0)).1), ii ((List.getD lh2_6 (Int.toNat x9_6) (0, 0)).2)])]) (by kernel_rfl) ?_
    refine XU.run E0_ok 1 3 [0, 1, 2, 3, 8, 9, 21, 22, 26, 27, 29] rfl (σ' := [(0, s0 2 lh2_6.length), (1, ii 0), (2, ii x2_4), (3, .func (.func 88) #[] #[]), (8, ii x8_5), (9, ii x9_6), (21, .bool true), (22, .func (.func 88) #[] #[]), (26, .agg #[ii ((List.getD lh2_6 (Int.toNat x9_6) (0, 0)).1), ii ((List.getD lh2_6 (Int.toNat x9_6) (0, 0)).2)]), (27, s0 2 lh2_6.length), (29, ii (w64 (x9_6 - 1)))]) (by kernel_rfl) ?_
    cases b3 : (inRow (w64 (x9_6 - 1)) lh2_6.length : Bool) with
    | false => cases (cF b3 h)
    | true =>
     have h := cT b3 h
     refine XU.rd E0_ok [0, 1, 2, 3, 8, 9, 21, 22, 26, 30] rfl (v := pp 2 ((Int.toNat (w64 (x9_6 - 1))) * 2)) (v_idx (s := 2) (x := (src 53 (.tmp 27))) (y := (src 53 (.tmp 29))) (b := 2) (o := 0) (len := lh2_6.length) (cap := lh2_6.length) (ik := .i64) (i := w64 (x9_6 - 1)) (off := (Int.toNat (w64 (x9_6 - 1))) * 2) (d := (some (path 12 30))) (by kernel_rfl) (by kernel_rfl) (by kernel_rfl) b3 (by omega)) (σ' := [(0, s0 2 lh2_6.length), (1, ii 0), (2, ii x2_4), (3, .func (.func 88) #[] #[]), (8, ii x8_5), (9, ii x9_6), (21, .bool true), (22, .func (.func 88) #[] #[]), (26, .agg #[ii ((List.getD lh2_6 (Int.toNat x9_6) (0, 0)).1), ii ((List.getD lh2_6 (Int.toNat x9_6) (0, 0)).2)]), (30, pp 2 ((Int.toNat (w64 (x9_6 - 1))) * 2))]) (by kernel_rfl) ?_
     refine XU.rd E0_ok [0, 1, 2, 3, 8, 9, 21, 22, 26, 31] rfl (v := .agg #[ii ((List.getD lh2_6 (Int.toNat (w64 (x9_6 - 1))) (0, 0)).1), ii ((List.getD lh2_6 (Int.toNat (w64 (x9_6 - 1))) (0, 0)).2)]) (v_loadN encP_ok (x := (src 53 (.tmp 30))) (b := 2) (off := (Int.toNat (w64 (x9_6 - 1))) * 2) (xs := lh2_6) (fz := 0) (e := 63) (es := 2) (d := (some (path 12 31))) (by kernel_rfl) (by kernel_rfl) (by kernel_rfl) (Int.toNat (w64 (x9_6 - 1))) (0, 0) (by first | rfl | omega) (row_len (inRow_toNat b3) (by simp)) rfl) (σ' := [(0, s0 2 lh2_6.length), (1, ii 0), (2, ii x2_4), (3, .func (.func 88) #[] #[]), (8, ii x8_5), (9, ii x9_6), (21, .bool true), (22, .func (.func 88) #[] #[]), (26, .agg #[ii ((List.getD lh2_6 (Int.toNat x9_6) (0, 0)).1), ii ((List.getD lh2_6 (Int.toNat x9_6) (0, 0)).2)]), (31, .agg #[ii ((List.getD lh2_6 (Int.toNat (w64 (x9_6 - 1))) (0, 0)).1), ii ((List.getD lh2_6 (Int.toNat (w64 (x9_6 - 1))) (0, 0)).2)])]) (by kernel_rfl) ?_
     obtain ⟨r52, r52_h, h⟩ := bS h
     refine XU.call E0_ok [0, 1, 2, 3, 8, 9, 21, 32] rfl (K := 88) (F := Proofs.Try.f88) (args := [.agg #[ii ((List.getD lh2_6 (Int.toNat x9_6) (0, 0)).1), ii ((List.getD lh2_6 (Int.toNat x9_6) (0, 0)).2)], .agg #[ii ((List.getD lh2_6 (Int.toNat (w64 (x9_6 - 1))) (0, 0)).1), ii ((List.getD lh2_6 (Int.toNat (w64 (x9_6 - 1))) (0, 0)).2)]]) (d := (some (path 12 32))) (v := ii r52) (by kernel_rfl) (by kernel_rfl) rfl rfl (fun w hI => f88_ok m ((List.getD lh2_6 (Int.toNat x9_6) (0, 0)).1) ((List.getD lh2_6 (Int.toNat x9_6) (0, 0)).2) ((List.getD lh2_6 (Int.toNat (w64 (x9_6 - 1))) (0, 0)).1) ((List.getD lh2_6 (Int.toNat (w64 (x9_6 - 1))) (0, 0)).2) r52 r52_h w hI) (σ' := [(0, s0 2 lh2_6.length), (1, ii 0), (2, ii x2_4), (3, .func (.func 88) #[] #[]), (8, ii x8_5), (9, ii x9_6), (21, .bool true), (32, ii r52)]) (by kernel_rfl) ?_
     refine XU.run E0_ok 1 2 [0, 1, 2, 3, 8, 9, 34] rfl (σ' := [(0, s0 2 lh2_6.length), (1, ii 0), (2, ii x2_4), (3, .func (.func 88) #[] #[]), (8, ii x8_5), (9, ii x9_6), (34, .bool (decide (r52 < 0)))]) (by kernel_rfl) ?_
     refine XU.done (by kernel_rfl) ?_
     show XQ _ _ _ _ _ _ _ _
     cases b4 : (decide (r52 < 0) : Bool) with
     | true =>
      have h := cT b4 h
      refine XQ.cond (s := (.tmp 34)) (b := true) (by kernel_rfl) (by kernel_rfl) (fun _ => ?_) (fun q => by cases q)
      refine XQ.skip (by kernel_rfl) ?_
      show XQ _ _ _ _ _ _ _ _
      refine XQ.seq E0_ok (by kernel_rfl) ?_
      refine XQ.block (id := 3) (by kernel_rfl) ?_
      refine XQ.preP E0_ok [2, 3, 4] [0, 1, 5, 6, 7, 8, 9, 10, 11, 12, 13, 14] 15 [16, 17] (by kernel_rfl) (by kernel_rfl) (by kernel_rfl) ?_
      refine XP.step E0_ok 3 [0, 1, 2, 3, 8, 9, 39, 41] rfl (σ' := [(0, s0 2 lh2_6.length), (1, ii 0), (2, ii x2_4), (3, .func (.func 88) #[] #[]), (8, ii x8_5), (9, ii x9_6), (39, s0 2 lh2_6.length), (41, ii (w64 (x9_6 - 1)))]) (by kernel_rfl) ?_
      refine XP.done (by kernel_rfl) ?_
      show XS _ _ _ _ _ _ _ _ _ _
      refine XS.step E0_ok 5 rfl [0, 1, 2, 3, 8, 9, 37, 38, 39, 41, 42, 44] rfl (σ' := [(0, s0 2 lh2_6.length), (1, ii 0), (2, ii x2_4), (3, .func (.func 88) #[] #[]), (8, ii x8_5), (9, ii x9_6), (37, s0 2 lh2_6.length), (38, ii x9_6), (39, s0 2 lh2_6.length), (41, ii (w64 (x9_6 - 1))), (42, s0 2 lh2_6.length), (44, ii (w64 (x9_6 - 1)))]) (by kernel_rfl) ?_
      refine XS.rd E0_ok rfl [0, 1, 2, 3, 8, 9, 37, 38, 39, 41, 45] rfl (v := pp 2 ((Int.toNat (w64 (x9_6 - 1))) * 2)) (v_idx (s := 2) (x := (src 53 (.tmp 42))) (y := (src 53 (.tmp 44))) (b := 2) (o := 0) (len := lh2_6.length) (cap := lh2_6.length) (ik := .i64) (i := w64 (x9_6 - 1)) (off := (Int.toNat (w64 (x9_6 - 1))) * 2) (d := (some (path 12 45))) (by kernel_rfl) (by kernel_rfl) (by kernel_rfl) b3 (by omega)) (σ' := [(0, s0 2 lh2_6.length), (1, ii 0), (2, ii x2_4), (3, .func (.func 88) #[] #[]), (8, ii x8_5), (9, ii x9_6), (37, s0 2 lh2_6.length), (38, ii x9_6), (39, s0 2 lh2_6.length), (41, ii (w64 (x9_6 - 1))), (45, pp 2 ((Int.toNat (w64 (x9_6 - 1))) * 2))]) (by kernel_rfl) ?_
      refine XS.rd E0_ok rfl [0, 1, 2, 3, 8, 9, 37, 38, 39, 41, 46] rfl (v := .agg #[ii ((List.getD lh2_6 (Int.toNat (w64 (x9_6 - 1))) (0, 0)).1), ii ((List.getD lh2_6 (Int.toNat (w64 (x9_6 - 1))) (0, 0)).2)]) (v_loadN encP_ok (x := (src 53 (.tmp 45))) (b := 2) (off := (Int.toNat (w64 (x9_6 - 1))) * 2) (xs := lh2_6) (fz := 0) (e := 63) (es := 2) (d := (some (path 12 46))) (by kernel_rfl) (by kernel_rfl) (by kernel_rfl) (Int.toNat (w64 (x9_6 - 1))) (0, 0) (by first | rfl | omega) (row_len (inRow_toNat b3) (by simp)) rfl) (σ' := [(0, s0 2 lh2_6.length), (1, ii 0), (2, ii x2_4), (3, .func (.func 88) #[] #[]), (8, ii x8_5), (9, ii x9_6), (37, s0 2 lh2_6.length), (38, ii x9_6), (39, s0 2 lh2_6.length), (41, ii (w64 (x9_6 - 1))), (46, .agg #[ii ((List.getD lh2_6 (Int.toNat (w64 (x9_6 - 1))) (0, 0)).1), ii ((List.getD lh2_6 (Int.toNat (w64 (x9_6 - 1))) (0, 0)).2)])]) (by kernel_rfl) ?_
      refine XS.step E0_ok 2 rfl [0, 1, 2, 3, 8, 9, 37, 38, 39, 41, 46, 47, 48] rfl (σ' := [(0, s0 2 lh2_6.length), (1, ii 0), (2, ii x2_4), (3, .func (.func 88) #[] #[]), (8, ii x8_5), (9, ii x9_6), (37, s0 2 lh2_6.length), (38, ii x9_6), (39, s0 2 lh2_6.length), (41, ii (w64 (x9_6 - 1))), (46, .agg #[ii ((List.getD lh2_6 (Int.toNat (w64 (x9_6 - 1))) (0, 0)).1), ii ((List.getD lh2_6 (Int.toNat (w64 (x9_6 - 1))) (0, 0)).2)]), (47, s0 2 lh2_6.length), (48, ii x9_6)]) (by kernel_rfl) ?_
      refine XS.rd E0_ok rfl [0, 1, 2, 3, 8, 9, 37, 38, 39, 41, 46, 49] rfl (v := pp 2 ((Int.toNat x9_6) * 2)) (v_idx (s := 2) (x := (src 53 (.tmp 47))) (y := (src 53 (.tmp 48))) (b := 2) (o := 0) (len := lh2_6.length) (cap := lh2_6.length) (ik := .i64) (i := x9_6) (off := (Int.toNat x9_6) * 2) (d := (some (path 12 49))) (by kernel_rfl) (by kernel_rfl) (by kernel_rfl) b2 (by omega)) (σ' := [(0, s0 2 lh2_6.length), (1, ii 0), (2, ii x2_4), (3, .func (.func 88) #[] #[]), (8, ii x8_5), (9, ii x9_6), (37, s0 2 lh2_6.length), (38, ii x9_6), (39, s0 2 lh2_6.length), (41, ii (w64 (x9_6 - 1))), (46, .agg #[ii ((List.getD lh2_6 (Int.toNat (w64 (x9_6 - 1))) (0, 0)).1), ii ((List.getD lh2_6 (Int.toNat (w64 (x9_6 - 1))) (0, 0)).2)]), (49, pp 2 ((Int.toNat x9_6) * 2))]) (by kernel_rfl) ?_
      refine XS.rd E0_ok rfl [0, 1, 2, 3, 8, 9, 37, 38, 39, 41, 46, 50] rfl (v := .agg #[ii ((List.getD lh2_6 (Int.toNat x9_6) (0, 0)).1), ii ((List.getD lh2_6 (Int.toNat x9_6) (0, 0)).2)]) (v_loadN encP_ok (x := (src 53 (.tmp 49))) (b := 2) (off := (Int.toNat x9_6) * 2) (xs := lh2_6) (fz := 0) (e := 63) (es := 2) (d := (some (path 12 50))) (by kernel_rfl) (by kernel_rfl) (by kernel_rfl) (Int.toNat x9_6) (0, 0) (by first | rfl | omega) (row_len (inRow_toNat b2) (by simp)) rfl) (σ' := [(0, s0 2 lh2_6.length), (1, ii 0), (2, ii x2_4), (3, .func (.func 88) #[] #[]), (8, ii x8_5), (9, ii x9_6), (37, s0 2 lh2_6.length), (38, ii x9_6), (39, s0 2 lh2_6.length), (41, ii (w64 (x9_6 - 1))), (46, .agg #[ii ((List.getD lh2_6 (Int.toNat (w64 (x9_6 - 1))) (0, 0)).1), ii ((List.getD lh2_6 (Int.toNat (w64 (x9_6 - 1))) (0, 0)).2)]), (50, .agg #[ii ((List.getD lh2_6 (Int.toNat x9_6) (0, 0)).1), ii ((List.getD lh2_6 (Int.toNat x9_6) (0, 0)).2)])]) (by kernel_rfl) ?_
      refine XS.rd E0_ok rfl [0, 1, 2, 3, 8, 9, 39, 41, 46, 50, 51] rfl (v := pp 2 ((Int.toNat x9_6) * 2)) (v_idx (s := 2) (x := (src 53 (.tmp 37))) (y := (src 53 (.tmp 38))) (b := 2) (o := 0) (len := lh2_6.length) (cap := lh2_6.length) (ik := .i64) (i := x9_6) (off := (Int.toNat x9_6) * 2) (d := (some (path 12 51))) (by kernel_rfl) (by kernel_rfl) (by kernel_rfl) b2 (by omega)) (σ' := [(0, s0 2 lh2_6.length), (1, ii 0), (2, ii x2_4), (3, .func (.func 88) #[] #[]), (8, ii x8_5), (9, ii x9_6), (39, s0 2 lh2_6.length), (41, ii (w64 (x9_6 - 1))), (46, .agg #[ii ((List.getD lh2_6 (Int.toNat (w64 (x9_6 - 1))) (0, 0)).1), ii ((List.getD lh2_6 (Int.toNat (w64 (x9_6 - 1))) (0, 0)).2)]), (50, .agg #[ii ((List.getD lh2_6 (Int.toNat x9_6) (0, 0)).1), ii ((List.getD lh2_6 (Int.toNat x9_6) (0, 0)).2)]), (51, pp 2 ((Int.toNat x9_6) * 2))]) (by kernel_rfl) ?_
      refine XS.done (by kernel_rfl) ?_
      refine XR.ef E0_ok [0, 1, 2, 3, 8, 9, 39, 41, 50] rfl (e_store encP_ok (size := 2) (x := (src 53 (.tmp 51))) (y := (src 53 (.tmp 46))) (b := 2) (off := (Int.toNat x9_6) * 2) (xs := lh2_6) (e := 63) (es := 2) (d := none) (h' := [(2, rc encP (List.set lh2_6 (Int.toNat x9_6) ((List.getD lh2_6 (Int.toNat (w64 (x9_6 - 1))) (0, 0)).1, (List.getD lh2_6 (Int.toNat (w64 (x9_6 - 1))) (0, 0)).2)) 0 63 2), (1, rc (encI .i64) lh1_1 0 3 1), (0, .cells [ii a, ii b, ii xh0_2_1, ii xh0_3_1, ii xh0_4_1] 0 88 0)]) (w := .agg #[ii ((List.getD lh2_6 (Int.toNat (w64 (x9_6 - 1))) (0, 0)).1), ii ((List.getD lh2_6 (Int.toNat (w64 (x9_6 - 1))) (0, 0)).2)]) (ws := [ii ((List.getD lh2_6 (Int.toNat (w64 (x9_6 - 1))) (0, 0)).1), ii ((List.getD lh2_6 (Int.toNat (w64 (x9_6 - 1))) (0, 0)).2)]) (a := ((List.getD lh2_6 (Int.toNat (w64 (x9_6 - 1))) (0, 0)).1, (List.getD lh2_6 (Int.toNat (w64 (x9_6 - 1))) (0, 0)).2)) (by kernel_rfl) (by kernel_rfl) (by kernel_rfl) (Int.toNat x9_6) 0 (0, 0) (by first | rfl | omega) (row_len (inRow_toNat b2) (by simp)) (by kernel_rfl) rfl rfl rfl rfl rfl (by kernel_rfl)) (σ' := [(0, s0 2 lh2_6.length), (1, ii 0), (2, ii x2_4), (3, .func (.func 88) #[] #[]), (8, ii x8_5), (9, ii x9_6), (39, s0 2 lh2_6.length), (41, ii (w64 (x9_6 - 1))), (50, .agg #[ii ((List.getD lh2_6 (Int.toNat x9_6) (0, 0)).1), ii ((List.getD lh2_6 (Int.toNat x9_6) (0, 0)).2)])]) (by kernel_rfl) ?_
      refine XR.rd E0_ok [0, 1, 2, 3, 8, 9, 50, 52] rfl (v := pp 2 ((Int.toNat (w64 (x9_6 - 1))) * 2)) (v_idx (s := 2) (x := (src 53 (.tmp 39))) (y := (src 53 (.tmp 41))) (b := 2) (o := 0) (len := lh2_6.length) (cap := lh2_6.length) (ik := .i64) (i := w64 (x9_6 - 1)) (off := (Int.toNat (w64 (x9_6 - 1))) * 2) (d := (some (path 12 52))) (by kernel_rfl) (by kernel_rfl) (by kernel_rfl) b3 (by omega)) (σ' := [(0, s0 2 lh2_6.length), (1, ii 0), (2, ii x2_4), (3, .func (.func 88) #[] #[]), (8, ii x8_5), (9, ii x9_6), (50, .agg #[ii ((List.getD lh2_6 (Int.toNat x9_6) (0, 0)).1), ii ((List.getD lh2_6 (Int.toNat x9_6) (0, 0)).2)]), (52, pp 2 ((Int.toNat (w64 (x9_6 - 1))) * 2))]) (by kernel_rfl) ?_
      refine XR.ef E0_ok [0, 1, 2, 3, 8, 9] rfl (e_store encP_ok (size := 2) (x := (src 53 (.tmp 52))) (y := (src 53 (.tmp 50))) (b := 2) (off := (Int.toNat (w64 (x9_6 - 1))) * 2) (xs := List.set lh2_6 (Int.toNat x9_6) ((List.getD lh2_6 (Int.toNat (w64 (x9_6 - 1))) (0, 0)).1, (List.getD lh2_6 (Int.toNat (w64 (x9_6 - 1))) (0, 0)).2)) (e := 63) (es := 2) (d := none) (h' := [(2, rc encP (List.set (List.set lh2_6 (Int.toNat x9_6) ((List.getD lh2_6 (Int.toNat (w64 (x9_6 - 1))) (0, 0)).1, (List.getD lh2_6 (Int.toNat (w64 (x9_6 - 1))) (0, 0)).2)) (Int.toNat (w64 (x9_6 - 1))) ((List.getD lh2_6 (Int.toNat x9_6) (0, 0)).1, (List.getD lh2_6 (Int.toNat x9_6) (0, 0)).2)) 0 63 2), (1, rc (encI .i64) lh1_1 0 3 1), (0, .cells [ii a, ii b, ii xh0_2_1, ii xh0_3_1, ii xh0_4_1] 0 88 0)]) (w := .agg #[ii ((List.getD lh2_6 (Int.toNat x9_6) (0, 0)).1), ii ((List.getD lh2_6 (Int.toNat x9_6) (0, 0)).2)]) (ws := [ii ((List.getD lh2_6 (Int.toNat x9_6) (0, 0)).1), ii ((List.getD lh2_6 (Int.toNat x9_6) (0, 0)).2)]) (a := ((List.getD lh2_6 (Int.toNat x9_6) (0, 0)).1, (List.getD lh2_6 (Int.toNat x9_6) (0, 0)).2)) (by kernel_rfl) (by kernel_rfl) (by kernel_rfl) (Int.toNat (w64 (x9_6 - 1))) 0 (0, 0) (by first | rfl | omega) (row_len (inRow_toNat b3) (by simp)) (by kernel_rfl) rfl rfl rfl rfl rfl (by kernel_rfl)) (σ' := [(0, s0 2 lh2_6.length), (1, ii 0), (2, ii x2_4), (3, .func (.func 88) #[] #[]), (8, ii x8_5), (9, ii x9_6)]) (by kernel_rfl) ?_
      refine XR.done (by kernel_rfl) ?_
      show XQ _ _ _ _ _ _ _ _
      refine XQ.region (by kernel_rfl) ?_
      refine XR.runS E0_ok 1 3 [(0, s0 2 lh2_6.length), (1, ii 0), (2, ii x2_4), (3, .func (.func 88) #[] #[]), (8, ii x8_5), (9, ii (w64 (x9_6 - 1)))] rfl (by kernel_rfl) ?_
      refine XR.done (by kernel_rfl) ?_
      show XL _ _ _ _ _ _ _ _ _
      refine XL.ren (σ' := [(0, s0 2 lh2_6.length), (1, ii 0), (2, ii x2_4), (3, .func (.func 88) #[] #[]), (8, ii x8_5), (9, ii (w64 (x9_6 - 1)))]) (h' := [(2, rc encP (List.set (List.set lh2_6 (Int.toNat x9_6) ((List.getD lh2_6 (Int.toNat (w64 (x9_6 - 1))) (0, 0)).1, (List.getD lh2_6 (Int.toNat (w64 (x9_6 - 1))) (0, 0)).2)) (Int.toNat (w64 (x9_6 - 1))) ((List.getD lh2_6 (Int.toNat x9_6) (0, 0)).1, (List.getD lh2_6 (Int.toNat x9_6) (0, 0)).2)) 0 63 2), (1, rc (encI .i64) lh1_1 0 3 1), (0, .cells [ii a, ii b, ii xh0_2_1, ii xh0_3_1, ii xh0_4_1] 0 88 0)]) (c' := 3) [0, 1, 2] (by decide) rfl ⟨by kernel_rfl, by kernel_rfl, by kernel_rfl, by kernel_rfl, by kernel_rfl, by kernel_rfl, trivial⟩ ⟨⟨_, _, rfl, rfl, .inl ⟨rfl, rowC_scal encP_ok _⟩⟩, ⟨_, _, rfl, rfl, .inl ⟨rfl, rowC_scal (encI_ok .i64) _⟩⟩, ⟨_, _, rfl, rfl, .inr ⟨_, _, _, _, rfl, rfl⟩⟩, trivial⟩ rfl ?_
      refine XL.conv (f37_6_ok m fuel a b xh0_2_1 xh0_3_1 xh0_4_1 lh1_1 x2_4 x8_5 (w64 (x9_6 - 1)) (List.set (List.set lh2_6 (Int.toNat x9_6) ((List.getD lh2_6 (Int.toNat (w64 (x9_6 - 1))) (0, 0)).1, (List.getD lh2_6 (Int.toNat (w64 (x9_6 - 1))) (0, 0)).2)) (Int.toNat (w64 (x9_6 - 1))) ((List.getD lh2_6 (Int.toNat x9_6) (0, 0)).1, (List.getD lh2_6 (Int.toNat x9_6) (0, 0)).2)) o h Q hQ) (by first | rfl | simp)
     | false =>
      have h := cF b4 h
      refine XQ.cond (s := (.tmp 34)) (b := false) (by kernel_rfl) (by kernel_rfl) (fun q => by cases q) (fun _ => ?_)
      refine XQ.ren (σ' := [(0, s0 2 lh2_6.length), (1, ii 0), (2, ii x2_4), (3, .func (.func 88) #[] #[]), (8, ii x8_5)]) (h' := [(2, rc encP lh2_6 0 63 2), (1, rc (encI .i64) lh1_1 0 3 1), (0, .cells [ii a, ii b, ii xh0_2_1, ii xh0_3_1, ii xh0_4_1] 0 88 0)]) (c' := 3) [0, 1, 2] (by decide) rfl ⟨by kernel_rfl, by kernel_rfl, by kernel_rfl, by kernel_rfl, by kernel_rfl, trivial⟩ ⟨⟨_, _, rfl, rfl, .inl ⟨rfl, rowC_scal encP_ok _⟩⟩, ⟨_, _, rfl, rfl, .inl ⟨rfl, rowC_scal (encI_ok .i64) _⟩⟩, ⟨_, _, rfl, rfl, .inr ⟨_, _, _, _, rfl, rfl⟩⟩, trivial⟩ rfl ?_
      refine XQ.exit (i := 2) (by kernel_rfl) ?_
      cases h
      exact hQ
  | false =>
   have h := cF b1 h
   refine XU.run E0_ok 1 13 [0, 1, 2, 3, 8, 9, 34] rfl (σ' := [(0, s0 2 lh2_6.length), (1, ii 0), (2, ii x2_4), (3, .func (.func 88) #[] #[]), (8, ii x8_5), (9, ii x9_6), (34, .bool false)]) (by kernel_rfl) ?_
   refine XU.done (by kernel_rfl) ?_
   show XQ _ _ _ _ _ _ _ _
   refine XQ.cond (s := (.tmp 34)) (b := false) (by kernel_rfl) (by kernel_rfl) (fun q => by cases q) (fun _ => ?_)
   refine XQ.ren (σ' := [(0, s0 2 lh2_6.length), (1, ii 0), (2, ii x2_4), (3, .func (.func 88) #[] #[]), (8, ii x8_5)]) (h' := [(2, rc encP lh2_6 0 63 2), (1, rc (encI .i64) lh1_1 0 3 1), (0, .cells [ii a, ii b, ii xh0_2_1, ii xh0_3_1, ii xh0_4_1] 0 88 0)]) (c' := 3) [0, 1, 2] (by decide) rfl ⟨by kernel_rfl, by kernel_rfl, by kernel_rfl, by kernel_rfl, by kernel_rfl, trivial⟩ ⟨⟨_, _, rfl, rfl, .inl ⟨rfl, rowC_scal encP_ok _⟩⟩, ⟨_, _, rfl, rfl, .inl ⟨rfl, rowC_scal (encI_ok .i64) _⟩⟩, ⟨_, _, rfl, rfl, .inr ⟨_, _, _, _, rfl, rfl⟩⟩, trivial⟩ rfl ?_
   refine XQ.exit (i := 2) (by kernel_rfl) ?_
   cases h
   exact hQ

def f37_5 (m : Nat) : Nat → Int → Int → Int → Int → Int → List Int → Int → Int → List (Int × Int) → Option (List (Int × Int))
 | 0, _, _, _, _, _, _, _, _, _ => none
 | fuel + 1, a, b, xh0_2_1, xh0_3_1, xh0_4_1, lh1_1, x2_4, x8_5, lh2_5 =>
  cond (decide (x8_5 < x2_4)) (
   (f37_6 m m a b xh0_2_1 xh0_3_1 xh0_4_1 lh1_1 x2_4 x8_5 x8_5 lh2_5).bind fun o6 =>
    f37_5 m fuel a b xh0_2_1 xh0_3_1 xh0_4_1 lh1_1 x2_4 (w64 (x8_5 + 1)) o6
  ) (
   some (lh2_5)
  )

theorem f37_5_ok (m : Nat) : ∀ (fuel : Nat) (a : Int) (b : Int) (xh0_2_1 : Int) (xh0_3_1 : Int) (xh0_4_1 : Int) (lh1_1 : List Int) (x2_4 : Int) (x8_5 : Int) (lh2_5 : List (Int × Int)) (o : (List (Int × Int))), f37_5 m fuel a b xh0_2_1 xh0_3_1 xh0_4_1 lh1_1 x2_4 x8_5 lh2_5 = some o → ∀ Q : QP, Q (.exit 0) [] [(2, rc encP o 0 63 2), (1, rc (encI .i64) lh1_1 0 3 1), (0, .cells [ii a, ii b, ii xh0_2_1, ii xh0_3_1, ii xh0_4_1] 0 88 0)] 3 → XL E0 53 3 fuel f37_L5 [(0, s0 2 lh2_5.length), (1, ii 0), (2, ii x2_4), (3, .func (.func 88) #[] #[]), (8, ii x8_5)] [(2, rc encP lh2_5 0 63 2), (1, rc (encI .i64) lh1_1 0 3 1), (0, .cells [ii a, ii b, ii xh0_2_1, ii xh0_3_1, ii xh0_4_1] 0 88 0)] 3 Q
 | 0, a, b, xh0_2_1, xh0_3_1, xh0_4_1, lh1_1, x2_4, x8_5, lh2_5, o, h, Q, hQ => by cases h
 | fuel + 1, a, b, xh0_2_1, xh0_3_1, xh0_4_1, lh1_1, x2_4, x8_5, lh2_5, o, h, Q, hQ => by
  unfold f37_5 at h
  refine XL.succ E0_ok ?_
  refine XQ.seq E0_ok (by kernel_rfl) ?_
  refine XQ.seq E0_ok (by kernel_rfl) ?_
  refine XQ.region (by kernel_rfl) ?_
  refine XR.runS E0_ok 1 3 [(0, s0 2 lh2_5.length), (1, ii 0), (2, ii x2_4), (3, .func (.func 88) #[] #[]), (8, ii x8_5), (14, .bool (decide (x8_5 < x2_4)))] rfl (by kernel_rfl) ?_
  refine XR.done (by kernel_rfl) ?_
  show XQ _ _ _ _ _ _ _ _
  cases b1 : (decide (x8_5 < x2_4) : Bool) with
  | true =>
   have h := cT b1 h
   refine XQ.cond (s := (.tmp 14)) (b := true) (by kernel_rfl) (by kernel_rfl) (fun _ => ?_) (fun q => by cases q)
   refine XQ.skip (by kernel_rfl) ?_
   show XQ _ _ _ _ _ _ _ _
   refine XQ.seq E0_ok (by kernel_rfl) ?_
   refine XQ.block (id := 1) (by kernel_rfl) ?_
   refine XQ.seq E0_ok (by kernel_rfl) ?_
   refine XQ.region (by kernel_rfl) ?_
   refine XR.runS E0_ok 1 2 [(0, s0 2 lh2_5.length), (1, ii 0), (2, ii x2_4), (3, .func (.func 88) #[] #[]), (8, ii x8_5), (9, ii x8_5)] rfl (by kernel_rfl) ?_
   refine XR.done (by kernel_rfl) ?_
   show XQ _ _ _ _ _ _ _ _
   refine XQ.block (id := 2) (by kernel_rfl) ?_
   refine XQ.loop m (by kernel_rfl) ?_
   obtain ⟨o6, o6_h, h⟩ := bS h
   refine XL.ren (σ' := [(0, s0 2 lh2_5.length), (1, ii 0), (2, ii x2_4), (3, .func (.func 88) #[] #[]), (8, ii x8_5), (9, ii x8_5)]) (h' := [(2, rc encP lh2_5 0 63 2), (1, rc (encI .i64) lh1_1 0 3 1), (0, .cells [ii a, ii b, ii xh0_2_1, ii xh0_3_1, ii xh0_4_1] 0 88 0)]) (c' := 3) [0, 1, 2] (by decide) rfl ⟨by kernel_rfl, by kernel_rfl, by kernel_rfl, by kernel_rfl, by kernel_rfl, by kernel_rfl, trivial⟩ ⟨⟨_, _, rfl, rfl, .inl ⟨rfl, rowC_scal encP_ok _⟩⟩, ⟨_, _, rfl, rfl, .inl ⟨rfl, rowC_scal (encI_ok .i64) _⟩⟩, ⟨_, _, rfl, rfl, .inr ⟨_, _, _, _, rfl, rfl⟩⟩, trivial⟩ rfl ?_
   refine XL.conv (f37_6_ok m m a b xh0_2_1 xh0_3_1 xh0_4_1 lh1_1 x2_4 x8_5 x8_5 lh2_5 o6 o6_h _ ?_) (by first | rfl | simp)
   show XQ _ _ _ _ _ _ _ _
   refine XQ.region (by kernel_rfl) ?_
   refine XR.runS E0_ok 1 3 [(0, s0 2 o6.length), (1, ii 0), (2, ii x2_4), (3, .func (.func 88) #[] #[]), (8, ii (w64 (x8_5 + 1)))] rfl (by kernel_rfl) ?_
   refine XR.done (by kernel_rfl) ?_
   show XL _ _ _ _ _ _ _ _ _
   refine XL.ren (σ' := [(0, s0 2 o6.length), (1, ii 0), (2, ii x2_4), (3, .func (.func 88) #[] #[]), (8, ii (w64 (x8_5 + 1)))]) (h' := [(2, rc encP o6 0 63 2), (1, rc (encI .i64) lh1_1 0 3 1), (0, .cells [ii a, ii b, ii xh0_2_1, ii xh0_3_1, ii xh0_4_1] 0 88 0)]) (c' := 3) [0, 1, 2] (by decide) rfl ⟨by kernel_rfl, by kernel_rfl, by kernel_rfl, by kernel_rfl, by kernel_rfl, trivial⟩ ⟨⟨_, _, rfl, rfl, .inl ⟨rfl, rowC_scal encP_ok _⟩⟩, ⟨_, _, rfl, rfl, .inl ⟨rfl, rowC_scal (encI_ok .i64) _⟩⟩, ⟨_, _, rfl, rfl, .inr ⟨_, _, _, _, rfl, rfl⟩⟩, trivial⟩ rfl ?_
   refine XL.conv (f37_5_ok m fuel a b xh0_2_1 xh0_3_1 xh0_4_1 lh1_1 x2_4 (w64 (x8_5 + 1)) o6 o h Q hQ) (by first | rfl | simp)
  | false =>
   have h := cF b1 h
   refine XQ.cond (s := (.tmp 14)) (b := false) (by kernel_rfl) (by kernel_rfl) (fun q => by cases q) (fun _ => ?_)
   refine XQ.ren (σ' := []) (h' := [(2, rc encP lh2_5 0 63 2), (1, rc (encI .i64) lh1_1 0 3 1), (0, .cells [ii a, ii b, ii xh0_2_1, ii xh0_3_1, ii xh0_4_1] 0 88 0)]) (c' := 3) [0, 1, 2] (by decide) rfl trivial ⟨⟨_, _, rfl, rfl, .inl ⟨rfl, rowC_scal encP_ok _⟩⟩, ⟨_, _, rfl, rfl, .inl ⟨rfl, rowC_scal (encI_ok .i64) _⟩⟩, ⟨_, _, rfl, rfl, .inr ⟨_, _, _, _, rfl, rfl⟩⟩, trivial⟩ rfl ?_
   refine XQ.exit (i := 0) (by kernel_rfl) ?_
   cases h
   exact hQ

def f37_4 (m : Nat) : Nat → Int → Int → Int → Int → Int → List Int → (List (Int × Int)) → Int → Int → Option (List (Int × Int))
 | 0, _, _, _, _, _, _, _, _, _ => none
 | fuel + 1, a, b, xh0_2_1, xh0_3_1, xh0_4_1, lh1_1, o2, x2_4, x3_4 =>
  cond (decide ((w64 (x2_4 - 0)) ≤ 12)) (
   (f37_5 m m a b xh0_2_1 xh0_3_1 xh0_4_1 lh1_1 x2_4 1 o2).bind fun o5 =>
    some (o5)
  ) none

theorem f37_4_ok (m : Nat) : ∀ (fuel : Nat) (a : Int) (b : Int) (xh0_2_1 : Int) (xh0_3_1 : Int) (xh0_4_1 : Int) (lh1_1 : List Int) (o2 : (List (Int × Int))) (x2_4 : Int) (x3_4 : Int) (o : (List (Int × Int))), f37_4 m fuel a b xh0_2_1 xh0_3_1 xh0_4_1 lh1_1 o2 x2_4 x3_4 = some o → ∀ Q : QP, Q .ret [] [(2, rc encP o 0 63 2), (1, rc (encI .i64) lh1_1 0 3 1), (0, .cells [ii a, ii b, ii xh0_2_1, ii xh0_3_1, ii xh0_4_1] 0 88 0)] 3 → XL E0 148 3 fuel f37_L4 [(0, s0 2 o2.length), (1, ii 0), (2, ii x2_4), (3, ii x3_4), (4, .func (.func 88) #[] #[]), (10, .bool true), (11, .bool true)] [(2, rc encP o2 0 63 2), (1, rc (encI .i64) lh1_1 0 3 1), (0, .cells [ii a, ii b, ii xh0_2_1, ii xh0_3_1, ii xh0_4_1] 0 88 0)] 3 Q
 | 0, a, b, xh0_2_1, xh0_3_1, xh0_4_1, lh1_1, o2, x2_4, x3_4, o, h, Q, hQ => by cases h
 | fuel + 1, a, b, xh0_2_1, xh0_3_1, xh0_4_1, lh1_1, o2, x2_4, x3_4, o, h, Q, hQ => by
  unfold f37_4 at h
  refine XL.succ E0_ok ?_
  refine XQ.block (id := 1) (by kernel_rfl) ?_
  refine XQ.seq E0_ok (by kernel_rfl) ?_
  refine XQ.region (by kernel_rfl) ?_
  refine XR.runS E0_ok 1 4 [(0, s0 2 o2.length), (1, ii 0), (2, ii x2_4), (3, ii x3_4), (4, .func (.func 88) #[] #[]), (10, .bool true), (11, .bool true), (12, ii (w64 (x2_4 - 0)))] rfl (by kernel_rfl) ?_
  refine XR.done (by kernel_rfl) ?_
  show XQ _ _ _ _ _ _ _ _
  refine XQ.seq E0_ok (by kernel_rfl) ?_
  refine XQ.seq E0_ok (by kernel_rfl) ?_
  refine XQ.region (by kernel_rfl) ?_
  refine XR.runS E0_ok 1 2 [(0, s0 2 o2.length), (1, ii 0), (2, ii x2_4), (3, ii x3_4), (4, .func (.func 88) #[] #[]), (10, .bool true), (11, .bool true), (12, ii (w64 (x2_4 - 0))), (25, .bool (decide ((w64 (x2_4 - 0)) ≤ 12)))] rfl (by kernel_rfl) ?_
  refine XR.done (by kernel_rfl) ?_
  show XQ _ _ _ _ _ _ _ _
  cases b1 : (decide ((w64 (x2_4 - 0)) ≤ 12) : Bool) with
  | false => cases (cF b1 h)
  | true =>
   have h := cT b1 h
   refine XQ.cond (s := (.tmp 25)) (b := true) (by kernel_rfl) (by kernel_rfl) (fun _ => ?_) (fun q => by cases q)
   refine XQ.seq E0_ok (by kernel_rfl) ?_
   refine XQ.region (by kernel_rfl) ?_
   refine XR.runS E0_ok 1 4 [(26, s0 2 o2.length), (27, ii 0), (28, ii x2_4), (29, .func (.func 88) #[] #[])] rfl (by kernel_rfl) ?_
   refine XR.callK E0_ok [] rfl (K := 96) (args := [s0 2 o2.length, ii 0, ii x2_4, .func (.func 88) #[] #[]]) (d := (some (path 12 30))) (by kernel_rfl) ?_
   refine KC.bodyN E0_ok (F := Proofs.Try.f96) (by kernel_rfl) (code := f37_C96) (by kernel_rfl) (nt := 53) (by kernel_rfl) (rs := []) (by kernel_rfl) (by kernel_rfl) (σ := [(0, s0 2 o2.length), (1, ii 0), (2, ii x2_4), (3, .func (.func 88) #[] #[])]) (by kernel_rfl) ?_
   refine XQ.seq E0_ok (by kernel_rfl) ?_
   refine XQ.region (by kernel_rfl) ?_
   refine XR.runS E0_ok 1 3 [(0, s0 2 o2.length), (1, ii 0), (2, ii x2_4), (3, .func (.func 88) #[] #[]), (8, ii 1)] rfl (by kernel_rfl) ?_
   refine XR.done (by kernel_rfl) ?_
   show XQ _ _ _ _ _ _ _ _
   refine XQ.block (id := 0) (by kernel_rfl) ?_
   refine XQ.loop m (by kernel_rfl) ?_
   obtain ⟨o5, o5_h, h⟩ := bS h
   refine XL.ren (σ' := [(0, s0 2 o2.length), (1, ii 0), (2, ii x2_4), (3, .func (.func 88) #[] #[]), (8, ii 1)]) (h' := [(2, rc encP o2 0 63 2), (1, rc (encI .i64) lh1_1 0 3 1), (0, .cells [ii a, ii b, ii xh0_2_1, ii xh0_3_1, ii xh0_4_1] 0 88 0)]) (c' := 3) [0, 1, 2] (by decide) rfl ⟨by kernel_rfl, by kernel_rfl, by kernel_rfl, by kernel_rfl, by kernel_rfl, trivial⟩ ⟨⟨_, _, rfl, rfl, .inl ⟨rfl, rowC_scal encP_ok _⟩⟩, ⟨_, _, rfl, rfl, .inl ⟨rfl, rowC_scal (encI_ok .i64) _⟩⟩, ⟨_, _, rfl, rfl, .inr ⟨_, _, _, _, rfl, rfl⟩⟩, trivial⟩ rfl ?_
   refine XL.conv (f37_5_ok m m a b xh0_2_1 xh0_3_1 xh0_4_1 lh1_1 x2_4 1 o2 o5 o5_h _ ?_) (by first | rfl | simp)
   refine ⟨fun i q => (by cases q), .tuple #[], (by kernel_rfl), ?_⟩
   refine XR.conv (σ' := []) (h' := [(2, rc encP o5 0 63 2), (1, rc (encI .i64) lh1_1 0 3 1), (0, .cells [ii a, ii b, ii xh0_2_1, ii xh0_3_1, ii xh0_4_1] 0 88 0)]) (c' := 3) ?_ (by kernel_rfl)
   refine XR.done (by kernel_rfl) ?_
   show XQ _ _ _ _ _ _ _ _
   refine XQ.ren (σ' := []) (h' := [(2, rc encP o5 0 63 2), (1, rc (encI .i64) lh1_1 0 3 1), (0, .cells [ii a, ii b, ii xh0_2_1, ii xh0_3_1, ii xh0_4_1] 0 88 0)]) (c' := 3) [0, 1, 2] (by decide) rfl trivial ⟨⟨_, _, rfl, rfl, .inl ⟨rfl, rowC_scal encP_ok _⟩⟩, ⟨_, _, rfl, rfl, .inl ⟨rfl, rowC_scal (encI_ok .i64) _⟩⟩, ⟨_, _, rfl, rfl, .inr ⟨_, _, _, _, rfl, rfl⟩⟩, trivial⟩ rfl ?_
   refine XQ.ret (by kernel_rfl) ?_
   cases h
   exact hQ

def f37_1 (m : Nat) : Nat → Int → Int → Int → Int → Int → Int → List Int → Option (List Int)
 | 0, _, _, _, _, _, _, _ => none
 | fuel + 1, a, b, x8_1, xh0_2_1, xh0_3_1, xh0_4_1, lh1_1 =>
  cond (decide (xh0_2_1 ≤ x8_1)) (
   cond (xh0_2_1 == 1) (
    cond (fitsB (lh1_1.length + 1) 8) (
     f37_1 m fuel a b x8_1 (w64 (xh0_2_1 + 1)) 1 1 (lh1_1 ++ [xh0_2_1])
    ) none
   ) (
    (f59 m a b xh0_2_1 xh0_3_1).bind fun r32 =>
     (f59 m a b xh0_2_1 xh0_4_1).bind fun r33 =>
      (f37_2 m m a b xh0_2_1 xh0_3_1 xh0_4_1 lh1_1 0 [] [(r32, w64 (xh0_2_1 - xh0_3_1)), (w64 (a - r33), w64 (xh0_2_1 - xh0_4_1)), (w64 (r32 + (w64 (a - r33))), w64 ((w64 (xh0_3_1 + xh0_4_1)) - xh0_2_1))]).bind fun o2 =>
       (f93 m (IntKind.wrap .u64 ((o2.length : Nat) : Int))).bind fun r34 =>
        (f37_4 m m a b xh0_2_1 xh0_3_1 xh0_4_1 lh1_1 o2 ((o2.length : Nat) : Int) r34).bind fun o4 =>
         cond (decide (o2.length = o4.length)) (
          cond (decide (((o4.length : Nat) : Int) < 3)) (
           cond (fitsB (lh1_1.length + 1) 8) (
            (f59 m a b (w64 (xh0_2_1 + 1)) xh0_2_1).bind fun r53 =>
             (f59 m a b (w64 (xh0_2_1 + 1)) xh0_3_1).bind fun r54 =>
              cond (decide (r53 < r54)) (
               f37_1 m fuel a b x8_1 (w64 (xh0_2_1 + 1)) xh0_2_1 xh0_4_1 (lh1_1 ++ [xh0_2_1])
              ) (
               (f59 m a b (w64 (xh0_2_1 + 1)) xh0_4_1).bind fun r56 =>
                f37_1 m fuel a b x8_1 (w64 (xh0_2_1 + 1)) xh0_3_1 (cond (decide (r53 > r56)) xh0_2_1 xh0_4_1) (lh1_1 ++ [xh0_2_1])
              )
           ) none
          ) (
           (f59 m a b (w64 (xh0_2_1 + 1)) xh0_2_1).bind fun r57 =>
            (f59 m a b (w64 (xh0_2_1 + 1)) xh0_3_1).bind fun r58 =>
             cond (decide (r57 < r58)) (
              f37_1 m fuel a b x8_1 (w64 (xh0_2_1 + 1)) xh0_2_1 xh0_4_1 lh1_1
             ) (
              (f59 m a b (w64 (xh0_2_1 + 1)) xh0_4_1).bind fun r60 =>
               f37_1 m fuel a b x8_1 (w64 (xh0_2_1 + 1)) xh0_3_1 (cond (decide (r57 > r60)) xh0_2_1 xh0_4_1) lh1_1
             )
          )
         ) none
   )
  ) (
   some (lh1_1)
  )

theorem f37_1_ok (m : Nat) : ∀ (fuel : Nat) (a : Int) (b : Int) (x8_1 : Int) (xh0_2_1 : Int) (xh0_3_1 : Int) (xh0_4_1 : Int) (lh1_1 : List Int) (o : (List Int)), f37_1 m fuel a b x8_1 xh0_2_1 xh0_3_1 xh0_4_1 lh1_1 = some o → ∀ Q : QP, Q (.exit 0) [(7, s0 0 o.length)] [(0, rc (encI .i64) o 0 3 1)] 1 → XL E0 45 0 fuel f37_L1 [(6, pp 0 0), (7, s0 1 lh1_1.length), (8, ii x8_1)] [(1, rc (encI .i64) lh1_1 0 3 1), (0, .cells [ii a, ii b, ii xh0_2_1, ii xh0_3_1, ii xh0_4_1] 0 88 0)] 2 Q
 | 0, a, b, x8_1, xh0_2_1, xh0_3_1, xh0_4_1, lh1_1, o, h, Q, hQ => by cases h
 | fuel + 1, a, b, x8_1, xh0_2_1, xh0_3_1, xh0_4_1, lh1_1, o, h, Q, hQ => by
  unfold f37_1 at h
  refine XL.succ E0_ok ?_
  refine XQ.seq E0_ok (by kernel_rfl) ?_
  refine XQ.seq E0_ok (by kernel_rfl) ?_
  refine XQ.region (by kernel_rfl) ?_
  refine XR.runS E0_ok 1 7 [(6, pp 0 0), (7, s0 1 lh1_1.length), (8, ii x8_1), (29, .bool (decide (xh0_2_1 ≤ x8_1)))] rfl (by kernel_rfl) ?_
  refine XR.done (by kernel_rfl) ?_
  show XQ _ _ _ _ _ _ _ _
  cases b1 : (decide (xh0_2_1 ≤ x8_1) : Bool) with
  | true =>
   have h := cT b1 h
   refine XQ.cond (s := (.tmp 29)) (b := true) (by kernel_rfl) (by kernel_rfl) (fun _ => ?_) (fun q => by cases q)
   refine XQ.skip (by kernel_rfl) ?_
   show XQ _ _ _ _ _ _ _ _
   refine XQ.seq E0_ok (by kernel_rfl) ?_
   refine XQ.block (id := 1) (by kernel_rfl) ?_
   refine XQ.seq E0_ok (by kernel_rfl) ?_
   refine XQ.region (by kernel_rfl) ?_
   refine XR.runS E0_ok 1 1 [(6, pp 0 0), (7, s0 1 lh1_1.length), (8, ii x8_1), (32, pp 0 0)] rfl (by kernel_rfl) ?_
   refine XR.callK E0_ok [6, 7, 8, 33] rfl (K := 79) (args := [pp 0 0]) (d := (some (path 12 33))) (by kernel_rfl) ?_
   refine KC.bodyN E0_ok (F := Proofs.Try.f79) (by kernel_rfl) (code := f37_C79) (by kernel_rfl) (nt := 115) (by kernel_rfl) (rs := [.tmp 2]) (by kernel_rfl) (by kernel_rfl) (σ := [(0, pp 0 0)]) (by kernel_rfl) ?_
   refine XQ.seq E0_ok (by kernel_rfl) ?_
   refine XQ.region (by kernel_rfl) ?_
   refine XR.runS E0_ok 1 1 [(0, pp 0 0)] rfl (by kernel_rfl) ?_
   refine XR.done (by kernel_rfl) ?_
   show XQ _ _ _ _ _ _ _ _
   refine XQ.seq E0_ok (by kernel_rfl) ?_
   refine XQ.seq E0_ok (by kernel_rfl) ?_
   refine XQ.region (by kernel_rfl) ?_
   refine XR.runS E0_ok 1 6 [(0, pp 0 0), (16, .bool (xh0_2_1 == 1))] rfl (by kernel_rfl) ?_
   refine XR.done (by kernel_rfl) ?_
   show XQ _ _ _ _ _ _ _ _
   cases b2 : (xh0_2_1 == 1 : Bool) with
   | true =>
    have h := cT b2 h
    refine XQ.cond (s := (.tmp 16)) (b := true) (by kernel_rfl) (by kernel_rfl) (fun _ => ?_) (fun q => by cases q)
    refine XQ.seq E0_ok (by kernel_rfl) ?_
    refine XQ.region (by kernel_rfl) ?_
    refine XR.runT E0_ok 1 8 [(2, s0 2 1)] [(2, .cells [ii a, ii 1] 0 63 2), (1, rc (encI .i64) lh1_1 0 3 1), (0, .cells [ii a, ii b, ii xh0_2_1, ii xh0_3_1, ii xh0_4_1] 0 88 0)] 3 rfl (by kernel_rfl) ?_
    refine XR.done (by kernel_rfl) ?_
    show XQ _ _ _ _ _ _ _ _
    refine XQ.ret (by kernel_rfl) ?_
    refine ⟨fun i q => (by cases q), s0 2 1, (by kernel_rfl), ?_⟩
    refine XR.conv (σ' := [(6, pp 0 0), (7, s0 1 lh1_1.length), (8, ii x8_1), (33, s0 2 1)]) (h' := [(2, .cells [ii a, ii 1] 0 63 2), (1, rc (encI .i64) lh1_1 0 3 1), (0, .cells [ii a, ii b, ii xh0_2_1, ii xh0_3_1, ii xh0_4_1] 0 88 0)]) (c' := 3) ?_ (by kernel_rfl)
    refine XR.runS E0_ok 1 2 [(6, pp 0 0), (7, s0 1 lh1_1.length), (8, ii x8_1), (35, .bool true)] rfl (by kernel_rfl) ?_
    refine XR.done (by kernel_rfl) ?_
    show XQ _ _ _ _ _ _ _ _
    refine XQ.cond (s := (.tmp 35)) (b := true) (by kernel_rfl) (by kernel_rfl) (fun _ => ?_) (fun q => by cases q)
    refine XQ.region (by kernel_rfl) ?_
    refine XR.runT E0_ok 1 7 [(6, pp 0 0), (8, ii x8_1), (36, s0 1 lh1_1.length), (42, s0 3 1)] [(3, .cells [ii xh0_2_1] 0 3 1), (2, .cells [ii a, ii 1] 0 63 2), (1, rc (encI .i64) lh1_1 0 3 1), (0, .cells [ii a, ii b, ii xh0_2_1, ii xh0_3_1, ii xh0_4_1] 0 88 0)] 4 rfl (by kernel_rfl) ?_
    cases b3 : (fitsB (lh1_1.length + 1) 8 : Bool) with
    | false => cases (cF b3 h)
    | true =>
     have h := cT b3 h
     refine XR.ef E0_ok [6, 8, 43] rfl (e_append (encI_ok .i64) (bytes := 8) (e := 3) (x := (src 45 (.tmp 36))) (y := (src 45 (.tmp 42))) (b := 1) (len := lh1_1.length) (cap := lh1_1.length) (xs := lh1_1) (m := 0) (ys := [xh0_2_1]) (d := (some (path 12 43))) (n' := (lh1_1 ++ [xh0_2_1]).length) (h' := [(4, rc (encI .i64) (lh1_1 ++ [xh0_2_1]) 0 3 1), (3, .cells [ii xh0_2_1] 0 3 1), (2, .cells [ii a, ii 1] 0 63 2), (0, .cells [ii a, ii b, ii xh0_2_1, ii xh0_3_1, ii xh0_4_1] 0 88 0)]) (by kernel_rfl) (by kernel_rfl) (by kernel_rfl) (by kernel_rfl) rfl (by simp) (by simp) b3 (by simp) (by kernel_rfl)) (σ' := [(6, pp 0 0), (8, ii x8_1), (43, s0 4 ((lh1_1 ++ [xh0_2_1]).length))]) (by kernel_rfl) ?_
     refine XR.runS E0_ok 1 1 [(6, pp 0 0), (7, s0 4 ((lh1_1 ++ [xh0_2_1]).length)), (8, ii x8_1)] rfl (by kernel_rfl) ?_
     refine XR.done (by kernel_rfl) ?_
     show XQ _ _ _ _ _ _ _ _
     refine XQ.region (by kernel_rfl) ?_
     refine XR.runS E0_ok 1 1 [(6, pp 0 0), (7, s0 4 ((lh1_1 ++ [xh0_2_1]).length)), (8, ii x8_1), (30, pp 0 0)] rfl (by kernel_rfl) ?_
     refine XR.callK E0_ok [6, 7, 8] rfl (K := 73) (args := [pp 0 0]) (d := (some (path 12 31))) (by kernel_rfl) ?_
     refine KC.bodyN E0_ok (F := Proofs.Try.f73) (by kernel_rfl) (code := f37_C73) (by kernel_rfl) (nt := 66) (by kernel_rfl) (rs := []) (by kernel_rfl) (by kernel_rfl) (σ := [(0, pp 0 0)]) (by kernel_rfl) ?_
     refine XQ.seq E0_ok (by kernel_rfl) ?_
     refine XQ.region (by kernel_rfl) ?_
     refine XR.runS E0_ok 1 6 [(0, pp 0 0), (2, ii xh0_2_1)] rfl (by kernel_rfl) ?_
     refine XR.done (by kernel_rfl) ?_
     show XQ _ _ _ _ _ _ _ _
     refine XQ.seq E0_ok (by kernel_rfl) ?_
     refine XQ.region (by kernel_rfl) ?_
     refine XR.runT E0_ok 1 10 [(0, pp 0 0), (2, ii xh0_2_1)] [(4, rc (encI .i64) (lh1_1 ++ [xh0_2_1]) 0 3 1), (3, .cells [ii xh0_2_1] 0 3 1), (2, .cells [ii a, ii 1] 0 63 2), (0, .cells [ii a, ii b, ii (w64 (xh0_2_1 + 1)), ii xh0_3_1, ii xh0_4_1] 0 88 0)] 5 rfl (by kernel_rfl) ?_
     refine XR.done (by kernel_rfl) ?_
     show XQ _ _ _ _ _ _ _ _
     refine XQ.seq E0_ok (by kernel_rfl) ?_
     refine XQ.seq E0_ok (by kernel_rfl) ?_
     refine XQ.region (by kernel_rfl) ?_
     refine XR.runS E0_ok 1 2 [(0, pp 0 0), (2, ii xh0_2_1), (19, .bool (xh0_2_1 == 1))] rfl (by kernel_rfl) ?_
     refine XR.done (by kernel_rfl) ?_
     show XQ _ _ _ _ _ _ _ _
     rw [b2]
     refine XQ.cond (s := (.tmp 19)) (b := true) (by kernel_rfl) (by kernel_rfl) (fun _ => ?_) (fun q => by cases q)
     refine XQ.seq E0_ok (by kernel_rfl) ?_
     refine XQ.region (by kernel_rfl) ?_
     refine XR.runT E0_ok 1 5 [] [(4, rc (encI .i64) (lh1_1 ++ [xh0_2_1]) 0 3 1), (3, .cells [ii xh0_2_1] 0 3 1), (2, .cells [ii a, ii 1] 0 63 2), (0, .cells [ii a, ii b, ii (w64 (xh0_2_1 + 1)), ii 1, ii 1] 0 88 0)] 5 rfl (by kernel_rfl) ?_
     refine XR.done (by kernel_rfl) ?_
     show XQ _ _ _ _ _ _ _ _
     refine XQ.ret (by kernel_rfl) ?_
     refine ⟨fun i q => (by cases q), .tuple #[], (by kernel_rfl), ?_⟩
     refine XR.conv (σ' := [(6, pp 0 0), (7, s0 4 ((lh1_1 ++ [xh0_2_1]).length)), (8, ii x8_1)]) (h' := [(4, rc (encI .i64) (lh1_1 ++ [xh0_2_1]) 0 3 1), (3, .cells [ii xh0_2_1] 0 3 1), (2, .cells [ii a, ii 1] 0 63 2), (0, .cells [ii a, ii b, ii (w64 (xh0_2_1 + 1)), ii 1, ii 1] 0 88 0)]) (c' := 5) ?_ (by kernel_rfl)
     refine XR.done (by kernel_rfl) ?_
     show XL _ _ _ _ _ _ _ _ _
     refine XL.ren (σ' := [(6, pp 0 0), (7, s0 1 ((lh1_1 ++ [xh0_2_1]).length)), (8, ii x8_1)]) (h' := [(1, rc (encI .i64) (lh1_1 ++ [xh0_2_1]) 0 3 1), (0, .cells [ii a, ii b, ii (w64 (xh0_2_1 + 1)), ii 1, ii 1] 0 88 0)]) (c' := 2) [0, 4] (by decide) rfl ⟨by kernel_rfl, by kernel_rfl, by kernel_rfl, trivial⟩ ⟨⟨_, _, rfl, rfl, .inl ⟨rfl, rowC_scal (encI_ok .i64) _⟩⟩, ⟨_, _, rfl, rfl, .inr ⟨_, _, _, _, rfl, rfl⟩⟩, trivial⟩ rfl ?_
     refine XL.conv (f37_1_ok m fuel a b x8_1 (w64 (xh0_2_1 + 1)) 1 1 (lh1_1 ++ [xh0_2_1]) o h Q hQ) (by first | rfl | simp)
   | false =>
    have h := cF b2 h
    refine XQ.cond (s := (.tmp 16)) (b := false) (by kernel_rfl) (by kernel_rfl) (fun q => by cases q) (fun _ => ?_)
    refine XQ.skip (by kernel_rfl) ?_
    show XQ _ _ _ _ _ _ _ _
    refine XQ.seq E0_ok (by kernel_rfl) ?_
    refine XQ.quiet E0_ok (by kernel_rfl) (by kernel_rfl) ?_
    refine XU.run E0_ok 1 12 [0, 3, 4] rfl (σ' := [(0, pp 0 0), (3, ii xh0_3_1), (4, ii xh0_4_1)]) (by kernel_rfl) ?_
    refine XU.done (by kernel_rfl) ?_
    show XQ _ _ _ _ _ _ _ _
    refine XQ.seq E0_ok (by kernel_rfl) ?_
    refine XQ.quiet E0_ok (by kernel_rfl) (by kernel_rfl) ?_
    refine XU.run E0_ok 1 5 [0, 3, 4, 37, 38] rfl (σ' := [(0, pp 0 0), (3, ii xh0_3_1), (4, ii xh0_4_1), (37, .agg #[ii a, ii b, ii xh0_2_1]), (38, ii xh0_3_1)]) (by kernel_rfl) ?_
    obtain ⟨r32, r32_h, h⟩ := bS h
    refine XU.call E0_ok [0, 3, 4, 39] rfl (K := 59) (F := Proofs.Try.f59) (args := [.agg #[ii a, ii b, ii xh0_2_1], ii xh0_3_1]) (d := (some (path 12 39))) (v := ii r32) (by kernel_rfl) (by kernel_rfl) rfl rfl (fun w hI => f59_ok m a b xh0_2_1 xh0_3_1 r32 r32_h w hI) (σ' := [(0, pp 0 0), (3, ii xh0_3_1), (4, ii xh0_4_1), (39, ii r32)]) (by kernel_rfl) ?_
    refine XU.run E0_ok 1 10 [0, 3, 4, 39, 44, 48, 49] rfl (σ' := [(0, pp 0 0), (3, ii xh0_3_1), (4, ii xh0_4_1), (39, ii r32), (44, ii a), (48, .agg #[ii a, ii b, ii xh0_2_1]), (49, ii xh0_4_1)]) (by kernel_rfl) ?_
    obtain ⟨r33, r33_h, h⟩ := bS h
    refine XU.call E0_ok [0, 3, 4, 39, 44, 50] rfl (K := 59) (F := Proofs.Try.f59) (args := [.agg #[ii a, ii b, ii xh0_2_1], ii xh0_4_1]) (d := (some (path 12 50))) (v := ii r33) (by kernel_rfl) (by kernel_rfl) rfl rfl (fun w hI => f59_ok m a b xh0_2_1 xh0_4_1 r33 r33_h w hI) (σ' := [(0, pp 0 0), (3, ii xh0_3_1), (4, ii xh0_4_1), (39, ii r32), (44, ii a), (50, ii r33)]) (by kernel_rfl) ?_
    refine XU.run E0_ok 1 3 [0, 3, 4, 5, 6] rfl (σ' := [(0, pp 0 0), (3, ii xh0_3_1), (4, ii xh0_4_1), (5, ii r32), (6, ii (w64 (a - r33)))]) (by kernel_rfl) ?_
    refine XU.done (by kernel_rfl) ?_
    show XQ _ _ _ _ _ _ _ _
    refine XQ.seq E0_ok (by kernel_rfl) ?_
    refine XQ.region (by kernel_rfl) ?_
    refine XR.runS E0_ok 1 1 [(0, pp 0 0), (3, ii xh0_3_1), (4, ii xh0_4_1), (5, ii r32), (6, ii (w64 (a - r33))), (7, .slice none 0 0)] rfl (by kernel_rfl) ?_
    refine XR.done (by kernel_rfl) ?_
    show XQ _ _ _ _ _ _ _ _
    refine XQ.ghost 63 2 rfl (σ' := [(0, pp 0 0), (3, ii xh0_3_1), (4, ii xh0_4_1), (5, ii r32), (6, ii (w64 (a - r33))), (7, s0 2 0)]) (h' := [(1, rc (encI .i64) lh1_1 0 3 1), (0, .cells [ii a, ii b, ii xh0_2_1, ii xh0_3_1, ii xh0_4_1] 0 88 0)]) ⟨by kernel_rfl, by kernel_rfl, by kernel_rfl, by kernel_rfl, by kernel_rfl, by kernel_rfl, trivial⟩ ⟨⟨_, rfl, .inl rfl⟩, ⟨_, rfl, .inl rfl⟩, trivial⟩ ?_
    refine XQ.conv (σ' := [(0, pp 0 0), (3, ii xh0_3_1), (4, ii xh0_4_1), (5, ii r32), (6, ii (w64 (a - r33))), (7, s0 2 0)]) (h' := [(2, rc encP [] 0 63 2), (1, rc (encI .i64) lh1_1 0 3 1), (0, .cells [ii a, ii b, ii xh0_2_1, ii xh0_3_1, ii xh0_4_1] 0 88 0)]) (c' := 3) ?_ (by kernel_rfl)
    refine XQ.seq E0_ok (by kernel_rfl) ?_
    refine XQ.seq E0_ok (by kernel_rfl) ?_
    refine XQ.preP E0_ok [33] [0, 1, 2, 3, 4, 5, 6, 7, 8, 9, 10, 11, 12, 13, 14, 15, 16, 17, 18, 19, 20, 21, 22, 23, 24, 25, 26, 27, 28, 29, 30] 31 [32] (by kernel_rfl) (by kernel_rfl) (by kernel_rfl) ?_
    refine XP.step E0_ok 1 [0, 3, 4, 5, 6, 7, 85] rfl (σ' := [(0, pp 0 0), (3, ii xh0_3_1), (4, ii xh0_4_1), (5, ii r32), (6, ii (w64 (a - r33))), (7, s0 2 0), (85, ii 0)]) (by kernel_rfl) ?_
    refine XP.done (by kernel_rfl) ?_
    show XS _ _ _ _ _ _ _ _ _ _
    refine XS.step E0_ok 31 rfl [7, 60, 69, 82, 85] rfl (σ' := [(7, s0 2 0), (60, .agg #[ii r32, ii (w64 (xh0_2_1 - xh0_3_1))]), (69, .agg #[ii (w64 (a - r33)), ii (w64 (xh0_2_1 - xh0_4_1))]), (82, .agg #[ii (w64 (r32 + (w64 (a - r33)))), ii (w64 ((w64 (xh0_3_1 + xh0_4_1)) - xh0_2_1))]), (85, ii 0)]) (by kernel_rfl) ?_
    refine XS.done (by kernel_rfl) ?_
    refine XR.runT E0_ok 1 2 [(7, s0 2 0), (83, s0 3 3), (84, ii 3), (85, ii 0)] [(3, .cells [ii r32, ii (w64 (xh0_2_1 - xh0_3_1)), ii (w64 (a - r33)), ii (w64 (xh0_2_1 - xh0_4_1)), ii (w64 (r32 + (w64 (a - r33)))), ii (w64 ((w64 (xh0_3_1 + xh0_4_1)) - xh0_2_1))] 0 63 2), (2, rc encP [] 0 63 2), (1, rc (encI .i64) lh1_1 0 3 1), (0, .cells [ii a, ii b, ii xh0_2_1, ii xh0_3_1, ii xh0_4_1] 0 88 0)] 4 rfl (by kernel_rfl) ?_
    refine XR.done (by kernel_rfl) ?_
    show XQ _ _ _ _ _ _ _ _
    refine XQ.block (id := 0) (by kernel_rfl) ?_
    refine XQ.loop m (by kernel_rfl) ?_
    obtain ⟨o2, o2_h, h⟩ := bS h
    refine XL.ren (σ' := [(7, s0 2 0), (83, s0 3 3), (84, ii 3), (85, ii 0)]) (h' := [(3, .cells [ii r32, ii (w64 (xh0_2_1 - xh0_3_1)), ii (w64 (a - r33)), ii (w64 (xh0_2_1 - xh0_4_1)), ii (w64 (r32 + (w64 (a - r33)))), ii (w64 ((w64 (xh0_3_1 + xh0_4_1)) - xh0_2_1))] 0 63 2), (2, rc encP [] 0 63 2), (1, rc (encI .i64) lh1_1 0 3 1), (0, .cells [ii a, ii b, ii xh0_2_1, ii xh0_3_1, ii xh0_4_1] 0 88 0)]) (c' := 4) [0, 1, 2, 3] (by decide) rfl ⟨by kernel_rfl, by kernel_rfl, by kernel_rfl, by kernel_rfl, trivial⟩ ⟨⟨_, _, rfl, rfl, .inr ⟨_, _, _, _, rfl, rfl⟩⟩, ⟨_, _, rfl, rfl, .inl ⟨rfl, rowC_scal encP_ok _⟩⟩, ⟨_, _, rfl, rfl, .inl ⟨rfl, rowC_scal (encI_ok .i64) _⟩⟩, ⟨_, _, rfl, rfl, .inr ⟨_, _, _, _, rfl, rfl⟩⟩, trivial⟩ rfl ?_
    refine XL.conv (σ' := [(7, s0 2 0), (83, s0 3 3), (84, ii 3), (85, ii 0)]) (h' := [(3, rc encP [(r32, w64 (xh0_2_1 - xh0_3_1)), (w64 (a - r33), w64 (xh0_2_1 - xh0_4_1)), (w64 (r32 + (w64 (a - r33))), w64 ((w64 (xh0_3_1 + xh0_4_1)) - xh0_2_1))] 0 63 2), (2, rc encP [] 0 63 2), (1, rc (encI .i64) lh1_1 0 3 1), (0, .cells [ii a, ii b, ii xh0_2_1, ii xh0_3_1, ii xh0_4_1] 0 88 0)]) (c' := 4) ?_ (by kernel_rfl)
    refine XL.conv (f37_2_ok m m a b xh0_2_1 xh0_3_1 xh0_4_1 lh1_1 0 [] [(r32, w64 (xh0_2_1 - xh0_3_1)), (w64 (a - r33), w64 (xh0_2_1 - xh0_4_1)), (w64 (r32 + (w64 (a - r33))), w64 ((w64 (xh0_3_1 + xh0_4_1)) - xh0_2_1))] o2 o2_h _ ?_) (by first | rfl | simp)
    show XQ _ _ _ _ _ _ _ _
    refine XQ.seq E0_ok (by kernel_rfl) ?_
    refine XQ.region (by kernel_rfl) ?_
    refine XR.runS E0_ok 1 1 [(7, s0 2 o2.length), (112, s0 2 o2.length)] rfl (by kernel_rfl) ?_
    refine XR.callK E0_ok [7] rfl (K := 87) (args := [s0 2 o2.length, .func (.func 88) #[] #[]]) (d := (some (path 12 113))) (by kernel_rfl) ?_
    refine KC.bodyN E0_ok (F := Proofs.Try.f87) (by kernel_rfl) (code := f37_C87) (by kernel_rfl) (nt := 14) (by kernel_rfl) (rs := []) (by kernel_rfl) (by kernel_rfl) (σ := [(0, s0 2 o2.length), (1, .func (.func 88) #[] #[])]) (by kernel_rfl) ?_
    refine XQ.seq E0_ok (by kernel_rfl) ?_
    refine XQ.region (by kernel_rfl) ?_
    refine XR.runS E0_ok 1 3 [(0, s0 2 o2.length), (1, .func (.func 88) #[] #[]), (4, ii ((o2.length : Nat) : Int))] rfl (by kernel_rfl) ?_
    refine XR.done (by kernel_rfl) ?_
    show XQ _ _ _ _ _ _ _ _
    refine XQ.region (by kernel_rfl) ?_
    refine XR.runS E0_ok 1 4 [(1, .func (.func 88) #[] #[]), (7, s0 2 o2.length), (8, ii ((o2.length : Nat) : Int)), (10, .int .u64 (IntKind.wrap .u64 ((o2.length : Nat) : Int)))] rfl (by kernel_rfl) ?_
    obtain ⟨r34, r34_h, h⟩ := bS h
    refine XR.call E0_ok [1, 7, 8, 11] rfl (K := 93) (args := [.int .u64 (IntKind.wrap .u64 ((o2.length : Nat) : Int))]) (d := (some (path 12 11))) (by kernel_rfl) (KC.of_calls E0_ok (F := Proofs.Try.f93) (v := ii r34) (by kernel_rfl) rfl rfl (fun w hI => f93_ok m (IntKind.wrap .u64 ((o2.length : Nat) : Int)) r34 r34_h w hI)) ?_
    rintro _ _ _ ⟨rfl, rfl, rfl⟩
    refine XR.conv (σ' := [(1, .func (.func 88) #[] #[]), (7, s0 2 o2.length), (8, ii ((o2.length : Nat) : Int)), (11, ii r34)]) (h' := [(2, rc encP o2 0 63 2), (1, rc (encI .i64) lh1_1 0 3 1), (0, .cells [ii a, ii b, ii xh0_2_1, ii xh0_3_1, ii xh0_4_1] 0 88 0)]) (c' := 3) ?_ (by kernel_rfl)
    refine XR.runS E0_ok 1 1 [(7, s0 2 o2.length), (8, ii ((o2.length : Nat) : Int)), (11, ii r34), (12, .func (.func 88) #[] #[])] rfl (by kernel_rfl) ?_
    refine XR.callK E0_ok [] rfl (K := 92) (args := [s0 2 o2.length, ii 0, ii ((o2.length : Nat) : Int), ii r34, .func (.func 88) #[] #[]]) (d := (some (path 12 13))) (by kernel_rfl) ?_
    refine KC.bodyN E0_ok (F := Proofs.Try.f92) (by kernel_rfl) (code := f37_C92) (by kernel_rfl) (nt := 148) (by kernel_rfl) (rs := []) (by kernel_rfl) (by kernel_rfl) (σ := [(0, s0 2 o2.length), (1, ii 0), (2, ii ((o2.length : Nat) : Int)), (3, ii r34), (4, .func (.func 88) #[] #[])]) (by kernel_rfl) ?_
    refine XQ.seq E0_ok (by kernel_rfl) ?_
    refine XQ.region (by kernel_rfl) ?_
    refine XR.runS E0_ok 1 1 [(0, s0 2 o2.length), (1, ii 0), (2, ii ((o2.length : Nat) : Int)), (3, ii r34), (4, .func (.func 88) #[] #[]), (10, .bool true)] rfl (by kernel_rfl) ?_
    refine XR.done (by kernel_rfl) ?_
    show XQ _ _ _ _ _ _ _ _
    refine XQ.seq E0_ok (by kernel_rfl) ?_
    refine XQ.region (by kernel_rfl) ?_
    refine XR.runS E0_ok 1 1 [(0, s0 2 o2.length), (1, ii 0), (2, ii ((o2.length : Nat) : Int)), (3, ii r34), (4, .func (.func 88) #[] #[]), (10, .bool true), (11, .bool true)] rfl (by kernel_rfl) ?_
    refine XR.done (by kernel_rfl) ?_
    show XQ _ _ _ _ _ _ _ _
    refine XQ.block (id := 0) (by kernel_rfl) ?_
    refine XQ.loop m (by kernel_rfl) ?_
    obtain ⟨o4, o4_h, h⟩ := bS h
    refine XL.ren (σ' := [(0, s0 2 o2.length), (1, ii 0), (2, ii ((o2.length : Nat) : Int)), (3, ii r34), (4, .func (.func 88) #[] #[]), (10, .bool true), (11, .bool true)]) (h' := [(2, rc encP o2 0 63 2), (1, rc (encI .i64) lh1_1 0 3 1), (0, .cells [ii a, ii b, ii xh0_2_1, ii xh0_3_1, ii xh0_4_1] 0 88 0)]) (c' := 3) [0, 1, 2] (by decide) rfl ⟨by kernel_rfl, by kernel_rfl, by kernel_rfl, by kernel_rfl, by kernel_rfl, by kernel_rfl, by kernel_rfl, trivial⟩ ⟨⟨_, _, rfl, rfl, .inl ⟨rfl, rowC_scal encP_ok _⟩⟩, ⟨_, _, rfl, rfl, .inl ⟨rfl, rowC_scal (encI_ok .i64) _⟩⟩, ⟨_, _, rfl, rfl, .inr ⟨_, _, _, _, rfl, rfl⟩⟩, trivial⟩ rfl ?_
    refine XL.conv (f37_4_ok m m a b xh0_2_1 xh0_3_1 xh0_4_1 lh1_1 o2 ((o2.length : Nat) : Int) r34 o4 o4_h _ ?_) (by first | rfl | simp)
    refine ⟨fun i q => (by cases q), .tuple #[], (by kernel_rfl), ?_⟩
    refine XR.conv (σ' := []) (h' := [(2, rc encP o4 0 63 2), (1, rc (encI .i64) lh1_1 0 3 1), (0, .cells [ii a, ii b, ii xh0_2_1, ii xh0_3_1, ii xh0_4_1] 0 88 0)]) (c' := 3) ?_ (by kernel_rfl)
    refine XR.done (by kernel_rfl) ?_
    refine ⟨fun i q => (by cases q), .tuple #[], (by kernel_rfl), ?_⟩
    refine XR.conv (σ' := [(7, s0 2 o2.length)]) (h' := [(2, rc encP o4 0 63 2), (1, rc (encI .i64) lh1_1 0 3 1), (0, .cells [ii a, ii b, ii xh0_2_1, ii xh0_3_1, ii xh0_4_1] 0 88 0)]) (c' := 3) ?_ (by kernel_rfl)
    cases b6 : (decide (o2.length = o4.length) : Bool) with
    | false => cases (cF b6 h)
    | true =>
     have h := cT b6 h
     refine XR.conv (σ' := [(7, s0 2 o4.length)]) (h' := [(2, rc encP o4 0 63 2), (1, rc (encI .i64) lh1_1 0 3 1), (0, .cells [ii a, ii b, ii xh0_2_1, ii xh0_3_1, ii xh0_4_1] 0 88 0)]) (c' := 3) ?_ (by rw [of_decide_eq_true b6])
     refine XR.done (by kernel_rfl) ?_
     show XQ _ _ _ _ _ _ _ _
     refine XQ.seq E0_ok (by kernel_rfl) ?_
     refine XQ.region (by kernel_rfl) ?_
     refine XR.runS E0_ok 1 2 [(2, s0 2 o4.length)] rfl (by kernel_rfl) ?_
     refine XR.done (by kernel_rfl) ?_
     show XQ _ _ _ _ _ _ _ _
     refine XQ.ret (by kernel_rfl) ?_
     refine ⟨fun i q => (by cases q), s0 2 o4.length, (by kernel_rfl), ?_⟩
     refine XR.conv (σ' := [(6, pp 0 0), (7, s0 1 lh1_1.length), (8, ii x8_1), (33, s0 2 o4.length)]) (h' := [(2, rc encP o4 0 63 2), (1, rc (encI .i64) lh1_1 0 3 1), (0, .cells [ii a, ii b, ii xh0_2_1, ii xh0_3_1, ii xh0_4_1] 0 88 0)]) (c' := 3) ?_ (by kernel_rfl)
     refine XR.runS E0_ok 1 2 [(6, pp 0 0), (7, s0 1 lh1_1.length), (8, ii x8_1), (35, .bool (decide (((o4.length : Nat) : Int) < 3)))] rfl (by kernel_rfl) ?_
     refine XR.done (by kernel_rfl) ?_
     show XQ _ _ _ _ _ _ _ _
     cases b7 : (decide (((o4.length : Nat) : Int) < 3) : Bool) with
     | true =>
      have h := cT b7 h
      refine XQ.cond (s := (.tmp 35)) (b := true) (by kernel_rfl) (by kernel_rfl) (fun _ => ?_) (fun q => by cases q)
      refine XQ.region (by kernel_rfl) ?_
      refine XR.runT E0_ok 1 7 [(6, pp 0 0), (8, ii x8_1), (36, s0 1 lh1_1.length), (42, s0 3 1)] [(3, .cells [ii xh0_2_1] 0 3 1), (2, rc encP o4 0 63 2), (1, rc (encI .i64) lh1_1 0 3 1), (0, .cells [ii a, ii b, ii xh0_2_1, ii xh0_3_1, ii xh0_4_1] 0 88 0)] 4 rfl (by kernel_rfl) ?_
      cases b8 : (fitsB (lh1_1.length + 1) 8 : Bool) with
      | false => cases (cF b8 h)
      | true =>
       have h := cT b8 h
       refine XR.ef E0_ok [6, 8, 43] rfl (e_append (encI_ok .i64) (bytes := 8) (e := 3) (x := (src 45 (.tmp 36))) (y := (src 45 (.tmp 42))) (b := 1) (len := lh1_1.length) (cap := lh1_1.length) (xs := lh1_1) (m := 0) (ys := [xh0_2_1]) (d := (some (path 12 43))) (n' := (lh1_1 ++ [xh0_2_1]).length) (h' := [(4, rc (encI .i64) (lh1_1 ++ [xh0_2_1]) 0 3 1), (3, .cells [ii xh0_2_1] 0 3 1), (2, rc encP o4 0 63 2), (0, .cells [ii a, ii b, ii xh0_2_1, ii xh0_3_1, ii xh0_4_1] 0 88 0)]) (by kernel_rfl) (by kernel_rfl) (by kernel_rfl) (by kernel_rfl) rfl (by simp) (by simp) b8 (by simp) (by kernel_rfl)) (σ' := [(6, pp 0 0), (8, ii x8_1), (43, s0 4 ((lh1_1 ++ [xh0_2_1]).length))]) (by kernel_rfl) ?_
       refine XR.runS E0_ok 1 1 [(6, pp 0 0), (7, s0 4 ((lh1_1 ++ [xh0_2_1]).length)), (8, ii x8_1)] rfl (by kernel_rfl) ?_
       refine XR.done (by kernel_rfl) ?_
       show XQ _ _ _ _ _ _ _ _
       refine XQ.region (by kernel_rfl) ?_
       refine XR.runS E0_ok 1 1 [(6, pp 0 0), (7, s0 4 ((lh1_1 ++ [xh0_2_1]).length)), (8, ii x8_1), (30, pp 0 0)] rfl (by kernel_rfl) ?_
       refine XR.callK E0_ok [6, 7, 8] rfl (K := 73) (args := [pp 0 0]) (d := (some (path 12 31))) (by kernel_rfl) ?_
       refine KC.bodyN E0_ok (F := Proofs.Try.f73) (by kernel_rfl) (code := f37_C73) (by kernel_rfl) (nt := 66) (by kernel_rfl) (rs := []) (by kernel_rfl) (by kernel_rfl) (σ := [(0, pp 0 0)]) (by kernel_rfl) ?_
       refine XQ.seq E0_ok (by kernel_rfl) ?_
       refine XQ.region (by kernel_rfl) ?_
       refine XR.runS E0_ok 1 6 [(0, pp 0 0), (2, ii xh0_2_1)] rfl (by kernel_rfl) ?_
       refine XR.done (by kernel_rfl) ?_
       show XQ _ _ _ _ _ _ _ _
       refine XQ.seq E0_ok (by kernel_rfl) ?_
       refine XQ.region (by kernel_rfl) ?_
       refine XR.runT E0_ok 1 10 [(0, pp 0 0), (2, ii xh0_2_1)] [(4, rc (encI .i64) (lh1_1 ++ [xh0_2_1]) 0 3 1), (3, .cells [ii xh0_2_1] 0 3 1), (2, rc encP o4 0 63 2), (0, .cells [ii a, ii b, ii (w64 (xh0_2_1 + 1)), ii xh0_3_1, ii xh0_4_1] 0 88 0)] 5 rfl (by kernel_rfl) ?_
       refine XR.done (by kernel_rfl) ?_
       show XQ _ _ _ _ _ _ _ _
       refine XQ.seq E0_ok (by kernel_rfl) ?_
       refine XQ.seq E0_ok (by kernel_rfl) ?_
       refine XQ.region (by kernel_rfl) ?_
       refine XR.runS E0_ok 1 2 [(0, pp 0 0), (2, ii xh0_2_1), (19, .bool (xh0_2_1 == 1))] rfl (by kernel_rfl) ?_
       refine XR.done (by kernel_rfl) ?_
       show XQ _ _ _ _ _ _ _ _
       rw [b2]
       refine XQ.cond (s := (.tmp 19)) (b := false) (by kernel_rfl) (by kernel_rfl) (fun q => by cases q) (fun _ => ?_)
       refine XQ.skip (by kernel_rfl) ?_
       show XQ _ _ _ _ _ _ _ _
       refine XQ.seq E0_ok (by kernel_rfl) ?_
       refine XQ.region (by kernel_rfl) ?_
       refine XR.runS E0_ok 1 5 [(0, pp 0 0), (2, ii xh0_2_1), (27, .agg #[ii a, ii b, ii (w64 (xh0_2_1 + 1))]), (28, ii xh0_2_1)] rfl (by kernel_rfl) ?_
       obtain ⟨r53, r53_h, h⟩ := bS h
       refine XR.call E0_ok [0, 2, 29] rfl (K := 59) (args := [.agg #[ii a, ii b, ii (w64 (xh0_2_1 + 1))], ii xh0_2_1]) (d := (some (path 12 29))) (by kernel_rfl) (KC.of_calls E0_ok (F := Proofs.Try.f59) (v := ii r53) (by kernel_rfl) rfl rfl (fun w hI => f59_ok m a b (w64 (xh0_2_1 + 1)) xh0_2_1 r53 r53_h w hI)) ?_
       rintro _ _ _ ⟨rfl, rfl, rfl⟩
       refine XR.conv (σ' := [(0, pp 0 0), (2, ii xh0_2_1), (29, ii r53)]) (h' := [(4, rc (encI .i64) (lh1_1 ++ [xh0_2_1]) 0 3 1), (3, .cells [ii xh0_2_1] 0 3 1), (2, rc encP o4 0 63 2), (0, .cells [ii a, ii b, ii (w64 (xh0_2_1 + 1)), ii xh0_3_1, ii xh0_4_1] 0 88 0)]) (c' := 5) ?_ (by kernel_rfl)
       refine XR.runS E0_ok 1 1 [(0, pp 0 0), (2, ii xh0_2_1), (3, ii r53)] rfl (by kernel_rfl) ?_
       refine XR.done (by kernel_rfl) ?_
       show XQ _ _ _ _ _ _ _ _
       refine XQ.block (id := 0) (by kernel_rfl) ?_
       refine XQ.seq E0_ok (by kernel_rfl) ?_
       refine XQ.quiet E0_ok (by kernel_rfl) (by kernel_rfl) ?_
       refine XU.run E0_ok 1 10 [0, 2, 3, 31, 35, 40] rfl (σ' := [(0, pp 0 0), (2, ii xh0_2_1), (3, ii r53), (31, ii r53), (35, .agg #[ii a, ii b, ii (w64 (xh0_2_1 + 1))]), (40, ii xh0_3_1)]) (by kernel_rfl) ?_
       obtain ⟨r54, r54_h, h⟩ := bS h
       refine XU.call E0_ok [0, 2, 3, 31, 41] rfl (K := 59) (F := Proofs.Try.f59) (args := [.agg #[ii a, ii b, ii (w64 (xh0_2_1 + 1))], ii xh0_3_1]) (d := (some (path 12 41))) (v := ii r54) (by kernel_rfl) (by kernel_rfl) rfl rfl (fun w hI => f59_ok m a b (w64 (xh0_2_1 + 1)) xh0_3_1 r54 r54_h w hI) (σ' := [(0, pp 0 0), (2, ii xh0_2_1), (3, ii r53), (31, ii r53), (41, ii r54)]) (by kernel_rfl) ?_
       refine XU.run E0_ok 1 2 [0, 2, 3, 30] rfl (σ' := [(0, pp 0 0), (2, ii xh0_2_1), (3, ii r53), (30, .bool (decide (r53 < r54)))]) (by kernel_rfl) ?_
       refine XU.done (by kernel_rfl) ?_
       show XQ _ _ _ _ _ _ _ _
       cases b9 : (decide (r53 < r54) : Bool) with
       | true =>
        have h := cT b9 h
        refine XQ.cond (s := (.tmp 30)) (b := true) (by kernel_rfl) (by kernel_rfl) (fun _ => ?_) (fun q => by cases q)
        refine XQ.region (by kernel_rfl) ?_
        refine XR.runT E0_ok 1 6 [] [(4, rc (encI .i64) (lh1_1 ++ [xh0_2_1]) 0 3 1), (3, .cells [ii xh0_2_1] 0 3 1), (2, rc encP o4 0 63 2), (0, .cells [ii a, ii b, ii (w64 (xh0_2_1 + 1)), ii xh0_2_1, ii xh0_4_1] 0 88 0)] 5 rfl (by kernel_rfl) ?_
        refine XR.done (by kernel_rfl) ?_
        refine ⟨fun i q => (by cases q), .tuple #[], (by kernel_rfl), ?_⟩
        refine XR.conv (σ' := [(6, pp 0 0), (7, s0 4 ((lh1_1 ++ [xh0_2_1]).length)), (8, ii x8_1)]) (h' := [(4, rc (encI .i64) (lh1_1 ++ [xh0_2_1]) 0 3 1), (3, .cells [ii xh0_2_1] 0 3 1), (2, rc encP o4 0 63 2), (0, .cells [ii a, ii b, ii (w64 (xh0_2_1 + 1)), ii xh0_2_1, ii xh0_4_1] 0 88 0)]) (c' := 5) ?_ (by kernel_rfl)
        refine XR.done (by kernel_rfl) ?_
        show XL _ _ _ _ _ _ _ _ _
        refine XL.ren (σ' := [(6, pp 0 0), (7, s0 1 ((lh1_1 ++ [xh0_2_1]).length)), (8, ii x8_1)]) (h' := [(1, rc (encI .i64) (lh1_1 ++ [xh0_2_1]) 0 3 1), (0, .cells [ii a, ii b, ii (w64 (xh0_2_1 + 1)), ii xh0_2_1, ii xh0_4_1] 0 88 0)]) (c' := 2) [0, 4] (by decide) rfl ⟨by kernel_rfl, by kernel_rfl, by kernel_rfl, trivial⟩ ⟨⟨_, _, rfl, rfl, .inl ⟨rfl, rowC_scal (encI_ok .i64) _⟩⟩, ⟨_, _, rfl, rfl, .inr ⟨_, _, _, _, rfl, rfl⟩⟩, trivial⟩ rfl ?_
        refine XL.conv (f37_1_ok m fuel a b x8_1 (w64 (xh0_2_1 + 1)) xh0_2_1 xh0_4_1 (lh1_1 ++ [xh0_2_1]) o h Q hQ) (by first | rfl | simp)
       | false =>
        have h := cF b9 h
        refine XQ.cond (s := (.tmp 30)) (b := false) (by kernel_rfl) (by kernel_rfl) (fun q => by cases q) (fun _ => ?_)
        refine XQ.seq E0_ok (by kernel_rfl) ?_
        refine XQ.quiet E0_ok (by kernel_rfl) (by kernel_rfl) ?_
        refine XU.run E0_ok 1 10 [0, 2, 49, 53, 58] rfl (σ' := [(0, pp 0 0), (2, ii xh0_2_1), (49, ii r53), (53, .agg #[ii a, ii b, ii (w64 (xh0_2_1 + 1))]), (58, ii xh0_4_1)]) (by kernel_rfl) ?_
        obtain ⟨r56, r56_h, h⟩ := bS h
        refine XU.call E0_ok [0, 2, 49, 59] rfl (K := 59) (F := Proofs.Try.f59) (args := [.agg #[ii a, ii b, ii (w64 (xh0_2_1 + 1))], ii xh0_4_1]) (d := (some (path 12 59))) (v := ii r56) (by kernel_rfl) (by kernel_rfl) rfl rfl (fun w hI => f59_ok m a b (w64 (xh0_2_1 + 1)) xh0_4_1 r56 r56_h w hI) (σ' := [(0, pp 0 0), (2, ii xh0_2_1), (49, ii r53), (59, ii r56)]) (by kernel_rfl) ?_
        refine XU.run E0_ok 1 2 [0, 2, 48] rfl (σ' := [(0, pp 0 0), (2, ii xh0_2_1), (48, .bool (decide (r53 > r56)))]) (by kernel_rfl) ?_
        refine XU.done (by kernel_rfl) ?_
        show XQ _ _ _ _ _ _ _ _
        refine XQ.meetC (σ' := []) (h' := [(4, rc (encI .i64) (lh1_1 ++ [xh0_2_1]) 0 3 1), (3, .cells [ii xh0_2_1] 0 3 1), (2, rc encP o4 0 63 2), (0, .cells [ii a, ii b, ii (w64 (xh0_2_1 + 1)), ii xh0_3_1, ii (cond (decide (r53 > r56)) xh0_2_1 xh0_4_1)] 0 88 0)]) (c' := 5) ?_ ?_
        rotate_left
        ·refine XQ.cond (s := (.tmp 48)) (b := decide (r53 > r56)) (by kernel_rfl) (by kernel_rfl) (fun b10 => ?_) (fun b10 => ?_)
         ·refine XQ.region (by kernel_rfl) ?_
          refine XR.runT E0_ok 1 6 [] [(4, rc (encI .i64) (lh1_1 ++ [xh0_2_1]) 0 3 1), (3, .cells [ii xh0_2_1] 0 3 1), (2, rc encP o4 0 63 2), (0, .cells [ii a, ii b, ii (w64 (xh0_2_1 + 1)), ii xh0_3_1, ii xh0_2_1] 0 88 0)] 5 rfl (by kernel_rfl) ?_
          refine XR.done (by kernel_rfl) ?_
          refine ⟨rfl, ?_, ?_⟩
          ·try rw [b10]
           exact trivial
          ·try rw [b10]
           kernel_rfl
         ·refine XQ.skip (by kernel_rfl) ?_
          refine ⟨rfl, ?_, ?_⟩
          ·try rw [b10]
           exact trivial
          ·try rw [b10]
           kernel_rfl
        refine ⟨fun i q => (by cases q), .tuple #[], (by kernel_rfl), ?_⟩
        refine XR.conv (σ' := [(6, pp 0 0), (7, s0 4 ((lh1_1 ++ [xh0_2_1]).length)), (8, ii x8_1)]) (h' := [(4, rc (encI .i64) (lh1_1 ++ [xh0_2_1]) 0 3 1), (3, .cells [ii xh0_2_1] 0 3 1), (2, rc encP o4 0 63 2), (0, .cells [ii a, ii b, ii (w64 (xh0_2_1 + 1)), ii xh0_3_1, ii (cond (decide (r53 > r56)) xh0_2_1 xh0_4_1)] 0 88 0)]) (c' := 5) ?_ (by kernel_rfl)
        refine XR.done (by kernel_rfl) ?_
        show XL _ _ _ _ _ _ _ _ _
        refine XL.ren (σ' := [(6, pp 0 0), (7, s0 1 ((lh1_1 ++ [xh0_2_1]).length)), (8, ii x8_1)]) (h' := [(1, rc (encI .i64) (lh1_1 ++ [xh0_2_1]) 0 3 1), (0, .cells [ii a, ii b, ii (w64 (xh0_2_1 + 1)), ii xh0_3_1, ii (cond (decide (r53 > r56)) xh0_2_1 xh0_4_1)] 0 88 0)]) (c' := 2) [0, 4] (by decide) rfl ⟨by kernel_rfl, by kernel_rfl, by kernel_rfl, trivial⟩ ⟨⟨_, _, rfl, rfl, .inl ⟨rfl, rowC_scal (encI_ok .i64) _⟩⟩, ⟨_, _, rfl, rfl, .inr ⟨_, _, _, _, rfl, rfl⟩⟩, trivial⟩ rfl ?_
        refine XL.conv (f37_1_ok m fuel a b x8_1 (w64 (xh0_2_1 + 1)) xh0_3_1 (cond (decide (r53 > r56)) xh0_2_1 xh0_4_1) (lh1_1 ++ [xh0_2_1]) o h Q hQ) (by first | rfl | simp)
     | false =>
      have h := cF b7 h
      refine XQ.cond (s := (.tmp 35)) (b := false) (by kernel_rfl) (by kernel_rfl) (fun q => by cases q) (fun _ => ?_)
      refine XQ.skip (by kernel_rfl) ?_
      show XQ _ _ _ _ _ _ _ _
      refine XQ.region (by kernel_rfl) ?_
      refine XR.runS E0_ok 1 1 [(6, pp 0 0), (7, s0 1 lh1_1.length), (8, ii x8_1), (30, pp 0 0)] rfl (by kernel_rfl) ?_
      refine XR.callK E0_ok [6, 7, 8] rfl (K := 73) (args := [pp 0 0]) (d := (some (path 12 31))) (by kernel_rfl) ?_
      refine KC.bodyN E0_ok (F := Proofs.Try.f73) (by kernel_rfl) (code := f37_C73) (by kernel_rfl) (nt := 66) (by kernel_rfl) (rs := []) (by kernel_rfl) (by kernel_rfl) (σ := [(0, pp 0 0)]) (by kernel_rfl) ?_
      refine XQ.seq E0_ok (by kernel_rfl) ?_
      refine XQ.region (by kernel_rfl) ?_
      refine XR.runS E0_ok 1 6 [(0, pp 0 0), (2, ii xh0_2_1)] rfl (by kernel_rfl) ?_
      refine XR.done (by kernel_rfl) ?_
      show XQ _ _ _ _ _ _ _ _
      refine XQ.seq E0_ok (by kernel_rfl) ?_
      refine XQ.region (by kernel_rfl) ?_
      refine XR.runT E0_ok 1 10 [(0, pp 0 0), (2, ii xh0_2_1)] [(2, rc encP o4 0 63 2), (1, rc (encI .i64) lh1_1 0 3 1), (0, .cells [ii a, ii b, ii (w64 (xh0_2_1 + 1)), ii xh0_3_1, ii xh0_4_1] 0 88 0)] 3 rfl (by kernel_rfl) ?_
      refine XR.done (by kernel_rfl) ?_
      show XQ _ _ _ _ _ _ _ _
      refine XQ.seq E0_ok (by kernel_rfl) ?_
      refine XQ.seq E0_ok (by kernel_rfl) ?_
      refine XQ.region (by kernel_rfl) ?_
      refine XR.runS E0_ok 1 2 [(0, pp 0 0), (2, ii xh0_2_1), (19, .bool (xh0_2_1 == 1))] rfl (by kernel_rfl) ?_
      refine XR.done (by kernel_rfl) ?_
      show XQ _ _ _ _ _ _ _ _
      rw [b2]
      refine XQ.cond (s := (.tmp 19)) (b := false) (by kernel_rfl) (by kernel_rfl) (fun q => by cases q) (fun _ => ?_)
      refine XQ.skip (by kernel_rfl) ?_
      show XQ _ _ _ _ _ _ _ _
      refine XQ.seq E0_ok (by kernel_rfl) ?_
      refine XQ.region (by kernel_rfl) ?_
      refine XR.runS E0_ok 1 5 [(0, pp 0 0), (2, ii xh0_2_1), (27, .agg #[ii a, ii b, ii (w64 (xh0_2_1 + 1))]), (28, ii xh0_2_1)] rfl (by kernel_rfl) ?_
      obtain ⟨r57, r57_h, h⟩ := bS h
      refine XR.call E0_ok [0, 2, 29] rfl (K := 59) (args := [.agg #[ii a, ii b, ii (w64 (xh0_2_1 + 1))], ii xh0_2_1]) (d := (some (path 12 29))) (by kernel_rfl) (KC.of_calls E0_ok (F := Proofs.Try.f59) (v := ii r57) (by kernel_rfl) rfl rfl (fun w hI => f59_ok m a b (w64 (xh0_2_1 + 1)) xh0_2_1 r57 r57_h w hI)) ?_
      rintro _ _ _ ⟨rfl, rfl, rfl⟩
      refine XR.conv (σ' := [(0, pp 0 0), (2, ii xh0_2_1), (29, ii r57)]) (h' := [(2, rc encP o4 0 63 2), (1, rc (encI .i64) lh1_1 0 3 1), (0, .cells [ii a, ii b, ii (w64 (xh0_2_1 + 1)), ii xh0_3_1, ii xh0_4_1] 0 88 0)]) (c' := 3) ?_ (by kernel_rfl)
      refine XR.runS E0_ok 1 1 [(0, pp 0 0), (2, ii xh0_2_1), (3, ii r57)] rfl (by kernel_rfl) ?_
      refine XR.done (by kernel_rfl) ?_
      show XQ _ _ _ _ _ _ _ _
      refine XQ.block (id := 0) (by kernel_rfl) ?_
      refine XQ.seq E0_ok (by kernel_rfl) ?_
      refine XQ.quiet E0_ok (by kernel_rfl) (by kernel_rfl) ?_
      refine XU.run E0_ok 1 10 [0, 2, 3, 31, 35, 40] rfl (σ' := [(0, pp 0 0), (2, ii xh0_2_1), (3, ii r57), (31, ii r57), (35, .agg #[ii a, ii b, ii (w64 (xh0_2_1 + 1))]), (40, ii xh0_3_1)]) (by kernel_rfl) ?_
      obtain ⟨r58, r58_h, h⟩ := bS h
      refine XU.call E0_ok [0, 2, 3, 31, 41] rfl (K := 59) (F := Proofs.Try.f59) (args := [.agg #[ii a, ii b, ii (w64 (xh0_2_1 + 1))], ii xh0_3_1]) (d := (some (path 12 41))) (v := ii r58) (by kernel_rfl) (by kernel_rfl) rfl rfl (fun w hI => f59_ok m a b (w64 (xh0_2_1 + 1)) xh0_3_1 r58 r58_h w hI) (σ' := [(0, pp 0 0), (2, ii xh0_2_1), (3, ii r57), (31, ii r57), (41, ii r58)]) (by kernel_rfl) ?_
      refine XU.run E0_ok 1 2 [0, 2, 3, 30] rfl (σ' := [(0, pp 0 0), (2, ii xh0_2_1), (3, ii r57), (30, .bool (decide (r57 < r58)))]) (by kernel_rfl) ?_
      refine XU.done (by kernel_rfl) ?_
      show XQ _ _ _ _ _ _ _ _
      cases b11 : (decide (r57 < r58) : Bool) with
      | true =>
       have h := cT b11 h
       refine XQ.cond (s := (.tmp 30)) (b := true) (by kernel_rfl) (by kernel_rfl) (fun _ => ?_) (fun q => by cases q)
       refine XQ.region (by kernel_rfl) ?_
       refine XR.runT E0_ok 1 6 [] [(2, rc encP o4 0 63 2), (1, rc (encI .i64) lh1_1 0 3 1), (0, .cells [ii a, ii b, ii (w64 (xh0_2_1 + 1)), ii xh0_2_1, ii xh0_4_1] 0 88 0)] 3 rfl (by kernel_rfl) ?_
       refine XR.done (by kernel_rfl) ?_
       refine ⟨fun i q => (by cases q), .tuple #[], (by kernel_rfl), ?_⟩
       refine XR.conv (σ' := [(6, pp 0 0), (7, s0 1 lh1_1.length), (8, ii x8_1)]) (h' := [(2, rc encP o4 0 63 2), (1, rc (encI .i64) lh1_1 0 3 1), (0, .cells [ii a, ii b, ii (w64 (xh0_2_1 + 1)), ii xh0_2_1, ii xh0_4_1] 0 88 0)]) (c' := 3) ?_ (by kernel_rfl)
       refine XR.done (by kernel_rfl) ?_
       show XL _ _ _ _ _ _ _ _ _
       refine XL.ren (σ' := [(6, pp 0 0), (7, s0 1 lh1_1.length), (8, ii x8_1)]) (h' := [(1, rc (encI .i64) lh1_1 0 3 1), (0, .cells [ii a, ii b, ii (w64 (xh0_2_1 + 1)), ii xh0_2_1, ii xh0_4_1] 0 88 0)]) (c' := 2) [0, 1] (by decide) rfl ⟨by kernel_rfl, by kernel_rfl, by kernel_rfl, trivial⟩ ⟨⟨_, _, rfl, rfl, .inl ⟨rfl, rowC_scal (encI_ok .i64) _⟩⟩, ⟨_, _, rfl, rfl, .inr ⟨_, _, _, _, rfl, rfl⟩⟩, trivial⟩ rfl ?_
       refine XL.conv (f37_1_ok m fuel a b x8_1 (w64 (xh0_2_1 + 1)) xh0_2_1 xh0_4_1 lh1_1 o h Q hQ) (by first | rfl | simp)
      | false =>
       have h := cF b11 h
       refine XQ.cond (s := (.tmp 30)) (b := false) (by kernel_rfl) (by kernel_rfl) (fun q => by cases q) (fun _ => ?_)
       refine XQ.seq E0_ok (by kernel_rfl) ?_
       refine XQ.quiet E0_ok (by kernel_rfl) (by kernel_rfl) ?_
       refine XU.run E0_ok 1 10 [0, 2, 49, 53, 58] rfl (σ' := [(0, pp 0 0), (2, ii xh0_2_1), (49, ii r57), (53, .agg #[ii a, ii b, ii (w64 (xh0_2_1 + 1))]), (58, ii xh0_4_1)]) (by kernel_rfl) ?_
       obtain ⟨r60, r60_h, h⟩ := bS h
       refine XU.call E0_ok [0, 2, 49, 59] rfl (K := 59) (F := Proofs.Try.f59) (args := [.agg #[ii a, ii b, ii (w64 (xh0_2_1 + 1))], ii xh0_4_1]) (d := (some (path 12 59))) (v := ii r60) (by kernel_rfl) (by kernel_rfl) rfl rfl (fun w hI => f59_ok m a b (w64 (xh0_2_1 + 1)) xh0_4_1 r60 r60_h w hI) (σ' := [(0, pp 0 0), (2, ii xh0_2_1), (49, ii r57), (59, ii r60)]) (by kernel_rfl) ?_
       refine XU.run E0_ok 1 2 [0, 2, 48] rfl (σ' := [(0, pp 0 0), (2, ii xh0_2_1), (48, .bool (decide (r57 > r60)))]) (by kernel_rfl) ?_
       refine XU.done (by kernel_rfl) ?_
       show XQ _ _ _ _ _ _ _ _
       refine XQ.meetC (σ' := []) (h' := [(2, rc encP o4 0 63 2), (1, rc (encI .i64) lh1_1 0 3 1), (0, .cells [ii a, ii b, ii (w64 (xh0_2_1 + 1)), ii xh0_3_1, ii (cond (decide (r57 > r60)) xh0_2_1 xh0_4_1)] 0 88 0)]) (c' := 3) ?_ ?_
       rotate_left
       ·refine XQ.cond (s := (.tmp 48)) (b := decide (r57 > r60)) (by kernel_rfl) (by kernel_rfl) (fun b12 => ?_) (fun b12 => ?_)
        ·refine XQ.region (by kernel_rfl) ?_
         refine XR.runT E0_ok 1 6 [] [(2, rc encP o4 0 63 2), (1, rc (encI .i64) lh1_1 0 3 1), (0, .cells [ii a, ii b, ii (w64 (xh0_2_1 + 1)), ii xh0_3_1, ii xh0_2_1] 0 88 0)] 3 rfl (by kernel_rfl) ?_
         refine XR.done (by kernel_rfl) ?_
         refine ⟨rfl, ?_, ?_⟩
         ·try rw [b12]
          exact trivial
         ·try rw [b12]
          kernel_rfl
        ·refine XQ.skip (by kernel_rfl) ?_
         refine ⟨rfl, ?_, ?_⟩
         ·try rw [b12]
          exact trivial
         ·try rw [b12]
          kernel_rfl
       refine ⟨fun i q => (by cases q), .tuple #[], (by kernel_rfl), ?_⟩
       refine XR.conv (σ' := [(6, pp 0 0), (7, s0 1 lh1_1.length), (8, ii x8_1)]) (h' := [(2, rc encP o4 0 63 2), (1, rc (encI .i64) lh1_1 0 3 1), (0, .cells [ii a, ii b, ii (w64 (xh0_2_1 + 1)), ii xh0_3_1, ii (cond (decide (r57 > r60)) xh0_2_1 xh0_4_1)] 0 88 0)]) (c' := 3) ?_ (by kernel_rfl)
       refine XR.done (by kernel_rfl) ?_
       show XL _ _ _ _ _ _ _ _ _
       refine XL.ren (σ' := [(6, pp 0 0), (7, s0 1 lh1_1.length), (8, ii x8_1)]) (h' := [(1, rc (encI .i64) lh1_1 0 3 1), (0, .cells [ii a, ii b, ii (w64 (xh0_2_1 + 1)), ii xh0_3_1, ii (cond (decide (r57 > r60)) xh0_2_1 xh0_4_1)] 0 88 0)]) (c' := 2) [0, 1] (by decide) rfl ⟨by kernel_rfl, by kernel_rfl, by kernel_rfl, trivial⟩ ⟨⟨_, _, rfl, rfl, .inl ⟨rfl, rowC_scal (encI_ok .i64) _⟩⟩, ⟨_, _, rfl, rfl, .inr ⟨_, _, _, _, rfl, rfl⟩⟩, trivial⟩ rfl ?_
       refine XL.conv (f37_1_ok m fuel a b x8_1 (w64 (xh0_2_1 + 1)) xh0_3_1 (cond (decide (r57 > r60)) xh0_2_1 xh0_4_1) lh1_1 o h Q hQ) (by first | rfl | simp)
  | false =>
   have h := cF b1 h
   refine XQ.cond (s := (.tmp 29)) (b := false) (by kernel_rfl) (by kernel_rfl) (fun q => by cases q) (fun _ => ?_)
   refine XQ.ren (σ' := [(7, s0 0 lh1_1.length)]) (h' := [(0, rc (encI .i64) lh1_1 0 3 1)]) (c' := 1) [1] (by decide) rfl ⟨by kernel_rfl, trivial⟩ ⟨⟨_, _, rfl, rfl, .inl ⟨rfl, rowC_scal (encI_ok .i64) _⟩⟩, trivial⟩ rfl ?_
   refine XQ.exit (i := 0) (by kernel_rfl) ?_
   cases h
   exact hQ

def f37 (m : Nat) (a : Int) (b : Int) : Option ((List Int) × Int) :=
 (f64 m a b).bind fun r1 =>
  cond (!r1) (
   some ([], 1)
  ) (
   (f65 m a b 1).bind fun r2 =>
    (f37_1 m m a b r2 1 0 0 []).bind fun o1 =>
     some (o1, 0)
  )

theorem f37_ok (m : Nat) (a : Int) (b : Int) (o : (List Int) × Int) (h : f37 m a b = some o) : KC E0 37 [ii a, ii b] [] 0 (fun v h' c' => v = .tuple #[s0 0 o.1.length, ii o.2] ∧ h' = [(0, rc (encI .i64) o.1 0 3 1)] ∧ c' = 1) := by
 refine KC.bodyN E0_ok (F := Proofs.Try.f37) (by kernel_rfl) (code := f37_C37) (by kernel_rfl) (nt := 45) (by kernel_rfl) (rs := [.tmp 4, .tmp 5]) (by kernel_rfl) (by kernel_rfl) (σ := [(0, ii a), (1, ii b)]) (by kernel_rfl) ?_
 unfold f37 at h
 refine XQ.seq E0_ok (by kernel_rfl) ?_
 refine XQ.region (by kernel_rfl) ?_
 refine XR.runS E0_ok 1 2 [(0, ii a), (1, ii b)] rfl (by kernel_rfl) ?_
 refine XR.done (by kernel_rfl) ?_
 show XQ _ _ _ _ _ _ _ _
 refine XQ.seq E0_ok (by kernel_rfl) ?_
 refine XQ.seq E0_ok (by kernel_rfl) ?_
 refine XQ.region (by kernel_rfl) ?_
 refine XR.runS E0_ok 1 2 [(0, ii a), (1, ii b), (9, ii a), (10, ii b)] rfl (by kernel_rfl) ?_
 obtain ⟨r1, r1_h, h⟩ := bS h
 refine XR.call E0_ok [0, 1, 11] rfl (K := 64) (args := [ii a, ii b]) (d := (some (path 12 11))) (by kernel_rfl) (KC.of_calls E0_ok (F := Proofs.Try.f64) (v := .bool r1) (by kernel_rfl) rfl rfl (fun w hI => f64_ok m a b r1 r1_h w hI)) ?_
 rintro _ _ _ ⟨rfl, rfl, rfl⟩
 refine XR.conv (σ' := [(0, ii a), (1, ii b), (11, .bool r1)]) (h' := []) (c' := 0) ?_ (by kernel_rfl)
 refine XR.runS E0_ok 1 1 [(0, ii a), (1, ii b), (12, .bool (!r1))] rfl (by kernel_rfl) ?_
 refine XR.done (by kernel_rfl) ?_
 show XQ _ _ _ _ _ _ _ _
 cases b1 : (!r1 : Bool) with
 | true =>
  have h := cT b1 h
  refine XQ.cond (s := (.tmp 12)) (b := true) (by kernel_rfl) (by kernel_rfl) (fun _ => ?_) (fun q => by cases q)
  refine XQ.seq E0_ok (by kernel_rfl) ?_
  refine XQ.region (by kernel_rfl) ?_
  refine XR.runS E0_ok 1 2 [(4, .slice none 0 0), (5, ii 1)] rfl (by kernel_rfl) ?_
  refine XR.done (by kernel_rfl) ?_
  show XQ _ _ _ _ _ _ _ _
  refine XQ.ghost 3 1 rfl (σ' := [(4, s0 0 0), (5, ii 1)]) (h' := []) ⟨by kernel_rfl, by kernel_rfl, trivial⟩ trivial ?_
  refine XQ.conv (σ' := [(4, s0 0 0), (5, ii 1)]) (h' := [(0, rc (encI .i64) [] 0 3 1)]) (c' := 1) ?_ (by kernel_rfl)
  refine XQ.ren (σ' := [(4, s0 0 0), (5, ii 1)]) (h' := [(0, rc (encI .i64) [] 0 3 1)]) (c' := 1) [0] (by decide) rfl ⟨by kernel_rfl, by kernel_rfl, trivial⟩ ⟨⟨_, _, rfl, rfl, .inl ⟨rfl, rowC_scal (encI_ok .i64) _⟩⟩, trivial⟩ rfl ?_
  refine XQ.ret (by kernel_rfl) ?_
  have h := Option.some.inj h
  subst h
  exact ⟨fun i q => (by cases q), .tuple #[s0 0 0, ii 1], (by kernel_rfl), (by kernel_rfl), (by kernel_rfl), rfl⟩
 | false =>
  have h := cF b1 h
  refine XQ.cond (s := (.tmp 12)) (b := false) (by kernel_rfl) (by kernel_rfl) (fun q => by cases q) (fun _ => ?_)
  refine XQ.skip (by kernel_rfl) ?_
  show XQ _ _ _ _ _ _ _ _
  refine XQ.seq E0_ok (by kernel_rfl) ?_
  refine XQ.region (by kernel_rfl) ?_
  refine XR.runT E0_ok 1 6 [(6, pp 0 0)] [(0, .cells [ii a, ii b, ii 1, ii 0, ii 0] 0 88 0)] 1 rfl (by kernel_rfl) ?_
  refine XR.done (by kernel_rfl) ?_
  show XQ _ _ _ _ _ _ _ _
  refine XQ.seq E0_ok (by kernel_rfl) ?_
  refine XQ.region (by kernel_rfl) ?_
  refine XR.runS E0_ok 1 1 [(6, pp 0 0), (7, .slice none 0 0)] rfl (by kernel_rfl) ?_
  refine XR.done (by kernel_rfl) ?_
  show XQ _ _ _ _ _ _ _ _
  refine XQ.ghost 3 1 rfl (σ' := [(6, pp 0 0), (7, s0 1 0)]) (h' := [(0, .cells [ii a, ii b, ii 1, ii 0, ii 0] 0 88 0)]) ⟨by kernel_rfl, by kernel_rfl, trivial⟩ ⟨⟨_, rfl, .inl rfl⟩, trivial⟩ ?_
  refine XQ.conv (σ' := [(6, pp 0 0), (7, s0 1 0)]) (h' := [(1, rc (encI .i64) [] 0 3 1), (0, .cells [ii a, ii b, ii 1, ii 0, ii 0] 0 88 0)]) (c' := 2) ?_ (by kernel_rfl)
  refine XQ.seq E0_ok (by kernel_rfl) ?_
  refine XQ.seq E0_ok (by kernel_rfl) ?_
  refine XQ.region (by kernel_rfl) ?_
  refine XR.runS E0_ok 1 4 [(6, pp 0 0), (7, s0 1 0), (21, .agg #[ii a, ii b, ii 1])] rfl (by kernel_rfl) ?_
  obtain ⟨r2, r2_h, h⟩ := bS h
  refine XR.call E0_ok [6, 7, 22] rfl (K := 65) (args := [.agg #[ii a, ii b, ii 1]]) (d := (some (path 12 22))) (by kernel_rfl) (KC.of_calls E0_ok (F := Proofs.Try.f65) (v := ii r2) (by kernel_rfl) rfl rfl (fun w hI => f65_ok m a b 1 r2 r2_h w hI)) ?_
  rintro _ _ _ ⟨rfl, rfl, rfl⟩
  refine XR.conv (σ' := [(6, pp 0 0), (7, s0 1 0), (22, ii r2)]) (h' := [(1, rc (encI .i64) [] 0 3 1), (0, .cells [ii a, ii b, ii 1, ii 0, ii 0] 0 88 0)]) (c' := 2) ?_ (by kernel_rfl)
  refine XR.runS E0_ok 1 1 [(6, pp 0 0), (7, s0 1 0), (8, ii r2)] rfl (by kernel_rfl) ?_
  refine XR.done (by kernel_rfl) ?_
  show XQ _ _ _ _ _ _ _ _
  refine XQ.block (id := 0) (by kernel_rfl) ?_
  refine XQ.loop m (by kernel_rfl) ?_
  obtain ⟨o1, o1_h, h⟩ := bS h
  refine XL.ren (σ' := [(6, pp 0 0), (7, s0 1 0), (8, ii r2)]) (h' := [(1, rc (encI .i64) [] 0 3 1), (0, .cells [ii a, ii b, ii 1, ii 0, ii 0] 0 88 0)]) (c' := 2) [0, 1] (by decide) rfl ⟨by kernel_rfl, by kernel_rfl, by kernel_rfl, trivial⟩ ⟨⟨_, _, rfl, rfl, .inl ⟨rfl, rowC_scal (encI_ok .i64) _⟩⟩, ⟨_, _, rfl, rfl, .inr ⟨_, _, _, _, rfl, rfl⟩⟩, trivial⟩ rfl ?_
  refine XL.conv (f37_1_ok m m a b r2 1 0 0 [] o1 o1_h _ ?_) (by first | rfl | simp)
  show XQ _ _ _ _ _ _ _ _
  refine XQ.seq E0_ok (by kernel_rfl) ?_
  refine XQ.region (by kernel_rfl) ?_
  refine XR.runS E0_ok 1 3 [(4, s0 0 o1.length), (5, ii 0)] rfl (by kernel_rfl) ?_
  refine XR.done (by kernel_rfl) ?_
  show XQ _ _ _ _ _ _ _ _
  refine XQ.ren (σ' := [(4, s0 0 o1.length), (5, ii 0)]) (h' := [(0, rc (encI .i64) o1 0 3 1)]) (c' := 1) [0] (by decide) rfl ⟨by kernel_rfl, by kernel_rfl, trivial⟩ ⟨⟨_, _, rfl, rfl, .inl ⟨rfl, rowC_scal (encI_ok .i64) _⟩⟩, trivial⟩ rfl ?_
  refine XQ.ret (by kernel_rfl) ?_
  have h := Option.some.inj h
  subst h
  exact ⟨fun i q => (by cases q), .tuple #[s0 0 o1.length, ii 0], (by kernel_rfl), (by kernel_rfl), (by kernel_rfl), rfl⟩

end Go.Xm
