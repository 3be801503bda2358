/- What these functions of the program compute, as functions in Lean, and the proofs that they do: heap.Hours. Conditions: none. -/
import Derived.Test.YtfdeihnkoaihfaaZx
import Derived.Test.YtfdeihnkoaihfaaBs
namespace Go.Xm
open Go.RowKit
set_option linter.unusedVariables false
set_option linter.unusedSimpArgs false
set_option maxRecDepth 20000
noncomputable def f35_C35 : Code := Proofs.Try.f35.body.getD .skip
noncomputable def f35_C73 : Code := Proofs.Try.f73.body.getD .skip
noncomputable def f35_C93 : Code := Proofs.Try.f93.body.getD .skip
noncomputable def f35_C74 : Code := Proofs.Try.f74.body.getD .skip
noncomputable def f35_C76 : Code := Proofs.Try.f76.body.getD .skip
noncomputable def f35_C77 : Code := Proofs.Try.f77.body.getD .skip
noncomputable def f35_L1 : Code := lft (lft (rgt (lft (rgt (rgt (rgt (rgt f35_C35)))))))
noncomputable def f35_L2 : Code := lft (lft (rgt (lft (rgt f35_C93))))
noncomputable def f35_L3 : Code := lft (lft (rgt (lft (rgt (rgt (rgt f35_C73))))))
noncomputable def f35_L4 : Code := lft (lft (rgt (lft (rgt f35_C93))))
inductive Of35_3 where
 | r (x4_r3 : Int)
 | x0
def f35_3 (m : Nat) : Nat → List (Int × Int) → List Int → List (Int × Int) → Int → Int → Int → Option Of35_3
 | 0, _, _, _, _, _, _ => none
 | fuel + 1, a, lh1_1, lh2_1, xh3_0_1, x7_3, x8_3 =>
  cond (decide (x8_3 < x7_3)) (
   cond (inRow x8_3 lh2_1.length) (
    (f62 m ((List.getD lh2_1 (Int.toNat x8_3) (0, 0)).1) ((List.getD lh2_1 (Int.toNat x8_3) (0, 0)).2) xh3_0_1).bind fun r38 =>
     cond (r38) (
      some (.r x8_3)
     ) (
      f35_3 m fuel a lh1_1 lh2_1 xh3_0_1 x7_3 (w64 (x8_3 + 1))
     )
   ) none
  ) (
   some (.x0)
  )
theorem f35_3_ok (m : Nat) : ∀ (fuel : Nat) (z0 : Nat) (y0 : Nat) (a : List (Int × Int)) (lh1_1 : List Int) (lh2_1 : List (Int × Int)) (xh3_0_1 : Int) (x7_3 : Int) (x8_3 : Int) (o : Of35_3), f35_3 m fuel a lh1_1 lh2_1 xh3_0_1 x7_3 x8_3 = some o → ∀ Q : QP, (match o with | .r x4_r3 => Q .ret [(4, ii x4_r3)] [(5, rc encP lh2_1 0 61 2), (3, .cells [ii xh3_0_1] 0 3 0), (2, rc encP lh2_1 0 61 2), (1, rc (encI .i64) lh1_1 0 3 1), (0, rc encP a z0 y0 2)] 6 | .x0 => Q (.exit 0) [] [(5, rc encP lh2_1 0 61 2), (3, .cells [ii xh3_0_1] 0 3 0), (2, rc encP lh2_1 0 61 2), (1, rc (encI .i64) lh1_1 0 3 1), (0, rc encP a z0 y0 2)] 6) → XL E0 19 6 fuel f35_L2 [(0, s0 5 lh2_1.length), (1, .func (.func 74) #[] #[pp 3 0]), (7, ii x7_3), (8, ii x8_3)] [(5, rc encP lh2_1 0 61 2), (3, .cells [ii xh3_0_1] 0 3 0), (2, rc encP lh2_1 0 61 2), (1, rc (encI .i64) lh1_1 0 3 1), (0, rc encP a z0 y0 2)] 6 Q
 | 0, z0, y0, a, lh1_1, lh2_1, xh3_0_1, x7_3, x8_3, o, h, Q, hQ => by cases h
 | fuel + 1, z0, y0, a, lh1_1, lh2_1, xh3_0_1, x7_3, x8_3, o, h, Q, hQ => by
  unfold f35_3 at h
  refine XL.succ E0_ok ?_
  refine qQ ?_
  refine rS 1 [(0, s0 5 lh2_1.length), (1, .func (.func 74) #[] #[pp 3 0]), (7, ii x7_3), (8, ii x8_3), (9, .bool (decide (x8_3 < x7_3)))] ?_
  refine dQ ?_
  show XQ _ _ _ _ _ _ _ _
  refine sQ ?_
  cases b1 : (decide (x8_3 < x7_3) : Bool) with
  | true =>
   have h := cT b1 h
   refine iT (.tmp 9) ?_
   refine kQ ?_
   show XQ _ _ _ _ _ _ _ _
   refine sQ ?_
   refine XQ.block (id := 1) (by kernel_rfl) ?_
   refine qQ ?_
   refine rS 2 [(0, s0 5 lh2_1.length), (1, .func (.func 74) #[] #[pp 3 0]), (5, ii x8_3), (7, ii x7_3), (8, ii x8_3)] ?_
   refine nQ id ?_
   refine rS 3 [(0, s0 5 lh2_1.length), (1, .func (.func 74) #[] #[pp 3 0]), (5, ii x8_3), (7, ii x7_3), (8, ii x8_3), (11, .func (.func 74) #[] #[pp 3 0]), (12, s0 5 lh2_1.length), (13, ii x8_3)] ?_
   cases b2 : (inRow x8_3 lh2_1.length : Bool) with
   | false => cases (cF b2 h)
   | true =>
    have h := cT b2 h
    refine XR.rd E0_ok [0, 1, 5, 7, 8, 11, 14] rfl (v := pp 5 ((Int.toNat x8_3) * 2)) (v_idx (s := 2) (x := (src 19 (.tmp 12))) (y := (src 19 (.tmp 13))) (b := 5) (o := 0) (len := lh2_1.length) (cap := lh2_1.length) (ik := .i64) (i := x8_3) (off := (Int.toNat x8_3) * 2) (d := (some (path 12 14))) (by kernel_rfl) (by kernel_rfl) (by kernel_rfl) b2 (by omega)) (σ' := [(0, s0 5 lh2_1.length), (1, .func (.func 74) #[] #[pp 3 0]), (5, ii x8_3), (7, ii x7_3), (8, ii x8_3), (11, .func (.func 74) #[] #[pp 3 0]), (14, pp 5 ((Int.toNat x8_3) * 2))]) (by kernel_rfl) ?_
    refine XR.rd E0_ok [0, 1, 5, 7, 8, 11, 15] rfl (v := .agg #[ii ((List.getD lh2_1 (Int.toNat x8_3) (0, 0)).1), ii ((List.getD lh2_1 (Int.toNat x8_3) (0, 0)).2)]) (v_loadN encP_ok (x := (src 19 (.tmp 14))) (b := 5) (off := (Int.toNat x8_3) * 2) (xs := lh2_1) (fz := 0) (e := 61) (es := 2) (d := (some (path 12 15))) (by kernel_rfl) (by kernel_rfl) (by kernel_rfl) (Int.toNat x8_3) (0, 0) (by first | rfl | omega) (row_len (inRow_toNat b2) (by simp)) rfl) (σ' := [(0, s0 5 lh2_1.length), (1, .func (.func 74) #[] #[pp 3 0]), (5, ii x8_3), (7, ii x7_3), (8, ii x8_3), (11, .func (.func 74) #[] #[pp 3 0]), (15, .agg #[ii ((List.getD lh2_1 (Int.toNat x8_3) (0, 0)).1), ii ((List.getD lh2_1 (Int.toNat x8_3) (0, 0)).2)])]) (by kernel_rfl) ?_
    refine XR.callK E0_ok [0, 1, 5, 7, 8, 16] rfl (K := 74) (args := [.agg #[ii ((List.getD lh2_1 (Int.toNat x8_3) (0, 0)).1), ii ((List.getD lh2_1 (Int.toNat x8_3) (0, 0)).2)], pp 3 0]) (d := (some (path 12 16))) (by kernel_rfl) ?_
    refine KC.bodyN E0_ok (F := Proofs.Try.f74) (by kernel_rfl) (code := f35_C74) (by kernel_rfl) (nt := 7) (by kernel_rfl) (rs := [.tmp 3]) (by kernel_rfl) (by kernel_rfl) (σ := [(0, .agg #[ii ((List.getD lh2_1 (Int.toNat x8_3) (0, 0)).1), ii ((List.getD lh2_1 (Int.toNat x8_3) (0, 0)).2)]), (1, pp 3 0)]) (by kernel_rfl) ?_
    refine qQ ?_
    refine rT 2 [(1, pp 3 0), (2, pp 6 0)] [(6, .cells [ii ((List.getD lh2_1 (Int.toNat x8_3) (0, 0)).1), ii ((List.getD lh2_1 (Int.toNat x8_3) (0, 0)).2)] 0 61 0), (5, rc encP lh2_1 0 61 2), (3, .cells [ii xh3_0_1] 0 3 0), (2, rc encP lh2_1 0 61 2), (1, rc (encI .i64) lh1_1 0 3 1), (0, rc encP a z0 y0 2)] 7 ?_
    refine nQ id ?_
    refine rS 2 [(4, .agg #[ii ((List.getD lh2_1 (Int.toNat x8_3) (0, 0)).1), ii ((List.getD lh2_1 (Int.toNat x8_3) (0, 0)).2)]), (5, ii xh3_0_1)] ?_
    obtain ⟨r38, r38_h, h⟩ := bS h
    refine XR.call E0_ok [6] rfl (K := 62) (args := [.agg #[ii ((List.getD lh2_1 (Int.toNat x8_3) (0, 0)).1), ii ((List.getD lh2_1 (Int.toNat x8_3) (0, 0)).2)], ii xh3_0_1]) (d := (some (path 12 6))) (by kernel_rfl) (KC.of_calls E0_ok (F := Proofs.Try.f62) (v := .bool r38) (by kernel_rfl) rfl rfl (fun w hI => f62_ok m ((List.getD lh2_1 (Int.toNat x8_3) (0, 0)).1) ((List.getD lh2_1 (Int.toNat x8_3) (0, 0)).2) xh3_0_1 r38 r38_h w hI)) ?_
    rintro _ _ _ ⟨rfl, rfl, rfl⟩
    refine XR.conv (σ' := [(6, .bool r38)]) (h' := [(6, .cells [ii ((List.getD lh2_1 (Int.toNat x8_3) (0, 0)).1), ii ((List.getD lh2_1 (Int.toNat x8_3) (0, 0)).2)] 0 61 0), (5, rc encP lh2_1 0 61 2), (3, .cells [ii xh3_0_1] 0 3 0), (2, rc encP lh2_1 0 61 2), (1, rc (encI .i64) lh1_1 0 3 1), (0, rc encP a z0 y0 2)]) (c' := 7) ?_ (by kernel_rfl)
    refine rS 1 [(3, .bool r38)] ?_
    refine dQ ?_
    show XQ _ _ _ _ _ _ _ _
    refine XQ.ret (by kernel_rfl) ?_
    refine ⟨fun i q => (by cases q), .bool r38, (by kernel_rfl), ?_⟩
    refine XR.conv (σ' := [(0, s0 5 lh2_1.length), (1, .func (.func 74) #[] #[pp 3 0]), (5, ii x8_3), (7, ii x7_3), (8, ii x8_3), (16, .bool r38)]) (h' := [(6, .cells [ii ((List.getD lh2_1 (Int.toNat x8_3) (0, 0)).1), ii ((List.getD lh2_1 (Int.toNat x8_3) (0, 0)).2)] 0 61 0), (5, rc encP lh2_1 0 61 2), (3, .cells [ii xh3_0_1] 0 3 0), (2, rc encP lh2_1 0 61 2), (1, rc (encI .i64) lh1_1 0 3 1), (0, rc encP a z0 y0 2)]) (c' := 7) ?_ (by kernel_rfl)
    refine dQ ?_
    show XQ _ _ _ _ _ _ _ _
    cases b3 : (r38 : Bool) with
    | true =>
     have h := cT b3 h
     refine iT (.tmp 16) ?_
     refine qQ ?_
     refine rS 2 [(4, ii x8_3)] ?_
     refine dQ ?_
     show XQ _ _ _ _ _ _ _ _
     refine XQ.ren (σ' := [(4, ii x8_3)]) (h' := [(5, rc encP lh2_1 0 61 2), (3, .cells [ii xh3_0_1] 0 3 0), (2, rc encP lh2_1 0 61 2), (1, rc (encI .i64) lh1_1 0 3 1), (0, rc encP a z0 y0 2)]) (c' := 6) [0, 1, 2, 3, 4, 5] (by decide) rfl ⟨rfl, trivial⟩ ⟨⟨_, _, rfl, rfl, .inl ⟨rfl, rwP⟩⟩, ⟨_, _, rfl, rfl, .inr ⟨_, _, _, _, rfl, rfl⟩⟩, ⟨_, _, rfl, rfl, .inl ⟨rfl, rwP⟩⟩, ⟨_, _, rfl, rfl, .inl ⟨rfl, rwI⟩⟩, ⟨_, _, rfl, rfl, .inl ⟨rfl, rwP⟩⟩, trivial⟩ rfl ?_
     refine XQ.ret (by kernel_rfl) ?_
     cases h
     exact hQ
    | false =>
     have h := cF b3 h
     refine iF (.tmp 16) ?_
     refine kQ ?_
     show XQ _ _ _ _ _ _ _ _
     refine rQ ?_
     refine rS 2 [(0, s0 5 lh2_1.length), (1, .func (.func 74) #[] #[pp 3 0]), (7, ii x7_3), (8, ii (w64 (x8_3 + 1)))] ?_
     refine dQ ?_
     show XL _ _ _ _ _ _ _ _ _
     refine XL.ren (σ' := [(0, s0 5 lh2_1.length), (1, .func (.func 74) #[] #[pp 3 0]), (7, ii x7_3), (8, ii (w64 (x8_3 + 1)))]) (h' := [(5, rc encP lh2_1 0 61 2), (3, .cells [ii xh3_0_1] 0 3 0), (2, rc encP lh2_1 0 61 2), (1, rc (encI .i64) lh1_1 0 3 1), (0, rc encP a z0 y0 2)]) (c' := 6) [0, 1, 2, 3, 4, 5] (by decide) rfl ⟨rfl, rfl, rfl, rfl, trivial⟩ ⟨⟨_, _, rfl, rfl, .inl ⟨rfl, rwP⟩⟩, ⟨_, _, rfl, rfl, .inr ⟨_, _, _, _, rfl, rfl⟩⟩, ⟨_, _, rfl, rfl, .inl ⟨rfl, rwP⟩⟩, ⟨_, _, rfl, rfl, .inl ⟨rfl, rwI⟩⟩, ⟨_, _, rfl, rfl, .inl ⟨rfl, rwP⟩⟩, trivial⟩ rfl ?_
     refine XL.conv (f35_3_ok m fuel z0 y0 a lh1_1 lh2_1 xh3_0_1 x7_3 (w64 (x8_3 + 1)) o h Q hQ) (by first | rfl | simp)
  | false =>
   have h := cF b1 h
   refine iF (.tmp 9) ?_
   refine XQ.ren (σ' := []) (h' := [(5, rc encP lh2_1 0 61 2), (3, .cells [ii xh3_0_1] 0 3 0), (2, rc encP lh2_1 0 61 2), (1, rc (encI .i64) lh1_1 0 3 1), (0, rc encP a z0 y0 2)]) (c' := 6) [0, 1, 2, 3, 4, 5] (by decide) rfl trivial ⟨⟨_, _, rfl, rfl, .inl ⟨rfl, rwP⟩⟩, ⟨_, _, rfl, rfl, .inr ⟨_, _, _, _, rfl, rfl⟩⟩, ⟨_, _, rfl, rfl, .inl ⟨rfl, rwP⟩⟩, ⟨_, _, rfl, rfl, .inl ⟨rfl, rwI⟩⟩, ⟨_, _, rfl, rfl, .inl ⟨rfl, rwP⟩⟩, trivial⟩ rfl ?_
   refine XQ.exit (i := 0) (by kernel_rfl) ?_
   cases h
   exact hQ
def f35_4 (m : Nat) : Nat → List (Int × Int) → List Int → List (Int × Int) → Int → Int → Int → List (Int × Int) → Option (Int × (List (Int × Int)))
 | 0, _, _, _, _, _, _, _ => none
 | fuel + 1, a, lh1_1, lh2_1, xh3_0_1, x5_4, x6_4, lh5_4 =>
  cond (decide (x6_4 < ((lh5_4.length : Nat) : Int))) (
   cond (inRow x6_4 lh5_4.length) (
    (f62 m ((List.getD lh5_4 (Int.toNat x6_4) (0, 0)).1) ((List.getD lh5_4 (Int.toNat x6_4) (0, 0)).2) xh3_0_1).bind fun r41 =>
     cond (!r41) (
      cond (inRow x5_4 lh5_4.length) (
       f35_4 m fuel a lh1_1 lh2_1 xh3_0_1 (w64 (x5_4 + 1)) (w64 (x6_4 + 1)) (List.set lh5_4 (Int.toNat x5_4) ((List.getD lh5_4 (Int.toNat x6_4) (0, 0)).1, (List.getD lh5_4 (Int.toNat x6_4) (0, 0)).2))
      ) none
     ) (
      f35_4 m fuel a lh1_1 lh2_1 xh3_0_1 x5_4 (w64 (x6_4 + 1)) lh5_4
     )
   ) none
  ) (
   some (x5_4, lh5_4)
  )
theorem f35_4_ok (m : Nat) : ∀ (fuel : Nat) (z0 : Nat) (y0 : Nat) (a : List (Int × Int)) (lh1_1 : List Int) (lh2_1 : List (Int × Int)) (xh3_0_1 : Int) (x5_4 : Int) (x6_4 : Int) (lh5_4 : List (Int × Int)) (o : (Int × (List (Int × Int)))), f35_4 m fuel a lh1_1 lh2_1 xh3_0_1 x5_4 x6_4 lh5_4 = some o → ∀ Q : QP, Q (.exit 0) [(0, s0 5 o.2.length), (5, ii o.1)] [(5, rc encP o.2 0 61 2), (3, .cells [ii xh3_0_1] 0 3 0), (2, rc encP lh2_1 0 61 2), (1, rc (encI .i64) lh1_1 0 3 1), (0, rc encP a z0 y0 2)] 6 → XL E0 42 6 fuel f35_L3 [(0, s0 5 lh5_4.length), (1, .func (.func 74) #[] #[pp 3 0]), (5, ii x5_4), (6, ii x6_4)] [(5, rc encP lh5_4 0 61 2), (3, .cells [ii xh3_0_1] 0 3 0), (2, rc encP lh2_1 0 61 2), (1, rc (encI .i64) lh1_1 0 3 1), (0, rc encP a z0 y0 2)] 6 Q
 | 0, z0, y0, a, lh1_1, lh2_1, xh3_0_1, x5_4, x6_4, lh5_4, o, h, Q, hQ => by cases h
 | fuel + 1, z0, y0, a, lh1_1, lh2_1, xh3_0_1, x5_4, x6_4, lh5_4, o, h, Q, hQ => by
  unfold f35_4 at h
  refine XL.succ E0_ok ?_
  refine sQ ?_
  refine qQ ?_
  refine rS 4 [(0, s0 5 lh5_4.length), (1, .func (.func 74) #[] #[pp 3 0]), (5, ii x5_4), (6, ii x6_4), (19, .bool (decide (x6_4 < ((lh5_4.length : Nat) : Int))))] ?_
  refine dQ ?_
  show XQ _ _ _ _ _ _ _ _
  cases b1 : (decide (x6_4 < ((lh5_4.length : Nat) : Int)) : Bool) with
  | true =>
   have h := cT b1 h
   refine iT (.tmp 19) ?_
   refine kQ ?_
   show XQ _ _ _ _ _ _ _ _
   refine sQ ?_
   refine XQ.block (id := 1) (by kernel_rfl) ?_
   refine qQ ?_
   refine rS 2 [(0, s0 5 lh5_4.length), (1, .func (.func 74) #[] #[pp 3 0]), (5, ii x5_4), (6, ii x6_4), (22, s0 5 lh5_4.length), (23, ii x6_4)] ?_
   cases b2 : (inRow x6_4 lh5_4.length : Bool) with
   | false => cases (cF b2 h)
   | true =>
    have h := cT b2 h
    refine XR.rd E0_ok [0, 1, 5, 6, 24] rfl (v := pp 5 ((Int.toNat x6_4) * 2)) (v_idx (s := 2) (x := (src 42 (.tmp 22))) (y := (src 42 (.tmp 23))) (b := 5) (o := 0) (len := lh5_4.length) (cap := lh5_4.length) (ik := .i64) (i := x6_4) (off := (Int.toNat x6_4) * 2) (d := (some (path 12 24))) (by kernel_rfl) (by kernel_rfl) (by kernel_rfl) b2 (by omega)) (σ' := [(0, s0 5 lh5_4.length), (1, .func (.func 74) #[] #[pp 3 0]), (5, ii x5_4), (6, ii x6_4), (24, pp 5 ((Int.toNat x6_4) * 2))]) (by kernel_rfl) ?_
    refine XR.rd E0_ok [0, 1, 5, 6, 25] rfl (v := .agg #[ii ((List.getD lh5_4 (Int.toNat x6_4) (0, 0)).1), ii ((List.getD lh5_4 (Int.toNat x6_4) (0, 0)).2)]) (v_loadN encP_ok (x := (src 42 (.tmp 24))) (b := 5) (off := (Int.toNat x6_4) * 2) (xs := lh5_4) (fz := 0) (e := 61) (es := 2) (d := (some (path 12 25))) (by kernel_rfl) (by kernel_rfl) (by kernel_rfl) (Int.toNat x6_4) (0, 0) (by first | rfl | omega) (row_len (inRow_toNat b2) (by simp)) rfl) (σ' := [(0, s0 5 lh5_4.length), (1, .func (.func 74) #[] #[pp 3 0]), (5, ii x5_4), (6, ii x6_4), (25, .agg #[ii ((List.getD lh5_4 (Int.toNat x6_4) (0, 0)).1), ii ((List.getD lh5_4 (Int.toNat x6_4) (0, 0)).2)])]) (by kernel_rfl) ?_
    refine rT 2 [(0, s0 5 lh5_4.length), (1, .func (.func 74) #[] #[pp 3 0]), (5, ii x5_4), (6, ii x6_4), (7, pp 6 0)] [(6, .cells [ii ((List.getD lh5_4 (Int.toNat x6_4) (0, 0)).1), ii ((List.getD lh5_4 (Int.toNat x6_4) (0, 0)).2)] 0 61 0), (5, rc encP lh5_4 0 61 2), (3, .cells [ii xh3_0_1] 0 3 0), (2, rc encP lh2_1 0 61 2), (1, rc (encI .i64) lh1_1 0 3 1), (0, rc encP a z0 y0 2)] 7 ?_
    refine nQ id ?_
    refine rS 2 [(0, s0 5 lh5_4.length), (1, .func (.func 74) #[] #[pp 3 0]), (5, ii x5_4), (6, ii x6_4), (7, pp 6 0), (26, .func (.func 74) #[] #[pp 3 0]), (27, .agg #[ii ((List.getD lh5_4 (Int.toNat x6_4) (0, 0)).1), ii ((List.getD lh5_4 (Int.toNat x6_4) (0, 0)).2)])] ?_
    refine XR.callK E0_ok [0, 1, 5, 6, 7, 28] rfl (K := 74) (args := [.agg #[ii ((List.getD lh5_4 (Int.toNat x6_4) (0, 0)).1), ii ((List.getD lh5_4 (Int.toNat x6_4) (0, 0)).2)], pp 3 0]) (d := (some (path 12 28))) (by kernel_rfl) ?_
    refine KC.bodyN E0_ok (F := Proofs.Try.f74) (by kernel_rfl) (code := f35_C74) (by kernel_rfl) (nt := 7) (by kernel_rfl) (rs := [.tmp 3]) (by kernel_rfl) (by kernel_rfl) (σ := [(0, .agg #[ii ((List.getD lh5_4 (Int.toNat x6_4) (0, 0)).1), ii ((List.getD lh5_4 (Int.toNat x6_4) (0, 0)).2)]), (1, pp 3 0)]) (by kernel_rfl) ?_
    refine qQ ?_
    refine rT 2 [(1, pp 3 0), (2, pp 7 0)] [(7, .cells [ii ((List.getD lh5_4 (Int.toNat x6_4) (0, 0)).1), ii ((List.getD lh5_4 (Int.toNat x6_4) (0, 0)).2)] 0 61 0), (6, .cells [ii ((List.getD lh5_4 (Int.toNat x6_4) (0, 0)).1), ii ((List.getD lh5_4 (Int.toNat x6_4) (0, 0)).2)] 0 61 0), (5, rc encP lh5_4 0 61 2), (3, .cells [ii xh3_0_1] 0 3 0), (2, rc encP lh2_1 0 61 2), (1, rc (encI .i64) lh1_1 0 3 1), (0, rc encP a z0 y0 2)] 8 ?_
    refine nQ id ?_
    refine rS 2 [(4, .agg #[ii ((List.getD lh5_4 (Int.toNat x6_4) (0, 0)).1), ii ((List.getD lh5_4 (Int.toNat x6_4) (0, 0)).2)]), (5, ii xh3_0_1)] ?_
    obtain ⟨r41, r41_h, h⟩ := bS h
    refine XR.call E0_ok [6] rfl (K := 62) (args := [.agg #[ii ((List.getD lh5_4 (Int.toNat x6_4) (0, 0)).1), ii ((List.getD lh5_4 (Int.toNat x6_4) (0, 0)).2)], ii xh3_0_1]) (d := (some (path 12 6))) (by kernel_rfl) (KC.of_calls E0_ok (F := Proofs.Try.f62) (v := .bool r41) (by kernel_rfl) rfl rfl (fun w hI => f62_ok m ((List.getD lh5_4 (Int.toNat x6_4) (0, 0)).1) ((List.getD lh5_4 (Int.toNat x6_4) (0, 0)).2) xh3_0_1 r41 r41_h w hI)) ?_
    rintro _ _ _ ⟨rfl, rfl, rfl⟩
    refine XR.conv (σ' := [(6, .bool r41)]) (h' := [(7, .cells [ii ((List.getD lh5_4 (Int.toNat x6_4) (0, 0)).1), ii ((List.getD lh5_4 (Int.toNat x6_4) (0, 0)).2)] 0 61 0), (6, .cells [ii ((List.getD lh5_4 (Int.toNat x6_4) (0, 0)).1), ii ((List.getD lh5_4 (Int.toNat x6_4) (0, 0)).2)] 0 61 0), (5, rc encP lh5_4 0 61 2), (3, .cells [ii xh3_0_1] 0 3 0), (2, rc encP lh2_1 0 61 2), (1, rc (encI .i64) lh1_1 0 3 1), (0, rc encP a z0 y0 2)]) (c' := 8) ?_ (by kernel_rfl)
    refine rS 1 [(3, .bool r41)] ?_
    refine dQ ?_
    show XQ _ _ _ _ _ _ _ _
    refine XQ.ret (by kernel_rfl) ?_
    refine ⟨fun i q => (by cases q), .bool r41, (by kernel_rfl), ?_⟩
    refine XR.conv (σ' := [(0, s0 5 lh5_4.length), (1, .func (.func 74) #[] #[pp 3 0]), (5, ii x5_4), (6, ii x6_4), (7, pp 6 0), (28, .bool r41)]) (h' := [(7, .cells [ii ((List.getD lh5_4 (Int.toNat x6_4) (0, 0)).1), ii ((List.getD lh5_4 (Int.toNat x6_4) (0, 0)).2)] 0 61 0), (6, .cells [ii ((List.getD lh5_4 (Int.toNat x6_4) (0, 0)).1), ii ((List.getD lh5_4 (Int.toNat x6_4) (0, 0)).2)] 0 61 0), (5, rc encP lh5_4 0 61 2), (3, .cells [ii xh3_0_1] 0 3 0), (2, rc encP lh2_1 0 61 2), (1, rc (encI .i64) lh1_1 0 3 1), (0, rc encP a z0 y0 2)]) (c' := 8) ?_ (by kernel_rfl)
    refine rS 1 [(0, s0 5 lh5_4.length), (1, .func (.func 74) #[] #[pp 3 0]), (5, ii x5_4), (6, ii x6_4), (7, pp 6 0), (29, .bool (!r41))] ?_
    refine dQ ?_
    show XQ _ _ _ _ _ _ _ _
    cases b3 : (!r41 : Bool) with
    | true =>
     have h := cT b3 h
     refine iT (.tmp 29) ?_
     refine qQ ?_
     refine rS 3 [(0, s0 5 lh5_4.length), (1, .func (.func 74) #[] #[pp 3 0]), (5, ii x5_4), (6, ii x6_4), (30, s0 5 lh5_4.length), (31, ii x5_4), (32, .agg #[ii ((List.getD lh5_4 (Int.toNat x6_4) (0, 0)).1), ii ((List.getD lh5_4 (Int.toNat x6_4) (0, 0)).2)])] ?_
     cases b4 : (inRow x5_4 lh5_4.length : Bool) with
     | false => cases (cF b4 h)
     | true =>
      have h := cT b4 h
      refine XR.rd E0_ok [0, 1, 5, 6, 32, 33] rfl (v := pp 5 ((Int.toNat x5_4) * 2)) (v_idx (s := 2) (x := (src 42 (.tmp 30))) (y := (src 42 (.tmp 31))) (b := 5) (o := 0) (len := lh5_4.length) (cap := lh5_4.length) (ik := .i64) (i := x5_4) (off := (Int.toNat x5_4) * 2) (d := (some (path 12 33))) (by kernel_rfl) (by kernel_rfl) (by kernel_rfl) b4 (by omega)) (σ' := [(0, s0 5 lh5_4.length), (1, .func (.func 74) #[] #[pp 3 0]), (5, ii x5_4), (6, ii x6_4), (32, .agg #[ii ((List.getD lh5_4 (Int.toNat x6_4) (0, 0)).1), ii ((List.getD lh5_4 (Int.toNat x6_4) (0, 0)).2)]), (33, pp 5 ((Int.toNat x5_4) * 2))]) (by kernel_rfl) ?_
      refine XR.ef E0_ok [0, 1, 5, 6] rfl (e_store encP_ok (size := 2) (x := (src 42 (.tmp 33))) (y := (src 42 (.tmp 32))) (b := 5) (off := (Int.toNat x5_4) * 2) (xs := lh5_4) (e := 61) (es := 2) (d := none) (h' := [(7, .cells [ii ((List.getD lh5_4 (Int.toNat x6_4) (0, 0)).1), ii ((List.getD lh5_4 (Int.toNat x6_4) (0, 0)).2)] 0 61 0), (6, .cells [ii ((List.getD lh5_4 (Int.toNat x6_4) (0, 0)).1), ii ((List.getD lh5_4 (Int.toNat x6_4) (0, 0)).2)] 0 61 0), (5, rc encP (List.set lh5_4 (Int.toNat x5_4) ((List.getD lh5_4 (Int.toNat x6_4) (0, 0)).1, (List.getD lh5_4 (Int.toNat x6_4) (0, 0)).2)) 0 61 2), (3, .cells [ii xh3_0_1] 0 3 0), (2, rc encP lh2_1 0 61 2), (1, rc (encI .i64) lh1_1 0 3 1), (0, rc encP a z0 y0 2)]) (w := .agg #[ii ((List.getD lh5_4 (Int.toNat x6_4) (0, 0)).1), ii ((List.getD lh5_4 (Int.toNat x6_4) (0, 0)).2)]) (ws := [ii ((List.getD lh5_4 (Int.toNat x6_4) (0, 0)).1), ii ((List.getD lh5_4 (Int.toNat x6_4) (0, 0)).2)]) (a := ((List.getD lh5_4 (Int.toNat x6_4) (0, 0)).1, (List.getD lh5_4 (Int.toNat x6_4) (0, 0)).2)) (by kernel_rfl) (by kernel_rfl) (by kernel_rfl) (Int.toNat x5_4) 0 (0, 0) (by first | rfl | omega) (row_len (inRow_toNat b4) (by simp)) (by kernel_rfl) rfl rfl rfl rfl rfl (by kernel_rfl)) (σ' := [(0, s0 5 lh5_4.length), (1, .func (.func 74) #[] #[pp 3 0]), (5, ii x5_4), (6, ii x6_4)]) (by kernel_rfl) ?_
      refine dQ ?_
      show XQ _ _ _ _ _ _ _ _
      refine rQ ?_
      refine rS 3 [(0, s0 5 lh5_4.length), (1, .func (.func 74) #[] #[pp 3 0]), (5, ii (w64 (x5_4 + 1))), (6, ii x6_4)] ?_
      refine dQ ?_
      show XQ _ _ _ _ _ _ _ _
      refine rQ ?_
      refine rS 3 [(0, s0 5 lh5_4.length), (1, .func (.func 74) #[] #[pp 3 0]), (5, ii (w64 (x5_4 + 1))), (6, ii (w64 (x6_4 + 1)))] ?_
      refine dQ ?_
      show XL _ _ _ _ _ _ _ _ _
      refine XL.ren (σ' := [(0, s0 5 lh5_4.length), (1, .func (.func 74) #[] #[pp 3 0]), (5, ii (w64 (x5_4 + 1))), (6, ii (w64 (x6_4 + 1)))]) (h' := [(5, rc encP (List.set lh5_4 (Int.toNat x5_4) ((List.getD lh5_4 (Int.toNat x6_4) (0, 0)).1, (List.getD lh5_4 (Int.toNat x6_4) (0, 0)).2)) 0 61 2), (3, .cells [ii xh3_0_1] 0 3 0), (2, rc encP lh2_1 0 61 2), (1, rc (encI .i64) lh1_1 0 3 1), (0, rc encP a z0 y0 2)]) (c' := 6) [0, 1, 2, 3, 4, 5] (by decide) rfl ⟨rfl, rfl, rfl, rfl, trivial⟩ ⟨⟨_, _, rfl, rfl, .inl ⟨rfl, rwP⟩⟩, ⟨_, _, rfl, rfl, .inr ⟨_, _, _, _, rfl, rfl⟩⟩, ⟨_, _, rfl, rfl, .inl ⟨rfl, rwP⟩⟩, ⟨_, _, rfl, rfl, .inl ⟨rfl, rwI⟩⟩, ⟨_, _, rfl, rfl, .inl ⟨rfl, rwP⟩⟩, trivial⟩ rfl ?_
      refine XL.conv (f35_4_ok m fuel z0 y0 a lh1_1 lh2_1 xh3_0_1 (w64 (x5_4 + 1)) (w64 (x6_4 + 1)) (List.set lh5_4 (Int.toNat x5_4) ((List.getD lh5_4 (Int.toNat x6_4) (0, 0)).1, (List.getD lh5_4 (Int.toNat x6_4) (0, 0)).2)) o h Q hQ) (by first | rfl | simp)
    | false =>
     have h := cF b3 h
     refine iF (.tmp 29) ?_
     refine kQ ?_
     show XQ _ _ _ _ _ _ _ _
     refine rQ ?_
     refine rS 3 [(0, s0 5 lh5_4.length), (1, .func (.func 74) #[] #[pp 3 0]), (5, ii x5_4), (6, ii (w64 (x6_4 + 1)))] ?_
     refine dQ ?_
     show XL _ _ _ _ _ _ _ _ _
     refine XL.ren (σ' := [(0, s0 5 lh5_4.length), (1, .func (.func 74) #[] #[pp 3 0]), (5, ii x5_4), (6, ii (w64 (x6_4 + 1)))]) (h' := [(5, rc encP lh5_4 0 61 2), (3, .cells [ii xh3_0_1] 0 3 0), (2, rc encP lh2_1 0 61 2), (1, rc (encI .i64) lh1_1 0 3 1), (0, rc encP a z0 y0 2)]) (c' := 6) [0, 1, 2, 3, 4, 5] (by decide) rfl ⟨rfl, rfl, rfl, rfl, trivial⟩ ⟨⟨_, _, rfl, rfl, .inl ⟨rfl, rwP⟩⟩, ⟨_, _, rfl, rfl, .inr ⟨_, _, _, _, rfl, rfl⟩⟩, ⟨_, _, rfl, rfl, .inl ⟨rfl, rwP⟩⟩, ⟨_, _, rfl, rfl, .inl ⟨rfl, rwI⟩⟩, ⟨_, _, rfl, rfl, .inl ⟨rfl, rwP⟩⟩, trivial⟩ rfl ?_
     refine XL.conv (f35_4_ok m fuel z0 y0 a lh1_1 lh2_1 xh3_0_1 x5_4 (w64 (x6_4 + 1)) lh5_4 o h Q hQ) (by first | rfl | simp)
  | false =>
   have h := cF b1 h
   refine iF (.tmp 19) ?_
   refine XQ.ren (σ' := [(0, s0 5 lh5_4.length), (5, ii x5_4)]) (h' := [(5, rc encP lh5_4 0 61 2), (3, .cells [ii xh3_0_1] 0 3 0), (2, rc encP lh2_1 0 61 2), (1, rc (encI .i64) lh1_1 0 3 1), (0, rc encP a z0 y0 2)]) (c' := 6) [0, 1, 2, 3, 4, 5] (by decide) rfl ⟨rfl, rfl, trivial⟩ ⟨⟨_, _, rfl, rfl, .inl ⟨rfl, rwP⟩⟩, ⟨_, _, rfl, rfl, .inr ⟨_, _, _, _, rfl, rfl⟩⟩, ⟨_, _, rfl, rfl, .inl ⟨rfl, rwP⟩⟩, ⟨_, _, rfl, rfl, .inl ⟨rfl, rwI⟩⟩, ⟨_, _, rfl, rfl, .inl ⟨rfl, rwP⟩⟩, trivial⟩ rfl ?_
   refine XQ.exit (i := 0) (by kernel_rfl) ?_
   cases h
   exact hQ
def f35_2 (m : Nat) (a : List (Int × Int)) (lh1_1 : List Int) (lh2_1 : List (Int × Int)) (xh3_0_1 : Int) : Option (List (Int × Int)) :=
 (f35_3 m m a lh1_1 lh2_1 xh3_0_1 ((lh2_1.length : Nat) : Int) 0).bind fun o3 =>
  match o3 with
  | .r x4_r3 =>
   cond (x4_r3 == (-1)) (
    some (List.take lh2_1.length lh2_1)
   ) (
    (f35_4 m m a lh1_1 lh2_1 xh3_0_1 x4_r3 (w64 (x4_r3 + 1)) lh2_1).bind fun o4 =>
     cond (cutOK o4.1 ((o4.2.length : Nat) : Int) ((o4.2.length : Nat) : Int) o4.2.length) (
      cond (decide ((Int.toNat o4.1) + (o4.2.length - (Int.toNat o4.1)) ≤ o4.2.length)) (
       cond (cutOK 0 o4.1 ((o4.2.length : Nat) : Int) o4.2.length) (
        cond (decide (Int.toNat o4.1 ≤ (clearL (0, 0) o4.2 (Int.toNat o4.1) (o4.2.length - (Int.toNat o4.1))).length)) (
         cond (decide (Int.toNat o4.1 ≤ o4.2.length)) (
          some (List.take (Int.toNat o4.1) (clearL (0, 0) o4.2 (Int.toNat o4.1) (o4.2.length - (Int.toNat o4.1))))
         ) none
        ) none
       ) none
      ) none
     ) none
   )
  | .x0 =>
   some (List.take lh2_1.length lh2_1)
theorem f35_2_ok (m : Nat) (z0 : Nat) (y0 : Nat) (a : List (Int × Int)) (lh1_1 : List Int) (lh2_1 : List (Int × Int)) (xh3_0_1 : Int) (o : (List (Int × Int))) (h : f35_2 m a lh1_1 lh2_1 xh3_0_1 = some o) (R : Value → Heap → Nat → Prop) (hR : R (s0 5 o.length) [(5, rc encP o 0 61 2), (3, .cells [ii xh3_0_1] 0 3 0), (2, rc encP lh2_1 0 61 2), (1, rc (encI .i64) lh1_1 0 3 1), (0, rc encP a z0 y0 2)] 6) : KC E0 73 [s0 5 lh2_1.length, .func (.func 74) #[] #[pp 3 0]] [(5, rc encP lh2_1 0 61 2), (3, .cells [ii xh3_0_1] 0 3 0), (2, rc encP lh2_1 0 61 2), (1, rc (encI .i64) lh1_1 0 3 1), (0, rc encP a z0 y0 2)] 6 R := by
 refine KC.shrink encP_ok rfl (e := 61) 5 ?_
 refine KC.bodyN E0_ok (F := Proofs.Try.f73) (by kernel_rfl) (code := f35_C73) (by kernel_rfl) (nt := 42) (by kernel_rfl) (rs := [.tmp 4]) (by kernel_rfl) (by kernel_rfl) (σ := [(0, s0 5 lh2_1.length), (1, .func (.func 74) #[] #[pp 3 0])]) (by kernel_rfl) ?_
 unfold f35_2 at h
 refine qQ ?_
 refine rS 1 [(0, s0 5 lh2_1.length), (1, .func (.func 74) #[] #[pp 3 0])] ?_
 refine nQ id ?_
 refine rS 2 [(0, s0 5 lh2_1.length), (1, .func (.func 74) #[] #[pp 3 0]), (8, s0 5 lh2_1.length), (9, .func (.func 74) #[] #[pp 3 0])] ?_
 refine XR.callK E0_ok [0, 1, 10] rfl (K := 93) (args := [s0 5 lh2_1.length, .func (.func 74) #[] #[pp 3 0]]) (d := (some (path 12 10))) (by kernel_rfl) ?_
 refine KC.bodyN E0_ok (F := Proofs.Try.f93) (by kernel_rfl) (code := f35_C93) (by kernel_rfl) (nt := 19) (by kernel_rfl) (rs := [.tmp 4]) (by kernel_rfl) (by kernel_rfl) (σ := [(0, s0 5 lh2_1.length), (1, .func (.func 74) #[] #[pp 3 0])]) (by kernel_rfl) ?_
 refine qQ ?_
 refine rS 1 [(0, s0 5 lh2_1.length), (1, .func (.func 74) #[] #[pp 3 0])] ?_
 refine dQ ?_
 show XQ _ _ _ _ _ _ _ _
 refine sQ ?_
 refine qQ ?_
 refine rS 3 [(0, s0 5 lh2_1.length), (1, .func (.func 74) #[] #[pp 3 0]), (7, ii ((lh2_1.length : Nat) : Int)), (8, ii 0)] ?_
 refine dQ ?_
 show XQ _ _ _ _ _ _ _ _
 refine XQ.block (id := 0) (by kernel_rfl) ?_
 refine XQ.loop m (by kernel_rfl) ?_
 obtain ⟨o3, o3_h, h⟩ := bS h
 refine XL.ren (σ' := [(0, s0 5 lh2_1.length), (1, .func (.func 74) #[] #[pp 3 0]), (7, ii ((lh2_1.length : Nat) : Int)), (8, ii 0)]) (h' := [(5, rc encP lh2_1 0 61 2), (3, .cells [ii xh3_0_1] 0 3 0), (2, rc encP lh2_1 0 61 2), (1, rc (encI .i64) lh1_1 0 3 1), (0, rc encP a z0 y0 2)]) (c' := 6) [0, 1, 2, 3, 4, 5] (by decide) rfl ⟨rfl, rfl, rfl, rfl, trivial⟩ ⟨⟨_, _, rfl, rfl, .inl ⟨rfl, rwP⟩⟩, ⟨_, _, rfl, rfl, .inr ⟨_, _, _, _, rfl, rfl⟩⟩, ⟨_, _, rfl, rfl, .inl ⟨rfl, rwP⟩⟩, ⟨_, _, rfl, rfl, .inl ⟨rfl, rwI⟩⟩, ⟨_, _, rfl, rfl, .inl ⟨rfl, rwP⟩⟩, trivial⟩ rfl ?_
 cases o3 with
 | r x4_r3 =>
  dsimp only at h
  refine XL.conv (f35_3_ok m m z0 y0 a lh1_1 lh2_1 xh3_0_1 ((lh2_1.length : Nat) : Int) 0 (.r x4_r3) o3_h _ ?_) (by first | rfl | simp)
  refine ⟨fun i q => (by cases q), ii x4_r3, (by kernel_rfl), ?_⟩
  refine XR.conv (σ' := [(0, s0 5 lh2_1.length), (1, .func (.func 74) #[] #[pp 3 0]), (10, ii x4_r3)]) (h' := [(5, rc encP lh2_1 0 61 2), (3, .cells [ii xh3_0_1] 0 3 0), (2, rc encP lh2_1 0 61 2), (1, rc (encI .i64) lh1_1 0 3 1), (0, rc encP a z0 y0 2)]) (c' := 6) ?_ (by kernel_rfl)
  refine rS 1 [(0, s0 5 lh2_1.length), (1, .func (.func 74) #[] #[pp 3 0]), (5, ii x4_r3)] ?_
  refine dQ ?_
  show XQ _ _ _ _ _ _ _ _
  refine sQ ?_
  refine qQ ?_
  refine rS 2 [(0, s0 5 lh2_1.length), (1, .func (.func 74) #[] #[pp 3 0]), (5, ii x4_r3), (12, .bool (x4_r3 == (-1)))] ?_
  refine dQ ?_
  show XQ _ _ _ _ _ _ _ _
  cases b2 : (x4_r3 == (-1) : Bool) with
  | true =>
   have h := cT b2 h
   refine iT (.tmp 12) ?_
   refine qQ ?_
   refine rS 2 [(4, s0 5 lh2_1.length)] ?_
   refine dQ ?_
   show XQ _ _ _ _ _ _ _ _
   refine XQ.ren (σ' := [(4, s0 5 lh2_1.length)]) (h' := [(5, rc encP lh2_1 0 61 2), (3, .cells [ii xh3_0_1] 0 3 0), (2, rc encP lh2_1 0 61 2), (1, rc (encI .i64) lh1_1 0 3 1), (0, rc encP a z0 y0 2)]) (c' := 6) [0, 1, 2, 3, 4, 5] (by decide) rfl ⟨rfl, trivial⟩ ⟨⟨_, _, rfl, rfl, .inl ⟨rfl, rwP⟩⟩, ⟨_, _, rfl, rfl, .inr ⟨_, _, _, _, rfl, rfl⟩⟩, ⟨_, _, rfl, rfl, .inl ⟨rfl, rwP⟩⟩, ⟨_, _, rfl, rfl, .inl ⟨rfl, rwI⟩⟩, ⟨_, _, rfl, rfl, .inl ⟨rfl, rwP⟩⟩, trivial⟩ rfl ?_
   refine XQ.ret (by kernel_rfl) ?_
   cases h
   exact ⟨fun i q => (by cases q), s0 5 lh2_1.length, (by kernel_rfl), lh2_1, lh2_1.length, lh2_1.length, [(5, rc encP (List.take lh2_1.length lh2_1) 0 61 2), (3, .cells [ii xh3_0_1] 0 3 0), (2, rc encP lh2_1 0 61 2), (1, rc (encI .i64) lh1_1 0 3 1), (0, rc encP a z0 y0 2)], rfl, (by kernel_rfl), (Nat.le_refl _), (Nat.le_refl _), (by kernel_rfl), (by first | exact hR | simpa only [List.length_set] using hR)⟩
  | false =>
   have h := cF b2 h
   refine iF (.tmp 12) ?_
   refine kQ ?_
   show XQ _ _ _ _ _ _ _ _
   refine sQ ?_
   refine qQ ?_
   refine rS 3 [(0, s0 5 lh2_1.length), (1, .func (.func 74) #[] #[pp 3 0]), (5, ii x4_r3), (6, ii (w64 (x4_r3 + 1)))] ?_
   refine dQ ?_
   show XQ _ _ _ _ _ _ _ _
   refine XQ.block (id := 0) (by kernel_rfl) ?_
   refine XQ.loop m (by kernel_rfl) ?_
   obtain ⟨o4, o4_h, h⟩ := bS h
   refine XL.ren (σ' := [(0, s0 5 lh2_1.length), (1, .func (.func 74) #[] #[pp 3 0]), (5, ii x4_r3), (6, ii (w64 (x4_r3 + 1)))]) (h' := [(5, rc encP lh2_1 0 61 2), (3, .cells [ii xh3_0_1] 0 3 0), (2, rc encP lh2_1 0 61 2), (1, rc (encI .i64) lh1_1 0 3 1), (0, rc encP a z0 y0 2)]) (c' := 6) [0, 1, 2, 3, 4, 5] (by decide) rfl ⟨rfl, rfl, rfl, rfl, trivial⟩ ⟨⟨_, _, rfl, rfl, .inl ⟨rfl, rwP⟩⟩, ⟨_, _, rfl, rfl, .inr ⟨_, _, _, _, rfl, rfl⟩⟩, ⟨_, _, rfl, rfl, .inl ⟨rfl, rwP⟩⟩, ⟨_, _, rfl, rfl, .inl ⟨rfl, rwI⟩⟩, ⟨_, _, rfl, rfl, .inl ⟨rfl, rwP⟩⟩, trivial⟩ rfl ?_
   refine XL.conv (f35_4_ok m m z0 y0 a lh1_1 lh2_1 xh3_0_1 x4_r3 (w64 (x4_r3 + 1)) lh2_1 o4 o4_h _ ?_) (by first | rfl | simp)
   show XQ _ _ _ _ _ _ _ _
   refine qQ ?_
   refine rS 2 [(0, s0 5 o4.2.length), (5, ii o4.1), (36, s0 5 o4.2.length), (37, ii o4.1)] ?_
   cases b4 : (cutOK o4.1 ((o4.2.length : Nat) : Int) ((o4.2.length : Nat) : Int) o4.2.length : Bool) with
   | false => cases (cF b4 h)
   | true =>
    have h := cT b4 h
    refine XR.rd E0_ok [0, 5, 38] rfl (v := sl 5 ((Int.toNat o4.1) * 2) (o4.2.length - (Int.toNat o4.1)) (o4.2.length - (Int.toNat o4.1))) (v_cut (nt := 42) (s := 2) (x := (src 42 (.tmp 36))) (lo := (some (.tmp 37))) (hi := none) (mx := none) (b := 5) (o := 0) (len := o4.2.length) (cap := o4.2.length) (l := (some o4.1)) (u := none) (m := none) (cs := rowC encP o4.2) (fz := 0) (e := 61) (es := 2) (o' := (Int.toNat o4.1) * 2) (len' := o4.2.length - (Int.toNat o4.1)) (cap' := o4.2.length - (Int.toNat o4.1)) (d := (some (path 12 38))) (by kernel_rfl) (by kernel_rfl) (by kernel_rfl) (by kernel_rfl) (by kernel_rfl) (by kernel_rfl) (by kernel_rfl) rfl b4 (by simp only [Option.getD_none, Option.getD_some] <;> omega) (by simp only [Option.getD_none, Option.getD_some] <;> omega) (by simp only [Option.getD_none, Option.getD_some] <;> omega)) (σ' := [(0, s0 5 o4.2.length), (5, ii o4.1), (38, sl 5 ((Int.toNat o4.1) * 2) (o4.2.length - (Int.toNat o4.1)) (o4.2.length - (Int.toNat o4.1)))]) (by kernel_rfl) ?_
    cases b5 : (decide ((Int.toNat o4.1) + (o4.2.length - (Int.toNat o4.1)) ≤ o4.2.length) : Bool) with
    | false => cases (cF b5 h)
    | true =>
     have h := cT b5 h
     refine XR.ef E0_ok [0, 5] rfl (e_clear encP_ok (z := #[ii 0, ii 0]) (x := (src 42 (.tmp 38))) (b := 5) (o := (Int.toNat o4.1) * 2) (len := o4.2.length - (Int.toNat o4.1)) (cap := o4.2.length - (Int.toNat o4.1)) (xs := o4.2) (e := 61) (es := 2) (d := none) (h' := [(5, rc encP (clearL (0, 0) o4.2 (Int.toNat o4.1) (o4.2.length - (Int.toNat o4.1))) 0 61 2), (3, .cells [ii xh3_0_1] 0 3 0), (2, rc encP lh2_1 0 61 2), (1, rc (encI .i64) lh1_1 0 3 1), (0, rc encP a z0 y0 2)]) (by kernel_rfl) (by kernel_rfl) (by kernel_rfl) (Int.toNat o4.1) (0, 0) rfl rfl (by first | rfl | omega) b5 (by kernel_rfl)) (σ' := [(0, s0 5 o4.2.length), (5, ii o4.1)]) (by kernel_rfl) ?_
     refine nQ id ?_
     refine rS 2 [(39, s0 5 o4.2.length), (40, ii o4.1)] ?_
     cases b6 : (cutOK 0 o4.1 ((o4.2.length : Nat) : Int) o4.2.length : Bool) with
     | false => cases (cF b6 h)
     | true =>
      have h := cT b6 h
      refine XR.rd E0_ok [41] rfl (v := sl 5 0 (Int.toNat o4.1) o4.2.length) (v_cut (nt := 42) (s := 2) (x := (src 42 (.tmp 39))) (lo := none) (hi := (some (.tmp 40))) (mx := none) (b := 5) (o := 0) (len := o4.2.length) (cap := o4.2.length) (l := none) (u := (some o4.1)) (m := none) (cs := rowC encP (clearL (0, 0) o4.2 (Int.toNat o4.1) (o4.2.length - (Int.toNat o4.1)))) (fz := 0) (e := 61) (es := 2) (o' := 0) (len' := Int.toNat o4.1) (cap' := o4.2.length) (d := (some (path 12 41))) (by kernel_rfl) (by kernel_rfl) (by kernel_rfl) (by kernel_rfl) (by kernel_rfl) (by kernel_rfl) (by kernel_rfl) rfl b6 (by simp only [Option.getD_none, Option.getD_some] <;> omega) (by simp only [Option.getD_none, Option.getD_some] <;> omega) (by simp only [Option.getD_none, Option.getD_some] <;> omega)) (σ' := [(41, sl 5 0 (Int.toNat o4.1) o4.2.length)]) (by kernel_rfl) ?_
      refine rS 1 [(4, sl 5 0 (Int.toNat o4.1) o4.2.length)] ?_
      refine dQ ?_
      show XQ _ _ _ _ _ _ _ _
      refine XQ.ren (σ' := [(4, sl 5 0 (Int.toNat o4.1) o4.2.length)]) (h' := [(5, rc encP (clearL (0, 0) o4.2 (Int.toNat o4.1) (o4.2.length - (Int.toNat o4.1))) 0 61 2), (3, .cells [ii xh3_0_1] 0 3 0), (2, rc encP lh2_1 0 61 2), (1, rc (encI .i64) lh1_1 0 3 1), (0, rc encP a z0 y0 2)]) (c' := 6) [0, 1, 2, 3, 4, 5] (by decide) rfl ⟨rfl, trivial⟩ ⟨⟨_, _, rfl, rfl, .inl ⟨rfl, rwP⟩⟩, ⟨_, _, rfl, rfl, .inr ⟨_, _, _, _, rfl, rfl⟩⟩, ⟨_, _, rfl, rfl, .inl ⟨rfl, rwP⟩⟩, ⟨_, _, rfl, rfl, .inl ⟨rfl, rwI⟩⟩, ⟨_, _, rfl, rfl, .inl ⟨rfl, rwP⟩⟩, trivial⟩ rfl ?_
      refine XQ.ret (by kernel_rfl) ?_
      cases b7 : (decide (Int.toNat o4.1 ≤ (clearL (0, 0) o4.2 (Int.toNat o4.1) (o4.2.length - (Int.toNat o4.1))).length) : Bool) with
      | false => cases (cF b7 h)
      | true =>
       have h := cT b7 h
       cases b8 : (decide (Int.toNat o4.1 ≤ o4.2.length) : Bool) with
       | false => cases (cF b8 h)
       | true =>
        have h := cT b8 h
        cases h
        exact ⟨fun i q => (by cases q), sl 5 0 (Int.toNat o4.1) o4.2.length, (by kernel_rfl), clearL (0, 0) o4.2 (Int.toNat o4.1) (o4.2.length - (Int.toNat o4.1)), Int.toNat o4.1, o4.2.length, [(5, rc encP (List.take (Int.toNat o4.1) (clearL (0, 0) o4.2 (Int.toNat o4.1) (o4.2.length - (Int.toNat o4.1)))) 0 61 2), (3, .cells [ii xh3_0_1] 0 3 0), (2, rc encP lh2_1 0 61 2), (1, rc (encI .i64) lh1_1 0 3 1), (0, rc encP a z0 y0 2)], rfl, (by kernel_rfl), (of_decide_eq_true b7), (of_decide_eq_true b8), (by kernel_rfl), (by first | exact hR | simpa only [List.length_set] using hR)⟩
 | x0 =>
  dsimp only at h
  refine XL.conv (f35_3_ok m m z0 y0 a lh1_1 lh2_1 xh3_0_1 ((lh2_1.length : Nat) : Int) 0 (.x0) o3_h _ ?_) (by first | rfl | simp)
  show XQ _ _ _ _ _ _ _ _
  refine qQ ?_
  refine rS 1 [(4, ii (-1))] ?_
  refine dQ ?_
  show XQ _ _ _ _ _ _ _ _
  refine XQ.ret (by kernel_rfl) ?_
  refine ⟨fun i q => (by cases q), ii (-1), (by kernel_rfl), ?_⟩
  refine XR.conv (σ' := [(0, s0 5 lh2_1.length), (1, .func (.func 74) #[] #[pp 3 0]), (10, ii (-1))]) (h' := [(5, rc encP lh2_1 0 61 2), (3, .cells [ii xh3_0_1] 0 3 0), (2, rc encP lh2_1 0 61 2), (1, rc (encI .i64) lh1_1 0 3 1), (0, rc encP a z0 y0 2)]) (c' := 6) ?_ (by kernel_rfl)
  refine rS 1 [(0, s0 5 lh2_1.length), (1, .func (.func 74) #[] #[pp 3 0]), (5, ii (-1))] ?_
  refine dQ ?_
  show XQ _ _ _ _ _ _ _ _
  refine sQ ?_
  refine qQ ?_
  refine rS 2 [(0, s0 5 lh2_1.length), (1, .func (.func 74) #[] #[pp 3 0]), (5, ii (-1)), (12, .bool true)] ?_
  refine dQ ?_
  show XQ _ _ _ _ _ _ _ _
  refine iT (.tmp 12) ?_
  refine qQ ?_
  refine rS 2 [(4, s0 5 lh2_1.length)] ?_
  refine dQ ?_
  show XQ _ _ _ _ _ _ _ _
  refine XQ.ren (σ' := [(4, s0 5 lh2_1.length)]) (h' := [(5, rc encP lh2_1 0 61 2), (3, .cells [ii xh3_0_1] 0 3 0), (2, rc encP lh2_1 0 61 2), (1, rc (encI .i64) lh1_1 0 3 1), (0, rc encP a z0 y0 2)]) (c' := 6) [0, 1, 2, 3, 4, 5] (by decide) rfl ⟨rfl, trivial⟩ ⟨⟨_, _, rfl, rfl, .inl ⟨rfl, rwP⟩⟩, ⟨_, _, rfl, rfl, .inr ⟨_, _, _, _, rfl, rfl⟩⟩, ⟨_, _, rfl, rfl, .inl ⟨rfl, rwP⟩⟩, ⟨_, _, rfl, rfl, .inl ⟨rfl, rwI⟩⟩, ⟨_, _, rfl, rfl, .inl ⟨rfl, rwP⟩⟩, trivial⟩ rfl ?_
  refine XQ.ret (by kernel_rfl) ?_
  cases h
  exact ⟨fun i q => (by cases q), s0 5 lh2_1.length, (by kernel_rfl), lh2_1, lh2_1.length, lh2_1.length, [(5, rc encP (List.take lh2_1.length lh2_1) 0 61 2), (3, .cells [ii xh3_0_1] 0 3 0), (2, rc encP lh2_1 0 61 2), (1, rc (encI .i64) lh1_1 0 3 1), (0, rc encP a z0 y0 2)], rfl, (by kernel_rfl), (Nat.le_refl _), (Nat.le_refl _), (by kernel_rfl), (by first | exact hR | simpa only [List.length_set] using hR)⟩
inductive Of35_5 where
 | r (x4_r5 : Int)
 | x0
def f35_5 (m : Nat) : Nat → List (Int × Int) → List Int → List (Int × Int) → Int → (List (Int × Int)) → Int → Int → Option Of35_5
 | 0, _, _, _, _, _, _, _ => none
 | fuel + 1, a, lh1_1, lh2_1, xh3_0_1, o2, x7_5, x8_5 =>
  cond (decide (x8_5 < x7_5)) (
   cond (inRow x8_5 o2.length) (
    cond (decide (((List.getD o2 (Int.toNat x8_5) (0, 0)).2) < xh3_0_1)) (
     some (.r x8_5)
    ) (
     f35_5 m fuel a lh1_1 lh2_1 xh3_0_1 o2 x7_5 (w64 (x8_5 + 1))
    )
   ) none
  ) (
   some (.x0)
  )
theorem f35_5_ok (m : Nat) : ∀ (fuel : Nat) (z0 : Nat) (y0 : Nat) (a : List (Int × Int)) (lh1_1 : List Int) (lh2_1 : List (Int × Int)) (xh3_0_1 : Int) (o2 : (List (Int × Int))) (x7_5 : Int) (x8_5 : Int) (o : Of35_5), f35_5 m fuel a lh1_1 lh2_1 xh3_0_1 o2 x7_5 x8_5 = some o → ∀ Q : QP, (match o with | .r x4_r5 => Q .ret [(4, ii x4_r5)] [(5, rc encP o2 0 61 2), (3, .cells [ii xh3_0_1] 0 3 0), (2, rc encP lh2_1 0 61 2), (1, rc (encI .i64) lh1_1 0 3 1), (0, rc encP a z0 y0 2)] 6 | .x0 => Q (.exit 0) [] [(5, rc encP o2 0 61 2), (3, .cells [ii xh3_0_1] 0 3 0), (2, rc encP lh2_1 0 61 2), (1, rc (encI .i64) lh1_1 0 3 1), (0, rc encP a z0 y0 2)] 6) → XL E0 19 6 fuel f35_L4 [(0, s0 5 o2.length), (1, .func (.func 77) #[] #[pp 3 0]), (7, ii x7_5), (8, ii x8_5)] [(5, rc encP o2 0 61 2), (3, .cells [ii xh3_0_1] 0 3 0), (2, rc encP lh2_1 0 61 2), (1, rc (encI .i64) lh1_1 0 3 1), (0, rc encP a z0 y0 2)] 6 Q
 | 0, z0, y0, a, lh1_1, lh2_1, xh3_0_1, o2, x7_5, x8_5, o, h, Q, hQ => by cases h
 | fuel + 1, z0, y0, a, lh1_1, lh2_1, xh3_0_1, o2, x7_5, x8_5, o, h, Q, hQ => by
  unfold f35_5 at h
  refine XL.succ E0_ok ?_
  refine qQ ?_
  refine rS 1 [(0, s0 5 o2.length), (1, .func (.func 77) #[] #[pp 3 0]), (7, ii x7_5), (8, ii x8_5), (9, .bool (decide (x8_5 < x7_5)))] ?_
  refine dQ ?_
  show XQ _ _ _ _ _ _ _ _
  refine sQ ?_
  cases b1 : (decide (x8_5 < x7_5) : Bool) with
  | true =>
   have h := cT b1 h
   refine iT (.tmp 9) ?_
   refine kQ ?_
   show XQ _ _ _ _ _ _ _ _
   refine sQ ?_
   refine XQ.block (id := 1) (by kernel_rfl) ?_
   refine qQ ?_
   refine rS 2 [(0, s0 5 o2.length), (1, .func (.func 77) #[] #[pp 3 0]), (5, ii x8_5), (7, ii x7_5), (8, ii x8_5)] ?_
   refine nQ id ?_
   refine rS 3 [(0, s0 5 o2.length), (1, .func (.func 77) #[] #[pp 3 0]), (5, ii x8_5), (7, ii x7_5), (8, ii x8_5), (11, .func (.func 77) #[] #[pp 3 0]), (12, s0 5 o2.length), (13, ii x8_5)] ?_
   cases b2 : (inRow x8_5 o2.length : Bool) with
   | false => cases (cF b2 h)
   | true =>
    have h := cT b2 h
    refine XR.rd E0_ok [0, 1, 5, 7, 8, 11, 14] rfl (v := pp 5 ((Int.toNat x8_5) * 2)) (v_idx (s := 2) (x := (src 19 (.tmp 12))) (y := (src 19 (.tmp 13))) (b := 5) (o := 0) (len := o2.length) (cap := o2.length) (ik := .i64) (i := x8_5) (off := (Int.toNat x8_5) * 2) (d := (some (path 12 14))) (by kernel_rfl) (by kernel_rfl) (by kernel_rfl) b2 (by omega)) (σ' := [(0, s0 5 o2.length), (1, .func (.func 77) #[] #[pp 3 0]), (5, ii x8_5), (7, ii x7_5), (8, ii x8_5), (11, .func (.func 77) #[] #[pp 3 0]), (14, pp 5 ((Int.toNat x8_5) * 2))]) (by kernel_rfl) ?_
    refine XR.rd E0_ok [0, 1, 5, 7, 8, 11, 15] rfl (v := .agg #[ii ((List.getD o2 (Int.toNat x8_5) (0, 0)).1), ii ((List.getD o2 (Int.toNat x8_5) (0, 0)).2)]) (v_loadN encP_ok (x := (src 19 (.tmp 14))) (b := 5) (off := (Int.toNat x8_5) * 2) (xs := o2) (fz := 0) (e := 61) (es := 2) (d := (some (path 12 15))) (by kernel_rfl) (by kernel_rfl) (by kernel_rfl) (Int.toNat x8_5) (0, 0) (by first | rfl | omega) (row_len (inRow_toNat b2) (by simp)) rfl) (σ' := [(0, s0 5 o2.length), (1, .func (.func 77) #[] #[pp 3 0]), (5, ii x8_5), (7, ii x7_5), (8, ii x8_5), (11, .func (.func 77) #[] #[pp 3 0]), (15, .agg #[ii ((List.getD o2 (Int.toNat x8_5) (0, 0)).1), ii ((List.getD o2 (Int.toNat x8_5) (0, 0)).2)])]) (by kernel_rfl) ?_
    refine XR.callK E0_ok [0, 1, 5, 7, 8, 16] rfl (K := 77) (args := [.agg #[ii ((List.getD o2 (Int.toNat x8_5) (0, 0)).1), ii ((List.getD o2 (Int.toNat x8_5) (0, 0)).2)], pp 3 0]) (d := (some (path 12 16))) (by kernel_rfl) ?_
    refine KC.bodyN E0_ok (F := Proofs.Try.f77) (by kernel_rfl) (code := f35_C77) (by kernel_rfl) (nt := 8) (by kernel_rfl) (rs := [.tmp 3]) (by kernel_rfl) (by kernel_rfl) (σ := [(0, .agg #[ii ((List.getD o2 (Int.toNat x8_5) (0, 0)).1), ii ((List.getD o2 (Int.toNat x8_5) (0, 0)).2)]), (1, pp 3 0)]) (by kernel_rfl) ?_
    refine qQ ?_
    refine rT 2 [(1, pp 3 0), (2, pp 6 0)] [(6, .cells [ii ((List.getD o2 (Int.toNat x8_5) (0, 0)).1), ii ((List.getD o2 (Int.toNat x8_5) (0, 0)).2)] 0 61 0), (5, rc encP o2 0 61 2), (3, .cells [ii xh3_0_1] 0 3 0), (2, rc encP lh2_1 0 61 2), (1, rc (encI .i64) lh1_1 0 3 1), (0, rc encP a z0 y0 2)] 7 ?_
    refine nQ id ?_
    refine rS 5 [(3, .bool (decide (((List.getD o2 (Int.toNat x8_5) (0, 0)).2) < xh3_0_1)))] ?_
    refine dQ ?_
    show XQ _ _ _ _ _ _ _ _
    refine XQ.ret (by kernel_rfl) ?_
    refine ⟨fun i q => (by cases q), .bool (decide (((List.getD o2 (Int.toNat x8_5) (0, 0)).2) < xh3_0_1)), (by kernel_rfl), ?_⟩
    refine XR.conv (σ' := [(0, s0 5 o2.length), (1, .func (.func 77) #[] #[pp 3 0]), (5, ii x8_5), (7, ii x7_5), (8, ii x8_5), (16, .bool (decide (((List.getD o2 (Int.toNat x8_5) (0, 0)).2) < xh3_0_1)))]) (h' := [(6, .cells [ii ((List.getD o2 (Int.toNat x8_5) (0, 0)).1), ii ((List.getD o2 (Int.toNat x8_5) (0, 0)).2)] 0 61 0), (5, rc encP o2 0 61 2), (3, .cells [ii xh3_0_1] 0 3 0), (2, rc encP lh2_1 0 61 2), (1, rc (encI .i64) lh1_1 0 3 1), (0, rc encP a z0 y0 2)]) (c' := 7) ?_ (by kernel_rfl)
    refine dQ ?_
    show XQ _ _ _ _ _ _ _ _
    cases b3 : (decide (((List.getD o2 (Int.toNat x8_5) (0, 0)).2) < xh3_0_1) : Bool) with
    | true =>
     have h := cT b3 h
     refine iT (.tmp 16) ?_
     refine qQ ?_
     refine rS 2 [(4, ii x8_5)] ?_
     refine dQ ?_
     show XQ _ _ _ _ _ _ _ _
     refine XQ.ren (σ' := [(4, ii x8_5)]) (h' := [(5, rc encP o2 0 61 2), (3, .cells [ii xh3_0_1] 0 3 0), (2, rc encP lh2_1 0 61 2), (1, rc (encI .i64) lh1_1 0 3 1), (0, rc encP a z0 y0 2)]) (c' := 6) [0, 1, 2, 3, 4, 5] (by decide) rfl ⟨rfl, trivial⟩ ⟨⟨_, _, rfl, rfl, .inl ⟨rfl, rwP⟩⟩, ⟨_, _, rfl, rfl, .inr ⟨_, _, _, _, rfl, rfl⟩⟩, ⟨_, _, rfl, rfl, .inl ⟨rfl, rwP⟩⟩, ⟨_, _, rfl, rfl, .inl ⟨rfl, rwI⟩⟩, ⟨_, _, rfl, rfl, .inl ⟨rfl, rwP⟩⟩, trivial⟩ rfl ?_
     refine XQ.ret (by kernel_rfl) ?_
     cases h
     exact hQ
    | false =>
     have h := cF b3 h
     refine iF (.tmp 16) ?_
     refine kQ ?_
     show XQ _ _ _ _ _ _ _ _
     refine rQ ?_
     refine rS 2 [(0, s0 5 o2.length), (1, .func (.func 77) #[] #[pp 3 0]), (7, ii x7_5), (8, ii (w64 (x8_5 + 1)))] ?_
     refine dQ ?_
     show XL _ _ _ _ _ _ _ _ _
     refine XL.ren (σ' := [(0, s0 5 o2.length), (1, .func (.func 77) #[] #[pp 3 0]), (7, ii x7_5), (8, ii (w64 (x8_5 + 1)))]) (h' := [(5, rc encP o2 0 61 2), (3, .cells [ii xh3_0_1] 0 3 0), (2, rc encP lh2_1 0 61 2), (1, rc (encI .i64) lh1_1 0 3 1), (0, rc encP a z0 y0 2)]) (c' := 6) [0, 1, 2, 3, 4, 5] (by decide) rfl ⟨rfl, rfl, rfl, rfl, trivial⟩ ⟨⟨_, _, rfl, rfl, .inl ⟨rfl, rwP⟩⟩, ⟨_, _, rfl, rfl, .inr ⟨_, _, _, _, rfl, rfl⟩⟩, ⟨_, _, rfl, rfl, .inl ⟨rfl, rwP⟩⟩, ⟨_, _, rfl, rfl, .inl ⟨rfl, rwI⟩⟩, ⟨_, _, rfl, rfl, .inl ⟨rfl, rwP⟩⟩, trivial⟩ rfl ?_
     refine XL.conv (f35_5_ok m fuel z0 y0 a lh1_1 lh2_1 xh3_0_1 o2 x7_5 (w64 (x8_5 + 1)) o h Q hQ) (by first | rfl | simp)
  | false =>
   have h := cF b1 h
   refine iF (.tmp 9) ?_
   refine XQ.ren (σ' := []) (h' := [(5, rc encP o2 0 61 2), (3, .cells [ii xh3_0_1] 0 3 0), (2, rc encP lh2_1 0 61 2), (1, rc (encI .i64) lh1_1 0 3 1), (0, rc encP a z0 y0 2)]) (c' := 6) [0, 1, 2, 3, 4, 5] (by decide) rfl trivial ⟨⟨_, _, rfl, rfl, .inl ⟨rfl, rwP⟩⟩, ⟨_, _, rfl, rfl, .inr ⟨_, _, _, _, rfl, rfl⟩⟩, ⟨_, _, rfl, rfl, .inl ⟨rfl, rwP⟩⟩, ⟨_, _, rfl, rfl, .inl ⟨rfl, rwI⟩⟩, ⟨_, _, rfl, rfl, .inl ⟨rfl, rwP⟩⟩, trivial⟩ rfl ?_
   refine XQ.exit (i := 0) (by kernel_rfl) ?_
   cases h
   exact hQ
def f35_1 (m : Nat) : Nat → List (Int × Int) → List Int → List (Int × Int) → Int → Option (List Int)
 | 0, _, _, _, _ => none
 | fuel + 1, a, lh1_1, lh2_1, xh3_0_1 =>
  cond (decide (xh3_0_1 ≤ 23)) (
   cond (decide (((lh2_1.length : Nat) : Int) > 0)) (
    cond (fitsB lh2_1.length 16) (
     (f35_2 m a lh1_1 lh2_1 xh3_0_1).bind fun o2 =>
      (f75 m o2).bind fun r42 =>
       (f75 m lh2_1).bind fun r43 =>
        cond (decide (r42 < r43)) (
         (f35_5 m m a lh1_1 lh2_1 xh3_0_1 o2 ((o2.length : Nat) : Int) 0).bind fun o5 =>
          match o5 with
          | .r x4_r5 =>
           cond (!(decide (x4_r5 ≥ 0))) (
            cond (fitsB (lh1_1.length + 1) 8) (
             f35_1 m fuel a (lh1_1 ++ [xh3_0_1]) o2 (w64 (xh3_0_1 + 1))
            ) none
           ) (
            f35_1 m fuel a lh1_1 lh2_1 (w64 (xh3_0_1 + 1))
           )
          | .x0 =>
           cond (fitsB (lh1_1.length + 1) 8) (
            f35_1 m fuel a (lh1_1 ++ [xh3_0_1]) o2 (w64 (xh3_0_1 + 1))
           ) none
        ) (
         f35_1 m fuel a lh1_1 lh2_1 (w64 (xh3_0_1 + 1))
        )
    ) none
   ) (
    some (lh1_1)
   )
  ) (
   some (lh1_1)
  )
theorem f35_1_ok (m : Nat) : ∀ (fuel : Nat) (z0 : Nat) (y0 : Nat) (a : List (Int × Int)) (lh1_1 : List Int) (lh2_1 : List (Int × Int)) (xh3_0_1 : Int) (o : (List Int)), f35_1 m fuel a lh1_1 lh2_1 xh3_0_1 = some o → ∀ Q : QP, Q (.exit 0) [(5, s0 1 o.length)] [(1, rc (encI .i64) o 0 3 1), (0, rc encP a z0 y0 2)] 2 → XL E0 47 1 fuel f35_L1 [(5, s0 1 lh1_1.length), (6, s0 2 lh2_1.length), (7, pp 3 0)] [(3, .cells [ii xh3_0_1] 0 3 0), (2, rc encP lh2_1 0 61 2), (1, rc (encI .i64) lh1_1 0 3 1), (0, rc encP a z0 y0 2)] 4 Q
 | 0, z0, y0, a, lh1_1, lh2_1, xh3_0_1, o, h, Q, hQ => by cases h
 | fuel + 1, z0, y0, a, lh1_1, lh2_1, xh3_0_1, o, h, Q, hQ => by
  unfold f35_1 at h
  refine XL.succ E0_ok ?_
  refine sQ ?_
  refine qQ ?_
  refine rS 3 [(5, s0 1 lh1_1.length), (6, s0 2 lh2_1.length), (7, pp 3 0), (18, .bool (decide (xh3_0_1 ≤ 23)))] ?_
  cases b1 : (decide (xh3_0_1 ≤ 23) : Bool) with
  | true =>
   have h := cT b1 h
   refine rS 4 [(5, s0 1 lh1_1.length), (6, s0 2 lh2_1.length), (7, pp 3 0), (22, .bool (decide (((lh2_1.length : Nat) : Int) > 0)))] ?_
   refine dQ ?_
   show XQ _ _ _ _ _ _ _ _
   cases b2 : (decide (((lh2_1.length : Nat) : Int) > 0) : Bool) with
   | true =>
    have h := cT b2 h
    refine iT (.tmp 22) ?_
    refine kQ ?_
    show XQ _ _ _ _ _ _ _ _
    refine sQ ?_
    refine XQ.block (id := 1) (by kernel_rfl) ?_
    refine qQ ?_
    refine rS 1 [(5, s0 1 lh1_1.length), (6, s0 2 lh2_1.length), (7, pp 3 0), (25, s0 2 lh2_1.length)] ?_
    cases b3 : (fitsB lh2_1.length 16 : Bool) with
    | false => cases (cF b3 h)
    | true =>
     have h := cT b3 h
     refine XR.call E0_ok [5, 6, 7, 26] rfl (K := 50) (args := [s0 2 lh2_1.length]) (d := (some (path 12 26))) (by kernel_rfl) (clone50_all (xs := lh2_1) (fz := 0) (e0 := 61) (es0 := 2) (c := 4) (by kernel_rfl) (by simp) (Nat.le_refl _) b3) ?_
     rintro _ _ _ ⟨rfl, rfl, rfl⟩
     refine XR.conv (σ' := [(5, s0 1 lh1_1.length), (6, s0 2 lh2_1.length), (7, pp 3 0), (26, s0 5 lh2_1.length)]) (h' := [(5, rc encP lh2_1 0 61 2), (3, .cells [ii xh3_0_1] 0 3 0), (2, rc encP lh2_1 0 61 2), (1, rc (encI .i64) lh1_1 0 3 1), (0, rc encP a z0 y0 2)]) (c' := 6) ?_ (by kernel_rfl)
     refine rS 1 [(5, s0 1 lh1_1.length), (6, s0 2 lh2_1.length), (7, pp 3 0), (26, s0 5 lh2_1.length), (27, .func (.func 74) #[] #[pp 3 0])] ?_
     obtain ⟨o2, o2_h, h⟩ := bS h
     refine XR.call E0_ok [5, 6, 7, 28] rfl (K := 73) (args := [s0 5 lh2_1.length, .func (.func 74) #[] #[pp 3 0]]) (d := (some (path 12 28))) (by kernel_rfl) (f35_2_ok m z0 y0 a lh1_1 lh2_1 xh3_0_1 o2 o2_h (fun v h' c' => v = s0 5 o2.length ∧ h' = [(5, rc encP o2 0 61 2), (3, .cells [ii xh3_0_1] 0 3 0), (2, rc encP lh2_1 0 61 2), (1, rc (encI .i64) lh1_1 0 3 1), (0, rc encP a z0 y0 2)] ∧ c' = 6) ⟨rfl, rfl, rfl⟩) ?_
     rintro _ _ _ ⟨rfl, rfl, rfl⟩
     refine XR.conv (σ' := [(5, s0 1 lh1_1.length), (6, s0 2 lh2_1.length), (7, pp 3 0), (28, s0 5 o2.length)]) (h' := [(5, rc encP o2 0 61 2), (3, .cells [ii xh3_0_1] 0 3 0), (2, rc encP lh2_1 0 61 2), (1, rc (encI .i64) lh1_1 0 3 1), (0, rc encP a z0 y0 2)]) (c' := 6) ?_ (by kernel_rfl)
     refine rS 1 [(5, s0 1 lh1_1.length), (6, s0 2 lh2_1.length), (7, pp 3 0), (8, s0 5 o2.length)] ?_
     refine nQ id ?_
     refine rS 1 [(5, s0 1 lh1_1.length), (6, s0 2 lh2_1.length), (7, pp 3 0), (8, s0 5 o2.length), (29, s0 5 o2.length)] ?_
     obtain ⟨r42, r42_h, h⟩ := bS h
     refine XR.call E0_ok [5, 6, 7, 8, 30] rfl (K := 75) (args := [s0 5 o2.length]) (d := (some (path 12 30))) (by kernel_rfl) (KQ.call (KC.quiet E0_ok (args0 := [s0 0 o2.length]) (h0 := [(0, rc encP o2 (0 + ((rowC encP o2).length + 1)) 61 2)]) (n := 1) (V := ii r42) [5] (f75_ok m (0 + ((rowC encP o2).length + 1)) 61 o2 r42 r42_h) rfl (by rfl) (by decide) rfl (by kernel_rfl) ⟨⟨_, _, rfl, rfl, .inl ⟨rfl, rwP⟩⟩, trivial⟩) rfl) ?_
     rintro _ _ _ ⟨rfl, rfl, rfl⟩
     refine XR.conv (σ' := [(5, s0 1 lh1_1.length), (6, s0 2 lh2_1.length), (7, pp 3 0), (8, s0 5 o2.length), (30, ii r42)]) (h' := [(5, rc encP o2 0 61 2), (3, .cells [ii xh3_0_1] 0 3 0), (2, rc encP lh2_1 0 61 2), (1, rc (encI .i64) lh1_1 0 3 1), (0, rc encP a z0 y0 2)]) (c' := 6) ?_ (by kernel_rfl)
     refine rS 1 [(5, s0 1 lh1_1.length), (6, s0 2 lh2_1.length), (7, pp 3 0), (8, s0 5 o2.length), (30, ii r42), (31, s0 2 lh2_1.length)] ?_
     obtain ⟨r43, r43_h, h⟩ := bS h
     refine XR.call E0_ok [5, 6, 7, 8, 30, 32] rfl (K := 75) (args := [s0 2 lh2_1.length]) (d := (some (path 12 32))) (by kernel_rfl) (KQ.call (KC.quiet E0_ok (args0 := [s0 0 lh2_1.length]) (h0 := [(0, rc encP lh2_1 (0 + ((rowC encP lh2_1).length + 1)) 61 2)]) (n := 1) (V := ii r43) [2] (f75_ok m (0 + ((rowC encP lh2_1).length + 1)) 61 lh2_1 r43 r43_h) rfl (by rfl) (by decide) rfl (by kernel_rfl) ⟨⟨_, _, rfl, rfl, .inl ⟨rfl, rwP⟩⟩, trivial⟩) rfl) ?_
     rintro _ _ _ ⟨rfl, rfl, rfl⟩
     refine XR.conv (σ' := [(5, s0 1 lh1_1.length), (6, s0 2 lh2_1.length), (7, pp 3 0), (8, s0 5 o2.length), (30, ii r42), (32, ii r43)]) (h' := [(5, rc encP o2 0 61 2), (3, .cells [ii xh3_0_1] 0 3 0), (2, rc encP lh2_1 0 61 2), (1, rc (encI .i64) lh1_1 0 3 1), (0, rc encP a z0 y0 2)]) (c' := 6) ?_ (by kernel_rfl)
     refine rS 2 [(5, s0 1 lh1_1.length), (6, s0 2 lh2_1.length), (7, pp 3 0), (8, s0 5 o2.length), (34, .bool (decide (r42 < r43)))] ?_
     cases b5 : (decide (r42 < r43) : Bool) with
     | true =>
      have h := cT b5 h
      refine rS 2 [(5, s0 1 lh1_1.length), (6, s0 2 lh2_1.length), (7, pp 3 0), (8, s0 5 o2.length), (34, .bool true), (35, s0 5 o2.length), (36, .func (.func 77) #[] #[pp 3 0])] ?_
      refine XR.callK E0_ok [5, 6, 7, 8, 34, 37] rfl (K := 76) (args := [s0 5 o2.length, .func (.func 77) #[] #[pp 3 0]]) (d := (some (path 12 37))) (by kernel_rfl) ?_
      refine KC.bodyN E0_ok (F := Proofs.Try.f76) (by kernel_rfl) (code := f35_C76) (by kernel_rfl) (nt := 9) (by kernel_rfl) (rs := [.tmp 4]) (by kernel_rfl) (by kernel_rfl) (σ := [(0, s0 5 o2.length), (1, .func (.func 77) #[] #[pp 3 0])]) (by kernel_rfl) ?_
      refine qQ ?_
      refine rS 1 [(0, s0 5 o2.length), (1, .func (.func 77) #[] #[pp 3 0])] ?_
      refine nQ id ?_
      refine rS 2 [(5, s0 5 o2.length), (6, .func (.func 77) #[] #[pp 3 0])] ?_
      refine XR.callK E0_ok [7] rfl (K := 93) (args := [s0 5 o2.length, .func (.func 77) #[] #[pp 3 0]]) (d := (some (path 12 7))) (by kernel_rfl) ?_
      refine KC.bodyN E0_ok (F := Proofs.Try.f93) (by kernel_rfl) (code := f35_C93) (by kernel_rfl) (nt := 19) (by kernel_rfl) (rs := [.tmp 4]) (by kernel_rfl) (by kernel_rfl) (σ := [(0, s0 5 o2.length), (1, .func (.func 77) #[] #[pp 3 0])]) (by kernel_rfl) ?_
      refine qQ ?_
      refine rS 1 [(0, s0 5 o2.length), (1, .func (.func 77) #[] #[pp 3 0])] ?_
      refine dQ ?_
      show XQ _ _ _ _ _ _ _ _
      refine sQ ?_
      refine qQ ?_
      refine rS 3 [(0, s0 5 o2.length), (1, .func (.func 77) #[] #[pp 3 0]), (7, ii ((o2.length : Nat) : Int)), (8, ii 0)] ?_
      refine dQ ?_
      show XQ _ _ _ _ _ _ _ _
      refine XQ.block (id := 0) (by kernel_rfl) ?_
      refine XQ.loop m (by kernel_rfl) ?_
      obtain ⟨o5, o5_h, h⟩ := bS h
      refine XL.ren (σ' := [(0, s0 5 o2.length), (1, .func (.func 77) #[] #[pp 3 0]), (7, ii ((o2.length : Nat) : Int)), (8, ii 0)]) (h' := [(5, rc encP o2 0 61 2), (3, .cells [ii xh3_0_1] 0 3 0), (2, rc encP lh2_1 0 61 2), (1, rc (encI .i64) lh1_1 0 3 1), (0, rc encP a z0 y0 2)]) (c' := 6) [0, 1, 2, 3, 4, 5] (by decide) rfl ⟨rfl, rfl, rfl, rfl, trivial⟩ ⟨⟨_, _, rfl, rfl, .inl ⟨rfl, rwP⟩⟩, ⟨_, _, rfl, rfl, .inr ⟨_, _, _, _, rfl, rfl⟩⟩, ⟨_, _, rfl, rfl, .inl ⟨rfl, rwP⟩⟩, ⟨_, _, rfl, rfl, .inl ⟨rfl, rwI⟩⟩, ⟨_, _, rfl, rfl, .inl ⟨rfl, rwP⟩⟩, trivial⟩ rfl ?_
      cases o5 with
      | r x4_r5 =>
       dsimp only at h
       refine XL.conv (f35_5_ok m m z0 y0 a lh1_1 lh2_1 xh3_0_1 o2 ((o2.length : Nat) : Int) 0 (.r x4_r5) o5_h _ ?_) (by first | rfl | simp)
       refine ⟨fun i q => (by cases q), ii x4_r5, (by kernel_rfl), ?_⟩
       refine XR.conv (σ' := [(7, ii x4_r5)]) (h' := [(5, rc encP o2 0 61 2), (3, .cells [ii xh3_0_1] 0 3 0), (2, rc encP lh2_1 0 61 2), (1, rc (encI .i64) lh1_1 0 3 1), (0, rc encP a z0 y0 2)]) (c' := 6) ?_ (by kernel_rfl)
       refine rS 2 [(4, .bool (decide (x4_r5 ≥ 0)))] ?_
       refine dQ ?_
       show XQ _ _ _ _ _ _ _ _
       refine XQ.ret (by kernel_rfl) ?_
       refine ⟨fun i q => (by cases q), .bool (decide (x4_r5 ≥ 0)), (by kernel_rfl), ?_⟩
       refine XR.conv (σ' := [(5, s0 1 lh1_1.length), (6, s0 2 lh2_1.length), (7, pp 3 0), (8, s0 5 o2.length), (34, .bool true), (37, .bool (decide (x4_r5 ≥ 0)))]) (h' := [(5, rc encP o2 0 61 2), (3, .cells [ii xh3_0_1] 0 3 0), (2, rc encP lh2_1 0 61 2), (1, rc (encI .i64) lh1_1 0 3 1), (0, rc encP a z0 y0 2)]) (c' := 6) ?_ (by kernel_rfl)
       refine rS 2 [(5, s0 1 lh1_1.length), (6, s0 2 lh2_1.length), (7, pp 3 0), (8, s0 5 o2.length), (39, .bool (!(decide (x4_r5 ≥ 0))))] ?_
       refine dQ ?_
       show XQ _ _ _ _ _ _ _ _
       cases b7 : (!(decide (x4_r5 ≥ 0)) : Bool) with
       | true =>
        have h := cT b7 h
        refine iT (.tmp 39) ?_
        refine rQ ?_
        refine rT 4 [(7, pp 3 0), (40, s0 5 o2.length), (41, s0 1 lh1_1.length), (43, s0 6 1)] [(6, .cells [ii xh3_0_1] 0 3 1), (5, rc encP o2 0 61 2), (3, .cells [ii xh3_0_1] 0 3 0), (2, rc encP lh2_1 0 61 2), (1, rc (encI .i64) lh1_1 0 3 1), (0, rc encP a z0 y0 2)] 7 ?_
        cases b8 : (fitsB (lh1_1.length + 1) 8 : Bool) with
        | false => cases (cF b8 h)
        | true =>
         have h := cT b8 h
         refine XR.ef E0_ok [7, 40, 44] rfl (e_append (encI_ok .i64) (bytes := 8) (e := 3) (x := (src 47 (.tmp 41))) (y := (src 47 (.tmp 43))) (b := 1) (len := lh1_1.length) (cap := lh1_1.length) (xs := lh1_1) (m := 0) (ys := [xh3_0_1]) (d := (some (path 12 44))) (n' := (lh1_1 ++ [xh3_0_1]).length) (h' := [(7, rc (encI .i64) (lh1_1 ++ [xh3_0_1]) 0 3 1), (6, .cells [ii xh3_0_1] 0 3 1), (5, rc encP o2 0 61 2), (3, .cells [ii xh3_0_1] 0 3 0), (2, rc encP lh2_1 0 61 2), (0, rc encP a z0 y0 2)]) (by kernel_rfl) (by kernel_rfl) (by kernel_rfl) (by kernel_rfl) rfl (by simp) (by simp) b8 (by simp) (by kernel_rfl)) (σ' := [(7, pp 3 0), (40, s0 5 o2.length), (44, s0 7 ((lh1_1 ++ [xh3_0_1]).length))]) (by kernel_rfl) ?_
         refine rS 2 [(5, s0 7 ((lh1_1 ++ [xh3_0_1]).length)), (6, s0 5 o2.length), (7, pp 3 0)] ?_
         refine dQ ?_
         show XQ _ _ _ _ _ _ _ _
         refine sQ ?_
         refine qQ ?_
         refine rS 1 [(5, s0 7 ((lh1_1 ++ [xh3_0_1]).length)), (6, s0 5 o2.length), (45, ii xh3_0_1)] ?_
         refine dQ ?_
         show XQ _ _ _ _ _ _ _ _
         refine rQ ?_
         refine rT 2 [(5, s0 7 ((lh1_1 ++ [xh3_0_1]).length)), (6, s0 5 o2.length), (7, pp 8 0)] [(8, .cells [ii xh3_0_1] 0 3 0), (7, rc (encI .i64) (lh1_1 ++ [xh3_0_1]) 0 3 1), (6, .cells [ii xh3_0_1] 0 3 1), (5, rc encP o2 0 61 2), (3, .cells [ii xh3_0_1] 0 3 0), (2, rc encP lh2_1 0 61 2), (0, rc encP a z0 y0 2)] 9 ?_
         refine dQ ?_
         show XQ _ _ _ _ _ _ _ _
         refine rQ ?_
         refine rT 3 [(5, s0 7 ((lh1_1 ++ [xh3_0_1]).length)), (6, s0 5 o2.length), (7, pp 8 0)] [(8, .cells [ii (w64 (xh3_0_1 + 1))] 0 3 0), (7, rc (encI .i64) (lh1_1 ++ [xh3_0_1]) 0 3 1), (6, .cells [ii xh3_0_1] 0 3 1), (5, rc encP o2 0 61 2), (3, .cells [ii xh3_0_1] 0 3 0), (2, rc encP lh2_1 0 61 2), (0, rc encP a z0 y0 2)] 9 ?_
         refine dQ ?_
         show XL _ _ _ _ _ _ _ _ _
         refine XL.ren (σ' := [(5, s0 1 ((lh1_1 ++ [xh3_0_1]).length)), (6, s0 2 o2.length), (7, pp 3 0)]) (h' := [(3, .cells [ii (w64 (xh3_0_1 + 1))] 0 3 0), (2, rc encP o2 0 61 2), (1, rc (encI .i64) (lh1_1 ++ [xh3_0_1]) 0 3 1), (0, rc encP a z0 y0 2)]) (c' := 4) [0, 7, 5, 8] (by decide) rfl ⟨rfl, rfl, rfl, trivial⟩ ⟨⟨_, _, rfl, rfl, .inr ⟨_, _, _, _, rfl, rfl⟩⟩, ⟨_, _, rfl, rfl, .inl ⟨rfl, rwP⟩⟩, ⟨_, _, rfl, rfl, .inl ⟨rfl, rwI⟩⟩, ⟨_, _, rfl, rfl, .inl ⟨rfl, rwP⟩⟩, trivial⟩ rfl ?_
         refine XL.conv (f35_1_ok m fuel z0 y0 a (lh1_1 ++ [xh3_0_1]) o2 (w64 (xh3_0_1 + 1)) o h Q hQ) (by first | rfl | simp)
       | false =>
        have h := cF b7 h
        refine iF (.tmp 39) ?_
        refine kQ ?_
        show XQ _ _ _ _ _ _ _ _
        refine sQ ?_
        refine qQ ?_
        refine rS 1 [(5, s0 1 lh1_1.length), (6, s0 2 lh2_1.length), (45, ii xh3_0_1)] ?_
        refine dQ ?_
        show XQ _ _ _ _ _ _ _ _
        refine rQ ?_
        refine rT 2 [(5, s0 1 lh1_1.length), (6, s0 2 lh2_1.length), (7, pp 6 0)] [(6, .cells [ii xh3_0_1] 0 3 0), (5, rc encP o2 0 61 2), (3, .cells [ii xh3_0_1] 0 3 0), (2, rc encP lh2_1 0 61 2), (1, rc (encI .i64) lh1_1 0 3 1), (0, rc encP a z0 y0 2)] 7 ?_
        refine dQ ?_
        show XQ _ _ _ _ _ _ _ _
        refine rQ ?_
        refine rT 3 [(5, s0 1 lh1_1.length), (6, s0 2 lh2_1.length), (7, pp 6 0)] [(6, .cells [ii (w64 (xh3_0_1 + 1))] 0 3 0), (5, rc encP o2 0 61 2), (3, .cells [ii xh3_0_1] 0 3 0), (2, rc encP lh2_1 0 61 2), (1, rc (encI .i64) lh1_1 0 3 1), (0, rc encP a z0 y0 2)] 7 ?_
        refine dQ ?_
        show XL _ _ _ _ _ _ _ _ _
        refine XL.ren (σ' := [(5, s0 1 lh1_1.length), (6, s0 2 lh2_1.length), (7, pp 3 0)]) (h' := [(3, .cells [ii (w64 (xh3_0_1 + 1))] 0 3 0), (2, rc encP lh2_1 0 61 2), (1, rc (encI .i64) lh1_1 0 3 1), (0, rc encP a z0 y0 2)]) (c' := 4) [0, 1, 2, 6] (by decide) rfl ⟨rfl, rfl, rfl, trivial⟩ ⟨⟨_, _, rfl, rfl, .inr ⟨_, _, _, _, rfl, rfl⟩⟩, ⟨_, _, rfl, rfl, .inl ⟨rfl, rwP⟩⟩, ⟨_, _, rfl, rfl, .inl ⟨rfl, rwI⟩⟩, ⟨_, _, rfl, rfl, .inl ⟨rfl, rwP⟩⟩, trivial⟩ rfl ?_
        refine XL.conv (f35_1_ok m fuel z0 y0 a lh1_1 lh2_1 (w64 (xh3_0_1 + 1)) o h Q hQ) (by first | rfl | simp)
      | x0 =>
       dsimp only at h
       refine XL.conv (f35_5_ok m m z0 y0 a lh1_1 lh2_1 xh3_0_1 o2 ((o2.length : Nat) : Int) 0 (.x0) o5_h _ ?_) (by first | rfl | simp)
       show XQ _ _ _ _ _ _ _ _
       refine qQ ?_
       refine rS 1 [(4, ii (-1))] ?_
       refine dQ ?_
       show XQ _ _ _ _ _ _ _ _
       refine XQ.ret (by kernel_rfl) ?_
       refine ⟨fun i q => (by cases q), ii (-1), (by kernel_rfl), ?_⟩
       refine XR.conv (σ' := [(7, ii (-1))]) (h' := [(5, rc encP o2 0 61 2), (3, .cells [ii xh3_0_1] 0 3 0), (2, rc encP lh2_1 0 61 2), (1, rc (encI .i64) lh1_1 0 3 1), (0, rc encP a z0 y0 2)]) (c' := 6) ?_ (by kernel_rfl)
       refine rS 2 [(4, .bool false)] ?_
       refine dQ ?_
       show XQ _ _ _ _ _ _ _ _
       refine XQ.ret (by kernel_rfl) ?_
       refine ⟨fun i q => (by cases q), .bool false, (by kernel_rfl), ?_⟩
       refine XR.conv (σ' := [(5, s0 1 lh1_1.length), (6, s0 2 lh2_1.length), (7, pp 3 0), (8, s0 5 o2.length), (34, .bool true), (37, .bool false)]) (h' := [(5, rc encP o2 0 61 2), (3, .cells [ii xh3_0_1] 0 3 0), (2, rc encP lh2_1 0 61 2), (1, rc (encI .i64) lh1_1 0 3 1), (0, rc encP a z0 y0 2)]) (c' := 6) ?_ (by kernel_rfl)
       refine rS 2 [(5, s0 1 lh1_1.length), (6, s0 2 lh2_1.length), (7, pp 3 0), (8, s0 5 o2.length), (39, .bool true)] ?_
       refine dQ ?_
       show XQ _ _ _ _ _ _ _ _
       refine iT (.tmp 39) ?_
       refine rQ ?_
       refine rT 4 [(7, pp 3 0), (40, s0 5 o2.length), (41, s0 1 lh1_1.length), (43, s0 6 1)] [(6, .cells [ii xh3_0_1] 0 3 1), (5, rc encP o2 0 61 2), (3, .cells [ii xh3_0_1] 0 3 0), (2, rc encP lh2_1 0 61 2), (1, rc (encI .i64) lh1_1 0 3 1), (0, rc encP a z0 y0 2)] 7 ?_
       cases b9 : (fitsB (lh1_1.length + 1) 8 : Bool) with
       | false => cases (cF b9 h)
       | true =>
        have h := cT b9 h
        refine XR.ef E0_ok [7, 40, 44] rfl (e_append (encI_ok .i64) (bytes := 8) (e := 3) (x := (src 47 (.tmp 41))) (y := (src 47 (.tmp 43))) (b := 1) (len := lh1_1.length) (cap := lh1_1.length) (xs := lh1_1) (m := 0) (ys := [xh3_0_1]) (d := (some (path 12 44))) (n' := (lh1_1 ++ [xh3_0_1]).length) (h' := [(7, rc (encI .i64) (lh1_1 ++ [xh3_0_1]) 0 3 1), (6, .cells [ii xh3_0_1] 0 3 1), (5, rc encP o2 0 61 2), (3, .cells [ii xh3_0_1] 0 3 0), (2, rc encP lh2_1 0 61 2), (0, rc encP a z0 y0 2)]) (by kernel_rfl) (by kernel_rfl) (by kernel_rfl) (by kernel_rfl) rfl (by simp) (by simp) b9 (by simp) (by kernel_rfl)) (σ' := [(7, pp 3 0), (40, s0 5 o2.length), (44, s0 7 ((lh1_1 ++ [xh3_0_1]).length))]) (by kernel_rfl) ?_
        refine rS 2 [(5, s0 7 ((lh1_1 ++ [xh3_0_1]).length)), (6, s0 5 o2.length), (7, pp 3 0)] ?_
        refine dQ ?_
        show XQ _ _ _ _ _ _ _ _
        refine sQ ?_
        refine qQ ?_
        refine rS 1 [(5, s0 7 ((lh1_1 ++ [xh3_0_1]).length)), (6, s0 5 o2.length), (45, ii xh3_0_1)] ?_
        refine dQ ?_
        show XQ _ _ _ _ _ _ _ _
        refine rQ ?_
        refine rT 2 [(5, s0 7 ((lh1_1 ++ [xh3_0_1]).length)), (6, s0 5 o2.length), (7, pp 8 0)] [(8, .cells [ii xh3_0_1] 0 3 0), (7, rc (encI .i64) (lh1_1 ++ [xh3_0_1]) 0 3 1), (6, .cells [ii xh3_0_1] 0 3 1), (5, rc encP o2 0 61 2), (3, .cells [ii xh3_0_1] 0 3 0), (2, rc encP lh2_1 0 61 2), (0, rc encP a z0 y0 2)] 9 ?_
        refine dQ ?_
        show XQ _ _ _ _ _ _ _ _
        refine rQ ?_
        refine rT 3 [(5, s0 7 ((lh1_1 ++ [xh3_0_1]).length)), (6, s0 5 o2.length), (7, pp 8 0)] [(8, .cells [ii (w64 (xh3_0_1 + 1))] 0 3 0), (7, rc (encI .i64) (lh1_1 ++ [xh3_0_1]) 0 3 1), (6, .cells [ii xh3_0_1] 0 3 1), (5, rc encP o2 0 61 2), (3, .cells [ii xh3_0_1] 0 3 0), (2, rc encP lh2_1 0 61 2), (0, rc encP a z0 y0 2)] 9 ?_
        refine dQ ?_
        show XL _ _ _ _ _ _ _ _ _
        refine XL.ren (σ' := [(5, s0 1 ((lh1_1 ++ [xh3_0_1]).length)), (6, s0 2 o2.length), (7, pp 3 0)]) (h' := [(3, .cells [ii (w64 (xh3_0_1 + 1))] 0 3 0), (2, rc encP o2 0 61 2), (1, rc (encI .i64) (lh1_1 ++ [xh3_0_1]) 0 3 1), (0, rc encP a z0 y0 2)]) (c' := 4) [0, 7, 5, 8] (by decide) rfl ⟨rfl, rfl, rfl, trivial⟩ ⟨⟨_, _, rfl, rfl, .inr ⟨_, _, _, _, rfl, rfl⟩⟩, ⟨_, _, rfl, rfl, .inl ⟨rfl, rwP⟩⟩, ⟨_, _, rfl, rfl, .inl ⟨rfl, rwI⟩⟩, ⟨_, _, rfl, rfl, .inl ⟨rfl, rwP⟩⟩, trivial⟩ rfl ?_
        refine XL.conv (f35_1_ok m fuel z0 y0 a (lh1_1 ++ [xh3_0_1]) o2 (w64 (xh3_0_1 + 1)) o h Q hQ) (by first | rfl | simp)
     | false =>
      have h := cF b5 h
      refine rS 5 [(5, s0 1 lh1_1.length), (6, s0 2 lh2_1.length), (7, pp 3 0), (8, s0 5 o2.length), (39, .bool false)] ?_
      refine dQ ?_
      show XQ _ _ _ _ _ _ _ _
      refine iF (.tmp 39) ?_
      refine kQ ?_
      show XQ _ _ _ _ _ _ _ _
      refine sQ ?_
      refine qQ ?_
      refine rS 1 [(5, s0 1 lh1_1.length), (6, s0 2 lh2_1.length), (45, ii xh3_0_1)] ?_
      refine dQ ?_
      show XQ _ _ _ _ _ _ _ _
      refine rQ ?_
      refine rT 2 [(5, s0 1 lh1_1.length), (6, s0 2 lh2_1.length), (7, pp 6 0)] [(6, .cells [ii xh3_0_1] 0 3 0), (5, rc encP o2 0 61 2), (3, .cells [ii xh3_0_1] 0 3 0), (2, rc encP lh2_1 0 61 2), (1, rc (encI .i64) lh1_1 0 3 1), (0, rc encP a z0 y0 2)] 7 ?_
      refine dQ ?_
      show XQ _ _ _ _ _ _ _ _
      refine rQ ?_
      refine rT 3 [(5, s0 1 lh1_1.length), (6, s0 2 lh2_1.length), (7, pp 6 0)] [(6, .cells [ii (w64 (xh3_0_1 + 1))] 0 3 0), (5, rc encP o2 0 61 2), (3, .cells [ii xh3_0_1] 0 3 0), (2, rc encP lh2_1 0 61 2), (1, rc (encI .i64) lh1_1 0 3 1), (0, rc encP a z0 y0 2)] 7 ?_
      refine dQ ?_
      show XL _ _ _ _ _ _ _ _ _
      refine XL.ren (σ' := [(5, s0 1 lh1_1.length), (6, s0 2 lh2_1.length), (7, pp 3 0)]) (h' := [(3, .cells [ii (w64 (xh3_0_1 + 1))] 0 3 0), (2, rc encP lh2_1 0 61 2), (1, rc (encI .i64) lh1_1 0 3 1), (0, rc encP a z0 y0 2)]) (c' := 4) [0, 1, 2, 6] (by decide) rfl ⟨rfl, rfl, rfl, trivial⟩ ⟨⟨_, _, rfl, rfl, .inr ⟨_, _, _, _, rfl, rfl⟩⟩, ⟨_, _, rfl, rfl, .inl ⟨rfl, rwP⟩⟩, ⟨_, _, rfl, rfl, .inl ⟨rfl, rwI⟩⟩, ⟨_, _, rfl, rfl, .inl ⟨rfl, rwP⟩⟩, trivial⟩ rfl ?_
      refine XL.conv (f35_1_ok m fuel z0 y0 a lh1_1 lh2_1 (w64 (xh3_0_1 + 1)) o h Q hQ) (by first | rfl | simp)
   | false =>
    have h := cF b2 h
    refine iF (.tmp 22) ?_
    refine XQ.ren (σ' := [(5, s0 1 lh1_1.length)]) (h' := [(1, rc (encI .i64) lh1_1 0 3 1), (0, rc encP a z0 y0 2)]) (c' := 2) [0, 1] (by decide) rfl ⟨rfl, trivial⟩ ⟨⟨_, _, rfl, rfl, .inl ⟨rfl, rwI⟩⟩, ⟨_, _, rfl, rfl, .inl ⟨rfl, rwP⟩⟩, trivial⟩ rfl ?_
    refine XQ.exit (i := 0) (by kernel_rfl) ?_
    cases h
    exact hQ
  | false =>
   have h := cF b1 h
   refine rS 4 [(5, s0 1 lh1_1.length), (6, s0 2 lh2_1.length), (7, pp 3 0), (22, .bool false)] ?_
   refine dQ ?_
   show XQ _ _ _ _ _ _ _ _
   refine iF (.tmp 22) ?_
   refine XQ.ren (σ' := [(5, s0 1 lh1_1.length)]) (h' := [(1, rc (encI .i64) lh1_1 0 3 1), (0, rc encP a z0 y0 2)]) (c' := 2) [0, 1] (by decide) rfl ⟨rfl, trivial⟩ ⟨⟨_, _, rfl, rfl, .inl ⟨rfl, rwI⟩⟩, ⟨_, _, rfl, rfl, .inl ⟨rfl, rwP⟩⟩, trivial⟩ rfl ?_
   refine XQ.exit (i := 0) (by kernel_rfl) ?_
   cases h
   exact hQ
def f35 (m : Nat) (a : List (Int × Int)) : Option ((List Int) × Int) :=
 (f23 m a).bind fun r1 =>
  cond (r1 != 0) (
   some ([], r1)
  ) (
   cond (fitsB a.length 16) (
    (f35_1 m m a [] a 0).bind fun o1 =>
     some (o1, 0)
   ) none
  )
theorem f35_ok (m : Nat) (z0 : Nat) (y0 : Nat) (a : List (Int × Int)) (o : (List Int) × Int) (h : f35 m a = some o) : KC E0 35 [s0 0 a.length] [(0, rc encP a z0 y0 2)] 1 (fun v h' c' => v = .tuple #[s0 1 o.1.length, ii o.2] ∧ h' = [(1, rc (encI .i64) o.1 0 3 1)] ++ [(0, rc encP a z0 y0 2)] ∧ c' = 2) := by
 refine KC.bodyN E0_ok (F := Proofs.Try.f35) (by kernel_rfl) (code := f35_C35) (by kernel_rfl) (nt := 47) (by kernel_rfl) (rs := [.tmp 2, .tmp 3]) (by kernel_rfl) (by kernel_rfl) (σ := [(0, s0 0 a.length)]) (by kernel_rfl) ?_
 unfold f35 at h
 refine qQ ?_
 refine rS 2 [(0, s0 0 a.length)] ?_
 refine dQ ?_
 show XQ _ _ _ _ _ _ _ _
 refine sQ ?_
 refine qQ ?_
 refine rS 1 [(0, s0 0 a.length), (9, s0 0 a.length)] ?_
 obtain ⟨r1, r1_h, h⟩ := bS h
 refine XR.call E0_ok [0, 10] rfl (K := 23) (args := [s0 0 a.length]) (d := (some (path 12 10))) (by kernel_rfl) (KQ.call (KC.quiet E0_ok (args0 := [s0 0 a.length]) (h0 := [(0, rc encP a (z0 + ((rowC encP a).length + 1)) y0 2)]) (n := 1) (V := ii r1) [0] (f23_ok m (z0 + ((rowC encP a).length + 1)) y0 a r1 r1_h) rfl (by rfl) (by decide) rfl (by kernel_rfl) ⟨⟨_, _, rfl, rfl, .inl ⟨rfl, rwP⟩⟩, trivial⟩) rfl) ?_
 rintro _ _ _ ⟨rfl, rfl, rfl⟩
 refine XR.conv (σ' := [(0, s0 0 a.length), (10, ii r1)]) (h' := [(0, rc encP a z0 y0 2)]) (c' := 1) ?_ (by kernel_rfl)
 refine rS 1 [(0, s0 0 a.length), (4, ii r1)] ?_
 refine nQ id ?_
 refine rS 2 [(0, s0 0 a.length), (4, ii r1), (12, .bool (r1 != 0))] ?_
 refine dQ ?_
 show XQ _ _ _ _ _ _ _ _
 cases b1 : (r1 != 0 : Bool) with
 | true =>
  have h := cT b1 h
  refine iT (.tmp 12) ?_
  refine qQ ?_
  refine rS 3 [(2, .slice none 0 0), (3, ii r1)] ?_
  refine dQ ?_
  show XQ _ _ _ _ _ _ _ _
  refine XQ.ghost 3 1 rfl (σ' := [(2, s0 1 0), (3, ii r1)]) (h' := [(0, rc encP a z0 y0 2)]) ⟨rfl, rfl, trivial⟩ ⟨⟨_, rfl, .inl rfl⟩, trivial⟩ ?_
  refine XQ.conv (σ' := [(2, s0 1 0), (3, ii r1)]) (h' := [(1, rc (encI .i64) [] 0 3 1), (0, rc encP a z0 y0 2)]) (c' := 2) ?_ (by kernel_rfl)
  refine XQ.ren (σ' := [(2, s0 1 0), (3, ii r1)]) (h' := [(1, rc (encI .i64) [] 0 3 1), (0, rc encP a z0 y0 2)]) (c' := 2) [0, 1] (by decide) rfl ⟨rfl, rfl, trivial⟩ ⟨⟨_, _, rfl, rfl, .inl ⟨rfl, rwI⟩⟩, ⟨_, _, rfl, rfl, .inl ⟨rfl, rwP⟩⟩, trivial⟩ rfl ?_
  refine XQ.ret (by kernel_rfl) ?_
  have h := Option.some.inj h
  subst h
  exact ⟨fun i q => (by cases q), .tuple #[s0 1 0, ii r1], (by kernel_rfl), (by kernel_rfl), (by kernel_rfl), rfl⟩
 | false =>
  have h := cF b1 h
  refine iF (.tmp 12) ?_
  refine kQ ?_
  show XQ _ _ _ _ _ _ _ _
  refine qQ ?_
  refine rS 1 [(0, s0 0 a.length), (5, .slice none 0 0)] ?_
  refine dQ ?_
  show XQ _ _ _ _ _ _ _ _
  refine XQ.ghost 3 1 rfl (σ' := [(0, s0 0 a.length), (5, s0 1 0)]) (h' := [(0, rc encP a z0 y0 2)]) ⟨rfl, rfl, trivial⟩ ⟨⟨_, rfl, .inl rfl⟩, trivial⟩ ?_
  refine XQ.conv (σ' := [(0, s0 0 a.length), (5, s0 1 0)]) (h' := [(1, rc (encI .i64) [] 0 3 1), (0, rc encP a z0 y0 2)]) (c' := 2) ?_ (by kernel_rfl)
  refine qQ ?_
  refine rS 1 [(5, s0 1 0), (14, s0 0 a.length)] ?_
  cases b2 : (fitsB a.length 16 : Bool) with
  | false => cases (cF b2 h)
  | true =>
   have h := cT b2 h
   refine XR.call E0_ok [5, 15] rfl (K := 50) (args := [s0 0 a.length]) (d := (some (path 12 15))) (by kernel_rfl) (clone50_all (xs := a) (fz := z0) (e0 := y0) (es0 := 2) (c := 2) (by kernel_rfl) (by simp) (Nat.le_refl _) b2) ?_
   rintro _ _ _ ⟨rfl, rfl, rfl⟩
   refine XR.conv (σ' := [(5, s0 1 0), (15, s0 3 a.length)]) (h' := [(3, rc encP a 0 61 2), (1, rc (encI .i64) [] 0 3 1), (0, rc encP a z0 y0 2)]) (c' := 4) ?_ (by kernel_rfl)
   refine rS 1 [(5, s0 1 0), (6, s0 3 a.length)] ?_
   refine dQ ?_
   show XQ _ _ _ _ _ _ _ _
   refine sQ ?_
   refine qQ ?_
   refine rT 2 [(5, s0 1 0), (6, s0 3 a.length), (7, pp 4 0)] [(4, .cells [ii 0] 0 3 0), (3, rc encP a 0 61 2), (1, rc (encI .i64) [] 0 3 1), (0, rc encP a z0 y0 2)] 5 ?_
   refine dQ ?_
   show XQ _ _ _ _ _ _ _ _
   refine XQ.block (id := 0) (by kernel_rfl) ?_
   refine XQ.loop m (by kernel_rfl) ?_
   obtain ⟨o1, o1_h, h⟩ := bS h
   refine XL.ren (σ' := [(5, s0 1 0), (6, s0 2 a.length), (7, pp 3 0)]) (h' := [(3, .cells [ii 0] 0 3 0), (2, rc encP a 0 61 2), (1, rc (encI .i64) [] 0 3 1), (0, rc encP a z0 y0 2)]) (c' := 4) [0, 1, 3, 4] (by decide) rfl ⟨rfl, rfl, rfl, trivial⟩ ⟨⟨_, _, rfl, rfl, .inr ⟨_, _, _, _, rfl, rfl⟩⟩, ⟨_, _, rfl, rfl, .inl ⟨rfl, rwP⟩⟩, ⟨_, _, rfl, rfl, .inl ⟨rfl, rwI⟩⟩, ⟨_, _, rfl, rfl, .inl ⟨rfl, rwP⟩⟩, trivial⟩ rfl ?_
   refine XL.conv (f35_1_ok m m z0 y0 a [] a 0 o1 o1_h _ ?_) (by first | rfl | simp)
   show XQ _ _ _ _ _ _ _ _
   refine qQ ?_
   refine rS 3 [(2, s0 1 o1.length), (3, ii 0)] ?_
   refine dQ ?_
   show XQ _ _ _ _ _ _ _ _
   refine XQ.ren (σ' := [(2, s0 1 o1.length), (3, ii 0)]) (h' := [(1, rc (encI .i64) o1 0 3 1), (0, rc encP a z0 y0 2)]) (c' := 2) [0, 1] (by decide) rfl ⟨rfl, rfl, trivial⟩ ⟨⟨_, _, rfl, rfl, .inl ⟨rfl, rwI⟩⟩, ⟨_, _, rfl, rfl, .inl ⟨rfl, rwP⟩⟩, trivial⟩ rfl ?_
   refine XQ.ret (by kernel_rfl) ?_
   have h := Option.some.inj h
   subst h
   exact ⟨fun i q => (by cases q), .tuple #[s0 1 o1.length, ii 0], (by kernel_rfl), (by kernel_rfl), (by kernel_rfl), rfl⟩
end Go.Xm
