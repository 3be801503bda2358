/- What these functions of the program compute, as functions in Lean, and the proofs that they do: heap.Heap], heap.Heap], heap.Apart. Conditions: none. -/
import Derived.Test.YtfdeihnkoaihfaaZx
import Derived.Test.YtfdeihnkoaihfaaBs
namespace Go.Xm
open Go.RowKit
set_option linter.unusedVariables false
set_option linter.unusedSimpArgs false
set_option maxRecDepth 20000
noncomputable def f95_C95 : Code := Proofs.Try.f95.body.getD .skip
noncomputable def f95_L1 : Code := lft (lft (rgt (lft (rgt f95_C95))))
inductive Of95_1 where
 | r (x4_r1 : Int)
 | x0
def f95_1 (m : Nat) : Nat → List (Int × Int) → Int → Int → Int → Int → Option Of95_1
 | 0, _, _, _, _, _ => none
 | fuel + 1, a, b_From, b_To, x7_1, x8_1 =>
  cond (decide (x8_1 < x7_1)) (
   cond (inRow x8_1 a.length) (
    cond (b_From == ((List.getD a (Int.toNat x8_1) (0, 0)).1) && b_To == ((List.getD a (Int.toNat x8_1) (0, 0)).2)) (
     some (.r x8_1)
    ) (
     f95_1 m fuel a b_From b_To x7_1 (w64 (x8_1 + 1))
    )
   ) none
  ) (
   some (.x0)
  )
theorem f95_1_ok (m : Nat) : ∀ (fuel : Nat) (z0 : Nat) (y0 : Nat) (a : List (Int × Int)) (b_From : Int) (b_To : Int) (x7_1 : Int) (x8_1 : Int) (o : Of95_1), f95_1 m fuel a b_From b_To x7_1 x8_1 = some o → ∀ Q : QP, (match o with | .r x4_r1 => Q .ret [(4, ii x4_r1)] [(0, rc encP a z0 y0 2)] 1 | .x0 => Q (.exit 0) [] [(0, rc encP a z0 y0 2)] 1) → XL E0 19 1 fuel f95_L1 [(0, s0 0 a.length), (3, pp 1 0), (7, ii x7_1), (8, ii x8_1)] [(1, .cells [ii b_From, ii b_To] 0 61 0), (0, rc encP a z0 y0 2)] 2 Q
 | 0, z0, y0, a, b_From, b_To, x7_1, x8_1, o, h, Q, hQ => by cases h
 | fuel + 1, z0, y0, a, b_From, b_To, x7_1, x8_1, o, h, Q, hQ => by
  unfold f95_1 at h
  refine XL.succ E0_ok ?_
  refine qQ ?_
  refine rS 1 [(0, s0 0 a.length), (3, pp 1 0), (7, ii x7_1), (8, ii x8_1), (9, .bool (decide (x8_1 < x7_1)))] ?_
  refine dQ ?_
  show XQ _ _ _ _ _ _ _ _
  refine sQ ?_
  cases b1 : (decide (x8_1 < x7_1) : Bool) with
  | true =>
   have h := cT b1 h
   refine iT (.tmp 9) ?_
   refine kQ ?_
   show XQ _ _ _ _ _ _ _ _
   refine sQ ?_
   refine XQ.block (id := 1) (by kernel_rfl) ?_
   refine qQ ?_
   refine rS 2 [(0, s0 0 a.length), (3, pp 1 0), (5, ii x8_1), (7, ii x7_1), (8, ii x8_1)] ?_
   refine dQ ?_
   show XQ _ _ _ _ _ _ _ _
   refine sQ ?_
   refine XQ.quiet E0_ok (by kernel_rfl) (by kernel_rfl) ?_
   refine XU.run E0_ok 1 3 [0, 3, 5, 7, 8, 11, 12, 13] rfl (σ' := [(0, s0 0 a.length), (3, pp 1 0), (5, ii x8_1), (7, ii x7_1), (8, ii x8_1), (11, .agg #[ii b_From, ii b_To]), (12, s0 0 a.length), (13, ii x8_1)]) (by kernel_rfl) ?_
   cases b2 : (inRow x8_1 a.length : Bool) with
   | false => cases (cF b2 h)
   | true =>
    have h := cT b2 h
    refine XU.rd E0_ok [0, 3, 5, 7, 8, 11, 14] rfl (v := pp 0 ((Int.toNat x8_1) * 2)) (v_idx (s := 2) (x := (src 19 (.tmp 12))) (y := (src 19 (.tmp 13))) (b := 0) (o := 0) (len := a.length) (cap := a.length) (ik := .i64) (i := x8_1) (off := (Int.toNat x8_1) * 2) (d := (some (path 12 14))) (by kernel_rfl) (by kernel_rfl) (by kernel_rfl) b2 (by omega)) (σ' := [(0, s0 0 a.length), (3, pp 1 0), (5, ii x8_1), (7, ii x7_1), (8, ii x8_1), (11, .agg #[ii b_From, ii b_To]), (14, pp 0 ((Int.toNat x8_1) * 2))]) (by kernel_rfl) ?_
    refine XU.rd E0_ok [0, 3, 5, 7, 8, 11, 15] rfl (v := .agg #[ii ((List.getD a (Int.toNat x8_1) (0, 0)).1), ii ((List.getD a (Int.toNat x8_1) (0, 0)).2)]) (v_loadN encP_ok (x := (src 19 (.tmp 14))) (b := 0) (off := (Int.toNat x8_1) * 2) (xs := a) (fz := z0) (e := y0) (es := 2) (d := (some (path 12 15))) (by kernel_rfl) (by kernel_rfl) (by kernel_rfl) (Int.toNat x8_1) (0, 0) (by first | rfl | omega) (row_len (inRow_toNat b2) (by simp)) rfl) (σ' := [(0, s0 0 a.length), (3, pp 1 0), (5, ii x8_1), (7, ii x7_1), (8, ii x8_1), (11, .agg #[ii b_From, ii b_To]), (15, .agg #[ii ((List.getD a (Int.toNat x8_1) (0, 0)).1), ii ((List.getD a (Int.toNat x8_1) (0, 0)).2)])]) (by kernel_rfl) ?_
    refine XU.run E0_ok 1 1 [0, 3, 5, 7, 8, 16] rfl (σ' := [(0, s0 0 a.length), (3, pp 1 0), (5, ii x8_1), (7, ii x7_1), (8, ii x8_1), (16, .bool (b_From == ((List.getD a (Int.toNat x8_1) (0, 0)).1) && b_To == ((List.getD a (Int.toNat x8_1) (0, 0)).2)))]) (by kernel_rfl) ?_
    refine XU.done (by kernel_rfl) ?_
    show XQ _ _ _ _ _ _ _ _
    cases b3 : (b_From == ((List.getD a (Int.toNat x8_1) (0, 0)).1) && b_To == ((List.getD a (Int.toNat x8_1) (0, 0)).2) : Bool) with
    | true =>
     have h := cT b3 h
     refine iT (.tmp 16) ?_
     refine qQ ?_
     refine rS 2 [(4, ii x8_1)] ?_
     refine dQ ?_
     show XQ _ _ _ _ _ _ _ _
     refine XQ.ren (σ' := [(4, ii x8_1)]) (h' := [(0, rc encP a z0 y0 2)]) (c' := 1) [0] (by decide) rfl ⟨rfl, trivial⟩ ⟨⟨_, _, rfl, rfl, .inl ⟨rfl, rwP⟩⟩, trivial⟩ rfl ?_
     refine XQ.ret (by kernel_rfl) ?_
     cases h
     exact hQ
    | false =>
     have h := cF b3 h
     refine iF (.tmp 16) ?_
     refine kQ ?_
     show XQ _ _ _ _ _ _ _ _
     refine rQ ?_
     refine rS 2 [(0, s0 0 a.length), (3, pp 1 0), (7, ii x7_1), (8, ii (w64 (x8_1 + 1)))] ?_
     refine dQ ?_
     show XL _ _ _ _ _ _ _ _ _
     refine XL.ren (σ' := [(0, s0 0 a.length), (3, pp 1 0), (7, ii x7_1), (8, ii (w64 (x8_1 + 1)))]) (h' := [(1, .cells [ii b_From, ii b_To] 0 61 0), (0, rc encP a z0 y0 2)]) (c' := 2) [0, 1] (by decide) rfl ⟨rfl, rfl, rfl, rfl, trivial⟩ ⟨⟨_, _, rfl, rfl, .inr ⟨_, _, _, _, rfl, rfl⟩⟩, ⟨_, _, rfl, rfl, .inl ⟨rfl, rwP⟩⟩, trivial⟩ rfl ?_
     refine XL.conv (f95_1_ok m fuel z0 y0 a b_From b_To x7_1 (w64 (x8_1 + 1)) o h Q hQ) (by first | rfl | simp)
  | false =>
   have h := cF b1 h
   refine iF (.tmp 9) ?_
   refine XQ.ren (σ' := []) (h' := [(0, rc encP a z0 y0 2)]) (c' := 1) [0] (by decide) rfl trivial ⟨⟨_, _, rfl, rfl, .inl ⟨rfl, rwP⟩⟩, trivial⟩ rfl ?_
   refine XQ.exit (i := 0) (by kernel_rfl) ?_
   cases h
   exact hQ
def f95 (m : Nat) (a : List (Int × Int)) (b_From : Int) (b_To : Int) : Option (Int) :=
 (f95_1 m m a b_From b_To ((a.length : Nat) : Int) 0).bind fun o1 =>
  match o1 with
  | .r x4_r1 =>
   some (x4_r1)
  | .x0 =>
   some ((-1))
theorem f95_ok (m : Nat) (z0 : Nat) (y0 : Nat) (a : List (Int × Int)) (b_From : Int) (b_To : Int) (o : Int) (h : f95 m a b_From b_To = some o) : KC E0 95 [s0 0 a.length, .agg #[ii b_From, ii b_To]] [(0, rc encP a z0 y0 2)] 1 (fun v _ _ => v = ii o) := by
 refine KC.bodyN E0_ok (F := Proofs.Try.f95) (by kernel_rfl) (code := f95_C95) (by kernel_rfl) (nt := 19) (by kernel_rfl) (rs := [.tmp 4]) (by kernel_rfl) (by kernel_rfl) (σ := [(0, s0 0 a.length), (1, .agg #[ii b_From, ii b_To])]) (by kernel_rfl) ?_
 unfold f95 at h
 refine qQ ?_
 refine rT 2 [(0, s0 0 a.length), (3, pp 1 0)] [(1, .cells [ii b_From, ii b_To] 0 61 0), (0, rc encP a z0 y0 2)] 2 ?_
 refine dQ ?_
 show XQ _ _ _ _ _ _ _ _
 refine sQ ?_
 refine qQ ?_
 refine rS 3 [(0, s0 0 a.length), (3, pp 1 0), (7, ii ((a.length : Nat) : Int)), (8, ii 0)] ?_
 refine dQ ?_
 show XQ _ _ _ _ _ _ _ _
 refine XQ.block (id := 0) (by kernel_rfl) ?_
 refine XQ.loop m (by kernel_rfl) ?_
 obtain ⟨o1, o1_h, h⟩ := bS h
 refine XL.ren (σ' := [(0, s0 0 a.length), (3, pp 1 0), (7, ii ((a.length : Nat) : Int)), (8, ii 0)]) (h' := [(1, .cells [ii b_From, ii b_To] 0 61 0), (0, rc encP a z0 y0 2)]) (c' := 2) [0, 1] (by decide) rfl ⟨rfl, rfl, rfl, rfl, trivial⟩ ⟨⟨_, _, rfl, rfl, .inr ⟨_, _, _, _, rfl, rfl⟩⟩, ⟨_, _, rfl, rfl, .inl ⟨rfl, rwP⟩⟩, trivial⟩ rfl ?_
 cases o1 with
 | r x4_r1 =>
  dsimp only at h
  refine XL.conv (f95_1_ok m m z0 y0 a b_From b_To ((a.length : Nat) : Int) 0 (.r x4_r1) o1_h _ ?_) (by first | rfl | simp)
  have h := Option.some.inj h
  subst h
  exact ⟨fun i q => (by cases q), ii x4_r1, (by kernel_rfl), rfl⟩
 | x0 =>
  dsimp only at h
  refine XL.conv (f95_1_ok m m z0 y0 a b_From b_To ((a.length : Nat) : Int) 0 (.x0) o1_h _ ?_) (by first | rfl | simp)
  show XQ _ _ _ _ _ _ _ _
  refine qQ ?_
  refine rS 1 [(4, ii (-1))] ?_
  refine dQ ?_
  show XQ _ _ _ _ _ _ _ _
  refine XQ.ret (by kernel_rfl) ?_
  have h := Option.some.inj h
  subst h
  exact ⟨fun i q => (by cases q), ii (-1), (by kernel_rfl), rfl⟩
noncomputable def f79_C79 : Code := Proofs.Try.f79.body.getD .skip
def f79 (m : Nat) (a : List (Int × Int)) (b_From : Int) (b_To : Int) : Option (Bool) :=
 (f95 m a b_From b_To).bind fun r1 =>
  some (decide (r1 ≥ 0))
theorem f79_ok (m : Nat) (z0 : Nat) (y0 : Nat) (a : List (Int × Int)) (b_From : Int) (b_To : Int) (o : Bool) (h : f79 m a b_From b_To = some o) : KC E0 79 [s0 0 a.length, .agg #[ii b_From, ii b_To]] [(0, rc encP a z0 y0 2)] 1 (fun v _ _ => v = .bool o) := by
 refine KC.bodyN E0_ok (F := Proofs.Try.f79) (by kernel_rfl) (code := f79_C79) (by kernel_rfl) (nt := 9) (by kernel_rfl) (rs := [.tmp 4]) (by kernel_rfl) (by kernel_rfl) (σ := [(0, s0 0 a.length), (1, .agg #[ii b_From, ii b_To])]) (by kernel_rfl) ?_
 unfold f79 at h
 refine qQ ?_
 refine rT 2 [(0, s0 0 a.length), (3, pp 1 0)] [(1, .cells [ii b_From, ii b_To] 0 61 0), (0, rc encP a z0 y0 2)] 2 ?_
 refine nQ id ?_
 refine rS 2 [(5, s0 0 a.length), (6, .agg #[ii b_From, ii b_To])] ?_
 obtain ⟨r1, r1_h, h⟩ := bS h
 refine XR.call E0_ok [7] rfl (K := 95) (args := [s0 0 a.length, .agg #[ii b_From, ii b_To]]) (d := (some (path 12 7))) (by kernel_rfl) (KQ.call (KC.quiet E0_ok (args0 := [s0 0 a.length, .agg #[ii b_From, ii b_To]]) (h0 := [(0, rc encP a (z0 + ((rowC encP a).length + 1)) y0 2)]) (n := 1) (V := ii r1) [0] (f95_ok m (z0 + ((rowC encP a).length + 1)) y0 a b_From b_To r1 r1_h) rfl (by rfl) (by decide) rfl (by kernel_rfl) ⟨⟨_, _, rfl, rfl, .inl ⟨rfl, rwP⟩⟩, trivial⟩) rfl) ?_
 rintro _ _ _ ⟨rfl, rfl, rfl⟩
 refine XR.conv (σ' := [(7, ii r1)]) (h' := [(1, .cells [ii b_From, ii b_To] 0 61 0), (0, rc encP a z0 y0 2)]) (c' := 2) ?_ (by kernel_rfl)
 refine rS 2 [(4, .bool (decide (r1 ≥ 0)))] ?_
 refine dQ ?_
 show XQ _ _ _ _ _ _ _ _
 refine XQ.ret (by kernel_rfl) ?_
 have h := Option.some.inj h
 subst h
 exact ⟨fun i q => (by cases q), .bool (decide (r1 ≥ 0)), (by kernel_rfl), rfl⟩
noncomputable def f37_C37 : Code := Proofs.Try.f37.body.getD .skip
noncomputable def f37_C73 : Code := Proofs.Try.f73.body.getD .skip
noncomputable def f37_C93 : Code := Proofs.Try.f93.body.getD .skip
noncomputable def f37_C80 : Code := Proofs.Try.f80.body.getD .skip
noncomputable def f37_L1 : Code := lft (lft (rgt (lft (rgt (rgt (rgt (rgt (rgt f37_C37))))))))
noncomputable def f37_L2 : Code := lft (lft (rgt (lft (rgt f37_C93))))
noncomputable def f37_L3 : Code := lft (lft (rgt (lft (rgt (rgt (rgt f37_C73))))))
inductive Of37_3 where
 | r (x4_r3 : Int)
 | x0
def f37_3 (m : Nat) : Nat → List (Int × Int) → List Int → List (Int × Int) → Int → Int → List (Int × Int) → Int → Int → Option Of37_3
 | 0, _, _, _, _, _, _, _, _ => none
 | fuel + 1, a, lh1_1, lh3_1, xh4_0_2, xh4_1_2, lh6_2, x7_3, x8_3 =>
  cond (decide (x8_3 < x7_3)) (
   cond (inRow x8_3 lh6_2.length) (
    cond (decide (((List.getD lh6_2 (Int.toNat x8_3) (0, 0)).1) ≤ xh4_1_2)) (
     cond (decide (xh4_0_2 ≤ ((List.getD lh6_2 (Int.toNat x8_3) (0, 0)).2))) (
      some (.r x8_3)
     ) (
      (f79 m lh3_1 ((List.getD lh6_2 (Int.toNat x8_3) (0, 0)).1) ((List.getD lh6_2 (Int.toNat x8_3) (0, 0)).2)).bind fun r72 =>
       cond (!r72) (
        some (.r x8_3)
       ) (
        f37_3 m fuel a lh1_1 lh3_1 xh4_0_2 xh4_1_2 lh6_2 x7_3 (w64 (x8_3 + 1))
       )
     )
    ) (
     (f79 m lh3_1 ((List.getD lh6_2 (Int.toNat x8_3) (0, 0)).1) ((List.getD lh6_2 (Int.toNat x8_3) (0, 0)).2)).bind fun r73 =>
      cond (!r73) (
       some (.r x8_3)
      ) (
       f37_3 m fuel a lh1_1 lh3_1 xh4_0_2 xh4_1_2 lh6_2 x7_3 (w64 (x8_3 + 1))
      )
    )
   ) none
  ) (
   some (.x0)
  )
theorem f37_3_ok (m : Nat) : ∀ (fuel : Nat) (z0 : Nat) (y0 : Nat) (a : List (Int × Int)) (lh1_1 : List Int) (lh3_1 : List (Int × Int)) (xh4_0_2 : Int) (xh4_1_2 : Int) (lh6_2 : List (Int × Int)) (x7_3 : Int) (x8_3 : Int) (o : Of37_3), f37_3 m fuel a lh1_1 lh3_1 xh4_0_2 xh4_1_2 lh6_2 x7_3 x8_3 = some o → ∀ Q : QP, (match o with | .r x4_r3 => Q .ret [(4, ii x4_r3)] [(6, rc encP lh6_2 0 61 2), (4, .cells [ii xh4_0_2, ii xh4_1_2] 0 61 0), (3, rc encP lh3_1 0 61 2), (2, .cells [s0 3 lh3_1.length] 0 22 0), (1, rc (encI .i64) lh1_1 0 3 1), (0, rc encP a z0 y0 2)] 7 | .x0 => Q (.exit 0) [] [(6, rc encP lh6_2 0 61 2), (4, .cells [ii xh4_0_2, ii xh4_1_2] 0 61 0), (3, rc encP lh3_1 0 61 2), (2, .cells [s0 3 lh3_1.length] 0 22 0), (1, rc (encI .i64) lh1_1 0 3 1), (0, rc encP a z0 y0 2)] 7) → XL E0 19 7 fuel f37_L2 [(0, s0 6 lh6_2.length), (1, .func (.func 80) #[] #[pp 4 0, pp 2 0]), (7, ii x7_3), (8, ii x8_3)] [(6, rc encP lh6_2 0 61 2), (4, .cells [ii xh4_0_2, ii xh4_1_2] 0 61 0), (3, rc encP lh3_1 0 61 2), (2, .cells [s0 3 lh3_1.length] 0 22 0), (1, rc (encI .i64) lh1_1 0 3 1), (0, rc encP a z0 y0 2)] 7 Q
 | 0, z0, y0, a, lh1_1, lh3_1, xh4_0_2, xh4_1_2, lh6_2, x7_3, x8_3, o, h, Q, hQ => by cases h
 | fuel + 1, z0, y0, a, lh1_1, lh3_1, xh4_0_2, xh4_1_2, lh6_2, x7_3, x8_3, o, h, Q, hQ => by
  unfold f37_3 at h
  refine XL.succ E0_ok ?_
  refine qQ ?_
  refine rS 1 [(0, s0 6 lh6_2.length), (1, .func (.func 80) #[] #[pp 4 0, pp 2 0]), (7, ii x7_3), (8, ii x8_3), (9, .bool (decide (x8_3 < x7_3)))] ?_
  refine dQ ?_
  show XQ _ _ _ _ _ _ _ _
  refine sQ ?_
  cases b1 : (decide (x8_3 < x7_3) : Bool) with
  | true =>
   have h := cT b1 h
   refine iT (.tmp 9) ?_
   refine kQ ?_
   show XQ _ _ _ _ _ _ _ _
   refine sQ ?_
   refine XQ.block (id := 1) (by kernel_rfl) ?_
   refine qQ ?_
   refine rS 2 [(0, s0 6 lh6_2.length), (1, .func (.func 80) #[] #[pp 4 0, pp 2 0]), (5, ii x8_3), (7, ii x7_3), (8, ii x8_3)] ?_
   refine nQ id ?_
   refine rS 3 [(0, s0 6 lh6_2.length), (1, .func (.func 80) #[] #[pp 4 0, pp 2 0]), (5, ii x8_3), (7, ii x7_3), (8, ii x8_3), (11, .func (.func 80) #[] #[pp 4 0, pp 2 0]), (12, s0 6 lh6_2.length), (13, ii x8_3)] ?_
   cases b2 : (inRow x8_3 lh6_2.length : Bool) with
   | false => cases (cF b2 h)
   | true =>
    have h := cT b2 h
    refine XR.rd E0_ok [0, 1, 5, 7, 8, 11, 14] rfl (v := pp 6 ((Int.toNat x8_3) * 2)) (v_idx (s := 2) (x := (src 19 (.tmp 12))) (y := (src 19 (.tmp 13))) (b := 6) (o := 0) (len := lh6_2.length) (cap := lh6_2.length) (ik := .i64) (i := x8_3) (off := (Int.toNat x8_3) * 2) (d := (some (path 12 14))) (by kernel_rfl) (by kernel_rfl) (by kernel_rfl) b2 (by omega)) (σ' := [(0, s0 6 lh6_2.length), (1, .func (.func 80) #[] #[pp 4 0, pp 2 0]), (5, ii x8_3), (7, ii x7_3), (8, ii x8_3), (11, .func (.func 80) #[] #[pp 4 0, pp 2 0]), (14, pp 6 ((Int.toNat x8_3) * 2))]) (by kernel_rfl) ?_
    refine XR.rd E0_ok [0, 1, 5, 7, 8, 11, 15] rfl (v := .agg #[ii ((List.getD lh6_2 (Int.toNat x8_3) (0, 0)).1), ii ((List.getD lh6_2 (Int.toNat x8_3) (0, 0)).2)]) (v_loadN encP_ok (x := (src 19 (.tmp 14))) (b := 6) (off := (Int.toNat x8_3) * 2) (xs := lh6_2) (fz := 0) (e := 61) (es := 2) (d := (some (path 12 15))) (by kernel_rfl) (by kernel_rfl) (by kernel_rfl) (Int.toNat x8_3) (0, 0) (by first | rfl | omega) (row_len (inRow_toNat b2) (by simp)) rfl) (σ' := [(0, s0 6 lh6_2.length), (1, .func (.func 80) #[] #[pp 4 0, pp 2 0]), (5, ii x8_3), (7, ii x7_3), (8, ii x8_3), (11, .func (.func 80) #[] #[pp 4 0, pp 2 0]), (15, .agg #[ii ((List.getD lh6_2 (Int.toNat x8_3) (0, 0)).1), ii ((List.getD lh6_2 (Int.toNat x8_3) (0, 0)).2)])]) (by kernel_rfl) ?_
    refine XR.callK E0_ok [0, 1, 5, 7, 8, 16] rfl (K := 80) (args := [.agg #[ii ((List.getD lh6_2 (Int.toNat x8_3) (0, 0)).1), ii ((List.getD lh6_2 (Int.toNat x8_3) (0, 0)).2)], pp 4 0, pp 2 0]) (d := (some (path 12 16))) (by kernel_rfl) ?_
    refine KC.bodyN E0_ok (F := Proofs.Try.f80) (by kernel_rfl) (code := f37_C80) (by kernel_rfl) (nt := 23) (by kernel_rfl) (rs := [.tmp 4]) (by kernel_rfl) (by kernel_rfl) (σ := [(0, .agg #[ii ((List.getD lh6_2 (Int.toNat x8_3) (0, 0)).1), ii ((List.getD lh6_2 (Int.toNat x8_3) (0, 0)).2)]), (1, pp 4 0), (2, pp 2 0)]) (by kernel_rfl) ?_
    refine qQ ?_
    refine rT 2 [(1, pp 4 0), (2, pp 2 0), (3, pp 7 0)] [(7, .cells [ii ((List.getD lh6_2 (Int.toNat x8_3) (0, 0)).1), ii ((List.getD lh6_2 (Int.toNat x8_3) (0, 0)).2)] 0 61 0), (6, rc encP lh6_2 0 61 2), (4, .cells [ii xh4_0_2, ii xh4_1_2] 0 61 0), (3, rc encP lh3_1 0 61 2), (2, .cells [s0 3 lh3_1.length] 0 22 0), (1, rc (encI .i64) lh1_1 0 3 1), (0, rc encP a z0 y0 2)] 8 ?_
    refine nQ id ?_
    refine rS 6 [(1, pp 4 0), (2, pp 2 0), (3, pp 7 0), (10, .bool (decide (((List.getD lh6_2 (Int.toNat x8_3) (0, 0)).1) ≤ xh4_1_2)))] ?_
    cases b3 : (decide (((List.getD lh6_2 (Int.toNat x8_3) (0, 0)).1) ≤ xh4_1_2) : Bool) with
    | true =>
     have h := cT b3 h
     refine rS 7 [(2, pp 2 0), (3, pp 7 0), (17, .bool (decide (xh4_0_2 ≤ ((List.getD lh6_2 (Int.toNat x8_3) (0, 0)).2))))] ?_
     cases b4 : (decide (xh4_0_2 ≤ ((List.getD lh6_2 (Int.toNat x8_3) (0, 0)).2)) : Bool) with
     | true =>
      have h := cT b4 h
      refine rS 6 [(4, .bool true)] ?_
      refine dQ ?_
      show XQ _ _ _ _ _ _ _ _
      refine XQ.ret (by kernel_rfl) ?_
      refine ⟨fun i q => (by cases q), .bool true, (by kernel_rfl), ?_⟩
      refine XR.conv (σ' := [(0, s0 6 lh6_2.length), (1, .func (.func 80) #[] #[pp 4 0, pp 2 0]), (5, ii x8_3), (7, ii x7_3), (8, ii x8_3), (16, .bool true)]) (h' := [(7, .cells [ii ((List.getD lh6_2 (Int.toNat x8_3) (0, 0)).1), ii ((List.getD lh6_2 (Int.toNat x8_3) (0, 0)).2)] 0 61 0), (6, rc encP lh6_2 0 61 2), (4, .cells [ii xh4_0_2, ii xh4_1_2] 0 61 0), (3, rc encP lh3_1 0 61 2), (2, .cells [s0 3 lh3_1.length] 0 22 0), (1, rc (encI .i64) lh1_1 0 3 1), (0, rc encP a z0 y0 2)]) (c' := 8) ?_ (by kernel_rfl)
      refine dQ ?_
      show XQ _ _ _ _ _ _ _ _
      refine iT (.tmp 16) ?_
      refine qQ ?_
      refine rS 2 [(4, ii x8_3)] ?_
      refine dQ ?_
      show XQ _ _ _ _ _ _ _ _
      refine XQ.ren (σ' := [(4, ii x8_3)]) (h' := [(6, rc encP lh6_2 0 61 2), (4, .cells [ii xh4_0_2, ii xh4_1_2] 0 61 0), (3, rc encP lh3_1 0 61 2), (2, .cells [s0 3 lh3_1.length] 0 22 0), (1, rc (encI .i64) lh1_1 0 3 1), (0, rc encP a z0 y0 2)]) (c' := 7) [0, 1, 2, 3, 4, 5, 6] (by decide) rfl ⟨rfl, trivial⟩ ⟨⟨_, _, rfl, rfl, .inl ⟨rfl, rwP⟩⟩, ⟨_, _, rfl, rfl, .inr ⟨_, _, _, _, rfl, rfl⟩⟩, ⟨_, _, rfl, rfl, .inl ⟨rfl, rwP⟩⟩, ⟨_, _, rfl, rfl, .inr ⟨_, _, _, _, rfl, rfl⟩⟩, ⟨_, _, rfl, rfl, .inl ⟨rfl, rwI⟩⟩, ⟨_, _, rfl, rfl, .inl ⟨rfl, rwP⟩⟩, trivial⟩ rfl ?_
      refine XQ.ret (by kernel_rfl) ?_
      cases h
      exact hQ
     | false =>
      have h := cF b4 h
      refine rS 2 [(17, .bool false), (18, s0 3 lh3_1.length), (19, .agg #[ii ((List.getD lh6_2 (Int.toNat x8_3) (0, 0)).1), ii ((List.getD lh6_2 (Int.toNat x8_3) (0, 0)).2)])] ?_
      obtain ⟨r72, r72_h, h⟩ := bS h
      refine XR.call E0_ok [17, 20] rfl (K := 79) (args := [s0 3 lh3_1.length, .agg #[ii ((List.getD lh6_2 (Int.toNat x8_3) (0, 0)).1), ii ((List.getD lh6_2 (Int.toNat x8_3) (0, 0)).2)]]) (d := (some (path 12 20))) (by kernel_rfl) (KQ.call (KC.quiet E0_ok (args0 := [s0 0 lh3_1.length, .agg #[ii ((List.getD lh6_2 (Int.toNat x8_3) (0, 0)).1), ii ((List.getD lh6_2 (Int.toNat x8_3) (0, 0)).2)]]) (h0 := [(0, rc encP lh3_1 (0 + ((rowC encP lh3_1).length + 1)) 61 2)]) (n := 1) (V := .bool r72) [3] (f79_ok m (0 + ((rowC encP lh3_1).length + 1)) 61 lh3_1 ((List.getD lh6_2 (Int.toNat x8_3) (0, 0)).1) ((List.getD lh6_2 (Int.toNat x8_3) (0, 0)).2) r72 r72_h) rfl (by rfl) (by decide) rfl (by kernel_rfl) ⟨⟨_, _, rfl, rfl, .inl ⟨rfl, rwP⟩⟩, trivial⟩) rfl) ?_
      rintro _ _ _ ⟨rfl, rfl, rfl⟩
      refine XR.conv (σ' := [(17, .bool false), (20, .bool r72)]) (h' := [(7, .cells [ii ((List.getD lh6_2 (Int.toNat x8_3) (0, 0)).1), ii ((List.getD lh6_2 (Int.toNat x8_3) (0, 0)).2)] 0 61 0), (6, rc encP lh6_2 0 61 2), (4, .cells [ii xh4_0_2, ii xh4_1_2] 0 61 0), (3, rc encP lh3_1 0 61 2), (2, .cells [s0 3 lh3_1.length] 0 22 0), (1, rc (encI .i64) lh1_1 0 3 1), (0, rc encP a z0 y0 2)]) (c' := 8) ?_ (by kernel_rfl)
      refine rS 3 [(4, .bool (!r72))] ?_
      refine dQ ?_
      show XQ _ _ _ _ _ _ _ _
      refine XQ.ret (by kernel_rfl) ?_
      refine ⟨fun i q => (by cases q), .bool (!r72), (by kernel_rfl), ?_⟩
      refine XR.conv (σ' := [(0, s0 6 lh6_2.length), (1, .func (.func 80) #[] #[pp 4 0, pp 2 0]), (5, ii x8_3), (7, ii x7_3), (8, ii x8_3), (16, .bool (!r72))]) (h' := [(7, .cells [ii ((List.getD lh6_2 (Int.toNat x8_3) (0, 0)).1), ii ((List.getD lh6_2 (Int.toNat x8_3) (0, 0)).2)] 0 61 0), (6, rc encP lh6_2 0 61 2), (4, .cells [ii xh4_0_2, ii xh4_1_2] 0 61 0), (3, rc encP lh3_1 0 61 2), (2, .cells [s0 3 lh3_1.length] 0 22 0), (1, rc (encI .i64) lh1_1 0 3 1), (0, rc encP a z0 y0 2)]) (c' := 8) ?_ (by kernel_rfl)
      refine dQ ?_
      show XQ _ _ _ _ _ _ _ _
      cases b5 : (!r72 : Bool) with
      | true =>
       have h := cT b5 h
       refine iT (.tmp 16) ?_
       refine qQ ?_
       refine rS 2 [(4, ii x8_3)] ?_
       refine dQ ?_
       show XQ _ _ _ _ _ _ _ _
       refine XQ.ren (σ' := [(4, ii x8_3)]) (h' := [(6, rc encP lh6_2 0 61 2), (4, .cells [ii xh4_0_2, ii xh4_1_2] 0 61 0), (3, rc encP lh3_1 0 61 2), (2, .cells [s0 3 lh3_1.length] 0 22 0), (1, rc (encI .i64) lh1_1 0 3 1), (0, rc encP a z0 y0 2)]) (c' := 7) [0, 1, 2, 3, 4, 5, 6] (by decide) rfl ⟨rfl, trivial⟩ ⟨⟨_, _, rfl, rfl, .inl ⟨rfl, rwP⟩⟩, ⟨_, _, rfl, rfl, .inr ⟨_, _, _, _, rfl, rfl⟩⟩, ⟨_, _, rfl, rfl, .inl ⟨rfl, rwP⟩⟩, ⟨_, _, rfl, rfl, .inr ⟨_, _, _, _, rfl, rfl⟩⟩, ⟨_, _, rfl, rfl, .inl ⟨rfl, rwI⟩⟩, ⟨_, _, rfl, rfl, .inl ⟨rfl, rwP⟩⟩, trivial⟩ rfl ?_
       refine XQ.ret (by kernel_rfl) ?_
       cases h
       exact hQ
      | false =>
       have h := cF b5 h
       refine iF (.tmp 16) ?_
       refine kQ ?_
       show XQ _ _ _ _ _ _ _ _
       refine rQ ?_
       refine rS 2 [(0, s0 6 lh6_2.length), (1, .func (.func 80) #[] #[pp 4 0, pp 2 0]), (7, ii x7_3), (8, ii (w64 (x8_3 + 1)))] ?_
       refine dQ ?_
       show XL _ _ _ _ _ _ _ _ _
       refine XL.ren (σ' := [(0, s0 6 lh6_2.length), (1, .func (.func 80) #[] #[pp 4 0, pp 2 0]), (7, ii x7_3), (8, ii (w64 (x8_3 + 1)))]) (h' := [(6, rc encP lh6_2 0 61 2), (4, .cells [ii xh4_0_2, ii xh4_1_2] 0 61 0), (3, rc encP lh3_1 0 61 2), (2, .cells [s0 3 lh3_1.length] 0 22 0), (1, rc (encI .i64) lh1_1 0 3 1), (0, rc encP a z0 y0 2)]) (c' := 7) [0, 1, 2, 3, 4, 5, 6] (by decide) rfl ⟨rfl, rfl, rfl, rfl, trivial⟩ ⟨⟨_, _, rfl, rfl, .inl ⟨rfl, rwP⟩⟩, ⟨_, _, rfl, rfl, .inr ⟨_, _, _, _, rfl, rfl⟩⟩, ⟨_, _, rfl, rfl, .inl ⟨rfl, rwP⟩⟩, ⟨_, _, rfl, rfl, .inr ⟨_, _, _, _, rfl, rfl⟩⟩, ⟨_, _, rfl, rfl, .inl ⟨rfl, rwI⟩⟩, ⟨_, _, rfl, rfl, .inl ⟨rfl, rwP⟩⟩, trivial⟩ rfl ?_
       refine XL.conv (f37_3_ok m fuel z0 y0 a lh1_1 lh3_1 xh4_0_2 xh4_1_2 lh6_2 x7_3 (w64 (x8_3 + 1)) o h Q hQ) (by first | rfl | simp)
    | false =>
     have h := cF b3 h
     refine rS 9 [(17, .bool false), (18, s0 3 lh3_1.length), (19, .agg #[ii ((List.getD lh6_2 (Int.toNat x8_3) (0, 0)).1), ii ((List.getD lh6_2 (Int.toNat x8_3) (0, 0)).2)])] ?_
     obtain ⟨r73, r73_h, h⟩ := bS h
     refine XR.call E0_ok [17, 20] rfl (K := 79) (args := [s0 3 lh3_1.length, .agg #[ii ((List.getD lh6_2 (Int.toNat x8_3) (0, 0)).1), ii ((List.getD lh6_2 (Int.toNat x8_3) (0, 0)).2)]]) (d := (some (path 12 20))) (by kernel_rfl) (KQ.call (KC.quiet E0_ok (args0 := [s0 0 lh3_1.length, .agg #[ii ((List.getD lh6_2 (Int.toNat x8_3) (0, 0)).1), ii ((List.getD lh6_2 (Int.toNat x8_3) (0, 0)).2)]]) (h0 := [(0, rc encP lh3_1 (0 + ((rowC encP lh3_1).length + 1)) 61 2)]) (n := 1) (V := .bool r73) [3] (f79_ok m (0 + ((rowC encP lh3_1).length + 1)) 61 lh3_1 ((List.getD lh6_2 (Int.toNat x8_3) (0, 0)).1) ((List.getD lh6_2 (Int.toNat x8_3) (0, 0)).2) r73 r73_h) rfl (by rfl) (by decide) rfl (by kernel_rfl) ⟨⟨_, _, rfl, rfl, .inl ⟨rfl, rwP⟩⟩, trivial⟩) rfl) ?_
     rintro _ _ _ ⟨rfl, rfl, rfl⟩
     refine XR.conv (σ' := [(17, .bool false), (20, .bool r73)]) (h' := [(7, .cells [ii ((List.getD lh6_2 (Int.toNat x8_3) (0, 0)).1), ii ((List.getD lh6_2 (Int.toNat x8_3) (0, 0)).2)] 0 61 0), (6, rc encP lh6_2 0 61 2), (4, .cells [ii xh4_0_2, ii xh4_1_2] 0 61 0), (3, rc encP lh3_1 0 61 2), (2, .cells [s0 3 lh3_1.length] 0 22 0), (1, rc (encI .i64) lh1_1 0 3 1), (0, rc encP a z0 y0 2)]) (c' := 8) ?_ (by kernel_rfl)
     refine rS 3 [(4, .bool (!r73))] ?_
     refine dQ ?_
     show XQ _ _ _ _ _ _ _ _
     refine XQ.ret (by kernel_rfl) ?_
     refine ⟨fun i q => (by cases q), .bool (!r73), (by kernel_rfl), ?_⟩
     refine XR.conv (σ' := [(0, s0 6 lh6_2.length), (1, .func (.func 80) #[] #[pp 4 0, pp 2 0]), (5, ii x8_3), (7, ii x7_3), (8, ii x8_3), (16, .bool (!r73))]) (h' := [(7, .cells [ii ((List.getD lh6_2 (Int.toNat x8_3) (0, 0)).1), ii ((List.getD lh6_2 (Int.toNat x8_3) (0, 0)).2)] 0 61 0), (6, rc encP lh6_2 0 61 2), (4, .cells [ii xh4_0_2, ii xh4_1_2] 0 61 0), (3, rc encP lh3_1 0 61 2), (2, .cells [s0 3 lh3_1.length] 0 22 0), (1, rc (encI .i64) lh1_1 0 3 1), (0, rc encP a z0 y0 2)]) (c' := 8) ?_ (by kernel_rfl)
     refine dQ ?_
     show XQ _ _ _ _ _ _ _ _
     cases b6 : (!r73 : Bool) with
     | true =>
      have h := cT b6 h
      refine iT (.tmp 16) ?_
      refine qQ ?_
      refine rS 2 [(4, ii x8_3)] ?_
      refine dQ ?_
      show XQ _ _ _ _ _ _ _ _
      refine XQ.ren (σ' := [(4, ii x8_3)]) (h' := [(6, rc encP lh6_2 0 61 2), (4, .cells [ii xh4_0_2, ii xh4_1_2] 0 61 0), (3, rc encP lh3_1 0 61 2), (2, .cells [s0 3 lh3_1.length] 0 22 0), (1, rc (encI .i64) lh1_1 0 3 1), (0, rc encP a z0 y0 2)]) (c' := 7) [0, 1, 2, 3, 4, 5, 6] (by decide) rfl ⟨rfl, trivial⟩ ⟨⟨_, _, rfl, rfl, .inl ⟨rfl, rwP⟩⟩, ⟨_, _, rfl, rfl, .inr ⟨_, _, _, _, rfl, rfl⟩⟩, ⟨_, _, rfl, rfl, .inl ⟨rfl, rwP⟩⟩, ⟨_, _, rfl, rfl, .inr ⟨_, _, _, _, rfl, rfl⟩⟩, ⟨_, _, rfl, rfl, .inl ⟨rfl, rwI⟩⟩, ⟨_, _, rfl, rfl, .inl ⟨rfl, rwP⟩⟩, trivial⟩ rfl ?_
      refine XQ.ret (by kernel_rfl) ?_
      cases h
      exact hQ
     | false =>
      have h := cF b6 h
      refine iF (.tmp 16) ?_
      refine kQ ?_
      show XQ _ _ _ _ _ _ _ _
      refine rQ ?_
      refine rS 2 [(0, s0 6 lh6_2.length), (1, .func (.func 80) #[] #[pp 4 0, pp 2 0]), (7, ii x7_3), (8, ii (w64 (x8_3 + 1)))] ?_
      refine dQ ?_
      show XL _ _ _ _ _ _ _ _ _
      refine XL.ren (σ' := [(0, s0 6 lh6_2.length), (1, .func (.func 80) #[] #[pp 4 0, pp 2 0]), (7, ii x7_3), (8, ii (w64 (x8_3 + 1)))]) (h' := [(6, rc encP lh6_2 0 61 2), (4, .cells [ii xh4_0_2, ii xh4_1_2] 0 61 0), (3, rc encP lh3_1 0 61 2), (2, .cells [s0 3 lh3_1.length] 0 22 0), (1, rc (encI .i64) lh1_1 0 3 1), (0, rc encP a z0 y0 2)]) (c' := 7) [0, 1, 2, 3, 4, 5, 6] (by decide) rfl ⟨rfl, rfl, rfl, rfl, trivial⟩ ⟨⟨_, _, rfl, rfl, .inl ⟨rfl, rwP⟩⟩, ⟨_, _, rfl, rfl, .inr ⟨_, _, _, _, rfl, rfl⟩⟩, ⟨_, _, rfl, rfl, .inl ⟨rfl, rwP⟩⟩, ⟨_, _, rfl, rfl, .inr ⟨_, _, _, _, rfl, rfl⟩⟩, ⟨_, _, rfl, rfl, .inl ⟨rfl, rwI⟩⟩, ⟨_, _, rfl, rfl, .inl ⟨rfl, rwP⟩⟩, trivial⟩ rfl ?_
      refine XL.conv (f37_3_ok m fuel z0 y0 a lh1_1 lh3_1 xh4_0_2 xh4_1_2 lh6_2 x7_3 (w64 (x8_3 + 1)) o h Q hQ) (by first | rfl | simp)
  | false =>
   have h := cF b1 h
   refine iF (.tmp 9) ?_
   refine XQ.ren (σ' := []) (h' := [(6, rc encP lh6_2 0 61 2), (4, .cells [ii xh4_0_2, ii xh4_1_2] 0 61 0), (3, rc encP lh3_1 0 61 2), (2, .cells [s0 3 lh3_1.length] 0 22 0), (1, rc (encI .i64) lh1_1 0 3 1), (0, rc encP a z0 y0 2)]) (c' := 7) [0, 1, 2, 3, 4, 5, 6] (by decide) rfl trivial ⟨⟨_, _, rfl, rfl, .inl ⟨rfl, rwP⟩⟩, ⟨_, _, rfl, rfl, .inr ⟨_, _, _, _, rfl, rfl⟩⟩, ⟨_, _, rfl, rfl, .inl ⟨rfl, rwP⟩⟩, ⟨_, _, rfl, rfl, .inr ⟨_, _, _, _, rfl, rfl⟩⟩, ⟨_, _, rfl, rfl, .inl ⟨rfl, rwI⟩⟩, ⟨_, _, rfl, rfl, .inl ⟨rfl, rwP⟩⟩, trivial⟩ rfl ?_
   refine XQ.exit (i := 0) (by kernel_rfl) ?_
   cases h
   exact hQ
def f37_4 (m : Nat) : Nat → List (Int × Int) → List Int → List (Int × Int) → Int → Int → Int → Int → List (Int × Int) → Option (Int × (List (Int × Int)))
 | 0, _, _, _, _, _, _, _, _ => none
 | fuel + 1, a, lh1_1, lh3_1, xh4_0_2, xh4_1_2, x5_4, x6_4, lh6_4 =>
  cond (decide (x6_4 < ((lh6_4.length : Nat) : Int))) (
   cond (inRow x6_4 lh6_4.length) (
    cond (decide (((List.getD lh6_4 (Int.toNat x6_4) (0, 0)).1) ≤ xh4_1_2)) (
     cond (decide (xh4_0_2 ≤ ((List.getD lh6_4 (Int.toNat x6_4) (0, 0)).2))) (
      f37_4 m fuel a lh1_1 lh3_1 xh4_0_2 xh4_1_2 x5_4 (w64 (x6_4 + 1)) lh6_4
     ) (
      (f79 m lh3_1 ((List.getD lh6_4 (Int.toNat x6_4) (0, 0)).1) ((List.getD lh6_4 (Int.toNat x6_4) (0, 0)).2)).bind fun r78 =>
       cond (!(!r78)) (
        cond (inRow x5_4 lh6_4.length) (
         f37_4 m fuel a lh1_1 lh3_1 xh4_0_2 xh4_1_2 (w64 (x5_4 + 1)) (w64 (x6_4 + 1)) (List.set lh6_4 (Int.toNat x5_4) ((List.getD lh6_4 (Int.toNat x6_4) (0, 0)).1, (List.getD lh6_4 (Int.toNat x6_4) (0, 0)).2))
        ) none
       ) (
        f37_4 m fuel a lh1_1 lh3_1 xh4_0_2 xh4_1_2 x5_4 (w64 (x6_4 + 1)) lh6_4
       )
     )
    ) (
     (f79 m lh3_1 ((List.getD lh6_4 (Int.toNat x6_4) (0, 0)).1) ((List.getD lh6_4 (Int.toNat x6_4) (0, 0)).2)).bind fun r79 =>
      cond (!(!r79)) (
       cond (inRow x5_4 lh6_4.length) (
        f37_4 m fuel a lh1_1 lh3_1 xh4_0_2 xh4_1_2 (w64 (x5_4 + 1)) (w64 (x6_4 + 1)) (List.set lh6_4 (Int.toNat x5_4) ((List.getD lh6_4 (Int.toNat x6_4) (0, 0)).1, (List.getD lh6_4 (Int.toNat x6_4) (0, 0)).2))
       ) none
      ) (
       f37_4 m fuel a lh1_1 lh3_1 xh4_0_2 xh4_1_2 x5_4 (w64 (x6_4 + 1)) lh6_4
      )
    )
   ) none
  ) (
   some (x5_4, lh6_4)
  )
theorem f37_4_ok (m : Nat) : ∀ (fuel : Nat) (z0 : Nat) (y0 : Nat) (a : List (Int × Int)) (lh1_1 : List Int) (lh3_1 : List (Int × Int)) (xh4_0_2 : Int) (xh4_1_2 : Int) (x5_4 : Int) (x6_4 : Int) (lh6_4 : List (Int × Int)) (o : (Int × (List (Int × Int)))), f37_4 m fuel a lh1_1 lh3_1 xh4_0_2 xh4_1_2 x5_4 x6_4 lh6_4 = some o → ∀ Q : QP, Q (.exit 0) [(0, s0 6 o.2.length), (5, ii o.1)] [(6, rc encP o.2 0 61 2), (4, .cells [ii xh4_0_2, ii xh4_1_2] 0 61 0), (3, rc encP lh3_1 0 61 2), (2, .cells [s0 3 lh3_1.length] 0 22 0), (1, rc (encI .i64) lh1_1 0 3 1), (0, rc encP a z0 y0 2)] 7 → XL E0 42 7 fuel f37_L3 [(0, s0 6 lh6_4.length), (1, .func (.func 80) #[] #[pp 4 0, pp 2 0]), (5, ii x5_4), (6, ii x6_4)] [(6, rc encP lh6_4 0 61 2), (4, .cells [ii xh4_0_2, ii xh4_1_2] 0 61 0), (3, rc encP lh3_1 0 61 2), (2, .cells [s0 3 lh3_1.length] 0 22 0), (1, rc (encI .i64) lh1_1 0 3 1), (0, rc encP a z0 y0 2)] 7 Q
 | 0, z0, y0, a, lh1_1, lh3_1, xh4_0_2, xh4_1_2, x5_4, x6_4, lh6_4, o, h, Q, hQ => by cases h
 | fuel + 1, z0, y0, a, lh1_1, lh3_1, xh4_0_2, xh4_1_2, x5_4, x6_4, lh6_4, o, h, Q, hQ => by
  unfold f37_4 at h
  refine XL.succ E0_ok ?_
  refine sQ ?_
  refine qQ ?_
  refine rS 4 [(0, s0 6 lh6_4.length), (1, .func (.func 80) #[] #[pp 4 0, pp 2 0]), (5, ii x5_4), (6, ii x6_4), (19, .bool (decide (x6_4 < ((lh6_4.length : Nat) : Int))))] ?_
  refine dQ ?_
  show XQ _ _ _ _ _ _ _ _
  cases b1 : (decide (x6_4 < ((lh6_4.length : Nat) : Int)) : Bool) with
  | true =>
   have h := cT b1 h
   refine iT (.tmp 19) ?_
   refine kQ ?_
   show XQ _ _ _ _ _ _ _ _
   refine sQ ?_
   refine XQ.block (id := 1) (by kernel_rfl) ?_
   refine qQ ?_
   refine rS 2 [(0, s0 6 lh6_4.length), (1, .func (.func 80) #[] #[pp 4 0, pp 2 0]), (5, ii x5_4), (6, ii x6_4), (22, s0 6 lh6_4.length), (23, ii x6_4)] ?_
   cases b2 : (inRow x6_4 lh6_4.length : Bool) with
   | false => cases (cF b2 h)
   | true =>
    have h := cT b2 h
    refine XR.rd E0_ok [0, 1, 5, 6, 24] rfl (v := pp 6 ((Int.toNat x6_4) * 2)) (v_idx (s := 2) (x := (src 42 (.tmp 22))) (y := (src 42 (.tmp 23))) (b := 6) (o := 0) (len := lh6_4.length) (cap := lh6_4.length) (ik := .i64) (i := x6_4) (off := (Int.toNat x6_4) * 2) (d := (some (path 12 24))) (by kernel_rfl) (by kernel_rfl) (by kernel_rfl) b2 (by omega)) (σ' := [(0, s0 6 lh6_4.length), (1, .func (.func 80) #[] #[pp 4 0, pp 2 0]), (5, ii x5_4), (6, ii x6_4), (24, pp 6 ((Int.toNat x6_4) * 2))]) (by kernel_rfl) ?_
    refine XR.rd E0_ok [0, 1, 5, 6, 25] rfl (v := .agg #[ii ((List.getD lh6_4 (Int.toNat x6_4) (0, 0)).1), ii ((List.getD lh6_4 (Int.toNat x6_4) (0, 0)).2)]) (v_loadN encP_ok (x := (src 42 (.tmp 24))) (b := 6) (off := (Int.toNat x6_4) * 2) (xs := lh6_4) (fz := 0) (e := 61) (es := 2) (d := (some (path 12 25))) (by kernel_rfl) (by kernel_rfl) (by kernel_rfl) (Int.toNat x6_4) (0, 0) (by first | rfl | omega) (row_len (inRow_toNat b2) (by simp)) rfl) (σ' := [(0, s0 6 lh6_4.length), (1, .func (.func 80) #[] #[pp 4 0, pp 2 0]), (5, ii x5_4), (6, ii x6_4), (25, .agg #[ii ((List.getD lh6_4 (Int.toNat x6_4) (0, 0)).1), ii ((List.getD lh6_4 (Int.toNat x6_4) (0, 0)).2)])]) (by kernel_rfl) ?_
    refine rT 2 [(0, s0 6 lh6_4.length), (1, .func (.func 80) #[] #[pp 4 0, pp 2 0]), (5, ii x5_4), (6, ii x6_4), (7, pp 7 0)] [(7, .cells [ii ((List.getD lh6_4 (Int.toNat x6_4) (0, 0)).1), ii ((List.getD lh6_4 (Int.toNat x6_4) (0, 0)).2)] 0 61 0), (6, rc encP lh6_4 0 61 2), (4, .cells [ii xh4_0_2, ii xh4_1_2] 0 61 0), (3, rc encP lh3_1 0 61 2), (2, .cells [s0 3 lh3_1.length] 0 22 0), (1, rc (encI .i64) lh1_1 0 3 1), (0, rc encP a z0 y0 2)] 8 ?_
    refine nQ id ?_
    refine rS 2 [(0, s0 6 lh6_4.length), (1, .func (.func 80) #[] #[pp 4 0, pp 2 0]), (5, ii x5_4), (6, ii x6_4), (7, pp 7 0), (26, .func (.func 80) #[] #[pp 4 0, pp 2 0]), (27, .agg #[ii ((List.getD lh6_4 (Int.toNat x6_4) (0, 0)).1), ii ((List.getD lh6_4 (Int.toNat x6_4) (0, 0)).2)])] ?_
    refine XR.callK E0_ok [0, 1, 5, 6, 7, 28] rfl (K := 80) (args := [.agg #[ii ((List.getD lh6_4 (Int.toNat x6_4) (0, 0)).1), ii ((List.getD lh6_4 (Int.toNat x6_4) (0, 0)).2)], pp 4 0, pp 2 0]) (d := (some (path 12 28))) (by kernel_rfl) ?_
    refine KC.bodyN E0_ok (F := Proofs.Try.f80) (by kernel_rfl) (code := f37_C80) (by kernel_rfl) (nt := 23) (by kernel_rfl) (rs := [.tmp 4]) (by kernel_rfl) (by kernel_rfl) (σ := [(0, .agg #[ii ((List.getD lh6_4 (Int.toNat x6_4) (0, 0)).1), ii ((List.getD lh6_4 (Int.toNat x6_4) (0, 0)).2)]), (1, pp 4 0), (2, pp 2 0)]) (by kernel_rfl) ?_
    refine qQ ?_
    refine rT 2 [(1, pp 4 0), (2, pp 2 0), (3, pp 8 0)] [(8, .cells [ii ((List.getD lh6_4 (Int.toNat x6_4) (0, 0)).1), ii ((List.getD lh6_4 (Int.toNat x6_4) (0, 0)).2)] 0 61 0), (7, .cells [ii ((List.getD lh6_4 (Int.toNat x6_4) (0, 0)).1), ii ((List.getD lh6_4 (Int.toNat x6_4) (0, 0)).2)] 0 61 0), (6, rc encP lh6_4 0 61 2), (4, .cells [ii xh4_0_2, ii xh4_1_2] 0 61 0), (3, rc encP lh3_1 0 61 2), (2, .cells [s0 3 lh3_1.length] 0 22 0), (1, rc (encI .i64) lh1_1 0 3 1), (0, rc encP a z0 y0 2)] 9 ?_
    refine nQ id ?_
    refine rS 6 [(1, pp 4 0), (2, pp 2 0), (3, pp 8 0), (10, .bool (decide (((List.getD lh6_4 (Int.toNat x6_4) (0, 0)).1) ≤ xh4_1_2)))] ?_
    cases b3 : (decide (((List.getD lh6_4 (Int.toNat x6_4) (0, 0)).1) ≤ xh4_1_2) : Bool) with
    | true =>
     have h := cT b3 h
     refine rS 7 [(2, pp 2 0), (3, pp 8 0), (17, .bool (decide (xh4_0_2 ≤ ((List.getD lh6_4 (Int.toNat x6_4) (0, 0)).2))))] ?_
     cases b4 : (decide (xh4_0_2 ≤ ((List.getD lh6_4 (Int.toNat x6_4) (0, 0)).2)) : Bool) with
     | true =>
      have h := cT b4 h
      refine rS 6 [(4, .bool true)] ?_
      refine dQ ?_
      show XQ _ _ _ _ _ _ _ _
      refine XQ.ret (by kernel_rfl) ?_
      refine ⟨fun i q => (by cases q), .bool true, (by kernel_rfl), ?_⟩
      refine XR.conv (σ' := [(0, s0 6 lh6_4.length), (1, .func (.func 80) #[] #[pp 4 0, pp 2 0]), (5, ii x5_4), (6, ii x6_4), (7, pp 7 0), (28, .bool true)]) (h' := [(8, .cells [ii ((List.getD lh6_4 (Int.toNat x6_4) (0, 0)).1), ii ((List.getD lh6_4 (Int.toNat x6_4) (0, 0)).2)] 0 61 0), (7, .cells [ii ((List.getD lh6_4 (Int.toNat x6_4) (0, 0)).1), ii ((List.getD lh6_4 (Int.toNat x6_4) (0, 0)).2)] 0 61 0), (6, rc encP lh6_4 0 61 2), (4, .cells [ii xh4_0_2, ii xh4_1_2] 0 61 0), (3, rc encP lh3_1 0 61 2), (2, .cells [s0 3 lh3_1.length] 0 22 0), (1, rc (encI .i64) lh1_1 0 3 1), (0, rc encP a z0 y0 2)]) (c' := 9) ?_ (by kernel_rfl)
      refine rS 1 [(0, s0 6 lh6_4.length), (1, .func (.func 80) #[] #[pp 4 0, pp 2 0]), (5, ii x5_4), (6, ii x6_4), (7, pp 7 0), (29, .bool false)] ?_
      refine dQ ?_
      show XQ _ _ _ _ _ _ _ _
      refine iF (.tmp 29) ?_
      refine kQ ?_
      show XQ _ _ _ _ _ _ _ _
      refine rQ ?_
      refine rS 3 [(0, s0 6 lh6_4.length), (1, .func (.func 80) #[] #[pp 4 0, pp 2 0]), (5, ii x5_4), (6, ii (w64 (x6_4 + 1)))] ?_
      refine dQ ?_
      show XL _ _ _ _ _ _ _ _ _
      refine XL.ren (σ' := [(0, s0 6 lh6_4.length), (1, .func (.func 80) #[] #[pp 4 0, pp 2 0]), (5, ii x5_4), (6, ii (w64 (x6_4 + 1)))]) (h' := [(6, rc encP lh6_4 0 61 2), (4, .cells [ii xh4_0_2, ii xh4_1_2] 0 61 0), (3, rc encP lh3_1 0 61 2), (2, .cells [s0 3 lh3_1.length] 0 22 0), (1, rc (encI .i64) lh1_1 0 3 1), (0, rc encP a z0 y0 2)]) (c' := 7) [0, 1, 2, 3, 4, 5, 6] (by decide) rfl ⟨rfl, rfl, rfl, rfl, trivial⟩ ⟨⟨_, _, rfl, rfl, .inl ⟨rfl, rwP⟩⟩, ⟨_, _, rfl, rfl, .inr ⟨_, _, _, _, rfl, rfl⟩⟩, ⟨_, _, rfl, rfl, .inl ⟨rfl, rwP⟩⟩, ⟨_, _, rfl, rfl, .inr ⟨_, _, _, _, rfl, rfl⟩⟩, ⟨_, _, rfl, rfl, .inl ⟨rfl, rwI⟩⟩, ⟨_, _, rfl, rfl, .inl ⟨rfl, rwP⟩⟩, trivial⟩ rfl ?_
      refine XL.conv (f37_4_ok m fuel z0 y0 a lh1_1 lh3_1 xh4_0_2 xh4_1_2 x5_4 (w64 (x6_4 + 1)) lh6_4 o h Q hQ) (by first | rfl | simp)
     | false =>
      have h := cF b4 h
      refine rS 2 [(17, .bool false), (18, s0 3 lh3_1.length), (19, .agg #[ii ((List.getD lh6_4 (Int.toNat x6_4) (0, 0)).1), ii ((List.getD lh6_4 (Int.toNat x6_4) (0, 0)).2)])] ?_
      obtain ⟨r78, r78_h, h⟩ := bS h
      refine XR.call E0_ok [17, 20] rfl (K := 79) (args := [s0 3 lh3_1.length, .agg #[ii ((List.getD lh6_4 (Int.toNat x6_4) (0, 0)).1), ii ((List.getD lh6_4 (Int.toNat x6_4) (0, 0)).2)]]) (d := (some (path 12 20))) (by kernel_rfl) (KQ.call (KC.quiet E0_ok (args0 := [s0 0 lh3_1.length, .agg #[ii ((List.getD lh6_4 (Int.toNat x6_4) (0, 0)).1), ii ((List.getD lh6_4 (Int.toNat x6_4) (0, 0)).2)]]) (h0 := [(0, rc encP lh3_1 (0 + ((rowC encP lh3_1).length + 1)) 61 2)]) (n := 1) (V := .bool r78) [3] (f79_ok m (0 + ((rowC encP lh3_1).length + 1)) 61 lh3_1 ((List.getD lh6_4 (Int.toNat x6_4) (0, 0)).1) ((List.getD lh6_4 (Int.toNat x6_4) (0, 0)).2) r78 r78_h) rfl (by rfl) (by decide) rfl (by kernel_rfl) ⟨⟨_, _, rfl, rfl, .inl ⟨rfl, rwP⟩⟩, trivial⟩) rfl) ?_
      rintro _ _ _ ⟨rfl, rfl, rfl⟩
      refine XR.conv (σ' := [(17, .bool false), (20, .bool r78)]) (h' := [(8, .cells [ii ((List.getD lh6_4 (Int.toNat x6_4) (0, 0)).1), ii ((List.getD lh6_4 (Int.toNat x6_4) (0, 0)).2)] 0 61 0), (7, .cells [ii ((List.getD lh6_4 (Int.toNat x6_4) (0, 0)).1), ii ((List.getD lh6_4 (Int.toNat x6_4) (0, 0)).2)] 0 61 0), (6, rc encP lh6_4 0 61 2), (4, .cells [ii xh4_0_2, ii xh4_1_2] 0 61 0), (3, rc encP lh3_1 0 61 2), (2, .cells [s0 3 lh3_1.length] 0 22 0), (1, rc (encI .i64) lh1_1 0 3 1), (0, rc encP a z0 y0 2)]) (c' := 9) ?_ (by kernel_rfl)
      refine rS 3 [(4, .bool (!r78))] ?_
      refine dQ ?_
      show XQ _ _ _ _ _ _ _ _
      refine XQ.ret (by kernel_rfl) ?_
      refine ⟨fun i q => (by cases q), .bool (!r78), (by kernel_rfl), ?_⟩
      refine XR.conv (σ' := [(0, s0 6 lh6_4.length), (1, .func (.func 80) #[] #[pp 4 0, pp 2 0]), (5, ii x5_4), (6, ii x6_4), (7, pp 7 0), (28, .bool (!r78))]) (h' := [(8, .cells [ii ((List.getD lh6_4 (Int.toNat x6_4) (0, 0)).1), ii ((List.getD lh6_4 (Int.toNat x6_4) (0, 0)).2)] 0 61 0), (7, .cells [ii ((List.getD lh6_4 (Int.toNat x6_4) (0, 0)).1), ii ((List.getD lh6_4 (Int.toNat x6_4) (0, 0)).2)] 0 61 0), (6, rc encP lh6_4 0 61 2), (4, .cells [ii xh4_0_2, ii xh4_1_2] 0 61 0), (3, rc encP lh3_1 0 61 2), (2, .cells [s0 3 lh3_1.length] 0 22 0), (1, rc (encI .i64) lh1_1 0 3 1), (0, rc encP a z0 y0 2)]) (c' := 9) ?_ (by kernel_rfl)
      refine rS 1 [(0, s0 6 lh6_4.length), (1, .func (.func 80) #[] #[pp 4 0, pp 2 0]), (5, ii x5_4), (6, ii x6_4), (7, pp 7 0), (29, .bool (!(!r78)))] ?_
      refine dQ ?_
      show XQ _ _ _ _ _ _ _ _
      cases b5 : (!(!r78) : Bool) with
      | true =>
       have h := cT b5 h
       refine iT (.tmp 29) ?_
       refine qQ ?_
       refine rS 3 [(0, s0 6 lh6_4.length), (1, .func (.func 80) #[] #[pp 4 0, pp 2 0]), (5, ii x5_4), (6, ii x6_4), (30, s0 6 lh6_4.length), (31, ii x5_4), (32, .agg #[ii ((List.getD lh6_4 (Int.toNat x6_4) (0, 0)).1), ii ((List.getD lh6_4 (Int.toNat x6_4) (0, 0)).2)])] ?_
       cases b6 : (inRow x5_4 lh6_4.length : Bool) with
       | false => cases (cF b6 h)
       | true =>
        have h := cT b6 h
        refine XR.rd E0_ok [0, 1, 5, 6, 32, 33] rfl (v := pp 6 ((Int.toNat x5_4) * 2)) (v_idx (s := 2) (x := (src 42 (.tmp 30))) (y := (src 42 (.tmp 31))) (b := 6) (o := 0) (len := lh6_4.length) (cap := lh6_4.length) (ik := .i64) (i := x5_4) (off := (Int.toNat x5_4) * 2) (d := (some (path 12 33))) (by kernel_rfl) (by kernel_rfl) (by kernel_rfl) b6 (by omega)) (σ' := [(0, s0 6 lh6_4.length), (1, .func (.func 80) #[] #[pp 4 0, pp 2 0]), (5, ii x5_4), (6, ii x6_4), (32, .agg #[ii ((List.getD lh6_4 (Int.toNat x6_4) (0, 0)).1), ii ((List.getD lh6_4 (Int.toNat x6_4) (0, 0)).2)]), (33, pp 6 ((Int.toNat x5_4) * 2))]) (by kernel_rfl) ?_
        refine XR.ef E0_ok [0, 1, 5, 6] rfl (e_store encP_ok (size := 2) (x := (src 42 (.tmp 33))) (y := (src 42 (.tmp 32))) (b := 6) (off := (Int.toNat x5_4) * 2) (xs := lh6_4) (e := 61) (es := 2) (d := none) (h' := [(8, .cells [ii ((List.getD lh6_4 (Int.toNat x6_4) (0, 0)).1), ii ((List.getD lh6_4 (Int.toNat x6_4) (0, 0)).2)] 0 61 0), (7, .cells [ii ((List.getD lh6_4 (Int.toNat x6_4) (0, 0)).1), ii ((List.getD lh6_4 (Int.toNat x6_4) (0, 0)).2)] 0 61 0), (6, rc encP (List.set lh6_4 (Int.toNat x5_4) ((List.getD lh6_4 (Int.toNat x6_4) (0, 0)).1, (List.getD lh6_4 (Int.toNat x6_4) (0, 0)).2)) 0 61 2), (4, .cells [ii xh4_0_2, ii xh4_1_2] 0 61 0), (3, rc encP lh3_1 0 61 2), (2, .cells [s0 3 lh3_1.length] 0 22 0), (1, rc (encI .i64) lh1_1 0 3 1), (0, rc encP a z0 y0 2)]) (w := .agg #[ii ((List.getD lh6_4 (Int.toNat x6_4) (0, 0)).1), ii ((List.getD lh6_4 (Int.toNat x6_4) (0, 0)).2)]) (ws := [ii ((List.getD lh6_4 (Int.toNat x6_4) (0, 0)).1), ii ((List.getD lh6_4 (Int.toNat x6_4) (0, 0)).2)]) (a := ((List.getD lh6_4 (Int.toNat x6_4) (0, 0)).1, (List.getD lh6_4 (Int.toNat x6_4) (0, 0)).2)) (by kernel_rfl) (by kernel_rfl) (by kernel_rfl) (Int.toNat x5_4) 0 (0, 0) (by first | rfl | omega) (row_len (inRow_toNat b6) (by simp)) (by kernel_rfl) rfl rfl rfl rfl rfl (by kernel_rfl)) (σ' := [(0, s0 6 lh6_4.length), (1, .func (.func 80) #[] #[pp 4 0, pp 2 0]), (5, ii x5_4), (6, ii x6_4)]) (by kernel_rfl) ?_
        refine dQ ?_
        show XQ _ _ _ _ _ _ _ _
        refine rQ ?_
        refine rS 3 [(0, s0 6 lh6_4.length), (1, .func (.func 80) #[] #[pp 4 0, pp 2 0]), (5, ii (w64 (x5_4 + 1))), (6, ii x6_4)] ?_
        refine dQ ?_
        show XQ _ _ _ _ _ _ _ _
        refine rQ ?_
        refine rS 3 [(0, s0 6 lh6_4.length), (1, .func (.func 80) #[] #[pp 4 0, pp 2 0]), (5, ii (w64 (x5_4 + 1))), (6, ii (w64 (x6_4 + 1)))] ?_
        refine dQ ?_
        show XL _ _ _ _ _ _ _ _ _
        refine XL.ren (σ' := [(0, s0 6 lh6_4.length), (1, .func (.func 80) #[] #[pp 4 0, pp 2 0]), (5, ii (w64 (x5_4 + 1))), (6, ii (w64 (x6_4 + 1)))]) (h' := [(6, rc encP (List.set lh6_4 (Int.toNat x5_4) ((List.getD lh6_4 (Int.toNat x6_4) (0, 0)).1, (List.getD lh6_4 (Int.toNat x6_4) (0, 0)).2)) 0 61 2), (4, .cells [ii xh4_0_2, ii xh4_1_2] 0 61 0), (3, rc encP lh3_1 0 61 2), (2, .cells [s0 3 lh3_1.length] 0 22 0), (1, rc (encI .i64) lh1_1 0 3 1), (0, rc encP a z0 y0 2)]) (c' := 7) [0, 1, 2, 3, 4, 5, 6] (by decide) rfl ⟨rfl, rfl, rfl, rfl, trivial⟩ ⟨⟨_, _, rfl, rfl, .inl ⟨rfl, rwP⟩⟩, ⟨_, _, rfl, rfl, .inr ⟨_, _, _, _, rfl, rfl⟩⟩, ⟨_, _, rfl, rfl, .inl ⟨rfl, rwP⟩⟩, ⟨_, _, rfl, rfl, .inr ⟨_, _, _, _, rfl, rfl⟩⟩, ⟨_, _, rfl, rfl, .inl ⟨rfl, rwI⟩⟩, ⟨_, _, rfl, rfl, .inl ⟨rfl, rwP⟩⟩, trivial⟩ rfl ?_
        refine XL.conv (f37_4_ok m fuel z0 y0 a lh1_1 lh3_1 xh4_0_2 xh4_1_2 (w64 (x5_4 + 1)) (w64 (x6_4 + 1)) (List.set lh6_4 (Int.toNat x5_4) ((List.getD lh6_4 (Int.toNat x6_4) (0, 0)).1, (List.getD lh6_4 (Int.toNat x6_4) (0, 0)).2)) o h Q hQ) (by first | rfl | simp)
      | false =>
       have h := cF b5 h
       refine iF (.tmp 29) ?_
       refine kQ ?_
       show XQ _ _ _ _ _ _ _ _
       refine rQ ?_
       refine rS 3 [(0, s0 6 lh6_4.length), (1, .func (.func 80) #[] #[pp 4 0, pp 2 0]), (5, ii x5_4), (6, ii (w64 (x6_4 + 1)))] ?_
       refine dQ ?_
       show XL _ _ _ _ _ _ _ _ _
       refine XL.ren (σ' := [(0, s0 6 lh6_4.length), (1, .func (.func 80) #[] #[pp 4 0, pp 2 0]), (5, ii x5_4), (6, ii (w64 (x6_4 + 1)))]) (h' := [(6, rc encP lh6_4 0 61 2), (4, .cells [ii xh4_0_2, ii xh4_1_2] 0 61 0), (3, rc encP lh3_1 0 61 2), (2, .cells [s0 3 lh3_1.length] 0 22 0), (1, rc (encI .i64) lh1_1 0 3 1), (0, rc encP a z0 y0 2)]) (c' := 7) [0, 1, 2, 3, 4, 5, 6] (by decide) rfl ⟨rfl, rfl, rfl, rfl, trivial⟩ ⟨⟨_, _, rfl, rfl, .inl ⟨rfl, rwP⟩⟩, ⟨_, _, rfl, rfl, .inr ⟨_, _, _, _, rfl, rfl⟩⟩, ⟨_, _, rfl, rfl, .inl ⟨rfl, rwP⟩⟩, ⟨_, _, rfl, rfl, .inr ⟨_, _, _, _, rfl, rfl⟩⟩, ⟨_, _, rfl, rfl, .inl ⟨rfl, rwI⟩⟩, ⟨_, _, rfl, rfl, .inl ⟨rfl, rwP⟩⟩, trivial⟩ rfl ?_
       refine XL.conv (f37_4_ok m fuel z0 y0 a lh1_1 lh3_1 xh4_0_2 xh4_1_2 x5_4 (w64 (x6_4 + 1)) lh6_4 o h Q hQ) (by first | rfl | simp)
    | false =>
     have h := cF b3 h
     refine rS 9 [(17, .bool false), (18, s0 3 lh3_1.length), (19, .agg #[ii ((List.getD lh6_4 (Int.toNat x6_4) (0, 0)).1), ii ((List.getD lh6_4 (Int.toNat x6_4) (0, 0)).2)])] ?_
     obtain ⟨r79, r79_h, h⟩ := bS h
     refine XR.call E0_ok [17, 20] rfl (K := 79) (args := [s0 3 lh3_1.length, .agg #[ii ((List.getD lh6_4 (Int.toNat x6_4) (0, 0)).1), ii ((List.getD lh6_4 (Int.toNat x6_4) (0, 0)).2)]]) (d := (some (path 12 20))) (by kernel_rfl) (KQ.call (KC.quiet E0_ok (args0 := [s0 0 lh3_1.length, .agg #[ii ((List.getD lh6_4 (Int.toNat x6_4) (0, 0)).1), ii ((List.getD lh6_4 (Int.toNat x6_4) (0, 0)).2)]]) (h0 := [(0, rc encP lh3_1 (0 + ((rowC encP lh3_1).length + 1)) 61 2)]) (n := 1) (V := .bool r79) [3] (f79_ok m (0 + ((rowC encP lh3_1).length + 1)) 61 lh3_1 ((List.getD lh6_4 (Int.toNat x6_4) (0, 0)).1) ((List.getD lh6_4 (Int.toNat x6_4) (0, 0)).2) r79 r79_h) rfl (by rfl) (by decide) rfl (by kernel_rfl) ⟨⟨_, _, rfl, rfl, .inl ⟨rfl, rwP⟩⟩, trivial⟩) rfl) ?_
     rintro _ _ _ ⟨rfl, rfl, rfl⟩
     refine XR.conv (σ' := [(17, .bool false), (20, .bool r79)]) (h' := [(8, .cells [ii ((List.getD lh6_4 (Int.toNat x6_4) (0, 0)).1), ii ((List.getD lh6_4 (Int.toNat x6_4) (0, 0)).2)] 0 61 0), (7, .cells [ii ((List.getD lh6_4 (Int.toNat x6_4) (0, 0)).1), ii ((List.getD lh6_4 (Int.toNat x6_4) (0, 0)).2)] 0 61 0), (6, rc encP lh6_4 0 61 2), (4, .cells [ii xh4_0_2, ii xh4_1_2] 0 61 0), (3, rc encP lh3_1 0 61 2), (2, .cells [s0 3 lh3_1.length] 0 22 0), (1, rc (encI .i64) lh1_1 0 3 1), (0, rc encP a z0 y0 2)]) (c' := 9) ?_ (by kernel_rfl)
     refine rS 3 [(4, .bool (!r79))] ?_
     refine dQ ?_
     show XQ _ _ _ _ _ _ _ _
     refine XQ.ret (by kernel_rfl) ?_
     refine ⟨fun i q => (by cases q), .bool (!r79), (by kernel_rfl), ?_⟩
     refine XR.conv (σ' := [(0, s0 6 lh6_4.length), (1, .func (.func 80) #[] #[pp 4 0, pp 2 0]), (5, ii x5_4), (6, ii x6_4), (7, pp 7 0), (28, .bool (!r79))]) (h' := [(8, .cells [ii ((List.getD lh6_4 (Int.toNat x6_4) (0, 0)).1), ii ((List.getD lh6_4 (Int.toNat x6_4) (0, 0)).2)] 0 61 0), (7, .cells [ii ((List.getD lh6_4 (Int.toNat x6_4) (0, 0)).1), ii ((List.getD lh6_4 (Int.toNat x6_4) (0, 0)).2)] 0 61 0), (6, rc encP lh6_4 0 61 2), (4, .cells [ii xh4_0_2, ii xh4_1_2] 0 61 0), (3, rc encP lh3_1 0 61 2), (2, .cells [s0 3 lh3_1.length] 0 22 0), (1, rc (encI .i64) lh1_1 0 3 1), (0, rc encP a z0 y0 2)]) (c' := 9) ?_ (by kernel_rfl)
     refine rS 1 [(0, s0 6 lh6_4.length), (1, .func (.func 80) #[] #[pp 4 0, pp 2 0]), (5, ii x5_4), (6, ii x6_4), (7, pp 7 0), (29, .bool (!(!r79)))] ?_
     refine dQ ?_
     show XQ _ _ _ _ _ _ _ _
     cases b7 : (!(!r79) : Bool) with
     | true =>
      have h := cT b7 h
      refine iT (.tmp 29) ?_
      refine qQ ?_
      refine rS 3 [(0, s0 6 lh6_4.length), (1, .func (.func 80) #[] #[pp 4 0, pp 2 0]), (5, ii x5_4), (6, ii x6_4), (30, s0 6 lh6_4.length), (31, ii x5_4), (32, .agg #[ii ((List.getD lh6_4 (Int.toNat x6_4) (0, 0)).1), ii ((List.getD lh6_4 (Int.toNat x6_4) (0, 0)).2)])] ?_
      cases b8 : (inRow x5_4 lh6_4.length : Bool) with
      | false => cases (cF b8 h)
      | true =>
       have h := cT b8 h
       refine XR.rd E0_ok [0, 1, 5, 6, 32, 33] rfl (v := pp 6 ((Int.toNat x5_4) * 2)) (v_idx (s := 2) (x := (src 42 (.tmp 30))) (y := (src 42 (.tmp 31))) (b := 6) (o := 0) (len := lh6_4.length) (cap := lh6_4.length) (ik := .i64) (i := x5_4) (off := (Int.toNat x5_4) * 2) (d := (some (path 12 33))) (by kernel_rfl) (by kernel_rfl) (by kernel_rfl) b8 (by omega)) (σ' := [(0, s0 6 lh6_4.length), (1, .func (.func 80) #[] #[pp 4 0, pp 2 0]), (5, ii x5_4), (6, ii x6_4), (32, .agg #[ii ((List.getD lh6_4 (Int.toNat x6_4) (0, 0)).1), ii ((List.getD lh6_4 (Int.toNat x6_4) (0, 0)).2)]), (33, pp 6 ((Int.toNat x5_4) * 2))]) (by kernel_rfl) ?_
       refine XR.ef E0_ok [0, 1, 5, 6] rfl (e_store encP_ok (size := 2) (x := (src 42 (.tmp 33))) (y := (src 42 (.tmp 32))) (b := 6) (off := (Int.toNat x5_4) * 2) (xs := lh6_4) (e := 61) (es := 2) (d := none) (h' := [(8, .cells [ii ((List.getD lh6_4 (Int.toNat x6_4) (0, 0)).1), ii ((List.getD lh6_4 (Int.toNat x6_4) (0, 0)).2)] 0 61 0), (7, .cells [ii ((List.getD lh6_4 (Int.toNat x6_4) (0, 0)).1), ii ((List.getD lh6_4 (Int.toNat x6_4) (0, 0)).2)] 0 61 0), (6, rc encP (List.set lh6_4 (Int.toNat x5_4) ((List.getD lh6_4 (Int.toNat x6_4) (0, 0)).1, (List.getD lh6_4 (Int.toNat x6_4) (0, 0)).2)) 0 61 2), (4, .cells [ii xh4_0_2, ii xh4_1_2] 0 61 0), (3, rc encP lh3_1 0 61 2), (2, .cells [s0 3 lh3_1.length] 0 22 0), (1, rc (encI .i64) lh1_1 0 3 1), (0, rc encP a z0 y0 2)]) (w := .agg #[ii ((List.getD lh6_4 (Int.toNat x6_4) (0, 0)).1), ii ((List.getD lh6_4 (Int.toNat x6_4) (0, 0)).2)]) (ws := [ii ((List.getD lh6_4 (Int.toNat x6_4) (0, 0)).1), ii ((List.getD lh6_4 (Int.toNat x6_4) (0, 0)).2)]) (a := ((List.getD lh6_4 (Int.toNat x6_4) (0, 0)).1, (List.getD lh6_4 (Int.toNat x6_4) (0, 0)).2)) (by kernel_rfl) (by kernel_rfl) (by kernel_rfl) (Int.toNat x5_4) 0 (0, 0) (by first | rfl | omega) (row_len (inRow_toNat b8) (by simp)) (by kernel_rfl) rfl rfl rfl rfl rfl (by kernel_rfl)) (σ' := [(0, s0 6 lh6_4.length), (1, .func (.func 80) #[] #[pp 4 0, pp 2 0]), (5, ii x5_4), (6, ii x6_4)]) (by kernel_rfl) ?_
       refine dQ ?_
       show XQ _ _ _ _ _ _ _ _
       refine rQ ?_
       refine rS 3 [(0, s0 6 lh6_4.length), (1, .func (.func 80) #[] #[pp 4 0, pp 2 0]), (5, ii (w64 (x5_4 + 1))), (6, ii x6_4)] ?_
       refine dQ ?_
       show XQ _ _ _ _ _ _ _ _
       refine rQ ?_
       refine rS 3 [(0, s0 6 lh6_4.length), (1, .func (.func 80) #[] #[pp 4 0, pp 2 0]), (5, ii (w64 (x5_4 + 1))), (6, ii (w64 (x6_4 + 1)))] ?_
       refine dQ ?_
       show XL _ _ _ _ _ _ _ _ _
       refine XL.ren (σ' := [(0, s0 6 lh6_4.length), (1, .func (.func 80) #[] #[pp 4 0, pp 2 0]), (5, ii (w64 (x5_4 + 1))), (6, ii (w64 (x6_4 + 1)))]) (h' := [(6, rc encP (List.set lh6_4 (Int.toNat x5_4) ((List.getD lh6_4 (Int.toNat x6_4) (0, 0)).1, (List.getD lh6_4 (Int.toNat x6_4) (0, 0)).2)) 0 61 2), (4, .cells [ii xh4_0_2, ii xh4_1_2] 0 61 0), (3, rc encP lh3_1 0 61 2), (2, .cells [s0 3 lh3_1.length] 0 22 0), (1, rc (encI .i64) lh1_1 0 3 1), (0, rc encP a z0 y0 2)]) (c' := 7) [0, 1, 2, 3, 4, 5, 6] (by decide) rfl ⟨rfl, rfl, rfl, rfl, trivial⟩ ⟨⟨_, _, rfl, rfl, .inl ⟨rfl, rwP⟩⟩, ⟨_, _, rfl, rfl, .inr ⟨_, _, _, _, rfl, rfl⟩⟩, ⟨_, _, rfl, rfl, .inl ⟨rfl, rwP⟩⟩, ⟨_, _, rfl, rfl, .inr ⟨_, _, _, _, rfl, rfl⟩⟩, ⟨_, _, rfl, rfl, .inl ⟨rfl, rwI⟩⟩, ⟨_, _, rfl, rfl, .inl ⟨rfl, rwP⟩⟩, trivial⟩ rfl ?_
       refine XL.conv (f37_4_ok m fuel z0 y0 a lh1_1 lh3_1 xh4_0_2 xh4_1_2 (w64 (x5_4 + 1)) (w64 (x6_4 + 1)) (List.set lh6_4 (Int.toNat x5_4) ((List.getD lh6_4 (Int.toNat x6_4) (0, 0)).1, (List.getD lh6_4 (Int.toNat x6_4) (0, 0)).2)) o h Q hQ) (by first | rfl | simp)
     | false =>
      have h := cF b7 h
      refine iF (.tmp 29) ?_
      refine kQ ?_
      show XQ _ _ _ _ _ _ _ _
      refine rQ ?_
      refine rS 3 [(0, s0 6 lh6_4.length), (1, .func (.func 80) #[] #[pp 4 0, pp 2 0]), (5, ii x5_4), (6, ii (w64 (x6_4 + 1)))] ?_
      refine dQ ?_
      show XL _ _ _ _ _ _ _ _ _
      refine XL.ren (σ' := [(0, s0 6 lh6_4.length), (1, .func (.func 80) #[] #[pp 4 0, pp 2 0]), (5, ii x5_4), (6, ii (w64 (x6_4 + 1)))]) (h' := [(6, rc encP lh6_4 0 61 2), (4, .cells [ii xh4_0_2, ii xh4_1_2] 0 61 0), (3, rc encP lh3_1 0 61 2), (2, .cells [s0 3 lh3_1.length] 0 22 0), (1, rc (encI .i64) lh1_1 0 3 1), (0, rc encP a z0 y0 2)]) (c' := 7) [0, 1, 2, 3, 4, 5, 6] (by decide) rfl ⟨rfl, rfl, rfl, rfl, trivial⟩ ⟨⟨_, _, rfl, rfl, .inl ⟨rfl, rwP⟩⟩, ⟨_, _, rfl, rfl, .inr ⟨_, _, _, _, rfl, rfl⟩⟩, ⟨_, _, rfl, rfl, .inl ⟨rfl, rwP⟩⟩, ⟨_, _, rfl, rfl, .inr ⟨_, _, _, _, rfl, rfl⟩⟩, ⟨_, _, rfl, rfl, .inl ⟨rfl, rwI⟩⟩, ⟨_, _, rfl, rfl, .inl ⟨rfl, rwP⟩⟩, trivial⟩ rfl ?_
      refine XL.conv (f37_4_ok m fuel z0 y0 a lh1_1 lh3_1 xh4_0_2 xh4_1_2 x5_4 (w64 (x6_4 + 1)) lh6_4 o h Q hQ) (by first | rfl | simp)
  | false =>
   have h := cF b1 h
   refine iF (.tmp 19) ?_
   refine XQ.ren (σ' := [(0, s0 6 lh6_4.length), (5, ii x5_4)]) (h' := [(6, rc encP lh6_4 0 61 2), (4, .cells [ii xh4_0_2, ii xh4_1_2] 0 61 0), (3, rc encP lh3_1 0 61 2), (2, .cells [s0 3 lh3_1.length] 0 22 0), (1, rc (encI .i64) lh1_1 0 3 1), (0, rc encP a z0 y0 2)]) (c' := 7) [0, 1, 2, 3, 4, 5, 6] (by decide) rfl ⟨rfl, rfl, trivial⟩ ⟨⟨_, _, rfl, rfl, .inl ⟨rfl, rwP⟩⟩, ⟨_, _, rfl, rfl, .inr ⟨_, _, _, _, rfl, rfl⟩⟩, ⟨_, _, rfl, rfl, .inl ⟨rfl, rwP⟩⟩, ⟨_, _, rfl, rfl, .inr ⟨_, _, _, _, rfl, rfl⟩⟩, ⟨_, _, rfl, rfl, .inl ⟨rfl, rwI⟩⟩, ⟨_, _, rfl, rfl, .inl ⟨rfl, rwP⟩⟩, trivial⟩ rfl ?_
   refine XQ.exit (i := 0) (by kernel_rfl) ?_
   cases h
   exact hQ
def f37_2 (m : Nat) (a : List (Int × Int)) (lh1_1 : List Int) (lh3_1 : List (Int × Int)) (xh4_0_2 : Int) (xh4_1_2 : Int) (lh6_2 : List (Int × Int)) : Option (List (Int × Int)) :=
 (f37_3 m m a lh1_1 lh3_1 xh4_0_2 xh4_1_2 lh6_2 ((lh6_2.length : Nat) : Int) 0).bind fun o3 =>
  match o3 with
  | .r x4_r3 =>
   cond (x4_r3 == (-1)) (
    some (List.take lh6_2.length lh6_2)
   ) (
    (f37_4 m m a lh1_1 lh3_1 xh4_0_2 xh4_1_2 x4_r3 (w64 (x4_r3 + 1)) lh6_2).bind fun o4 =>
     cond (cutOK o4.1 ((o4.2.length : Nat) : Int) ((o4.2.length : Nat) : Int) o4.2.length) (
      cond (decide ((Int.toNat o4.1) + (o4.2.length - (Int.toNat o4.1)) ≤ o4.2.length)) (
       cond (cutOK 0 o4.1 ((o4.2.length : Nat) : Int) o4.2.length) (
        cond (decide (Int.toNat o4.1 ≤ (clearL (0, 0) o4.2 (Int.toNat o4.1) (o4.2.length - (Int.toNat o4.1))).length)) (
         cond (decide (Int.toNat o4.1 ≤ o4.2.length)) (
          some (List.take (Int.toNat o4.1) (clearL (0, 0) o4.2 (Int.toNat o4.1) (o4.2.length - (Int.toNat o4.1))))
         ) none
        ) none
       ) none
      ) none
     ) none
   )
  | .x0 =>
   some (List.take lh6_2.length lh6_2)
theorem f37_2_ok (m : Nat) (z0 : Nat) (y0 : Nat) (a : List (Int × Int)) (lh1_1 : List Int) (lh3_1 : List (Int × Int)) (xh4_0_2 : Int) (xh4_1_2 : Int) (lh6_2 : List (Int × Int)) (o : (List (Int × Int))) (h : f37_2 m a lh1_1 lh3_1 xh4_0_2 xh4_1_2 lh6_2 = some o) (R : Value → Heap → Nat → Prop) (hR : R (s0 6 o.length) [(6, rc encP o 0 61 2), (4, .cells [ii xh4_0_2, ii xh4_1_2] 0 61 0), (3, rc encP lh3_1 0 61 2), (2, .cells [s0 3 lh3_1.length] 0 22 0), (1, rc (encI .i64) lh1_1 0 3 1), (0, rc encP a z0 y0 2)] 7) : KC E0 73 [s0 6 lh6_2.length, .func (.func 80) #[] #[pp 4 0, pp 2 0]] [(6, rc encP lh6_2 0 61 2), (4, .cells [ii xh4_0_2, ii xh4_1_2] 0 61 0), (3, rc encP lh3_1 0 61 2), (2, .cells [s0 3 lh3_1.length] 0 22 0), (1, rc (encI .i64) lh1_1 0 3 1), (0, rc encP a z0 y0 2)] 7 R := by
 refine KC.shrink encP_ok rfl (e := 61) 6 ?_
 refine KC.bodyN E0_ok (F := Proofs.Try.f73) (by kernel_rfl) (code := f37_C73) (by kernel_rfl) (nt := 42) (by kernel_rfl) (rs := [.tmp 4]) (by kernel_rfl) (by kernel_rfl) (σ := [(0, s0 6 lh6_2.length), (1, .func (.func 80) #[] #[pp 4 0, pp 2 0])]) (by kernel_rfl) ?_
 unfold f37_2 at h
 refine qQ ?_
 refine rS 1 [(0, s0 6 lh6_2.length), (1, .func (.func 80) #[] #[pp 4 0, pp 2 0])] ?_
 refine nQ id ?_
 refine rS 2 [(0, s0 6 lh6_2.length), (1, .func (.func 80) #[] #[pp 4 0, pp 2 0]), (8, s0 6 lh6_2.length), (9, .func (.func 80) #[] #[pp 4 0, pp 2 0])] ?_
 refine XR.callK E0_ok [0, 1, 10] rfl (K := 93) (args := [s0 6 lh6_2.length, .func (.func 80) #[] #[pp 4 0, pp 2 0]]) (d := (some (path 12 10))) (by kernel_rfl) ?_
 refine KC.bodyN E0_ok (F := Proofs.Try.f93) (by kernel_rfl) (code := f37_C93) (by kernel_rfl) (nt := 19) (by kernel_rfl) (rs := [.tmp 4]) (by kernel_rfl) (by kernel_rfl) (σ := [(0, s0 6 lh6_2.length), (1, .func (.func 80) #[] #[pp 4 0, pp 2 0])]) (by kernel_rfl) ?_
 refine qQ ?_
 refine rS 1 [(0, s0 6 lh6_2.length), (1, .func (.func 80) #[] #[pp 4 0, pp 2 0])] ?_
 refine dQ ?_
 show XQ _ _ _ _ _ _ _ _
 refine sQ ?_
 refine qQ ?_
 refine rS 3 [(0, s0 6 lh6_2.length), (1, .func (.func 80) #[] #[pp 4 0, pp 2 0]), (7, ii ((lh6_2.length : Nat) : Int)), (8, ii 0)] ?_
 refine dQ ?_
 show XQ _ _ _ _ _ _ _ _
 refine XQ.block (id := 0) (by kernel_rfl) ?_
 refine XQ.loop m (by kernel_rfl) ?_
 obtain ⟨o3, o3_h, h⟩ := bS h
 refine XL.ren (σ' := [(0, s0 6 lh6_2.length), (1, .func (.func 80) #[] #[pp 4 0, pp 2 0]), (7, ii ((lh6_2.length : Nat) : Int)), (8, ii 0)]) (h' := [(6, rc encP lh6_2 0 61 2), (4, .cells [ii xh4_0_2, ii xh4_1_2] 0 61 0), (3, rc encP lh3_1 0 61 2), (2, .cells [s0 3 lh3_1.length] 0 22 0), (1, rc (encI .i64) lh1_1 0 3 1), (0, rc encP a z0 y0 2)]) (c' := 7) [0, 1, 2, 3, 4, 5, 6] (by decide) rfl ⟨rfl, rfl, rfl, rfl, trivial⟩ ⟨⟨_, _, rfl, rfl, .inl ⟨rfl, rwP⟩⟩, ⟨_, _, rfl, rfl, .inr ⟨_, _, _, _, rfl, rfl⟩⟩, ⟨_, _, rfl, rfl, .inl ⟨rfl, rwP⟩⟩, ⟨_, _, rfl, rfl, .inr ⟨_, _, _, _, rfl, rfl⟩⟩, ⟨_, _, rfl, rfl, .inl ⟨rfl, rwI⟩⟩, ⟨_, _, rfl, rfl, .inl ⟨rfl, rwP⟩⟩, trivial⟩ rfl ?_
 cases o3 with
 | r x4_r3 =>
  dsimp only at h
  refine XL.conv (f37_3_ok m m z0 y0 a lh1_1 lh3_1 xh4_0_2 xh4_1_2 lh6_2 ((lh6_2.length : Nat) : Int) 0 (.r x4_r3) o3_h _ ?_) (by first | rfl | simp)
  refine ⟨fun i q => (by cases q), ii x4_r3, (by kernel_rfl), ?_⟩
  refine XR.conv (σ' := [(0, s0 6 lh6_2.length), (1, .func (.func 80) #[] #[pp 4 0, pp 2 0]), (10, ii x4_r3)]) (h' := [(6, rc encP lh6_2 0 61 2), (4, .cells [ii xh4_0_2, ii xh4_1_2] 0 61 0), (3, rc encP lh3_1 0 61 2), (2, .cells [s0 3 lh3_1.length] 0 22 0), (1, rc (encI .i64) lh1_1 0 3 1), (0, rc encP a z0 y0 2)]) (c' := 7) ?_ (by kernel_rfl)
  refine rS 1 [(0, s0 6 lh6_2.length), (1, .func (.func 80) #[] #[pp 4 0, pp 2 0]), (5, ii x4_r3)] ?_
  refine dQ ?_
  show XQ _ _ _ _ _ _ _ _
  refine sQ ?_
  refine qQ ?_
  refine rS 2 [(0, s0 6 lh6_2.length), (1, .func (.func 80) #[] #[pp 4 0, pp 2 0]), (5, ii x4_r3), (12, .bool (x4_r3 == (-1)))] ?_
  refine dQ ?_
  show XQ _ _ _ _ _ _ _ _
  cases b2 : (x4_r3 == (-1) : Bool) with
  | true =>
   have h := cT b2 h
   refine iT (.tmp 12) ?_
   refine qQ ?_
   refine rS 2 [(4, s0 6 lh6_2.length)] ?_
   refine dQ ?_
   show XQ _ _ _ _ _ _ _ _
   refine XQ.ren (σ' := [(4, s0 6 lh6_2.length)]) (h' := [(6, rc encP lh6_2 0 61 2), (4, .cells [ii xh4_0_2, ii xh4_1_2] 0 61 0), (3, rc encP lh3_1 0 61 2), (2, .cells [s0 3 lh3_1.length] 0 22 0), (1, rc (encI .i64) lh1_1 0 3 1), (0, rc encP a z0 y0 2)]) (c' := 7) [0, 1, 2, 3, 4, 5, 6] (by decide) rfl ⟨rfl, trivial⟩ ⟨⟨_, _, rfl, rfl, .inl ⟨rfl, rwP⟩⟩, ⟨_, _, rfl, rfl, .inr ⟨_, _, _, _, rfl, rfl⟩⟩, ⟨_, _, rfl, rfl, .inl ⟨rfl, rwP⟩⟩, ⟨_, _, rfl, rfl, .inr ⟨_, _, _, _, rfl, rfl⟩⟩, ⟨_, _, rfl, rfl, .inl ⟨rfl, rwI⟩⟩, ⟨_, _, rfl, rfl, .inl ⟨rfl, rwP⟩⟩, trivial⟩ rfl ?_
   refine XQ.ret (by kernel_rfl) ?_
   cases h
   exact ⟨fun i q => (by cases q), s0 6 lh6_2.length, (by kernel_rfl), lh6_2, lh6_2.length, lh6_2.length, [(6, rc encP (List.take lh6_2.length lh6_2) 0 61 2), (4, .cells [ii xh4_0_2, ii xh4_1_2] 0 61 0), (3, rc encP lh3_1 0 61 2), (2, .cells [s0 3 lh3_1.length] 0 22 0), (1, rc (encI .i64) lh1_1 0 3 1), (0, rc encP a z0 y0 2)], rfl, (by kernel_rfl), (Nat.le_refl _), (Nat.le_refl _), (by kernel_rfl), (by first | exact hR | simpa only [List.length_set] using hR)⟩
  | false =>
   have h := cF b2 h
   refine iF (.tmp 12) ?_
   refine kQ ?_
   show XQ _ _ _ _ _ _ _ _
   refine sQ ?_
   refine qQ ?_
   refine rS 3 [(0, s0 6 lh6_2.length), (1, .func (.func 80) #[] #[pp 4 0, pp 2 0]), (5, ii x4_r3), (6, ii (w64 (x4_r3 + 1)))] ?_
   refine dQ ?_
   show XQ _ _ _ _ _ _ _ _
   refine XQ.block (id := 0) (by kernel_rfl) ?_
   refine XQ.loop m (by kernel_rfl) ?_
   obtain ⟨o4, o4_h, h⟩ := bS h
   refine XL.ren (σ' := [(0, s0 6 lh6_2.length), (1, .func (.func 80) #[] #[pp 4 0, pp 2 0]), (5, ii x4_r3), (6, ii (w64 (x4_r3 + 1)))]) (h' := [(6, rc encP lh6_2 0 61 2), (4, .cells [ii xh4_0_2, ii xh4_1_2] 0 61 0), (3, rc encP lh3_1 0 61 2), (2, .cells [s0 3 lh3_1.length] 0 22 0), (1, rc (encI .i64) lh1_1 0 3 1), (0, rc encP a z0 y0 2)]) (c' := 7) [0, 1, 2, 3, 4, 5, 6] (by decide) rfl ⟨rfl, rfl, rfl, rfl, trivial⟩ ⟨⟨_, _, rfl, rfl, .inl ⟨rfl, rwP⟩⟩, ⟨_, _, rfl, rfl, .inr ⟨_, _, _, _, rfl, rfl⟩⟩, ⟨_, _, rfl, rfl, .inl ⟨rfl, rwP⟩⟩, ⟨_, _, rfl, rfl, .inr ⟨_, _, _, _, rfl, rfl⟩⟩, ⟨_, _, rfl, rfl, .inl ⟨rfl, rwI⟩⟩, ⟨_, _, rfl, rfl, .inl ⟨rfl, rwP⟩⟩, trivial⟩ rfl ?_
   refine XL.conv (f37_4_ok m m z0 y0 a lh1_1 lh3_1 xh4_0_2 xh4_1_2 x4_r3 (w64 (x4_r3 + 1)) lh6_2 o4 o4_h _ ?_) (by first | rfl | simp)
   show XQ _ _ _ _ _ _ _ _
   refine qQ ?_
   refine rS 2 [(0, s0 6 o4.2.length), (5, ii o4.1), (36, s0 6 o4.2.length), (37, ii o4.1)] ?_
   cases b4 : (cutOK o4.1 ((o4.2.length : Nat) : Int) ((o4.2.length : Nat) : Int) o4.2.length : Bool) with
   | false => cases (cF b4 h)
   | true =>
    have h := cT b4 h
    refine XR.rd E0_ok [0, 5, 38] rfl (v := sl 6 ((Int.toNat o4.1) * 2) (o4.2.length - (Int.toNat o4.1)) (o4.2.length - (Int.toNat o4.1))) (v_cut (nt := 42) (s := 2) (x := (src 42 (.tmp 36))) (lo := (some (.tmp 37))) (hi := none) (mx := none) (b := 6) (o := 0) (len := o4.2.length) (cap := o4.2.length) (l := (some o4.1)) (u := none) (m := none) (cs := rowC encP o4.2) (fz := 0) (e := 61) (es := 2) (o' := (Int.toNat o4.1) * 2) (len' := o4.2.length - (Int.toNat o4.1)) (cap' := o4.2.length - (Int.toNat o4.1)) (d := (some (path 12 38))) (by kernel_rfl) (by kernel_rfl) (by kernel_rfl) (by kernel_rfl) (by kernel_rfl) (by kernel_rfl) (by kernel_rfl) rfl b4 (by simp only [Option.getD_none, Option.getD_some] <;> omega) (by simp only [Option.getD_none, Option.getD_some] <;> omega) (by simp only [Option.getD_none, Option.getD_some] <;> omega)) (σ' := [(0, s0 6 o4.2.length), (5, ii o4.1), (38, sl 6 ((Int.toNat o4.1) * 2) (o4.2.length - (Int.toNat o4.1)) (o4.2.length - (Int.toNat o4.1)))]) (by kernel_rfl) ?_
    cases b5 : (decide ((Int.toNat o4.1) + (o4.2.length - (Int.toNat o4.1)) ≤ o4.2.length) : Bool) with
    | false => cases (cF b5 h)
    | true =>
     have h := cT b5 h
     refine XR.ef E0_ok [0, 5] rfl (e_clear encP_ok (z := #[ii 0, ii 0]) (x := (src 42 (.tmp 38))) (b := 6) (o := (Int.toNat o4.1) * 2) (len := o4.2.length - (Int.toNat o4.1)) (cap := o4.2.length - (Int.toNat o4.1)) (xs := o4.2) (e := 61) (es := 2) (d := none) (h' := [(6, rc encP (clearL (0, 0) o4.2 (Int.toNat o4.1) (o4.2.length - (Int.toNat o4.1))) 0 61 2), (4, .cells [ii xh4_0_2, ii xh4_1_2] 0 61 0), (3, rc encP lh3_1 0 61 2), (2, .cells [s0 3 lh3_1.length] 0 22 0), (1, rc (encI .i64) lh1_1 0 3 1), (0, rc encP a z0 y0 2)]) (by kernel_rfl) (by kernel_rfl) (by kernel_rfl) (Int.toNat o4.1) (0, 0) rfl rfl (by first | rfl | omega) b5 (by kernel_rfl)) (σ' := [(0, s0 6 o4.2.length), (5, ii o4.1)]) (by kernel_rfl) ?_
     refine nQ id ?_
     refine rS 2 [(39, s0 6 o4.2.length), (40, ii o4.1)] ?_
     cases b6 : (cutOK 0 o4.1 ((o4.2.length : Nat) : Int) o4.2.length : Bool) with
     | false => cases (cF b6 h)
     | true =>
      have h := cT b6 h
      refine XR.rd E0_ok [41] rfl (v := sl 6 0 (Int.toNat o4.1) o4.2.length) (v_cut (nt := 42) (s := 2) (x := (src 42 (.tmp 39))) (lo := none) (hi := (some (.tmp 40))) (mx := none) (b := 6) (o := 0) (len := o4.2.length) (cap := o4.2.length) (l := none) (u := (some o4.1)) (m := none) (cs := rowC encP (clearL (0, 0) o4.2 (Int.toNat o4.1) (o4.2.length - (Int.toNat o4.1)))) (fz := 0) (e := 61) (es := 2) (o' := 0) (len' := Int.toNat o4.1) (cap' := o4.2.length) (d := (some (path 12 41))) (by kernel_rfl) (by kernel_rfl) (by kernel_rfl) (by kernel_rfl) (by kernel_rfl) (by kernel_rfl) (by kernel_rfl) rfl b6 (by simp only [Option.getD_none, Option.getD_some] <;> omega) (by simp only [Option.getD_none, Option.getD_some] <;> omega) (by simp only [Option.getD_none, Option.getD_some] <;> omega)) (σ' := [(41, sl 6 0 (Int.toNat o4.1) o4.2.length)]) (by kernel_rfl) ?_
      refine rS 1 [(4, sl 6 0 (Int.toNat o4.1) o4.2.length)] ?_
      refine dQ ?_
      show XQ _ _ _ _ _ _ _ _
      refine XQ.ren (σ' := [(4, sl 6 0 (Int.toNat o4.1) o4.2.length)]) (h' := [(6, rc encP (clearL (0, 0) o4.2 (Int.toNat o4.1) (o4.2.length - (Int.toNat o4.1))) 0 61 2), (4, .cells [ii xh4_0_2, ii xh4_1_2] 0 61 0), (3, rc encP lh3_1 0 61 2), (2, .cells [s0 3 lh3_1.length] 0 22 0), (1, rc (encI .i64) lh1_1 0 3 1), (0, rc encP a z0 y0 2)]) (c' := 7) [0, 1, 2, 3, 4, 5, 6] (by decide) rfl ⟨rfl, trivial⟩ ⟨⟨_, _, rfl, rfl, .inl ⟨rfl, rwP⟩⟩, ⟨_, _, rfl, rfl, .inr ⟨_, _, _, _, rfl, rfl⟩⟩, ⟨_, _, rfl, rfl, .inl ⟨rfl, rwP⟩⟩, ⟨_, _, rfl, rfl, .inr ⟨_, _, _, _, rfl, rfl⟩⟩, ⟨_, _, rfl, rfl, .inl ⟨rfl, rwI⟩⟩, ⟨_, _, rfl, rfl, .inl ⟨rfl, rwP⟩⟩, trivial⟩ rfl ?_
      refine XQ.ret (by kernel_rfl) ?_
      cases b7 : (decide (Int.toNat o4.1 ≤ (clearL (0, 0) o4.2 (Int.toNat o4.1) (o4.2.length - (Int.toNat o4.1))).length) : Bool) with
      | false => cases (cF b7 h)
      | true =>
       have h := cT b7 h
       cases b8 : (decide (Int.toNat o4.1 ≤ o4.2.length) : Bool) with
       | false => cases (cF b8 h)
       | true =>
        have h := cT b8 h
        cases h
        exact ⟨fun i q => (by cases q), sl 6 0 (Int.toNat o4.1) o4.2.length, (by kernel_rfl), clearL (0, 0) o4.2 (Int.toNat o4.1) (o4.2.length - (Int.toNat o4.1)), Int.toNat o4.1, o4.2.length, [(6, rc encP (List.take (Int.toNat o4.1) (clearL (0, 0) o4.2 (Int.toNat o4.1) (o4.2.length - (Int.toNat o4.1)))) 0 61 2), (4, .cells [ii xh4_0_2, ii xh4_1_2] 0 61 0), (3, rc encP lh3_1 0 61 2), (2, .cells [s0 3 lh3_1.length] 0 22 0), (1, rc (encI .i64) lh1_1 0 3 1), (0, rc encP a z0 y0 2)], rfl, (by kernel_rfl), (of_decide_eq_true b7), (of_decide_eq_true b8), (by kernel_rfl), (by first | exact hR | simpa only [List.length_set] using hR)⟩
 | x0 =>
  dsimp only at h
  refine XL.conv (f37_3_ok m m z0 y0 a lh1_1 lh3_1 xh4_0_2 xh4_1_2 lh6_2 ((lh6_2.length : Nat) : Int) 0 (.x0) o3_h _ ?_) (by first | rfl | simp)
  show XQ _ _ _ _ _ _ _ _
  refine qQ ?_
  refine rS 1 [(4, ii (-1))] ?_
  refine dQ ?_
  show XQ _ _ _ _ _ _ _ _
  refine XQ.ret (by kernel_rfl) ?_
  refine ⟨fun i q => (by cases q), ii (-1), (by kernel_rfl), ?_⟩
  refine XR.conv (σ' := [(0, s0 6 lh6_2.length), (1, .func (.func 80) #[] #[pp 4 0, pp 2 0]), (10, ii (-1))]) (h' := [(6, rc encP lh6_2 0 61 2), (4, .cells [ii xh4_0_2, ii xh4_1_2] 0 61 0), (3, rc encP lh3_1 0 61 2), (2, .cells [s0 3 lh3_1.length] 0 22 0), (1, rc (encI .i64) lh1_1 0 3 1), (0, rc encP a z0 y0 2)]) (c' := 7) ?_ (by kernel_rfl)
  refine rS 1 [(0, s0 6 lh6_2.length), (1, .func (.func 80) #[] #[pp 4 0, pp 2 0]), (5, ii (-1))] ?_
  refine dQ ?_
  show XQ _ _ _ _ _ _ _ _
  refine sQ ?_
  refine qQ ?_
  refine rS 2 [(0, s0 6 lh6_2.length), (1, .func (.func 80) #[] #[pp 4 0, pp 2 0]), (5, ii (-1)), (12, .bool true)] ?_
  refine dQ ?_
  show XQ _ _ _ _ _ _ _ _
  refine iT (.tmp 12) ?_
  refine qQ ?_
  refine rS 2 [(4, s0 6 lh6_2.length)] ?_
  refine dQ ?_
  show XQ _ _ _ _ _ _ _ _
  refine XQ.ren (σ' := [(4, s0 6 lh6_2.length)]) (h' := [(6, rc encP lh6_2 0 61 2), (4, .cells [ii xh4_0_2, ii xh4_1_2] 0 61 0), (3, rc encP lh3_1 0 61 2), (2, .cells [s0 3 lh3_1.length] 0 22 0), (1, rc (encI .i64) lh1_1 0 3 1), (0, rc encP a z0 y0 2)]) (c' := 7) [0, 1, 2, 3, 4, 5, 6] (by decide) rfl ⟨rfl, trivial⟩ ⟨⟨_, _, rfl, rfl, .inl ⟨rfl, rwP⟩⟩, ⟨_, _, rfl, rfl, .inr ⟨_, _, _, _, rfl, rfl⟩⟩, ⟨_, _, rfl, rfl, .inl ⟨rfl, rwP⟩⟩, ⟨_, _, rfl, rfl, .inr ⟨_, _, _, _, rfl, rfl⟩⟩, ⟨_, _, rfl, rfl, .inl ⟨rfl, rwI⟩⟩, ⟨_, _, rfl, rfl, .inl ⟨rfl, rwP⟩⟩, trivial⟩ rfl ?_
  refine XQ.ret (by kernel_rfl) ?_
  cases h
  exact ⟨fun i q => (by cases q), s0 6 lh6_2.length, (by kernel_rfl), lh6_2, lh6_2.length, lh6_2.length, [(6, rc encP (List.take lh6_2.length lh6_2) 0 61 2), (4, .cells [ii xh4_0_2, ii xh4_1_2] 0 61 0), (3, rc encP lh3_1 0 61 2), (2, .cells [s0 3 lh3_1.length] 0 22 0), (1, rc (encI .i64) lh1_1 0 3 1), (0, rc encP a z0 y0 2)], rfl, (by kernel_rfl), (Nat.le_refl _), (Nat.le_refl _), (by kernel_rfl), (by first | exact hR | simpa only [List.length_set] using hR)⟩
def f37_1 (m : Nat) : Nat → List (Int × Int) → Int → Int → Int → List Int → List (Int × Int) → Option (List Int)
 | 0, _, _, _, _, _, _ => none
 | fuel + 1, a, x7_1, x21_1, x22_1, lh1_1, lh3_1 =>
  cond (decide (x22_1 < x21_1)) (
   cond (inRow x22_1 a.length) (
    (f79 m lh3_1 ((List.getD a (Int.toNat x22_1) (0, 0)).1) ((List.getD a (Int.toNat x22_1) (0, 0)).2)).bind fun r55 =>
     cond (!r55) (
      f37_1 m fuel a x7_1 x21_1 (w64 (x22_1 + 1)) lh1_1 lh3_1
     ) (
      cond (cutOK (w64 (x22_1 + 1)) ((a.length : Nat) : Int) ((a.length : Nat) : Int) a.length) (
       cond (decide ((Int.toNat (w64 (x22_1 + 1))) + (a.length - (Int.toNat (w64 (x22_1 + 1)))) ≤ a.length)) (
        cond (decide ((a.length - (Int.toNat (w64 (x22_1 + 1)))) ≤ (a.length - (Int.toNat (w64 (x22_1 + 1)))))) (
         cond (fitsB (a.length - (Int.toNat (w64 (x22_1 + 1)))) 16) (
          (f37_2 m a lh1_1 lh3_1 ((List.getD a (Int.toNat x22_1) (0, 0)).1) ((List.getD a (Int.toNat x22_1) (0, 0)).2) (List.take (a.length - (Int.toNat (w64 (x22_1 + 1)))) (List.drop (Int.toNat (w64 (x22_1 + 1))) a))).bind fun o2 =>
           (f75 m o2).bind fun r80 =>
            cond (r80 == (w64 (x7_1 - 1))) (
             cond (fitsB (lh1_1.length + 1) 8) (
              f37_1 m fuel a (w64 (x7_1 - 1)) x21_1 (w64 (x22_1 + 1)) (lh1_1 ++ [x22_1]) o2
             ) none
            ) (
             f37_1 m fuel a x7_1 x21_1 (w64 (x22_1 + 1)) lh1_1 lh3_1
            )
         ) none
        ) none
       ) none
      ) none
     )
   ) none
  ) (
   some (lh1_1)
  )
theorem f37_1_ok (m : Nat) : ∀ (fuel : Nat) (z0 : Nat) (y0 : Nat) (a : List (Int × Int)) (x7_1 : Int) (x21_1 : Int) (x22_1 : Int) (lh1_1 : List Int) (lh3_1 : List (Int × Int)) (o : (List Int)), f37_1 m fuel a x7_1 x21_1 x22_1 lh1_1 lh3_1 = some o → ∀ Q : QP, Q (.exit 0) [(5, s0 1 o.length)] [(1, rc (encI .i64) o 0 3 1), (0, rc encP a z0 y0 2)] 2 → XL E0 52 1 fuel f37_L1 [(0, s0 0 a.length), (5, s0 1 lh1_1.length), (6, pp 2 0), (7, ii x7_1), (20, s0 0 a.length), (21, ii x21_1), (22, ii x22_1)] [(3, rc encP lh3_1 0 61 2), (2, .cells [s0 3 lh3_1.length] 0 22 0), (1, rc (encI .i64) lh1_1 0 3 1), (0, rc encP a z0 y0 2)] 4 Q
 | 0, z0, y0, a, x7_1, x21_1, x22_1, lh1_1, lh3_1, o, h, Q, hQ => by cases h
 | fuel + 1, z0, y0, a, x7_1, x21_1, x22_1, lh1_1, lh3_1, o, h, Q, hQ => by
  unfold f37_1 at h
  refine XL.succ E0_ok ?_
  refine qQ ?_
  refine rS 1 [(0, s0 0 a.length), (5, s0 1 lh1_1.length), (6, pp 2 0), (7, ii x7_1), (20, s0 0 a.length), (21, ii x21_1), (22, ii x22_1), (23, .bool (decide (x22_1 < x21_1)))] ?_
  refine dQ ?_
  show XQ _ _ _ _ _ _ _ _
  refine sQ ?_
  cases b1 : (decide (x22_1 < x21_1) : Bool) with
  | true =>
   have h := cT b1 h
   refine iT (.tmp 23) ?_
   refine kQ ?_
   show XQ _ _ _ _ _ _ _ _
   refine sQ ?_
   refine XQ.block (id := 1) (by kernel_rfl) ?_
   refine qQ ?_
   refine rS 1 [(0, s0 0 a.length), (5, s0 1 lh1_1.length), (6, pp 2 0), (7, ii x7_1), (20, s0 0 a.length), (21, ii x21_1), (22, ii x22_1), (24, ii x22_1)] ?_
   cases b2 : (inRow x22_1 a.length : Bool) with
   | false => cases (cF b2 h)
   | true =>
    have h := cT b2 h
    refine XR.rd E0_ok [0, 5, 6, 7, 20, 21, 22, 24, 25] rfl (v := pp 0 ((Int.toNat x22_1) * 2)) (v_idx (s := 2) (x := (src 52 (.tmp 20))) (y := (src 52 (.tmp 22))) (b := 0) (o := 0) (len := a.length) (cap := a.length) (ik := .i64) (i := x22_1) (off := (Int.toNat x22_1) * 2) (d := (some (path 12 25))) (by kernel_rfl) (by kernel_rfl) (by kernel_rfl) b2 (by omega)) (σ' := [(0, s0 0 a.length), (5, s0 1 lh1_1.length), (6, pp 2 0), (7, ii x7_1), (20, s0 0 a.length), (21, ii x21_1), (22, ii x22_1), (24, ii x22_1), (25, pp 0 ((Int.toNat x22_1) * 2))]) (by kernel_rfl) ?_
    refine XR.rd E0_ok [0, 5, 6, 7, 20, 21, 22, 24, 26] rfl (v := .agg #[ii ((List.getD a (Int.toNat x22_1) (0, 0)).1), ii ((List.getD a (Int.toNat x22_1) (0, 0)).2)]) (v_loadN encP_ok (x := (src 52 (.tmp 25))) (b := 0) (off := (Int.toNat x22_1) * 2) (xs := a) (fz := z0) (e := y0) (es := 2) (d := (some (path 12 26))) (by kernel_rfl) (by kernel_rfl) (by kernel_rfl) (Int.toNat x22_1) (0, 0) (by first | rfl | omega) (row_len (inRow_toNat b2) (by simp)) rfl) (σ' := [(0, s0 0 a.length), (5, s0 1 lh1_1.length), (6, pp 2 0), (7, ii x7_1), (20, s0 0 a.length), (21, ii x21_1), (22, ii x22_1), (24, ii x22_1), (26, .agg #[ii ((List.getD a (Int.toNat x22_1) (0, 0)).1), ii ((List.getD a (Int.toNat x22_1) (0, 0)).2)])]) (by kernel_rfl) ?_
    refine rT 3 [(0, s0 0 a.length), (5, s0 1 lh1_1.length), (6, pp 2 0), (7, ii x7_1), (8, ii x22_1), (9, pp 4 0), (20, s0 0 a.length), (21, ii x21_1), (22, ii x22_1)] [(4, .cells [ii ((List.getD a (Int.toNat x22_1) (0, 0)).1), ii ((List.getD a (Int.toNat x22_1) (0, 0)).2)] 0 61 0), (3, rc encP lh3_1 0 61 2), (2, .cells [s0 3 lh3_1.length] 0 22 0), (1, rc (encI .i64) lh1_1 0 3 1), (0, rc encP a z0 y0 2)] 5 ?_
    refine dQ ?_
    show XQ _ _ _ _ _ _ _ _
    refine sQ ?_
    refine qQ ?_
    refine rS 2 [(0, s0 0 a.length), (5, s0 1 lh1_1.length), (6, pp 2 0), (7, ii x7_1), (8, ii x22_1), (9, pp 4 0), (20, s0 0 a.length), (21, ii x21_1), (22, ii x22_1), (27, s0 3 lh3_1.length), (28, .agg #[ii ((List.getD a (Int.toNat x22_1) (0, 0)).1), ii ((List.getD a (Int.toNat x22_1) (0, 0)).2)])] ?_
    obtain ⟨r55, r55_h, h⟩ := bS h
    refine XR.call E0_ok [0, 5, 6, 7, 8, 9, 20, 21, 22, 29] rfl (K := 79) (args := [s0 3 lh3_1.length, .agg #[ii ((List.getD a (Int.toNat x22_1) (0, 0)).1), ii ((List.getD a (Int.toNat x22_1) (0, 0)).2)]]) (d := (some (path 12 29))) (by kernel_rfl) (KQ.call (KC.quiet E0_ok (args0 := [s0 0 lh3_1.length, .agg #[ii ((List.getD a (Int.toNat x22_1) (0, 0)).1), ii ((List.getD a (Int.toNat x22_1) (0, 0)).2)]]) (h0 := [(0, rc encP lh3_1 (0 + ((rowC encP lh3_1).length + 1)) 61 2)]) (n := 1) (V := .bool r55) [3] (f79_ok m (0 + ((rowC encP lh3_1).length + 1)) 61 lh3_1 ((List.getD a (Int.toNat x22_1) (0, 0)).1) ((List.getD a (Int.toNat x22_1) (0, 0)).2) r55 r55_h) rfl (by rfl) (by decide) rfl (by kernel_rfl) ⟨⟨_, _, rfl, rfl, .inl ⟨rfl, rwP⟩⟩, trivial⟩) rfl) ?_
    rintro _ _ _ ⟨rfl, rfl, rfl⟩
    refine XR.conv (σ' := [(0, s0 0 a.length), (5, s0 1 lh1_1.length), (6, pp 2 0), (7, ii x7_1), (8, ii x22_1), (9, pp 4 0), (20, s0 0 a.length), (21, ii x21_1), (22, ii x22_1), (29, .bool r55)]) (h' := [(4, .cells [ii ((List.getD a (Int.toNat x22_1) (0, 0)).1), ii ((List.getD a (Int.toNat x22_1) (0, 0)).2)] 0 61 0), (3, rc encP lh3_1 0 61 2), (2, .cells [s0 3 lh3_1.length] 0 22 0), (1, rc (encI .i64) lh1_1 0 3 1), (0, rc encP a z0 y0 2)]) (c' := 5) ?_ (by kernel_rfl)
    refine rS 1 [(0, s0 0 a.length), (5, s0 1 lh1_1.length), (6, pp 2 0), (7, ii x7_1), (8, ii x22_1), (9, pp 4 0), (20, s0 0 a.length), (21, ii x21_1), (22, ii x22_1), (30, .bool (!r55))] ?_
    refine dQ ?_
    show XQ _ _ _ _ _ _ _ _
    cases b3 : (!r55 : Bool) with
    | true =>
     have h := cT b3 h
     refine iT (.tmp 30) ?_
     refine XQ.exit (i := 1) (by kernel_rfl) ?_
     show XQ _ _ _ _ _ _ _ _
     refine rQ ?_
     refine rS 2 [(0, s0 0 a.length), (5, s0 1 lh1_1.length), (6, pp 2 0), (7, ii x7_1), (20, s0 0 a.length), (21, ii x21_1), (22, ii (w64 (x22_1 + 1)))] ?_
     refine dQ ?_
     show XL _ _ _ _ _ _ _ _ _
     refine XL.ren (σ' := [(0, s0 0 a.length), (5, s0 1 lh1_1.length), (6, pp 2 0), (7, ii x7_1), (20, s0 0 a.length), (21, ii x21_1), (22, ii (w64 (x22_1 + 1)))]) (h' := [(3, rc encP lh3_1 0 61 2), (2, .cells [s0 3 lh3_1.length] 0 22 0), (1, rc (encI .i64) lh1_1 0 3 1), (0, rc encP a z0 y0 2)]) (c' := 4) [0, 1, 2, 3] (by decide) rfl ⟨rfl, rfl, rfl, rfl, rfl, rfl, rfl, trivial⟩ ⟨⟨_, _, rfl, rfl, .inl ⟨rfl, rwP⟩⟩, ⟨_, _, rfl, rfl, .inr ⟨_, _, _, _, rfl, rfl⟩⟩, ⟨_, _, rfl, rfl, .inl ⟨rfl, rwI⟩⟩, ⟨_, _, rfl, rfl, .inl ⟨rfl, rwP⟩⟩, trivial⟩ rfl ?_
     refine XL.conv (f37_1_ok m fuel z0 y0 a x7_1 x21_1 (w64 (x22_1 + 1)) lh1_1 lh3_1 o h Q hQ) (by first | rfl | simp)
    | false =>
     have h := cF b3 h
     refine iF (.tmp 30) ?_
     refine kQ ?_
     show XQ _ _ _ _ _ _ _ _
     refine qQ ?_
     refine rS 3 [(0, s0 0 a.length), (5, s0 1 lh1_1.length), (6, pp 2 0), (7, ii x7_1), (8, ii x22_1), (9, pp 4 0), (20, s0 0 a.length), (21, ii x21_1), (22, ii x22_1), (31, s0 0 a.length), (33, ii (w64 (x22_1 + 1)))] ?_
     cases b4 : (cutOK (w64 (x22_1 + 1)) ((a.length : Nat) : Int) ((a.length : Nat) : Int) a.length : Bool) with
     | false => cases (cF b4 h)
     | true =>
      have h := cT b4 h
      refine XR.rd E0_ok [0, 5, 6, 7, 8, 9, 20, 21, 22, 34] rfl (v := sl 0 ((Int.toNat (w64 (x22_1 + 1))) * 2) (a.length - (Int.toNat (w64 (x22_1 + 1)))) (a.length - (Int.toNat (w64 (x22_1 + 1))))) (v_cut (nt := 52) (s := 2) (x := (src 52 (.tmp 31))) (lo := (some (.tmp 33))) (hi := none) (mx := none) (b := 0) (o := 0) (len := a.length) (cap := a.length) (l := (some (w64 (x22_1 + 1)))) (u := none) (m := none) (cs := rowC encP a) (fz := z0) (e := y0) (es := 2) (o' := (Int.toNat (w64 (x22_1 + 1))) * 2) (len' := a.length - (Int.toNat (w64 (x22_1 + 1)))) (cap' := a.length - (Int.toNat (w64 (x22_1 + 1)))) (d := (some (path 12 34))) (by kernel_rfl) (by kernel_rfl) (by kernel_rfl) (by kernel_rfl) (by kernel_rfl) (by kernel_rfl) (by kernel_rfl) rfl b4 (by simp only [Option.getD_none, Option.getD_some] <;> omega) (by simp only [Option.getD_none, Option.getD_some] <;> omega) (by simp only [Option.getD_none, Option.getD_some] <;> omega)) (σ' := [(0, s0 0 a.length), (5, s0 1 lh1_1.length), (6, pp 2 0), (7, ii x7_1), (8, ii x22_1), (9, pp 4 0), (20, s0 0 a.length), (21, ii x21_1), (22, ii x22_1), (34, sl 0 ((Int.toNat (w64 (x22_1 + 1))) * 2) (a.length - (Int.toNat (w64 (x22_1 + 1)))) (a.length - (Int.toNat (w64 (x22_1 + 1)))))]) (by kernel_rfl) ?_
      cases b5 : (decide ((Int.toNat (w64 (x22_1 + 1))) + (a.length - (Int.toNat (w64 (x22_1 + 1)))) ≤ a.length) : Bool) with
      | false => cases (cF b5 h)
      | true =>
       have h := cT b5 h
       cases b6 : (decide ((a.length - (Int.toNat (w64 (x22_1 + 1)))) ≤ (a.length - (Int.toNat (w64 (x22_1 + 1))))) : Bool) with
       | false => cases (cF b6 h)
       | true =>
        have h := cT b6 h
        cases b7 : (fitsB (a.length - (Int.toNat (w64 (x22_1 + 1)))) 16 : Bool) with
        | false => cases (cF b7 h)
        | true =>
         have h := cT b7 h
         refine XR.call E0_ok [0, 5, 6, 7, 8, 9, 20, 21, 22, 35] rfl (K := 50) (args := [sl 0 ((Int.toNat (w64 (x22_1 + 1))) * 2) (a.length - (Int.toNat (w64 (x22_1 + 1)))) (a.length - (Int.toNat (w64 (x22_1 + 1))))]) (d := (some (path 12 35))) (by kernel_rfl) (clone50_part (xs := a) (fz := z0) (e0 := y0) (es0 := 2) (c := 5) (Int.toNat (w64 (x22_1 + 1))) (by kernel_rfl) (by simp) b5 b6 b7) ?_
         rintro _ _ _ ⟨rfl, rfl, rfl⟩
         refine XR.conv (σ' := [(0, s0 0 a.length), (5, s0 1 lh1_1.length), (6, pp 2 0), (7, ii x7_1), (8, ii x22_1), (9, pp 4 0), (20, s0 0 a.length), (21, ii x21_1), (22, ii x22_1), (35, s0 6 ((List.take (a.length - (Int.toNat (w64 (x22_1 + 1)))) (List.drop (Int.toNat (w64 (x22_1 + 1))) a)).length))]) (h' := [(6, rc encP (List.take (a.length - (Int.toNat (w64 (x22_1 + 1)))) (List.drop (Int.toNat (w64 (x22_1 + 1))) a)) 0 61 2), (4, .cells [ii ((List.getD a (Int.toNat x22_1) (0, 0)).1), ii ((List.getD a (Int.toNat x22_1) (0, 0)).2)] 0 61 0), (3, rc encP lh3_1 0 61 2), (2, .cells [s0 3 lh3_1.length] 0 22 0), (1, rc (encI .i64) lh1_1 0 3 1), (0, rc encP a z0 y0 2)]) (c' := 7) ?_ (by kernel_rfl)
         refine rS 1 [(0, s0 0 a.length), (5, s0 1 lh1_1.length), (6, pp 2 0), (7, ii x7_1), (8, ii x22_1), (20, s0 0 a.length), (21, ii x21_1), (22, ii x22_1), (35, s0 6 ((List.take (a.length - (Int.toNat (w64 (x22_1 + 1)))) (List.drop (Int.toNat (w64 (x22_1 + 1))) a)).length)), (36, .func (.func 80) #[] #[pp 4 0, pp 2 0])] ?_
         obtain ⟨o2, o2_h, h⟩ := bS h
         refine XR.call E0_ok [0, 5, 6, 7, 8, 20, 21, 22, 37] rfl (K := 73) (args := [s0 6 ((List.take (a.length - (Int.toNat (w64 (x22_1 + 1)))) (List.drop (Int.toNat (w64 (x22_1 + 1))) a)).length), .func (.func 80) #[] #[pp 4 0, pp 2 0]]) (d := (some (path 12 37))) (by kernel_rfl) (f37_2_ok m z0 y0 a lh1_1 lh3_1 ((List.getD a (Int.toNat x22_1) (0, 0)).1) ((List.getD a (Int.toNat x22_1) (0, 0)).2) (List.take (a.length - (Int.toNat (w64 (x22_1 + 1)))) (List.drop (Int.toNat (w64 (x22_1 + 1))) a)) o2 o2_h (fun v h' c' => v = s0 6 o2.length ∧ h' = [(6, rc encP o2 0 61 2), (4, .cells [ii ((List.getD a (Int.toNat x22_1) (0, 0)).1), ii ((List.getD a (Int.toNat x22_1) (0, 0)).2)] 0 61 0), (3, rc encP lh3_1 0 61 2), (2, .cells [s0 3 lh3_1.length] 0 22 0), (1, rc (encI .i64) lh1_1 0 3 1), (0, rc encP a z0 y0 2)] ∧ c' = 7) ⟨rfl, rfl, rfl⟩) ?_
         rintro _ _ _ ⟨rfl, rfl, rfl⟩
         refine XR.conv (σ' := [(0, s0 0 a.length), (5, s0 1 lh1_1.length), (6, pp 2 0), (7, ii x7_1), (8, ii x22_1), (20, s0 0 a.length), (21, ii x21_1), (22, ii x22_1), (37, s0 6 o2.length)]) (h' := [(6, rc encP o2 0 61 2), (4, .cells [ii ((List.getD a (Int.toNat x22_1) (0, 0)).1), ii ((List.getD a (Int.toNat x22_1) (0, 0)).2)] 0 61 0), (3, rc encP lh3_1 0 61 2), (2, .cells [s0 3 lh3_1.length] 0 22 0), (1, rc (encI .i64) lh1_1 0 3 1), (0, rc encP a z0 y0 2)]) (c' := 7) ?_ (by kernel_rfl)
         refine rS 1 [(0, s0 0 a.length), (5, s0 1 lh1_1.length), (6, pp 2 0), (7, ii x7_1), (8, ii x22_1), (10, s0 6 o2.length), (20, s0 0 a.length), (21, ii x21_1), (22, ii x22_1)] ?_
         refine nQ id ?_
         refine rS 1 [(0, s0 0 a.length), (5, s0 1 lh1_1.length), (6, pp 2 0), (7, ii x7_1), (8, ii x22_1), (10, s0 6 o2.length), (20, s0 0 a.length), (21, ii x21_1), (22, ii x22_1), (38, s0 6 o2.length)] ?_
         obtain ⟨r80, r80_h, h⟩ := bS h
         refine XR.call E0_ok [0, 5, 6, 7, 8, 10, 20, 21, 22, 39] rfl (K := 75) (args := [s0 6 o2.length]) (d := (some (path 12 39))) (by kernel_rfl) (KQ.call (KC.quiet E0_ok (args0 := [s0 0 o2.length]) (h0 := [(0, rc encP o2 (0 + ((rowC encP o2).length + 1)) 61 2)]) (n := 1) (V := ii r80) [6] (f75_ok m (0 + ((rowC encP o2).length + 1)) 61 o2 r80 r80_h) rfl (by rfl) (by decide) rfl (by kernel_rfl) ⟨⟨_, _, rfl, rfl, .inl ⟨rfl, rwP⟩⟩, trivial⟩) rfl) ?_
         rintro _ _ _ ⟨rfl, rfl, rfl⟩
         refine XR.conv (σ' := [(0, s0 0 a.length), (5, s0 1 lh1_1.length), (6, pp 2 0), (7, ii x7_1), (8, ii x22_1), (10, s0 6 o2.length), (20, s0 0 a.length), (21, ii x21_1), (22, ii x22_1), (39, ii r80)]) (h' := [(6, rc encP o2 0 61 2), (4, .cells [ii ((List.getD a (Int.toNat x22_1) (0, 0)).1), ii ((List.getD a (Int.toNat x22_1) (0, 0)).2)] 0 61 0), (3, rc encP lh3_1 0 61 2), (2, .cells [s0 3 lh3_1.length] 0 22 0), (1, rc (encI .i64) lh1_1 0 3 1), (0, rc encP a z0 y0 2)]) (c' := 7) ?_ (by kernel_rfl)
         refine rS 3 [(0, s0 0 a.length), (5, s0 1 lh1_1.length), (6, pp 2 0), (7, ii x7_1), (8, ii x22_1), (10, s0 6 o2.length), (20, s0 0 a.length), (21, ii x21_1), (22, ii x22_1), (42, .bool (r80 == (w64 (x7_1 - 1))))] ?_
         refine dQ ?_
         show XQ _ _ _ _ _ _ _ _
         cases b9 : (r80 == (w64 (x7_1 - 1)) : Bool) with
         | true =>
          have h := cT b9 h
          refine iT (.tmp 42) ?_
          refine rQ ?_
          refine rT 6 [(0, s0 0 a.length), (6, pp 2 0), (20, s0 0 a.length), (21, ii x21_1), (22, ii x22_1), (43, s0 6 o2.length), (45, ii (w64 (x7_1 - 1))), (46, s0 1 lh1_1.length), (48, s0 7 1)] [(7, .cells [ii x22_1] 0 3 1), (6, rc encP o2 0 61 2), (4, .cells [ii ((List.getD a (Int.toNat x22_1) (0, 0)).1), ii ((List.getD a (Int.toNat x22_1) (0, 0)).2)] 0 61 0), (3, rc encP lh3_1 0 61 2), (2, .cells [s0 3 lh3_1.length] 0 22 0), (1, rc (encI .i64) lh1_1 0 3 1), (0, rc encP a z0 y0 2)] 8 ?_
          cases b10 : (fitsB (lh1_1.length + 1) 8 : Bool) with
          | false => cases (cF b10 h)
          | true =>
           have h := cT b10 h
           refine XR.ef E0_ok [0, 6, 20, 21, 22, 43, 45, 49] rfl (e_append (encI_ok .i64) (bytes := 8) (e := 3) (x := (src 52 (.tmp 46))) (y := (src 52 (.tmp 48))) (b := 1) (len := lh1_1.length) (cap := lh1_1.length) (xs := lh1_1) (m := 0) (ys := [x22_1]) (d := (some (path 12 49))) (n' := (lh1_1 ++ [x22_1]).length) (h' := [(8, rc (encI .i64) (lh1_1 ++ [x22_1]) 0 3 1), (7, .cells [ii x22_1] 0 3 1), (6, rc encP o2 0 61 2), (4, .cells [ii ((List.getD a (Int.toNat x22_1) (0, 0)).1), ii ((List.getD a (Int.toNat x22_1) (0, 0)).2)] 0 61 0), (3, rc encP lh3_1 0 61 2), (2, .cells [s0 3 lh3_1.length] 0 22 0), (0, rc encP a z0 y0 2)]) (by kernel_rfl) (by kernel_rfl) (by kernel_rfl) (by kernel_rfl) rfl (by simp) (by simp) b10 (by simp) (by kernel_rfl)) (σ' := [(0, s0 0 a.length), (6, pp 2 0), (20, s0 0 a.length), (21, ii x21_1), (22, ii x22_1), (43, s0 6 o2.length), (45, ii (w64 (x7_1 - 1))), (49, s0 8 ((lh1_1 ++ [x22_1]).length))]) (by kernel_rfl) ?_
           refine rT 3 [(0, s0 0 a.length), (5, s0 8 ((lh1_1 ++ [x22_1]).length)), (6, pp 2 0), (7, ii (w64 (x7_1 - 1))), (20, s0 0 a.length), (21, ii x21_1), (22, ii x22_1)] [(8, rc (encI .i64) (lh1_1 ++ [x22_1]) 0 3 1), (7, .cells [ii x22_1] 0 3 1), (6, rc encP o2 0 61 2), (4, .cells [ii ((List.getD a (Int.toNat x22_1) (0, 0)).1), ii ((List.getD a (Int.toNat x22_1) (0, 0)).2)] 0 61 0), (3, rc encP lh3_1 0 61 2), (2, .cells [s0 6 o2.length] 0 22 0), (0, rc encP a z0 y0 2)] 9 ?_
           refine dQ ?_
           show XQ _ _ _ _ _ _ _ _
           refine rQ ?_
           refine rS 2 [(0, s0 0 a.length), (5, s0 8 ((lh1_1 ++ [x22_1]).length)), (6, pp 2 0), (7, ii (w64 (x7_1 - 1))), (20, s0 0 a.length), (21, ii x21_1), (22, ii (w64 (x22_1 + 1)))] ?_
           refine dQ ?_
           show XL _ _ _ _ _ _ _ _ _
           refine XL.ren (σ' := [(0, s0 0 a.length), (5, s0 1 ((lh1_1 ++ [x22_1]).length)), (6, pp 2 0), (7, ii (w64 (x7_1 - 1))), (20, s0 0 a.length), (21, ii x21_1), (22, ii (w64 (x22_1 + 1)))]) (h' := [(3, rc encP o2 0 61 2), (2, .cells [s0 3 o2.length] 0 22 0), (1, rc (encI .i64) (lh1_1 ++ [x22_1]) 0 3 1), (0, rc encP a z0 y0 2)]) (c' := 4) [0, 8, 2, 6] (by decide) rfl ⟨rfl, rfl, rfl, rfl, rfl, rfl, rfl, trivial⟩ ⟨⟨_, _, rfl, rfl, .inl ⟨rfl, rwP⟩⟩, ⟨_, _, rfl, rfl, .inr ⟨_, _, _, _, rfl, rfl⟩⟩, ⟨_, _, rfl, rfl, .inl ⟨rfl, rwI⟩⟩, ⟨_, _, rfl, rfl, .inl ⟨rfl, rwP⟩⟩, trivial⟩ rfl ?_
           refine XL.conv (f37_1_ok m fuel z0 y0 a (w64 (x7_1 - 1)) x21_1 (w64 (x22_1 + 1)) (lh1_1 ++ [x22_1]) o2 o h Q hQ) (by first | rfl | simp)
         | false =>
          have h := cF b9 h
          refine iF (.tmp 42) ?_
          refine kQ ?_
          show XQ _ _ _ _ _ _ _ _
          refine rQ ?_
          refine rS 2 [(0, s0 0 a.length), (5, s0 1 lh1_1.length), (6, pp 2 0), (7, ii x7_1), (20, s0 0 a.length), (21, ii x21_1), (22, ii (w64 (x22_1 + 1)))] ?_
          refine dQ ?_
          show XL _ _ _ _ _ _ _ _ _
          refine XL.ren (σ' := [(0, s0 0 a.length), (5, s0 1 lh1_1.length), (6, pp 2 0), (7, ii x7_1), (20, s0 0 a.length), (21, ii x21_1), (22, ii (w64 (x22_1 + 1)))]) (h' := [(3, rc encP lh3_1 0 61 2), (2, .cells [s0 3 lh3_1.length] 0 22 0), (1, rc (encI .i64) lh1_1 0 3 1), (0, rc encP a z0 y0 2)]) (c' := 4) [0, 1, 2, 3] (by decide) rfl ⟨rfl, rfl, rfl, rfl, rfl, rfl, rfl, trivial⟩ ⟨⟨_, _, rfl, rfl, .inl ⟨rfl, rwP⟩⟩, ⟨_, _, rfl, rfl, .inr ⟨_, _, _, _, rfl, rfl⟩⟩, ⟨_, _, rfl, rfl, .inl ⟨rfl, rwI⟩⟩, ⟨_, _, rfl, rfl, .inl ⟨rfl, rwP⟩⟩, trivial⟩ rfl ?_
          refine XL.conv (f37_1_ok m fuel z0 y0 a x7_1 x21_1 (w64 (x22_1 + 1)) lh1_1 lh3_1 o h Q hQ) (by first | rfl | simp)
  | false =>
   have h := cF b1 h
   refine iF (.tmp 23) ?_
   refine XQ.ren (σ' := [(5, s0 1 lh1_1.length)]) (h' := [(1, rc (encI .i64) lh1_1 0 3 1), (0, rc encP a z0 y0 2)]) (c' := 2) [0, 1] (by decide) rfl ⟨rfl, trivial⟩ ⟨⟨_, _, rfl, rfl, .inl ⟨rfl, rwI⟩⟩, ⟨_, _, rfl, rfl, .inl ⟨rfl, rwP⟩⟩, trivial⟩ rfl ?_
   refine XQ.exit (i := 0) (by kernel_rfl) ?_
   cases h
   exact hQ
def f37 (m : Nat) (a : List (Int × Int)) : Option ((List Int) × Int) :=
 (f23 m a).bind fun r1 =>
  cond (r1 != 0) (
   some ([], r1)
  ) (
   cond (fitsB a.length 16) (
    (f75 m a).bind fun r2 =>
     (f37_1 m m a r2 ((a.length : Nat) : Int) 0 [] a).bind fun o1 =>
      some (o1, 0)
   ) none
  )
theorem f37_ok (m : Nat) (z0 : Nat) (y0 : Nat) (a : List (Int × Int)) (o : (List Int) × Int) (h : f37 m a = some o) : KC E0 37 [s0 0 a.length] [(0, rc encP a z0 y0 2)] 1 (fun v h' c' => v = .tuple #[s0 1 o.1.length, ii o.2] ∧ h' = [(1, rc (encI .i64) o.1 0 3 1)] ++ [(0, rc encP a z0 y0 2)] ∧ c' = 2) := by
 refine KC.bodyN E0_ok (F := Proofs.Try.f37) (by kernel_rfl) (code := f37_C37) (by kernel_rfl) (nt := 52) (by kernel_rfl) (rs := [.tmp 2, .tmp 3]) (by kernel_rfl) (by kernel_rfl) (σ := [(0, s0 0 a.length)]) (by kernel_rfl) ?_
 unfold f37 at h
 refine qQ ?_
 refine rS 2 [(0, s0 0 a.length)] ?_
 refine dQ ?_
 show XQ _ _ _ _ _ _ _ _
 refine sQ ?_
 refine qQ ?_
 refine rS 1 [(0, s0 0 a.length), (11, s0 0 a.length)] ?_
 obtain ⟨r1, r1_h, h⟩ := bS h
 refine XR.call E0_ok [0, 12] rfl (K := 23) (args := [s0 0 a.length]) (d := (some (path 12 12))) (by kernel_rfl) (KQ.call (KC.quiet E0_ok (args0 := [s0 0 a.length]) (h0 := [(0, rc encP a (z0 + ((rowC encP a).length + 1)) y0 2)]) (n := 1) (V := ii r1) [0] (f23_ok m (z0 + ((rowC encP a).length + 1)) y0 a r1 r1_h) rfl (by rfl) (by decide) rfl (by kernel_rfl) ⟨⟨_, _, rfl, rfl, .inl ⟨rfl, rwP⟩⟩, trivial⟩) rfl) ?_
 rintro _ _ _ ⟨rfl, rfl, rfl⟩
 refine XR.conv (σ' := [(0, s0 0 a.length), (12, ii r1)]) (h' := [(0, rc encP a z0 y0 2)]) (c' := 1) ?_ (by kernel_rfl)
 refine rS 1 [(0, s0 0 a.length), (4, ii r1)] ?_
 refine nQ id ?_
 refine rS 2 [(0, s0 0 a.length), (4, ii r1), (14, .bool (r1 != 0))] ?_
 refine dQ ?_
 show XQ _ _ _ _ _ _ _ _
 cases b1 : (r1 != 0 : Bool) with
 | true =>
  have h := cT b1 h
  refine iT (.tmp 14) ?_
  refine qQ ?_
  refine rS 3 [(2, .slice none 0 0), (3, ii r1)] ?_
  refine dQ ?_
  show XQ _ _ _ _ _ _ _ _
  refine XQ.ghost 3 1 rfl (σ' := [(2, s0 1 0), (3, ii r1)]) (h' := [(0, rc encP a z0 y0 2)]) ⟨rfl, rfl, trivial⟩ ⟨⟨_, rfl, .inl rfl⟩, trivial⟩ ?_
  refine XQ.conv (σ' := [(2, s0 1 0), (3, ii r1)]) (h' := [(1, rc (encI .i64) [] 0 3 1), (0, rc encP a z0 y0 2)]) (c' := 2) ?_ (by kernel_rfl)
  refine XQ.ren (σ' := [(2, s0 1 0), (3, ii r1)]) (h' := [(1, rc (encI .i64) [] 0 3 1), (0, rc encP a z0 y0 2)]) (c' := 2) [0, 1] (by decide) rfl ⟨rfl, rfl, trivial⟩ ⟨⟨_, _, rfl, rfl, .inl ⟨rfl, rwI⟩⟩, ⟨_, _, rfl, rfl, .inl ⟨rfl, rwP⟩⟩, trivial⟩ rfl ?_
  refine XQ.ret (by kernel_rfl) ?_
  have h := Option.some.inj h
  subst h
  exact ⟨fun i q => (by cases q), .tuple #[s0 1 0, ii r1], (by kernel_rfl), (by kernel_rfl), (by kernel_rfl), rfl⟩
 | false =>
  have h := cF b1 h
  refine iF (.tmp 14) ?_
  refine kQ ?_
  show XQ _ _ _ _ _ _ _ _
  refine qQ ?_
  refine rS 1 [(0, s0 0 a.length), (5, .slice none 0 0)] ?_
  refine dQ ?_
  show XQ _ _ _ _ _ _ _ _
  refine XQ.ghost 3 1 rfl (σ' := [(0, s0 0 a.length), (5, s0 1 0)]) (h' := [(0, rc encP a z0 y0 2)]) ⟨rfl, rfl, trivial⟩ ⟨⟨_, rfl, .inl rfl⟩, trivial⟩ ?_
  refine XQ.conv (σ' := [(0, s0 0 a.length), (5, s0 1 0)]) (h' := [(1, rc (encI .i64) [] 0 3 1), (0, rc encP a z0 y0 2)]) (c' := 2) ?_ (by kernel_rfl)
  refine qQ ?_
  refine rS 1 [(0, s0 0 a.length), (5, s0 1 0), (16, s0 0 a.length)] ?_
  cases b2 : (fitsB a.length 16 : Bool) with
  | false => cases (cF b2 h)
  | true =>
   have h := cT b2 h
   refine XR.call E0_ok [0, 5, 17] rfl (K := 50) (args := [s0 0 a.length]) (d := (some (path 12 17))) (by kernel_rfl) (clone50_all (xs := a) (fz := z0) (e0 := y0) (es0 := 2) (c := 2) (by kernel_rfl) (by simp) (Nat.le_refl _) b2) ?_
   rintro _ _ _ ⟨rfl, rfl, rfl⟩
   refine XR.conv (σ' := [(0, s0 0 a.length), (5, s0 1 0), (17, s0 3 a.length)]) (h' := [(3, rc encP a 0 61 2), (1, rc (encI .i64) [] 0 3 1), (0, rc encP a z0 y0 2)]) (c' := 4) ?_ (by kernel_rfl)
   refine rT 2 [(0, s0 0 a.length), (5, s0 1 0), (6, pp 4 0)] [(4, .cells [s0 3 a.length] 0 22 0), (3, rc encP a 0 61 2), (1, rc (encI .i64) [] 0 3 1), (0, rc encP a z0 y0 2)] 5 ?_
   refine nQ id ?_
   refine rS 1 [(0, s0 0 a.length), (5, s0 1 0), (6, pp 4 0), (18, s0 3 a.length)] ?_
   obtain ⟨r2, r2_h, h⟩ := bS h
   refine XR.call E0_ok [0, 5, 6, 19] rfl (K := 75) (args := [s0 3 a.length]) (d := (some (path 12 19))) (by kernel_rfl) (KQ.call (KC.quiet E0_ok (args0 := [s0 0 a.length]) (h0 := [(0, rc encP a (0 + ((rowC encP a).length + 1)) 61 2)]) (n := 1) (V := ii r2) [3] (f75_ok m (0 + ((rowC encP a).length + 1)) 61 a r2 r2_h) rfl (by rfl) (by decide) rfl (by kernel_rfl) ⟨⟨_, _, rfl, rfl, .inl ⟨rfl, rwP⟩⟩, trivial⟩) rfl) ?_
   rintro _ _ _ ⟨rfl, rfl, rfl⟩
   refine XR.conv (σ' := [(0, s0 0 a.length), (5, s0 1 0), (6, pp 4 0), (19, ii r2)]) (h' := [(4, .cells [s0 3 a.length] 0 22 0), (3, rc encP a 0 61 2), (1, rc (encI .i64) [] 0 3 1), (0, rc encP a z0 y0 2)]) (c' := 5) ?_ (by kernel_rfl)
   refine rS 1 [(0, s0 0 a.length), (5, s0 1 0), (6, pp 4 0), (7, ii r2)] ?_
   refine dQ ?_
   show XQ _ _ _ _ _ _ _ _
   refine sQ ?_
   refine qQ ?_
   refine rS 3 [(0, s0 0 a.length), (5, s0 1 0), (6, pp 4 0), (7, ii r2), (20, s0 0 a.length), (21, ii ((a.length : Nat) : Int)), (22, ii 0)] ?_
   refine dQ ?_
   show XQ _ _ _ _ _ _ _ _
   refine XQ.block (id := 0) (by kernel_rfl) ?_
   refine XQ.loop m (by kernel_rfl) ?_
   obtain ⟨o1, o1_h, h⟩ := bS h
   refine XL.ren (σ' := [(0, s0 0 a.length), (5, s0 1 0), (6, pp 2 0), (7, ii r2), (20, s0 0 a.length), (21, ii ((a.length : Nat) : Int)), (22, ii 0)]) (h' := [(3, rc encP a 0 61 2), (2, .cells [s0 3 a.length] 0 22 0), (1, rc (encI .i64) [] 0 3 1), (0, rc encP a z0 y0 2)]) (c' := 4) [0, 1, 4, 3] (by decide) rfl ⟨rfl, rfl, rfl, rfl, rfl, rfl, rfl, trivial⟩ ⟨⟨_, _, rfl, rfl, .inl ⟨rfl, rwP⟩⟩, ⟨_, _, rfl, rfl, .inr ⟨_, _, _, _, rfl, rfl⟩⟩, ⟨_, _, rfl, rfl, .inl ⟨rfl, rwI⟩⟩, ⟨_, _, rfl, rfl, .inl ⟨rfl, rwP⟩⟩, trivial⟩ rfl ?_
   refine XL.conv (f37_1_ok m m z0 y0 a r2 ((a.length : Nat) : Int) 0 [] a o1 o1_h _ ?_) (by first | rfl | simp)
   show XQ _ _ _ _ _ _ _ _
   refine qQ ?_
   refine rS 3 [(2, s0 1 o1.length), (3, ii 0)] ?_
   refine dQ ?_
   show XQ _ _ _ _ _ _ _ _
   refine XQ.ren (σ' := [(2, s0 1 o1.length), (3, ii 0)]) (h' := [(1, rc (encI .i64) o1 0 3 1), (0, rc encP a z0 y0 2)]) (c' := 2) [0, 1] (by decide) rfl ⟨rfl, rfl, trivial⟩ ⟨⟨_, _, rfl, rfl, .inl ⟨rfl, rwI⟩⟩, ⟨_, _, rfl, rfl, .inl ⟨rfl, rwP⟩⟩, trivial⟩ rfl ?_
   refine XQ.ret (by kernel_rfl) ?_
   have h := Option.some.inj h
   subst h
   exact ⟨fun i q => (by cases q), .tuple #[s0 1 o1.length, ii 0], (by kernel_rfl), (by kernel_rfl), (by kernel_rfl), rfl⟩
end Go.Xm
