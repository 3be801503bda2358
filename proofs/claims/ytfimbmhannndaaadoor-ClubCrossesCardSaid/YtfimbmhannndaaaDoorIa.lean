/- What these functions of the program compute, as functions in Lean, and the proofs that they do: vitolaref12.has, slices.Contains[[]int,int], vitolaref12.CheckPlan, vitolaref12.Trios, vitolaref12.Others, vitolaref12.Counts. Conditions: the library's variables hold what their texts lay. -/
import Derived.Test.YtfimbmhannndaaaDoorDa
import Derived.Test.YtfimbmhannndaaaDoorNe
namespace Go.Xm
open Go.RowKit
set_option linter.unusedVariables false
set_option linter.unusedSimpArgs false
set_option maxRecDepth 20000

/-! vitola/vitolaref12.has -/
noncomputable def f79_C79 : Code := Proofs.Tryd.f79.body.getD .skip
noncomputable def f79_L1 : Code := lft (lft (rgt (lft (rgt f79_C79))))

inductive Of79_1 where
 | r
 | x0

def f79_1 (m : Nat) : Nat → List (Int × Int) → Int → Int → Int → Option Of79_1
 | 0, _, _, _, _ => none
 | fuel + 1, a, b, c, x7_1 =>
  cond (decide (x7_1 < ((a.length : Nat) : Int))) (
   cond (inRow x7_1 a.length) (
    cond (((List.getD a (Int.toNat x7_1) (0, 0)).1) == b && ((List.getD a (Int.toNat x7_1) (0, 0)).2) == c) (
     some (.r)
    ) (
     cond (((List.getD a (Int.toNat x7_1) (0, 0)).1) == c && ((List.getD a (Int.toNat x7_1) (0, 0)).2) == b) (
      some (.r)
     ) (
      f79_1 m fuel a b c (w64 (x7_1 + 1))
     )
    )
   ) none
  ) (
   some (.x0)
  )

theorem f79_1_ok (m : Nat) : ∀ (fuel : Nat) (z0 : Nat) (y0 : Nat) (a : List (Int × Int)) (b : Int) (c : Int) (x7_1 : Int) (o : Of79_1), f79_1 m fuel a b c x7_1 = some o → ∀ Q : QP, (match o with | .r => Q .ret [(6, .bool true)] [(0, rc encP a z0 y0 2)] 1 | .x0 => Q (.exit 0) [] [(0, rc encP a z0 y0 2)] 1) → XL E0 32 1 fuel f79_L1 [(0, s0 0 a.length), (1, ii b), (2, ii c), (7, ii x7_1)] [(0, rc encP a z0 y0 2)] 1 Q
 | 0, z0, y0, a, b, c, x7_1, o, h, Q, hQ => by cases h
 | fuel + 1, z0, y0, a, b, c, x7_1, o, h, Q, hQ => by
  unfold f79_1 at h
  refine XL.succ E0_ok ?_
  refine XQ.seq E0_ok (by kernel_rfl) ?_
  refine XQ.seq E0_ok (by kernel_rfl) ?_
  refine XQ.region (by kernel_rfl) ?_
  refine XR.runS E0_ok 1 4 [(0, s0 0 a.length), (1, ii b), (2, ii c), (7, ii x7_1), (11, .bool (decide (x7_1 < ((a.length : Nat) : Int))))] rfl (by kernel_rfl) ?_
  refine XR.done (by kernel_rfl) ?_
  show XQ _ _ _ _ _ _ _ _
  cases b1 : (decide (x7_1 < ((a.length : Nat) : Int)) : Bool) with
  | true =>
   have h := cT b1 h
   refine XQ.cond (s := (.tmp 11)) (b := true) (by kernel_rfl) (by kernel_rfl) (fun _ => ?_) (fun q => by cases q)
   refine XQ.skip (by kernel_rfl) ?_
   show XQ _ _ _ _ _ _ _ _
   refine XQ.seq E0_ok (by kernel_rfl) ?_
   refine XQ.block (id := 1) (by kernel_rfl) ?_
   refine XQ.seq E0_ok (by kernel_rfl) ?_
   refine XQ.region (by kernel_rfl) ?_
   refine XR.runS E0_ok 1 2 [(0, s0 0 a.length), (1, ii b), (2, ii c), (7, ii x7_1), (14, s0 0 a.length), (15, ii x7_1)] rfl (by kernel_rfl) ?_
   cases b2 : (inRow x7_1 a.length : Bool) with
   | false => cases (cF b2 h)
   | true =>
    have h := cT b2 h
    refine XR.rd E0_ok [0, 1, 2, 7, 16] rfl (v := pp 0 ((Int.toNat x7_1) * 2)) (v_idx (s := 2) (x := (src 32 (.tmp 14))) (y := (src 32 (.tmp 15))) (b := 0) (o := 0) (len := a.length) (cap := a.length) (ik := .i64) (i := x7_1) (off := (Int.toNat x7_1) * 2) (d := (some (path 12 16))) (by kernel_rfl) (by kernel_rfl) (by kernel_rfl) b2 (by omega)) (σ' := [(0, s0 0 a.length), (1, ii b), (2, ii c), (7, ii x7_1), (16, pp 0 ((Int.toNat x7_1) * 2))]) (by kernel_rfl) ?_
    refine XR.rd E0_ok [0, 1, 2, 7, 17] rfl (v := .agg #[ii ((List.getD a (Int.toNat x7_1) (0, 0)).1), ii ((List.getD a (Int.toNat x7_1) (0, 0)).2)]) (v_loadN encP_ok (x := (src 32 (.tmp 16))) (b := 0) (off := (Int.toNat x7_1) * 2) (xs := a) (fz := z0) (e := y0) (es := 2) (d := (some (path 12 17))) (by kernel_rfl) (by kernel_rfl) (by kernel_rfl) (Int.toNat x7_1) (0, 0) (by first | rfl | omega) (row_len (inRow_toNat b2) (by simp)) rfl) (σ' := [(0, s0 0 a.length), (1, ii b), (2, ii c), (7, ii x7_1), (17, .agg #[ii ((List.getD a (Int.toNat x7_1) (0, 0)).1), ii ((List.getD a (Int.toNat x7_1) (0, 0)).2)])]) (by kernel_rfl) ?_
    refine XR.runS E0_ok 1 5 [(0, s0 0 a.length), (1, ii b), (2, ii c), (7, ii x7_1), (22, .bool (((List.getD a (Int.toNat x7_1) (0, 0)).1) == b && ((List.getD a (Int.toNat x7_1) (0, 0)).2) == c))] rfl (by kernel_rfl) ?_
    cases b3 : (((List.getD a (Int.toNat x7_1) (0, 0)).1) == b && ((List.getD a (Int.toNat x7_1) (0, 0)).2) == c : Bool) with
    | true =>
     have h := cT b3 h
     refine XR.runS E0_ok 1 9 [(0, s0 0 a.length), (1, ii b), (2, ii c), (7, ii x7_1), (31, .bool true)] rfl (by kernel_rfl) ?_
     refine XR.done (by kernel_rfl) ?_
     show XQ _ _ _ _ _ _ _ _
     refine XQ.cond (s := (.tmp 31)) (b := true) (by kernel_rfl) (by kernel_rfl) (fun _ => ?_) (fun q => by cases q)
     refine XQ.seq E0_ok (by kernel_rfl) ?_
     refine XQ.region (by kernel_rfl) ?_
     refine XR.runS E0_ok 1 1 [(6, .bool true)] rfl (by kernel_rfl) ?_
     refine XR.done (by kernel_rfl) ?_
     show XQ _ _ _ _ _ _ _ _
     refine XQ.ren (σ' := [(6, .bool true)]) (h' := [(0, rc encP a z0 y0 2)]) (c' := 1) [0] (by decide) rfl ⟨by kernel_rfl, trivial⟩ ⟨⟨_, _, rfl, rfl, .inl ⟨rfl, rowC_scal encP_ok _⟩⟩, trivial⟩ rfl ?_
     refine XQ.ret (by kernel_rfl) ?_
     cases h
     exact hQ
    | false =>
     have h := cF b3 h
     refine XR.runS E0_ok 1 2 [(0, s0 0 a.length), (1, ii b), (2, ii c), (7, ii x7_1), (22, .bool false), (23, s0 0 a.length), (24, ii x7_1)] rfl (by kernel_rfl) ?_
     refine XR.rd E0_ok [0, 1, 2, 7, 22, 25] rfl (v := pp 0 ((Int.toNat x7_1) * 2)) (v_idx (s := 2) (x := (src 32 (.tmp 23))) (y := (src 32 (.tmp 24))) (b := 0) (o := 0) (len := a.length) (cap := a.length) (ik := .i64) (i := x7_1) (off := (Int.toNat x7_1) * 2) (d := (some (path 12 25))) (by kernel_rfl) (by kernel_rfl) (by kernel_rfl) b2 (by omega)) (σ' := [(0, s0 0 a.length), (1, ii b), (2, ii c), (7, ii x7_1), (22, .bool false), (25, pp 0 ((Int.toNat x7_1) * 2))]) (by kernel_rfl) ?_
     refine XR.rd E0_ok [0, 1, 2, 7, 22, 26] rfl (v := .agg #[ii ((List.getD a (Int.toNat x7_1) (0, 0)).1), ii ((List.getD a (Int.toNat x7_1) (0, 0)).2)]) (v_loadN encP_ok (x := (src 32 (.tmp 25))) (b := 0) (off := (Int.toNat x7_1) * 2) (xs := a) (fz := z0) (e := y0) (es := 2) (d := (some (path 12 26))) (by kernel_rfl) (by kernel_rfl) (by kernel_rfl) (Int.toNat x7_1) (0, 0) (by first | rfl | omega) (row_len (inRow_toNat b2) (by simp)) rfl) (σ' := [(0, s0 0 a.length), (1, ii b), (2, ii c), (7, ii x7_1), (22, .bool false), (26, .agg #[ii ((List.getD a (Int.toNat x7_1) (0, 0)).1), ii ((List.getD a (Int.toNat x7_1) (0, 0)).2)])]) (by kernel_rfl) ?_
     refine XR.runS E0_ok 1 5 [(0, s0 0 a.length), (1, ii b), (2, ii c), (7, ii x7_1), (31, .bool (((List.getD a (Int.toNat x7_1) (0, 0)).1) == c && ((List.getD a (Int.toNat x7_1) (0, 0)).2) == b))] rfl (by kernel_rfl) ?_
     refine XR.done (by kernel_rfl) ?_
     show XQ _ _ _ _ _ _ _ _
     cases b4 : (((List.getD a (Int.toNat x7_1) (0, 0)).1) == c && ((List.getD a (Int.toNat x7_1) (0, 0)).2) == b : Bool) with
     | true =>
      have h := cT b4 h
      refine XQ.cond (s := (.tmp 31)) (b := true) (by kernel_rfl) (by kernel_rfl) (fun _ => ?_) (fun q => by cases q)
      refine XQ.seq E0_ok (by kernel_rfl) ?_
      refine XQ.region (by kernel_rfl) ?_
      refine XR.runS E0_ok 1 1 [(6, .bool true)] rfl (by kernel_rfl) ?_
      refine XR.done (by kernel_rfl) ?_
      show XQ _ _ _ _ _ _ _ _
      refine XQ.ren (σ' := [(6, .bool true)]) (h' := [(0, rc encP a z0 y0 2)]) (c' := 1) [0] (by decide) rfl ⟨by kernel_rfl, trivial⟩ ⟨⟨_, _, rfl, rfl, .inl ⟨rfl, rowC_scal encP_ok _⟩⟩, trivial⟩ rfl ?_
      refine XQ.ret (by kernel_rfl) ?_
      cases h
      exact hQ
     | false =>
      have h := cF b4 h
      refine XQ.cond (s := (.tmp 31)) (b := false) (by kernel_rfl) (by kernel_rfl) (fun q => by cases q) (fun _ => ?_)
      refine XQ.skip (by kernel_rfl) ?_
      show XQ _ _ _ _ _ _ _ _
      refine XQ.region (by kernel_rfl) ?_
      refine XR.runS E0_ok 1 3 [(0, s0 0 a.length), (1, ii b), (2, ii c), (7, ii (w64 (x7_1 + 1)))] rfl (by kernel_rfl) ?_
      refine XR.done (by kernel_rfl) ?_
      show XL _ _ _ _ _ _ _ _ _
      refine XL.ren (σ' := [(0, s0 0 a.length), (1, ii b), (2, ii c), (7, ii (w64 (x7_1 + 1)))]) (h' := [(0, rc encP a z0 y0 2)]) (c' := 1) [0] (by decide) rfl ⟨by kernel_rfl, by kernel_rfl, by kernel_rfl, by kernel_rfl, trivial⟩ ⟨⟨_, _, rfl, rfl, .inl ⟨rfl, rowC_scal encP_ok _⟩⟩, trivial⟩ rfl ?_
      refine XL.conv (f79_1_ok m fuel z0 y0 a b c (w64 (x7_1 + 1)) o h Q hQ) (by first | rfl | simp)
  | false =>
   have h := cF b1 h
   refine XQ.cond (s := (.tmp 11)) (b := false) (by kernel_rfl) (by kernel_rfl) (fun q => by cases q) (fun _ => ?_)
   refine XQ.ren (σ' := []) (h' := [(0, rc encP a z0 y0 2)]) (c' := 1) [0] (by decide) rfl trivial ⟨⟨_, _, rfl, rfl, .inl ⟨rfl, rowC_scal encP_ok _⟩⟩, trivial⟩ rfl ?_
   refine XQ.exit (i := 0) (by kernel_rfl) ?_
   cases h
   exact hQ

def f79 (m : Nat) (a : List (Int × Int)) (b : Int) (c : Int) : Option (Bool) :=
 (f79_1 m m a b c 0).bind fun o1 =>
  match o1 with
  | .r =>
   some (true)
  | .x0 =>
   some (false)

theorem f79_ok (m : Nat) (z0 : Nat) (y0 : Nat) (a : List (Int × Int)) (b : Int) (c : Int) (o : Bool) (h : f79 m a b c = some o) : KC E0 79 [s0 0 a.length, ii b, ii c] [(0, rc encP a z0 y0 2)] 1 (fun v _ _ => v = .bool o) := by
 refine KC.bodyN E0_ok (F := Proofs.Tryd.f79) (by kernel_rfl) (code := f79_C79) (by kernel_rfl) (nt := 32) (by kernel_rfl) (rs := [.tmp 6]) (by kernel_rfl) (by kernel_rfl) (σ := [(0, s0 0 a.length), (1, ii b), (2, ii c)]) (by kernel_rfl) ?_
 unfold f79 at h
 refine XQ.seq E0_ok (by kernel_rfl) ?_
 refine XQ.region (by kernel_rfl) ?_
 refine XR.runS E0_ok 1 1 [(0, s0 0 a.length), (1, ii b), (2, ii c)] rfl (by kernel_rfl) ?_
 refine XR.done (by kernel_rfl) ?_
 show XQ _ _ _ _ _ _ _ _
 refine XQ.seq E0_ok (by kernel_rfl) ?_
 refine XQ.seq E0_ok (by kernel_rfl) ?_
 refine XQ.region (by kernel_rfl) ?_
 refine XR.runS E0_ok 1 1 [(0, s0 0 a.length), (1, ii b), (2, ii c), (7, ii 0)] rfl (by kernel_rfl) ?_
 refine XR.done (by kernel_rfl) ?_
 show XQ _ _ _ _ _ _ _ _
 refine XQ.block (id := 0) (by kernel_rfl) ?_
 refine XQ.loop m (by kernel_rfl) ?_
 obtain ⟨o1, o1_h, h⟩ := bS h
 refine XL.ren (σ' := [(0, s0 0 a.length), (1, ii b), (2, ii c), (7, ii 0)]) (h' := [(0, rc encP a z0 y0 2)]) (c' := 1) [0] (by decide) rfl ⟨by kernel_rfl, by kernel_rfl, by kernel_rfl, by kernel_rfl, trivial⟩ ⟨⟨_, _, rfl, rfl, .inl ⟨rfl, rowC_scal encP_ok _⟩⟩, trivial⟩ rfl ?_
 cases o1 with
 | r =>
  dsimp only at h
  refine XL.conv (f79_1_ok m m z0 y0 a b c 0 (.r) o1_h _ ?_) (by first | rfl | simp)
  have h := Option.some.inj h
  subst h
  exact ⟨fun i q => (by cases q), .bool true, (by kernel_rfl), rfl⟩
 | x0 =>
  dsimp only at h
  refine XL.conv (f79_1_ok m m z0 y0 a b c 0 (.x0) o1_h _ ?_) (by first | rfl | simp)
  show XQ _ _ _ _ _ _ _ _
  refine XQ.seq E0_ok (by kernel_rfl) ?_
  refine XQ.region (by kernel_rfl) ?_
  refine XR.runS E0_ok 1 1 [(6, .bool false)] rfl (by kernel_rfl) ?_
  refine XR.done (by kernel_rfl) ?_
  show XQ _ _ _ _ _ _ _ _
  refine XQ.ret (by kernel_rfl) ?_
  have h := Option.some.inj h
  subst h
  exact ⟨fun i q => (by cases q), .bool false, (by kernel_rfl), rfl⟩

/-! slices.Contains[[]int,int] -/
noncomputable def f75_C75 : Code := Proofs.Tryd.f75.body.getD .skip
noncomputable def f75_C102 : Code := Proofs.Tryd.f102.body.getD .skip
noncomputable def f75_L1 : Code := lft (lft (rgt (lft (rgt f75_C102))))

inductive Of75_1 where
 | r (x4_r1 : Int)
 | x0

def f75_1 (m : Nat) : Nat → List Int → Int → Int → Int → Option Of75_1
 | 0, _, _, _, _ => none
 | fuel + 1, a, b, x7_1, x8_1 =>
  cond (decide (x8_1 < x7_1)) (
   cond (inRow x8_1 a.length) (
    cond (b == (List.getD a (Int.toNat x8_1) 0)) (
     some (.r x8_1)
    ) (
     f75_1 m fuel a b x7_1 (w64 (x8_1 + 1))
    )
   ) none
  ) (
   some (.x0)
  )

theorem f75_1_ok (m : Nat) : ∀ (fuel : Nat) (z0 : Nat) (y0 : Nat) (x0 : Nat) (a : List Int) (b : Int) (x7_1 : Int) (x8_1 : Int) (o : Of75_1), f75_1 m fuel a b x7_1 x8_1 = some o → ∀ Q : QP, (match o with | .r x4_r1 => Q .ret [(4, ii x4_r1)] [(0, rc (encI .i64) a z0 y0 x0)] 1 | .x0 => Q (.exit 0) [] [(0, rc (encI .i64) a z0 y0 x0)] 1) → XL E0 19 1 fuel f75_L1 [(0, s0 0 a.length), (1, ii b), (7, ii x7_1), (8, ii x8_1)] [(0, rc (encI .i64) a z0 y0 x0)] 1 Q
 | 0, z0, y0, x0, a, b, x7_1, x8_1, o, h, Q, hQ => by cases h
 | fuel + 1, z0, y0, x0, a, b, x7_1, x8_1, o, h, Q, hQ => by
  unfold f75_1 at h
  refine XL.succ E0_ok ?_
  refine XQ.seq E0_ok (by kernel_rfl) ?_
  refine XQ.region (by kernel_rfl) ?_
  refine XR.runS E0_ok 1 1 [(0, s0 0 a.length), (1, ii b), (7, ii x7_1), (8, ii x8_1), (9, .bool (decide (x8_1 < x7_1)))] rfl (by kernel_rfl) ?_
  refine XR.done (by kernel_rfl) ?_
  show XQ _ _ _ _ _ _ _ _
  refine XQ.seq E0_ok (by kernel_rfl) ?_
  cases b1 : (decide (x8_1 < x7_1) : Bool) with
  | true =>
   have h := cT b1 h
   refine XQ.cond (s := (.tmp 9)) (b := true) (by kernel_rfl) (by kernel_rfl) (fun _ => ?_) (fun q => by cases q)
   refine XQ.skip (by kernel_rfl) ?_
   show XQ _ _ _ _ _ _ _ _
   refine XQ.seq E0_ok (by kernel_rfl) ?_
   refine XQ.block (id := 1) (by kernel_rfl) ?_
   refine XQ.seq E0_ok (by kernel_rfl) ?_
   refine XQ.region (by kernel_rfl) ?_
   refine XR.runS E0_ok 1 2 [(0, s0 0 a.length), (1, ii b), (5, ii x8_1), (7, ii x7_1), (8, ii x8_1)] rfl (by kernel_rfl) ?_
   refine XR.done (by kernel_rfl) ?_
   show XQ _ _ _ _ _ _ _ _
   refine XQ.seq E0_ok (by kernel_rfl) ?_
   refine XQ.region (by kernel_rfl) ?_
   refine XR.runS E0_ok 1 3 [(0, s0 0 a.length), (1, ii b), (5, ii x8_1), (7, ii x7_1), (8, ii x8_1), (11, ii b), (12, s0 0 a.length), (13, ii x8_1)] rfl (by kernel_rfl) ?_
   cases b2 : (inRow x8_1 a.length : Bool) with
   | false => cases (cF b2 h)
   | true =>
    have h := cT b2 h
    refine XR.rd E0_ok [0, 1, 5, 7, 8, 11, 14] rfl (v := pp 0 ((Int.toNat x8_1) * 1)) (v_idx (s := 1) (x := (src 19 (.tmp 12))) (y := (src 19 (.tmp 13))) (b := 0) (o := 0) (len := a.length) (cap := a.length) (ik := .i64) (i := x8_1) (off := (Int.toNat x8_1) * 1) (d := (some (path 12 14))) (by kernel_rfl) (by kernel_rfl) (by kernel_rfl) b2 (by omega)) (σ' := [(0, s0 0 a.length), (1, ii b), (5, ii x8_1), (7, ii x7_1), (8, ii x8_1), (11, ii b), (14, pp 0 ((Int.toNat x8_1) * 1))]) (by kernel_rfl) ?_
    refine XR.rd E0_ok [0, 1, 5, 7, 8, 11, 15] rfl (v := ii (List.getD a (Int.toNat x8_1) 0)) (v_load1 (encI_ok .i64) (x := (src 19 (.tmp 14))) (b := 0) (off := (Int.toNat x8_1) * 1) (xs := a) (fz := z0) (e := y0) (es := x0) (d := (some (path 12 15))) (by kernel_rfl) (by kernel_rfl) (by kernel_rfl) (Int.toNat x8_1) 0 0 (by first | rfl | omega) (row_len (inRow_toNat b2) (by simp)) rfl rfl) (σ' := [(0, s0 0 a.length), (1, ii b), (5, ii x8_1), (7, ii x7_1), (8, ii x8_1), (11, ii b), (15, ii (List.getD a (Int.toNat x8_1) 0))]) (by kernel_rfl) ?_
    refine XR.runS E0_ok 1 1 [(0, s0 0 a.length), (1, ii b), (5, ii x8_1), (7, ii x7_1), (8, ii x8_1), (16, .bool (b == (List.getD a (Int.toNat x8_1) 0)))] rfl (by kernel_rfl) ?_
    refine XR.done (by kernel_rfl) ?_
    show XQ _ _ _ _ _ _ _ _
    cases b3 : (b == (List.getD a (Int.toNat x8_1) 0) : Bool) with
    | true =>
     have h := cT b3 h
     refine XQ.cond (s := (.tmp 16)) (b := true) (by kernel_rfl) (by kernel_rfl) (fun _ => ?_) (fun q => by cases q)
     refine XQ.seq E0_ok (by kernel_rfl) ?_
     refine XQ.region (by kernel_rfl) ?_
     refine XR.runS E0_ok 1 2 [(4, ii x8_1)] rfl (by kernel_rfl) ?_
     refine XR.done (by kernel_rfl) ?_
     show XQ _ _ _ _ _ _ _ _
     refine XQ.ren (σ' := [(4, ii x8_1)]) (h' := [(0, rc (encI .i64) a z0 y0 x0)]) (c' := 1) [0] (by decide) rfl ⟨by kernel_rfl, trivial⟩ ⟨⟨_, _, rfl, rfl, .inl ⟨rfl, rowC_scal (encI_ok .i64) _⟩⟩, trivial⟩ rfl ?_
     refine XQ.ret (by kernel_rfl) ?_
     cases h
     exact hQ
    | false =>
     have h := cF b3 h
     refine XQ.cond (s := (.tmp 16)) (b := false) (by kernel_rfl) (by kernel_rfl) (fun q => by cases q) (fun _ => ?_)
     refine XQ.skip (by kernel_rfl) ?_
     show XQ _ _ _ _ _ _ _ _
     refine XQ.region (by kernel_rfl) ?_
     refine XR.runS E0_ok 1 2 [(0, s0 0 a.length), (1, ii b), (7, ii x7_1), (8, ii (w64 (x8_1 + 1)))] rfl (by kernel_rfl) ?_
     refine XR.done (by kernel_rfl) ?_
     show XL _ _ _ _ _ _ _ _ _
     refine XL.ren (σ' := [(0, s0 0 a.length), (1, ii b), (7, ii x7_1), (8, ii (w64 (x8_1 + 1)))]) (h' := [(0, rc (encI .i64) a z0 y0 x0)]) (c' := 1) [0] (by decide) rfl ⟨by kernel_rfl, by kernel_rfl, by kernel_rfl, by kernel_rfl, trivial⟩ ⟨⟨_, _, rfl, rfl, .inl ⟨rfl, rowC_scal (encI_ok .i64) _⟩⟩, trivial⟩ rfl ?_
     refine XL.conv (f75_1_ok m fuel z0 y0 x0 a b x7_1 (w64 (x8_1 + 1)) o h Q hQ) (by first | rfl | simp)
  | false =>
   have h := cF b1 h
   refine XQ.cond (s := (.tmp 9)) (b := false) (by kernel_rfl) (by kernel_rfl) (fun q => by cases q) (fun _ => ?_)
   refine XQ.ren (σ' := []) (h' := [(0, rc (encI .i64) a z0 y0 x0)]) (c' := 1) [0] (by decide) rfl trivial ⟨⟨_, _, rfl, rfl, .inl ⟨rfl, rowC_scal (encI_ok .i64) _⟩⟩, trivial⟩ rfl ?_
   refine XQ.exit (i := 0) (by kernel_rfl) ?_
   cases h
   exact hQ

def f75 (m : Nat) (a : List Int) (b : Int) : Option (Bool) :=
 (f75_1 m m a b ((a.length : Nat) : Int) 0).bind fun o1 =>
  match o1 with
  | .r x4_r1 =>
   some (decide (x4_r1 ≥ 0))
  | .x0 =>
   some (false)

theorem f75_ok (m : Nat) (z0 : Nat) (y0 : Nat) (x0 : Nat) (a : List Int) (b : Int) (o : Bool) (h : f75 m a b = some o) : KC E0 75 [s0 0 a.length, ii b] [(0, rc (encI .i64) a z0 y0 x0)] 1 (fun v _ _ => v = .bool o) := by
 refine KC.bodyN E0_ok (F := Proofs.Tryd.f75) (by kernel_rfl) (code := f75_C75) (by kernel_rfl) (nt := 9) (by kernel_rfl) (rs := [.tmp 4]) (by kernel_rfl) (by kernel_rfl) (σ := [(0, s0 0 a.length), (1, ii b)]) (by kernel_rfl) ?_
 unfold f75 at h
 refine XQ.seq E0_ok (by kernel_rfl) ?_
 refine XQ.region (by kernel_rfl) ?_
 refine XR.runS E0_ok 1 1 [(0, s0 0 a.length), (1, ii b)] rfl (by kernel_rfl) ?_
 refine XR.done (by kernel_rfl) ?_
 show XQ _ _ _ _ _ _ _ _
 refine XQ.seq E0_ok (by kernel_rfl) ?_
 refine XQ.region (by kernel_rfl) ?_
 refine XR.runS E0_ok 1 2 [(5, s0 0 a.length), (6, ii b)] rfl (by kernel_rfl) ?_
 refine XR.callK E0_ok [7] rfl (K := 102) (args := [s0 0 a.length, ii b]) (d := (some (path 12 7))) (by kernel_rfl) ?_
 refine KC.bodyN E0_ok (F := Proofs.Tryd.f102) (by kernel_rfl) (code := f75_C102) (by kernel_rfl) (nt := 19) (by kernel_rfl) (rs := [.tmp 4]) (by kernel_rfl) (by kernel_rfl) (σ := [(0, s0 0 a.length), (1, ii b)]) (by kernel_rfl) ?_
 refine XQ.seq E0_ok (by kernel_rfl) ?_
 refine XQ.region (by kernel_rfl) ?_
 refine XR.runS E0_ok 1 1 [(0, s0 0 a.length), (1, ii b)] rfl (by kernel_rfl) ?_
 refine XR.done (by kernel_rfl) ?_
 show XQ _ _ _ _ _ _ _ _
 refine XQ.seq E0_ok (by kernel_rfl) ?_
 refine XQ.seq E0_ok (by kernel_rfl) ?_
 refine XQ.region (by kernel_rfl) ?_
 refine XR.runS E0_ok 1 3 [(0, s0 0 a.length), (1, ii b), (7, ii ((a.length : Nat) : Int)), (8, ii 0)] rfl (by kernel_rfl) ?_
 refine XR.done (by kernel_rfl) ?_
 show XQ _ _ _ _ _ _ _ _
 refine XQ.block (id := 0) (by kernel_rfl) ?_
 refine XQ.loop m (by kernel_rfl) ?_
 obtain ⟨o1, o1_h, h⟩ := bS h
 refine XL.ren (σ' := [(0, s0 0 a.length), (1, ii b), (7, ii ((a.length : Nat) : Int)), (8, ii 0)]) (h' := [(0, rc (encI .i64) a z0 y0 x0)]) (c' := 1) [0] (by decide) rfl ⟨by kernel_rfl, by kernel_rfl, by kernel_rfl, by kernel_rfl, trivial⟩ ⟨⟨_, _, rfl, rfl, .inl ⟨rfl, rowC_scal (encI_ok .i64) _⟩⟩, trivial⟩ rfl ?_
 cases o1 with
 | r x4_r1 =>
  dsimp only at h
  refine XL.conv (f75_1_ok m m z0 y0 x0 a b ((a.length : Nat) : Int) 0 (.r x4_r1) o1_h _ ?_) (by first | rfl | simp)
  refine ⟨fun i q => (by cases q), ii x4_r1, (by kernel_rfl), ?_⟩
  refine XR.conv (σ' := [(7, ii x4_r1)]) (h' := [(0, rc (encI .i64) a z0 y0 x0)]) (c' := 1) ?_ (by kernel_rfl)
  refine XR.runS E0_ok 1 2 [(4, .bool (decide (x4_r1 ≥ 0)))] rfl (by kernel_rfl) ?_
  refine XR.done (by kernel_rfl) ?_
  show XQ _ _ _ _ _ _ _ _
  refine XQ.ret (by kernel_rfl) ?_
  have h := Option.some.inj h
  subst h
  exact ⟨fun i q => (by cases q), .bool (decide (x4_r1 ≥ 0)), (by kernel_rfl), rfl⟩
 | x0 =>
  dsimp only at h
  refine XL.conv (f75_1_ok m m z0 y0 x0 a b ((a.length : Nat) : Int) 0 (.x0) o1_h _ ?_) (by first | rfl | simp)
  show XQ _ _ _ _ _ _ _ _
  refine XQ.seq E0_ok (by kernel_rfl) ?_
  refine XQ.region (by kernel_rfl) ?_
  refine XR.runS E0_ok 1 1 [(4, ii (-1))] rfl (by kernel_rfl) ?_
  refine XR.done (by kernel_rfl) ?_
  show XQ _ _ _ _ _ _ _ _
  refine XQ.ret (by kernel_rfl) ?_
  refine ⟨fun i q => (by cases q), ii (-1), (by kernel_rfl), ?_⟩
  refine XR.conv (σ' := [(7, ii (-1))]) (h' := [(0, rc (encI .i64) a z0 y0 x0)]) (c' := 1) ?_ (by kernel_rfl)
  refine XR.runS E0_ok 1 2 [(4, .bool false)] rfl (by kernel_rfl) ?_
  refine XR.done (by kernel_rfl) ?_
  show XQ _ _ _ _ _ _ _ _
  refine XQ.ret (by kernel_rfl) ?_
  have h := Option.some.inj h
  subst h
  exact ⟨fun i q => (by cases q), .bool false, (by kernel_rfl), rfl⟩

/-! vitola/vitolaref12.CheckPlan -/
noncomputable def f48_C48 : Code := Proofs.Tryd.f48.body.getD .skip
noncomputable def f48_L1 : Code := lft (lft (rgt (lft (rgt (rgt (rgt f48_C48))))))

inductive Of48_1 where
 | r (x2_r1 : Int)
 | x0

def f48_1 (m : Nat) : Nat → Int → List (Int × Int) → Int → Option Of48_1
 | 0, _, _, _ => none
 | fuel + 1, a_Sorters, a_Tables, x3_1 =>
  cond (decide (x3_1 < ((a_Tables.length : Nat) : Int))) (
   cond (inRow x3_1 a_Tables.length) (
    (f66 m ((List.getD a_Tables (Int.toNat x3_1) (0, 0)).1) 0 (w64 (a_Sorters - 1))).bind fun r8 =>
     cond (!r8) (
      some (.r 2)
     ) (
      (f66 m ((List.getD a_Tables (Int.toNat x3_1) (0, 0)).2) 0 (w64 (a_Sorters - 1))).bind fun r9 =>
       cond (!r9) (
        some (.r 2)
       ) (
        cond (((List.getD a_Tables (Int.toNat x3_1) (0, 0)).1) == ((List.getD a_Tables (Int.toNat x3_1) (0, 0)).2)) (
         some (.r 13)
        ) (
         cond (cutOK 0 x3_1 ((a_Tables.length : Nat) : Int) a_Tables.length) (
          cond (Nat.ble (Int.toNat x3_1) a_Tables.length) (
           (f79 m (List.take (Int.toNat x3_1) a_Tables) ((List.getD a_Tables (Int.toNat x3_1) (0, 0)).1) ((List.getD a_Tables (Int.toNat x3_1) (0, 0)).2)).bind fun r10 =>
            cond (r10) (
             some (.r 6)
            ) (
             f48_1 m fuel a_Sorters a_Tables (w64 (x3_1 + 1))
            )
          ) none
         ) none
        )
       )
     )
   ) none
  ) (
   some (.x0)
  )

theorem f48_1_ok (m : Nat) : ∀ (fuel : Nat) (z0 : Nat) (y0 : Nat) (a_Sorters : Int) (a_Tables : List (Int × Int)) (x3_1 : Int) (o : Of48_1), f48_1 m fuel a_Sorters a_Tables x3_1 = some o → ∀ Q : QP, (match o with | .r x2_r1 => Q .ret [(2, ii x2_r1)] [(0, rc encP a_Tables z0 y0 2)] 1 | .x0 => Q (.exit 0) [] [(0, rc encP a_Tables z0 y0 2)] 1) → XL E0 55 1 fuel f48_L1 [(1, pp 1 0), (3, ii x3_1)] [(1, .cells [ii a_Sorters, s0 0 a_Tables.length] 0 37 0), (0, rc encP a_Tables z0 y0 2)] 2 Q
 | 0, z0, y0, a_Sorters, a_Tables, x3_1, o, h, Q, hQ => by cases h
 | fuel + 1, z0, y0, a_Sorters, a_Tables, x3_1, o, h, Q, hQ => by
  unfold f48_1 at h
  refine XL.succ E0_ok ?_
  refine XQ.seq E0_ok (by kernel_rfl) ?_
  refine XQ.seq E0_ok (by kernel_rfl) ?_
  refine XQ.region (by kernel_rfl) ?_
  refine XR.runS E0_ok 1 5 [(1, pp 1 0), (3, ii x3_1), (17, .bool (decide (x3_1 < ((a_Tables.length : Nat) : Int))))] rfl (by kernel_rfl) ?_
  refine XR.done (by kernel_rfl) ?_
  show XQ _ _ _ _ _ _ _ _
  cases b1 : (decide (x3_1 < ((a_Tables.length : Nat) : Int)) : Bool) with
  | true =>
   have h := cT b1 h
   refine XQ.cond (s := (.tmp 17)) (b := true) (by kernel_rfl) (by kernel_rfl) (fun _ => ?_) (fun q => by cases q)
   refine XQ.skip (by kernel_rfl) ?_
   show XQ _ _ _ _ _ _ _ _
   refine XQ.seq E0_ok (by kernel_rfl) ?_
   refine XQ.block (id := 1) (by kernel_rfl) ?_
   refine XQ.seq E0_ok (by kernel_rfl) ?_
   refine XQ.region (by kernel_rfl) ?_
   refine XR.runS E0_ok 1 3 [(1, pp 1 0), (3, ii x3_1), (21, s0 0 a_Tables.length), (22, ii x3_1)] rfl (by kernel_rfl) ?_
   cases b2 : (inRow x3_1 a_Tables.length : Bool) with
   | false => cases (cF b2 h)
   | true =>
    have h := cT b2 h
    refine XR.rd E0_ok [1, 3, 23] rfl (v := pp 0 ((Int.toNat x3_1) * 2)) (v_idx (s := 2) (x := (src 55 (.tmp 21))) (y := (src 55 (.tmp 22))) (b := 0) (o := 0) (len := a_Tables.length) (cap := a_Tables.length) (ik := .i64) (i := x3_1) (off := (Int.toNat x3_1) * 2) (d := (some (path 12 23))) (by kernel_rfl) (by kernel_rfl) (by kernel_rfl) b2 (by omega)) (σ' := [(1, pp 1 0), (3, ii x3_1), (23, pp 0 ((Int.toNat x3_1) * 2))]) (by kernel_rfl) ?_
    refine XR.rd E0_ok [1, 3, 24] rfl (v := .agg #[ii ((List.getD a_Tables (Int.toNat x3_1) (0, 0)).1), ii ((List.getD a_Tables (Int.toNat x3_1) (0, 0)).2)]) (v_loadN encP_ok (x := (src 55 (.tmp 23))) (b := 0) (off := (Int.toNat x3_1) * 2) (xs := a_Tables) (fz := z0) (e := y0) (es := 2) (d := (some (path 12 24))) (by kernel_rfl) (by kernel_rfl) (by kernel_rfl) (Int.toNat x3_1) (0, 0) (by first | rfl | omega) (row_len (inRow_toNat b2) (by simp)) rfl) (σ' := [(1, pp 1 0), (3, ii x3_1), (24, .agg #[ii ((List.getD a_Tables (Int.toNat x3_1) (0, 0)).1), ii ((List.getD a_Tables (Int.toNat x3_1) (0, 0)).2)])]) (by kernel_rfl) ?_
    refine XR.runT E0_ok 1 2 [(1, pp 1 0), (3, ii x3_1), (4, pp 2 0)] [(2, .cells [ii ((List.getD a_Tables (Int.toNat x3_1) (0, 0)).1), ii ((List.getD a_Tables (Int.toNat x3_1) (0, 0)).2)] 0 55 0), (1, .cells [ii a_Sorters, s0 0 a_Tables.length] 0 37 0), (0, rc encP a_Tables z0 y0 2)] 3 rfl (by kernel_rfl) ?_
    refine XR.done (by kernel_rfl) ?_
    show XQ _ _ _ _ _ _ _ _
    refine XQ.seq E0_ok (by kernel_rfl) ?_
    refine XQ.seq E0_ok (by kernel_rfl) ?_
    refine XQ.region (by kernel_rfl) ?_
    refine XR.runS E0_ok 1 5 [(1, pp 1 0), (3, ii x3_1), (4, pp 2 0), (26, ii ((List.getD a_Tables (Int.toNat x3_1) (0, 0)).1)), (29, ii (w64 (a_Sorters - 1)))] rfl (by kernel_rfl) ?_
    obtain ⟨r8, r8_h, h⟩ := bS h
    refine XR.call E0_ok [1, 3, 4, 30] rfl (K := 66) (args := [ii ((List.getD a_Tables (Int.toNat x3_1) (0, 0)).1), ii 0, ii (w64 (a_Sorters - 1))]) (d := (some (path 12 30))) (by kernel_rfl) (KC.of_calls E0_ok (F := Proofs.Tryd.f66) (v := .bool r8) (by kernel_rfl) rfl rfl (fun w hI => f66_ok m ((List.getD a_Tables (Int.toNat x3_1) (0, 0)).1) 0 (w64 (a_Sorters - 1)) r8 r8_h w hI)) ?_
    rintro _ _ _ ⟨rfl, rfl, rfl⟩
    refine XR.conv (σ' := [(1, pp 1 0), (3, ii x3_1), (4, pp 2 0), (30, .bool r8)]) (h' := [(2, .cells [ii ((List.getD a_Tables (Int.toNat x3_1) (0, 0)).1), ii ((List.getD a_Tables (Int.toNat x3_1) (0, 0)).2)] 0 55 0), (1, .cells [ii a_Sorters, s0 0 a_Tables.length] 0 37 0), (0, rc encP a_Tables z0 y0 2)]) (c' := 3) ?_ (by kernel_rfl)
    refine XR.runS E0_ok 1 2 [(1, pp 1 0), (3, ii x3_1), (4, pp 2 0), (32, .bool (!r8))] rfl (by kernel_rfl) ?_
    cases b3 : (!r8 : Bool) with
    | true =>
     have h := cT b3 h
     refine XR.runS E0_ok 1 8 [(1, pp 1 0), (3, ii x3_1), (4, pp 2 0), (40, .bool true)] rfl (by kernel_rfl) ?_
     refine XR.done (by kernel_rfl) ?_
     show XQ _ _ _ _ _ _ _ _
     refine XQ.cond (s := (.tmp 40)) (b := true) (by kernel_rfl) (by kernel_rfl) (fun _ => ?_) (fun q => by cases q)
     refine XQ.seq E0_ok (by kernel_rfl) ?_
     refine XQ.region (by kernel_rfl) ?_
     refine XR.runS E0_ok 1 1 [(2, ii 2)] rfl (by kernel_rfl) ?_
     refine XR.done (by kernel_rfl) ?_
     show XQ _ _ _ _ _ _ _ _
     refine XQ.ren (σ' := [(2, ii 2)]) (h' := [(0, rc encP a_Tables z0 y0 2)]) (c' := 1) [0] (by decide) rfl ⟨by kernel_rfl, trivial⟩ ⟨⟨_, _, rfl, rfl, .inl ⟨rfl, rowC_scal encP_ok _⟩⟩, trivial⟩ rfl ?_
     refine XQ.ret (by kernel_rfl) ?_
     cases h
     exact hQ
    | false =>
     have h := cF b3 h
     refine XR.runS E0_ok 1 5 [(1, pp 1 0), (3, ii x3_1), (4, pp 2 0), (32, .bool false), (34, ii ((List.getD a_Tables (Int.toNat x3_1) (0, 0)).2)), (37, ii (w64 (a_Sorters - 1)))] rfl (by kernel_rfl) ?_
     obtain ⟨r9, r9_h, h⟩ := bS h
     refine XR.call E0_ok [1, 3, 4, 32, 38] rfl (K := 66) (args := [ii ((List.getD a_Tables (Int.toNat x3_1) (0, 0)).2), ii 0, ii (w64 (a_Sorters - 1))]) (d := (some (path 12 38))) (by kernel_rfl) (KC.of_calls E0_ok (F := Proofs.Tryd.f66) (v := .bool r9) (by kernel_rfl) rfl rfl (fun w hI => f66_ok m ((List.getD a_Tables (Int.toNat x3_1) (0, 0)).2) 0 (w64 (a_Sorters - 1)) r9 r9_h w hI)) ?_
     rintro _ _ _ ⟨rfl, rfl, rfl⟩
     refine XR.conv (σ' := [(1, pp 1 0), (3, ii x3_1), (4, pp 2 0), (32, .bool false), (38, .bool r9)]) (h' := [(2, .cells [ii ((List.getD a_Tables (Int.toNat x3_1) (0, 0)).1), ii ((List.getD a_Tables (Int.toNat x3_1) (0, 0)).2)] 0 55 0), (1, .cells [ii a_Sorters, s0 0 a_Tables.length] 0 37 0), (0, rc encP a_Tables z0 y0 2)]) (c' := 3) ?_ (by kernel_rfl)
     refine XR.runS E0_ok 1 2 [(1, pp 1 0), (3, ii x3_1), (4, pp 2 0), (40, .bool (!r9))] rfl (by kernel_rfl) ?_
     refine XR.done (by kernel_rfl) ?_
     show XQ _ _ _ _ _ _ _ _
     cases b4 : (!r9 : Bool) with
     | true =>
      have h := cT b4 h
      refine XQ.cond (s := (.tmp 40)) (b := true) (by kernel_rfl) (by kernel_rfl) (fun _ => ?_) (fun q => by cases q)
      refine XQ.seq E0_ok (by kernel_rfl) ?_
      refine XQ.region (by kernel_rfl) ?_
      refine XR.runS E0_ok 1 1 [(2, ii 2)] rfl (by kernel_rfl) ?_
      refine XR.done (by kernel_rfl) ?_
      show XQ _ _ _ _ _ _ _ _
      refine XQ.ren (σ' := [(2, ii 2)]) (h' := [(0, rc encP a_Tables z0 y0 2)]) (c' := 1) [0] (by decide) rfl ⟨by kernel_rfl, trivial⟩ ⟨⟨_, _, rfl, rfl, .inl ⟨rfl, rowC_scal encP_ok _⟩⟩, trivial⟩ rfl ?_
      refine XQ.ret (by kernel_rfl) ?_
      cases h
      exact hQ
     | false =>
      have h := cF b4 h
      refine XQ.cond (s := (.tmp 40)) (b := false) (by kernel_rfl) (by kernel_rfl) (fun q => by cases q) (fun _ => ?_)
      refine XQ.skip (by kernel_rfl) ?_
      show XQ _ _ _ _ _ _ _ _
      refine XQ.seq E0_ok (by kernel_rfl) ?_
      refine XQ.seq E0_ok (by kernel_rfl) ?_
      refine XQ.region (by kernel_rfl) ?_
      refine XR.runS E0_ok 1 5 [(1, pp 1 0), (3, ii x3_1), (4, pp 2 0), (45, .bool (((List.getD a_Tables (Int.toNat x3_1) (0, 0)).1) == ((List.getD a_Tables (Int.toNat x3_1) (0, 0)).2)))] rfl (by kernel_rfl) ?_
      refine XR.done (by kernel_rfl) ?_
      show XQ _ _ _ _ _ _ _ _
      cases b5 : (((List.getD a_Tables (Int.toNat x3_1) (0, 0)).1) == ((List.getD a_Tables (Int.toNat x3_1) (0, 0)).2) : Bool) with
      | true =>
       have h := cT b5 h
       refine XQ.cond (s := (.tmp 45)) (b := true) (by kernel_rfl) (by kernel_rfl) (fun _ => ?_) (fun q => by cases q)
       refine XQ.seq E0_ok (by kernel_rfl) ?_
       refine XQ.region (by kernel_rfl) ?_
       refine XR.runS E0_ok 1 1 [(2, ii 13)] rfl (by kernel_rfl) ?_
       refine XR.done (by kernel_rfl) ?_
       show XQ _ _ _ _ _ _ _ _
       refine XQ.ren (σ' := [(2, ii 13)]) (h' := [(0, rc encP a_Tables z0 y0 2)]) (c' := 1) [0] (by decide) rfl ⟨by kernel_rfl, trivial⟩ ⟨⟨_, _, rfl, rfl, .inl ⟨rfl, rowC_scal encP_ok _⟩⟩, trivial⟩ rfl ?_
       refine XQ.ret (by kernel_rfl) ?_
       cases h
       exact hQ
      | false =>
       have h := cF b5 h
       refine XQ.cond (s := (.tmp 45)) (b := false) (by kernel_rfl) (by kernel_rfl) (fun q => by cases q) (fun _ => ?_)
       refine XQ.skip (by kernel_rfl) ?_
       show XQ _ _ _ _ _ _ _ _
       refine XQ.seq E0_ok (by kernel_rfl) ?_
       refine XQ.quiet E0_ok (by kernel_rfl) (by kernel_rfl) ?_
       refine XU.run E0_ok 1 3 [1, 3, 4, 47, 48] rfl (σ' := [(1, pp 1 0), (3, ii x3_1), (4, pp 2 0), (47, s0 0 a_Tables.length), (48, ii x3_1)]) (by kernel_rfl) ?_
       cases b6 : (cutOK 0 x3_1 ((a_Tables.length : Nat) : Int) a_Tables.length : Bool) with
       | false => cases (cF b6 h)
       | true =>
        have h := cT b6 h
        refine XU.rd E0_ok [1, 3, 4, 49] rfl (v := sl 0 0 (Int.toNat x3_1) a_Tables.length) (v_cut (nt := 55) (s := 2) (x := (src 55 (.tmp 47))) (lo := none) (hi := (some (.tmp 48))) (mx := none) (b := 0) (o := 0) (len := a_Tables.length) (cap := a_Tables.length) (l := none) (u := (some x3_1)) (m := none) (cs := rowC encP a_Tables) (fz := z0) (e := y0) (es := 2) (o' := 0) (len' := Int.toNat x3_1) (cap' := a_Tables.length) (d := (some (path 12 49))) (by kernel_rfl) (by kernel_rfl) (by kernel_rfl) (by kernel_rfl) (by kernel_rfl) (by kernel_rfl) (by kernel_rfl) rfl b6 (by simp only [Option.getD_none, Option.getD_some] <;> omega) (by simp only [Option.getD_none, Option.getD_some] <;> omega) (by simp only [Option.getD_none, Option.getD_some] <;> omega)) (σ' := [(1, pp 1 0), (3, ii x3_1), (4, pp 2 0), (49, sl 0 0 (Int.toNat x3_1) a_Tables.length)]) (by kernel_rfl) ?_
        refine XU.run E0_ok 1 4 [1, 3, 49, 51, 53] rfl (σ' := [(1, pp 1 0), (3, ii x3_1), (49, sl 0 0 (Int.toNat x3_1) a_Tables.length), (51, ii ((List.getD a_Tables (Int.toNat x3_1) (0, 0)).1)), (53, ii ((List.getD a_Tables (Int.toNat x3_1) (0, 0)).2))]) (by kernel_rfl) ?_
        cases b7 : (Nat.ble (Int.toNat x3_1) a_Tables.length : Bool) with
        | false => cases (cF b7 h)
        | true =>
         have h := cT b7 h
         obtain ⟨r10, r10_h, h⟩ := bS h
         refine XU.callH E0_ok [1, 3, 54] rfl (K := 79) (args := [sl 0 0 (Int.toNat x3_1) a_Tables.length, ii ((List.getD a_Tables (Int.toNat x3_1) (0, 0)).1), ii ((List.getD a_Tables (Int.toNat x3_1) (0, 0)).2)]) (d := (some (path 12 54))) (V := .bool r10) (by kernel_rfl) rfl (KC.quietT encP_ok rfl E0_ok (args0 := [sl 0 0 (Int.toNat x3_1) a_Tables.length, ii ((List.getD a_Tables (Int.toNat x3_1) (0, 0)).1), ii ((List.getD a_Tables (Int.toNat x3_1) (0, 0)).2)]) (h0 := [(0, rc encP a_Tables (z0 + ((rowC encP a_Tables).length + 1)) y0 2)]) (h1 := [(0, rc encP (List.take (Int.toNat x3_1) a_Tables) (z0 + ((rowC encP a_Tables).length + 1)) y0 2)]) (n := 1) (V := .bool r10) [0] 0 (xs := a_Tables) (z := z0) (e := y0) (m := Int.toNat x3_1) (cap := a_Tables.length) [] [ii ((List.getD a_Tables (Int.toNat x3_1) (0, 0)).1), ii ((List.getD a_Tables (Int.toNat x3_1) (0, 0)).2)] (f79_ok m (z0 + ((rowC encP a_Tables).length + 1)) y0 (List.take (Int.toNat x3_1) a_Tables) ((List.getD a_Tables (Int.toNat x3_1) (0, 0)).1) ((List.getD a_Tables (Int.toNat x3_1) (0, 0)).2) r10 r10_h) b7 b7 rfl (by kernel_rfl) (by kernel_rfl) rfl (by rfl) (by decide) rfl (by kernel_rfl) ⟨⟨_, _, rfl, rfl, .inl ⟨rfl, rowC_scal encP_ok _⟩⟩, trivial⟩) (σ' := [(1, pp 1 0), (3, ii x3_1), (54, .bool r10)]) (by kernel_rfl) ?_
         refine XU.done (by kernel_rfl) ?_
         show XQ _ _ _ _ _ _ _ _
         cases b8 : (r10 : Bool) with
         | true =>
          have h := cT b8 h
          refine XQ.cond (s := (.tmp 54)) (b := true) (by kernel_rfl) (by kernel_rfl) (fun _ => ?_) (fun q => by cases q)
          refine XQ.seq E0_ok (by kernel_rfl) ?_
          refine XQ.region (by kernel_rfl) ?_
          refine XR.runS E0_ok 1 1 [(2, ii 6)] rfl (by kernel_rfl) ?_
          refine XR.done (by kernel_rfl) ?_
          show XQ _ _ _ _ _ _ _ _
          refine XQ.ren (σ' := [(2, ii 6)]) (h' := [(0, rc encP a_Tables z0 y0 2)]) (c' := 1) [0] (by decide) rfl ⟨by kernel_rfl, trivial⟩ ⟨⟨_, _, rfl, rfl, .inl ⟨rfl, rowC_scal encP_ok _⟩⟩, trivial⟩ rfl ?_
          refine XQ.ret (by kernel_rfl) ?_
          cases h
          exact hQ
         | false =>
          have h := cF b8 h
          refine XQ.cond (s := (.tmp 54)) (b := false) (by kernel_rfl) (by kernel_rfl) (fun q => by cases q) (fun _ => ?_)
          refine XQ.skip (by kernel_rfl) ?_
          show XQ _ _ _ _ _ _ _ _
          refine XQ.region (by kernel_rfl) ?_
          refine XR.runS E0_ok 1 3 [(1, pp 1 0), (3, ii (w64 (x3_1 + 1)))] rfl (by kernel_rfl) ?_
          refine XR.done (by kernel_rfl) ?_
          show XL _ _ _ _ _ _ _ _ _
          refine XL.ren (σ' := [(1, pp 1 0), (3, ii (w64 (x3_1 + 1)))]) (h' := [(1, .cells [ii a_Sorters, s0 0 a_Tables.length] 0 37 0), (0, rc encP a_Tables z0 y0 2)]) (c' := 2) [0, 1] (by decide) rfl ⟨by kernel_rfl, by kernel_rfl, trivial⟩ ⟨⟨_, _, rfl, rfl, .inr ⟨_, _, _, _, rfl, rfl⟩⟩, ⟨_, _, rfl, rfl, .inl ⟨rfl, rowC_scal encP_ok _⟩⟩, trivial⟩ rfl ?_
          refine XL.conv (f48_1_ok m fuel z0 y0 a_Sorters a_Tables (w64 (x3_1 + 1)) o h Q hQ) (by first | rfl | simp)
  | false =>
   have h := cF b1 h
   refine XQ.cond (s := (.tmp 17)) (b := false) (by kernel_rfl) (by kernel_rfl) (fun q => by cases q) (fun _ => ?_)
   refine XQ.ren (σ' := []) (h' := [(0, rc encP a_Tables z0 y0 2)]) (c' := 1) [0] (by decide) rfl trivial ⟨⟨_, _, rfl, rfl, .inl ⟨rfl, rowC_scal encP_ok _⟩⟩, trivial⟩ rfl ?_
   refine XQ.exit (i := 0) (by kernel_rfl) ?_
   cases h
   exact hQ

def f48 (m : Nat) (a_Sorters : Int) (a_Tables : List (Int × Int)) : Option (Int) :=
 (f66 m a_Sorters 1 8).bind fun r1 =>
  cond (!r1) (
   some (1)
  ) (
   cond (decide (((a_Tables.length : Nat) : Int) > 28)) (
    some (3)
   ) (
    (f48_1 m m a_Sorters a_Tables 0).bind fun o1 =>
     match o1 with
     | .r x2_r1 =>
      some (x2_r1)
     | .x0 =>
      some (0)
   )
  )

theorem f48_ok (m : Nat) (z0 : Nat) (y0 : Nat) (a_Sorters : Int) (a_Tables : List (Int × Int)) (o : Int) (h : f48 m a_Sorters a_Tables = some o) : KC E0 48 [.agg #[ii a_Sorters, s0 0 a_Tables.length]] [(0, rc encP a_Tables z0 y0 2)] 1 (fun v _ _ => v = ii o) := by
 refine KC.bodyN E0_ok (F := Proofs.Tryd.f48) (by kernel_rfl) (code := f48_C48) (by kernel_rfl) (nt := 55) (by kernel_rfl) (rs := [.tmp 2]) (by kernel_rfl) (by kernel_rfl) (σ := [(0, .agg #[ii a_Sorters, s0 0 a_Tables.length])]) (by kernel_rfl) ?_
 unfold f48 at h
 refine XQ.seq E0_ok (by kernel_rfl) ?_
 refine XQ.region (by kernel_rfl) ?_
 refine XR.runT E0_ok 1 2 [(1, pp 1 0)] [(1, .cells [ii a_Sorters, s0 0 a_Tables.length] 0 37 0), (0, rc encP a_Tables z0 y0 2)] 2 rfl (by kernel_rfl) ?_
 refine XR.done (by kernel_rfl) ?_
 show XQ _ _ _ _ _ _ _ _
 refine XQ.seq E0_ok (by kernel_rfl) ?_
 refine XQ.seq E0_ok (by kernel_rfl) ?_
 refine XQ.region (by kernel_rfl) ?_
 refine XR.runS E0_ok 1 2 [(1, pp 1 0), (6, ii a_Sorters)] rfl (by kernel_rfl) ?_
 obtain ⟨r1, r1_h, h⟩ := bS h
 refine XR.call E0_ok [1, 7] rfl (K := 66) (args := [ii a_Sorters, ii 1, ii 8]) (d := (some (path 12 7))) (by kernel_rfl) (KC.of_calls E0_ok (F := Proofs.Tryd.f66) (v := .bool r1) (by kernel_rfl) rfl rfl (fun w hI => f66_ok m a_Sorters 1 8 r1 r1_h w hI)) ?_
 rintro _ _ _ ⟨rfl, rfl, rfl⟩
 refine XR.conv (σ' := [(1, pp 1 0), (7, .bool r1)]) (h' := [(1, .cells [ii a_Sorters, s0 0 a_Tables.length] 0 37 0), (0, rc encP a_Tables z0 y0 2)]) (c' := 2) ?_ (by kernel_rfl)
 refine XR.runS E0_ok 1 1 [(1, pp 1 0), (8, .bool (!r1))] rfl (by kernel_rfl) ?_
 refine XR.done (by kernel_rfl) ?_
 show XQ _ _ _ _ _ _ _ _
 cases b1 : (!r1 : Bool) with
 | true =>
  have h := cT b1 h
  refine XQ.cond (s := (.tmp 8)) (b := true) (by kernel_rfl) (by kernel_rfl) (fun _ => ?_) (fun q => by cases q)
  refine XQ.seq E0_ok (by kernel_rfl) ?_
  refine XQ.region (by kernel_rfl) ?_
  refine XR.runS E0_ok 1 1 [(2, ii 1)] rfl (by kernel_rfl) ?_
  refine XR.done (by kernel_rfl) ?_
  show XQ _ _ _ _ _ _ _ _
  refine XQ.ret (by kernel_rfl) ?_
  have h := Option.some.inj h
  subst h
  exact ⟨fun i q => (by cases q), ii 1, (by kernel_rfl), rfl⟩
 | false =>
  have h := cF b1 h
  refine XQ.cond (s := (.tmp 8)) (b := false) (by kernel_rfl) (by kernel_rfl) (fun q => by cases q) (fun _ => ?_)
  refine XQ.skip (by kernel_rfl) ?_
  show XQ _ _ _ _ _ _ _ _
  refine XQ.seq E0_ok (by kernel_rfl) ?_
  refine XQ.seq E0_ok (by kernel_rfl) ?_
  refine XQ.region (by kernel_rfl) ?_
  refine XR.runS E0_ok 1 4 [(1, pp 1 0), (12, .bool (decide (((a_Tables.length : Nat) : Int) > 28)))] rfl (by kernel_rfl) ?_
  refine XR.done (by kernel_rfl) ?_
  show XQ _ _ _ _ _ _ _ _
  cases b2 : (decide (((a_Tables.length : Nat) : Int) > 28) : Bool) with
  | true =>
   have h := cT b2 h
   refine XQ.cond (s := (.tmp 12)) (b := true) (by kernel_rfl) (by kernel_rfl) (fun _ => ?_) (fun q => by cases q)
   refine XQ.seq E0_ok (by kernel_rfl) ?_
   refine XQ.region (by kernel_rfl) ?_
   refine XR.runS E0_ok 1 1 [(2, ii 3)] rfl (by kernel_rfl) ?_
   refine XR.done (by kernel_rfl) ?_
   show XQ _ _ _ _ _ _ _ _
   refine XQ.ret (by kernel_rfl) ?_
   have h := Option.some.inj h
   subst h
   exact ⟨fun i q => (by cases q), ii 3, (by kernel_rfl), rfl⟩
  | false =>
   have h := cF b2 h
   refine XQ.cond (s := (.tmp 12)) (b := false) (by kernel_rfl) (by kernel_rfl) (fun q => by cases q) (fun _ => ?_)
   refine XQ.skip (by kernel_rfl) ?_
   show XQ _ _ _ _ _ _ _ _
   refine XQ.seq E0_ok (by kernel_rfl) ?_
   refine XQ.seq E0_ok (by kernel_rfl) ?_
   refine XQ.region (by kernel_rfl) ?_
   refine XR.runS E0_ok 1 1 [(1, pp 1 0), (3, ii 0)] rfl (by kernel_rfl) ?_
   refine XR.done (by kernel_rfl) ?_
   show XQ _ _ _ _ _ _ _ _
   refine XQ.block (id := 0) (by kernel_rfl) ?_
   refine XQ.loop m (by kernel_rfl) ?_
   obtain ⟨o1, o1_h, h⟩ := bS h
   refine XL.ren (σ' := [(1, pp 1 0), (3, ii 0)]) (h' := [(1, .cells [ii a_Sorters, s0 0 a_Tables.length] 0 37 0), (0, rc encP a_Tables z0 y0 2)]) (c' := 2) [0, 1] (by decide) rfl ⟨by kernel_rfl, by kernel_rfl, trivial⟩ ⟨⟨_, _, rfl, rfl, .inr ⟨_, _, _, _, rfl, rfl⟩⟩, ⟨_, _, rfl, rfl, .inl ⟨rfl, rowC_scal encP_ok _⟩⟩, trivial⟩ rfl ?_
   cases o1 with
   | r x2_r1 =>
    dsimp only at h
    refine XL.conv (f48_1_ok m m z0 y0 a_Sorters a_Tables 0 (.r x2_r1) o1_h _ ?_) (by first | rfl | simp)
    have h := Option.some.inj h
    subst h
    exact ⟨fun i q => (by cases q), ii x2_r1, (by kernel_rfl), rfl⟩
   | x0 =>
    dsimp only at h
    refine XL.conv (f48_1_ok m m z0 y0 a_Sorters a_Tables 0 (.x0) o1_h _ ?_) (by first | rfl | simp)
    show XQ _ _ _ _ _ _ _ _
    refine XQ.seq E0_ok (by kernel_rfl) ?_
    refine XQ.region (by kernel_rfl) ?_
    refine XR.runS E0_ok 1 1 [(2, ii 0)] rfl (by kernel_rfl) ?_
    refine XR.done (by kernel_rfl) ?_
    show XQ _ _ _ _ _ _ _ _
    refine XQ.ret (by kernel_rfl) ?_
    have h := Option.some.inj h
    subst h
    exact ⟨fun i q => (by cases q), ii 0, (by kernel_rfl), rfl⟩

/-! vitola/vitolaref12.Trios -/
/-! vitola/vitolaref12.Others -/
/-! vitola/vitolaref12.Counts -/
end Go.Xm
