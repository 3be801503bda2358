/- What these functions of the program compute, as functions in Lean, and the proofs that they do: vitolaref12.has, slices.Contains[[]int,int], vitolaref12.CheckPlan, vitolaref12.Trios, vitolaref12.Others, vitolaref12.Counts. Conditions: the library's variables hold what their texts lay. -/
import Derived.Test.YtfimbmhannndaaaDoorDa
import Derived.Test.YtfimbmhannndaaaDoorNe
namespace Go.Xm
open Go.RowKit
set_option linter.unusedVariables false
set_option linter.unusedSimpArgs false
set_option maxRecDepth 20000

/-! vitola/vitolaref12.has -/
noncomputable def f79_C79 : Code := Proofs.Tryd.f79.body.getD .skip
noncomputable def f79_L1 : Code := lft (lft (rgt (lft (rgt f79_C79))))

inductive Of79_1 where
 | r
 | x0

def f79_1 (m : Nat) : Nat → List (Int × Int) → Int → Int → Int → Option Of79_1
 | 0, _, _, _, _ => none
 | fuel + 1, a, b, c, x7_1 =>
  cond (decide (x7_1 < ((a.length : Nat) : Int))) (
   cond (inRow x7_1 a.length) (
    cond (((List.getD a (Int.toNat x7_1) (0, 0)).1) == b && ((List.getD a (Int.toNat x7_1) (0, 0)).2) == c) (
     some (.r)
    ) (
     cond (((List.getD a (Int.toNat x7_1) (0, 0)).1) == c && ((List.getD a (Int.toNat x7_1) (0, 0)).2) == b) (
      some (.r)
     ) (
      f79_1 m fuel a b c (w64 (x7_1 + 1))
     )
    )
   ) none
  ) (
   some (.x0)
  )

theorem f79_1_ok (m : Nat) : ∀ (fuel : Nat) (z0 : Nat) (y0 : Nat) (a : List (Int × Int)) (b : Int) (c : Int) (x7_1 : Int) (o : Of79_1), f79_1 m fuel a b c x7_1 = some o → ∀ Q : QP, (match o with | .r => Q .ret [(6, .bool true)] [(0, rc encP a z0 y0 2)] 1 | .x0 => Q (.exit 0) [] [(0, rc encP a z0 y0 2)] 1) → XL E0 32 1 fuel f79_L1 [(0, s0 0 a.length), (1, ii b), (2, ii c), (7, ii x7_1)] [(0, rc encP a z0 y0 2)] 1 Q
 | 0, z0, y0, a, b, c, x7_1, o, h, Q, hQ => by cases h
 | fuel + 1, z0, y0, a, b, c, x7_1, o, h, Q, hQ => by
  unfold f79_1 at h
  refine XL.succ E0_ok ?_
  refine XQ.seq E0_ok (by kernel_rfl) ?_
  refine XQ.seq E0_ok (by kernel_rfl) ?_
  refine XQ.region (by kernel_rfl) ?_
  refine XR.runS E0_ok 1 4 [(0, s0 0 a.length), (1, ii b), (2, ii c), (7, ii x7_1), (11, .bool (decide (x7_1 < ((a.length : Nat) : Int))))] rfl (by kernel_rfl) ?_
  refine XR.done (by kernel_rfl) ?_
  show XQ _ _ _ _ _ _ _ _
  cases b1 : (decide (x7_1 < ((a.length : Nat) : Int)) : Bool) with
  | true =>
   have h := cT b1 h
   refine XQ.cond (s := (.tmp 11)) (b := true) (by kernel_rfl) (by kernel_rfl) (fun _ => ?_) (fun q => by cases q)
   refine XQ.skip (by kernel_rfl) ?_
   show XQ _ _ _ _ _ _ _ _
   refine XQ.seq E0_ok (by kernel_rfl) ?_
   refine XQ.block (id := 1) (by kernel_rfl) ?_
   refine XQ.seq E0_ok (by kernel_rfl) ?_
   refine XQ.region (by kernel_rfl) ?_
   refine XR.runS E0_ok 1 2 [(0, s0 0 a.length), (1, ii b), (2, ii c), (7, ii x7_1), (14, s0 0 a.length), (15, ii x7_1)] rfl (by kernel_rfl) ?_
   cases b2 : (inRow x7_1 a.length : Bool) with
   | false => cases (cF b2 h)
   | true =>
    have h := cT b2 h
    refine XR.rd E0_ok [0, 1, 2, 7, 16] rfl (v := pp 0 ((Int.toNat x7_1) * 2)) (v_idx (s := 2) (x := (src 32 (.tmp 14))) (y := (src 32 (.tmp 15))) (b := 0) (o := 0) (len := a.length) (cap := a.length) (ik := .i64) (i := x7_1) (off := (Int.toNat x7_1) * 2) (d := (some (path 12 16))) (by kernel_rfl) (by kernel_rfl) (by kernel_rfl) b2 (by omega)) (σ' := [(0, s0 0 a.length), (1, ii b), (2, ii c), (7, ii x7_1), (16, pp 0 ((Int.toNat x7_1) * 2))]) (by kernel_rfl) ?_
    refine XR.rd E0_ok [0, 1, 2, 7, 17] rfl (v := .agg #[ii ((List.getD a (Int.toNat x7_1) (0, 0)).1), ii ((List.getD a (Int.toNat x7_1) (0, 0)).2)]) (v_loadN encP_ok (x := (src 32 (.tmp 16))) (b := 0) (off := (Int.toNat x7_1) * 2) (xs := a) (fz := z0) (e := y0) (es := 2) (d := (some (path 12 17))) (by kernel_rfl) (by kernel_rfl) (by kernel_rfl) (Int.toNat x7_1) (0, 0) (by first | rfl | omega) (row_len (inRow_toNat b2) (by simp)) rfl) (σ' := [(0, s0 0 a.length), (1, ii b), (2, ii c), (7, ii x7_1), (17, .agg #[ii ((List.getD a (Int.toNat x7_1) (0, 0)).1), ii ((List.getD a (Int.toNat x7_1) (0, 0)).2)])]) (by kernel_rfl) ?_
    refine XR.runS E0_ok 1 5 [(0, s0 0 a.length), (1, ii b), (2, ii c), (7, ii x7_1), (22, .bool (((List.getD a (Int.toNat x7_1) (0, 0)).1) == b && ((List.getD a (Int.toNat x7_1) (0, 0)).2) == c))] rfl (by kernel_rfl) ?_
    cases b3 : (((List.getD a (Int.toNat x7_1) (0, 0)).1) == b && ((List.getD a (Int.toNat x7_1) (0, 0)).2) == c : Bool) with
    | true =>
     have h := cT b3 h
     refine XR.runS E0_ok 1 9 [(0, s0 0 a.length), (1, ii b), (2, ii c), (7, ii x7_1), (31, .bool true)] rfl (by kernel_rfl) ?_
     refine XR.done (by kernel_rfl) ?_
     show XQ _ _ _ _ _ _ _ _
     refine XQ.cond (s := (.tmp 31)) (b := true) (by kernel_rfl) (by kernel_rfl) (fun _ => ?_) (fun q => by cases q)
     refine XQ.seq E0_ok (by kernel_rfl) ?_
     refine XQ.region (by kernel_rfl) ?_
     refine XR.runS E0_ok 1 1 [(6, .bool true)] rfl (by kernel_rfl) ?_
     refine XR.done (by kernel_rfl) ?_
     show XQ _ _ _ _ _ _ _ _
     refine XQ.ren (σ' := [(6, .bool true)]) (h' := [(0, rc encP a z0 y0 2)]) (c' := 1) [0] (by decide) rfl ⟨by kernel_rfl, trivial⟩ ⟨⟨_, _, rfl, rfl, .inl ⟨rfl, rowC_scal encP_ok _⟩⟩, trivial⟩ rfl ?_
     refine XQ.ret (by kernel_rfl) ?_
     cases h
     exact hQ
    | false =>
     have h := cF b3 h
     refine XR.runS E0_ok 1 2 [(0, s0 0 a.length), (1, ii b), (2, ii c), (7, ii x7_1), (22, .bool false), (23, s0 0 a.length), (24, ii x7_1)] rfl (by kernel_rfl) ?_
     refine XR.rd E0_ok [0, 1, 2, 7, 22, 25] rfl (v := pp 0 ((Int.toNat x7_1) * 2)) (v_idx (s := 2) (x := (src 32 (.tmp 23))) (y := (src 32 (.tmp 24))) (b := 0) (o := 0) (len := a.length) (cap := a.length) (ik := .i64) (i := x7_1) (off := (Int.toNat x7_1) * 2) (d := (some (path 12 25))) (by kernel_rfl) (by kernel_rfl) (by kernel_rfl) b2 (by omega)) (σ' := [(0, s0 0 a.length), (1, ii b), (2, ii c), (7, ii x7_1), (22, .bool false), (25, pp 0 ((Int.toNat x7_1) * 2))]) (by kernel_rfl) ?_
     refine XR.rd E0_ok [0, 1, 2, 7, 22, 26] rfl (v := .agg #[ii ((List.getD a (Int.toNat x7_1) (0, 0)).1), ii ((List.getD a (Int.toNat x7_1) (0, 0)).2)]) (v_loadN encP_ok (x := (src 32 (.tmp 25))) (b := 0) (off := (Int.toNat x7_1) * 2) (xs := a) (fz := z0) (e := y0) (es := 2) (d := (some (path 12 26))) (by kernel_rfl) (by kernel_rfl) (by kernel_rfl) (Int.toNat x7_1) (0, 0) (by first | rfl | omega) (row_len (inRow_toNat b2) (by simp)) rfl) (σ' := [(0, s0 0 a.length), (1, ii b), (2, ii c), (7, ii x7_1), (22, .bool false), (26, .agg #[ii ((List.getD a (Int.toNat x7_1) (0, 0)).1), ii ((List.getD a (Int.toNat x7_1) (0, 0)).2)])]) (by kernel_rfl) ?_
     refine XR.runS E0_ok 1 5 [(0, s0 0 a.length), (1, ii b), (2, ii c), (7, ii x7_1), (31, .bool (((List.getD a (Int.toNat x7_1) (0, 0)).1) == c && ((List.getD a (Int.toNat x7_1) (0, 0)).2) == b))] rfl (by kernel_rfl) ?_
     refine XR.done (by kernel_rfl) ?_
     show XQ _ _ _ _ _ _ _ _
     cases b4 : (((List.getD a (Int.toNat x7_1) (0, 0)).1) == c && ((List.getD a (Int.toNat x7_1) (0, 0)).2) == b : Bool) with
     | true =>
      have h := cT b4 h
      refine XQ.cond (s := (.tmp 31)) (b := true) (by kernel_rfl) (by kernel_rfl) (fun _ => ?_) (fun q => by cases q)
      refine XQ.seq E0_ok (by kernel_rfl) ?_
      refine XQ.region (by kernel_rfl) ?_
      refine XR.runS E0_ok 1 1 [(6, .bool true)] rfl (by kernel_rfl) ?_
      refine XR.done (by kernel_rfl) ?_
      show XQ _ _ _ _ _ _ _ _
      refine XQ.ren (σ' := [(6, .bool true)]) (h' := [(0, rc encP a z0 y0 2)]) (c' := 1) [0] (by decide) rfl ⟨by kernel_rfl, trivial⟩ ⟨⟨_, _, rfl, rfl, .inl ⟨rfl, rowC_scal encP_ok _⟩⟩, trivial⟩ rfl ?_
      refine XQ.ret (by kernel_rfl) ?_
      cases h
      exact hQ
     | false =>
      have h := cF b4 h
      refine XQ.cond (s := (.tmp 31)) (b := false) (by kernel_rfl) (by kernel_rfl) (fun q => by cases q) (fun _ => ?_)
      refine XQ.skip (by kernel_rfl) ?_
      show XQ _ _ _ _ _ _ _ _
      refine XQ.region (by kernel_rfl) ?_
      refine XR.runS E0_ok 1 3 [(0, s0 0 a.length), (1, ii b), (2, ii c), (7, ii (w64 (x7_1 + 1)))] rfl (by kernel_rfl) ?_
      refine XR.done (by kernel_rfl) ?_
      show XL _ _ _ _ _ _ _ _ _
      refine XL.ren (σ' := [(0, s0 0 a.length), (1, ii b), (2, ii c), (7, ii (w64 (x7_1 + 1)))]) (h' := [(0, rc encP a z0 y0 2)]) (c' := 1) [0] (by decide) rfl ⟨by kernel_rfl, by kernel_rfl, by kernel_rfl, by kernel_rfl, trivial⟩ ⟨⟨_, _, rfl, rfl, .inl ⟨rfl, rowC_scal encP_ok _⟩⟩, trivial⟩ rfl ?_
      refine XL.conv (f79_1_ok m fuel z0 y0 a b c (w64 (x7_1 + 1)) o h Q hQ) (by first | rfl | simp)
  | false =>
   have h := cF b1 h
   refine XQ.cond (s := (.tmp 11)) (b := false) (by kernel_rfl) (by kernel_rfl) (fun q => by cases q) (fun _ => ?_)
   refine XQ.ren (σ' := []) (h' := [(0, rc encP a z0 y0 2)]) (c' := 1) [0] (by decide) rfl trivial ⟨⟨_, _, rfl, rfl, .inl ⟨rfl, rowC_scal encP_ok _⟩⟩, trivial⟩ rfl ?_
   refine XQ.exit (i := 0) (by kernel_rfl) ?_
   cases h
   exact hQ

def f79 (m : Nat) (a : List (Int × Int)) (b : Int) (c : Int) : Option (Bool) :=
 (f79_1 m m a b c 0).bind fun o1 =>
  match o1 with
  | .r =>
   some (true)
  | .x0 =>
   some (false)

theorem f79_ok (m : Nat) (z0 : Nat) (y0 : Nat) (a : List (Int × Int)) (b : Int) (c : Int) (o : Bool) (h : f79 m a b c = some o) : KC E0 79 [s0 0 a.length, ii b, ii c] [(0, rc encP a z0 y0 2)] 1 (fun v _ _ => v = .bool o) := by
 refine KC.bodyN E0_ok (F := Proofs.Tryd.f79) (by kernel_rfl) (code := f79_C79) (by kernel_rfl) (nt := 32) (by kernel_rfl) (rs := [.tmp 6]) (by kernel_rfl) (by kernel_rfl) (σ := [(0, s0 0 a.length), (1, ii b), (2, ii c)]) (by kernel_rfl) ?_
 unfold f79 at h
 refine XQ.seq E0_ok (by kernel_rfl) ?_
 refine XQ.region (by kernel_rfl) ?_
 refine XR.runS E0_ok 1 1 [(0, s0 0 a.length), (1, ii b), (2, ii c)] rfl (by kernel_rfl) ?_
 refine XR.done (by kernel_rfl) ?_
 show XQ _ _ _ _ _ _ _ _
 refine XQ.seq E0_ok (by kernel_rfl) ?_
 refine XQ.seq E0_ok (by kernel_rfl) ?_
 refine XQ.region (by kernel_rfl) ?_
 refine XR.runS E0_ok 1 1 [(0, s0 0 a.length), (1, ii b), (2, ii c), (7, ii 0)] rfl (by kernel_rfl) ?_
 refine XR.done (by kernel_rfl) ?_
 show XQ _ _ _ _ _ _ _ _
 refine XQ.block (id := 0) (by kernel_rfl) ?_
 refine XQ.loop m (by kernel_rfl) ?_
 obtain ⟨o1, o1_h, h⟩ := bS h
 refine XL.ren (σ' := [(0, s0 0 a.length), (1, ii b), (2, ii c), (7, ii 0)]) (h' := [(0, rc encP a z0 y0 2)]) (c' := 1) [0] (by decide) rfl ⟨by kernel_rfl, by kernel_rfl, by kernel_rfl, by kernel_rfl, trivial⟩ ⟨⟨_, _, rfl, rfl, .inl ⟨rfl, rowC_scal encP_ok _⟩⟩, trivial⟩ rfl ?_
 cases o1 with
 | r =>
  dsimp only at h
  refine XL.conv (f79_1_ok m m z0 y0 a b c 0 (.r) o1_h _ ?_) (by first | rfl | simp)
  have h := Option.some.inj h
  subst h
  exact ⟨fun i q => (by cases q), .bool true, (by kernel_rfl), rfl⟩
 | x0 =>
  dsimp only at h
  refine XL.conv (f79_1_ok m m z0 y0 a b c 0 (.x0) o1_h _ ?_) (by first | rfl | simp)
  show XQ _ _ _ _ _ _ _ _
  refine XQ.seq E0_ok (by kernel_rfl) ?_
  refine XQ.region (by kernel_rfl) ?_
  refine XR.runS E0_ok 1 1 [(6, .bool false)] rfl (by kernel_rfl) ?_
  refine XR.done (by kernel_rfl) ?_
  show XQ _ _ _ _ _ _ _ _
  refine XQ.ret (by kernel_rfl) ?_
  have h := Option.some.inj h
  subst h
  exact ⟨fun i q => (by cases q), .bool false, (by kernel_rfl), rfl⟩

/-! slices.Contains[[]int,int] -/
inductive Of75_1 where
 | r (x4_r1 : Int)
 | x0

/-! vitola/vitolaref12.CheckPlan -/
noncomputable def f48_C48 : Code := Proofs.Tryd.f48.body.getD .skip
noncomputable def f48_L1 : Code := lft (lft (rgt (lft (rgt (rgt (rgt f48_C48))))))

inductive Of48_1 where
 | r (x2_r1 : Int)
 | x0

def f48_1 (m : Nat) : Nat → Int → List (Int × Int) → Int → Option Of48_1
 | 0, _, _, _ => none
 | fuel + 1, a_Sorters, a_Tables, x3_1 =>
  cond (decide (x3_1 < ((a_Tables.length : Nat) : Int))) (
   cond (inRow x3_1 a_Tables.length) (
    (f66 m ((List.getD a_Tables (Int.toNat x3_1) (0, 0)).1) 0 (w64 (a_Sorters - 1))).bind fun r8 =>
     cond (!r8) (
      some (.r 2)
     ) (
      (f66 m ((List.getD a_Tables (Int.toNat x3_1) (0, 0)).2) 0 (w64 (a_Sorters - 1))).bind fun r9 =>
       cond (!r9) (
        some (.r 2)
       ) (
        cond (((List.getD a_Tables (Int.toNat x3_1) (0, 0)).1) == ((List.getD a_Tables (Int.toNat x3_1) (0, 0)).2)) (
         some (.r 13)
        ) (
         cond (cutOK 0 x3_1 ((a_Tables.length : Nat) : Int) a_Tables.length) (
          cond (Nat.ble (Int.toNat x3_1) a_Tables.length) (
           (f79 m (List.take (Int.toNat x3_1) a_Tables) ((List.getD a_Tables (Int.toNat x3_1) (0, 0)).1) ((List.getD a_Tables (Int.toNat x3_1) (0, 0)).2)).bind fun r10 =>
            cond (r10) (
             some (.r 6)
            ) (
             f48_1 m fuel a_Sorters a_Tables (w64 (x3_1 + 1))
            )
          ) none
         ) none
        )
       )
     )
   ) none
  ) (
   some (.x0)
  )

theorem f48_1_ok (m : Nat) : ∀ (fuel : Nat) (z0 : Nat) (y0 : Nat) (a_Sorters : Int) (a_Tables : List (Int × Int)) (x3_1 : Int) (o : Of48_1), f48_1 m fuel a_Sorters a_Tables x3_1 = some o → ∀ Q : QP, (match o with | .r x2_r1 => Q .ret [(2, ii x2_r1)] [(0, rc encP a_Tables z0 y0 2)] 1 | .x0 => Q (.exit 0) [] [(0, rc encP a_Tables z0 y0 2)] 1) → XL E0 55 1 fuel f48_L1 [(1, pp 1 0), (3, ii x3_1)] [(1, .cells [ii a_Sorters, s0 0 a_Tables.length] 0 37 0), (0, rc encP a_Tables z0 y0 2)] 2 Q
 | 0, z0, y0, a_Sorters, a_Tables, x3_1, o, h, Q, hQ => by cases h
 | fuel + 1, z0, y0, a_Sorters, a_Tables, x3_1, o, h, Q, hQ => by
  unfold f48_1 at h
  refine XL.succ E0_ok ?_
  refine XQ.seq E0_ok (by kernel_rfl) ?_
  refine XQ.seq E0_ok (by kernel_rfl) ?_
  refine XQ.region (by kernel_rfl) ?_
  refine XR.runS E0_ok 1 5 [(1, pp 1 0), (3, ii x3_1), (17, .bool (decide (x3_1 < ((a_Tables.length : Nat) : Int))))] rfl (by kernel_rfl) ?_
  refine XR.done (by kernel_rfl) ?_
  show XQ _ _ _ _ _ _ _ _
  cases b1 : (decide (x3_1 < ((a_Tables.length : Nat) : Int)) : Bool) with
  | true =>
   have h := cT b1 h
   refine XQ.cond (s := (.tmp 17)) (b := true) (by kernel_rfl) (by kernel_rfl) (fun _ => ?_) (fun q => by cases q)
   refine XQ.skip (by kernel_rfl) ?_
   show XQ _ _ _ _ _ _ _ _
   refine XQ.seq E0_ok (by kernel_rfl) ?_
   refine XQ.block (id := 1) (by kernel_rfl) ?_
   refine XQ.seq E0_ok (by kernel_rfl) ?_
   refine XQ.region (by kernel_rfl) ?_
   refine XR.runS E0_ok 1 3 [(1, pp 1 0), (3, ii x3_1), (21, s0 0 a_Tables.length), (22, ii x3_1)] rfl (by kernel_rfl) ?_
   cases b2 : (inRow x3_1 a_Tables.length : Bool) with
   | false => cases (cF b2 h)
   | true =>
    have h := cT b2 h
    refine XR.rd E0_ok [1, 3, 23] rfl (v := pp 0 ((Int.toNat x3_1) * 2)) (v_idx (s := 2) (x := (src 55 (.tmp 21))) (y := (src 55 (.tmp 22))) (b := 0) (o := 0) (len := a_Tables.length) (cap := a_Tables.length) (ik := .i64) (i := x3_1) (off := (Int.toNat x3_1) * 2) (d := (some (path 12 23))) (by kernel_rfl) (by kernel_rfl) (by kernel_rfl) b2 (by omega)) (σ' := [(1, pp 1 0), (3, ii x3_1), (23, pp 0 ((Int.toNat x3_1) * 2))]) (by kernel_rfl) ?_
    refine XR.rd E0_ok [1, 3, 24] rfl (v := .agg #[ii ((List.getD a_Tables (Int.toNat x3_1) (0, 0)).1), ii ((List.getD a_Tables (Int.toNat x3_1) (0, 0)).2)]) (v_loadN encP_ok (x := (src 55 (.tmp 23))) (b := 0) (off := (Int.toNat x3_1) * 2) (xs := a_Tables) (fz := z0) (e := y0) (es := 2) (d := (some (path 12 24))) (by kernel_rfl) (by kernel_rfl) (by kernel_rfl) (Int.toNat x3_1) (0, 0) (by first | rfl | omega) (row_len (inRow_toNat b2) (by simp)) rfl) (σ' := [(1, pp 1 0), (3, ii x3_1), (24, .agg #[ii ((List.getD a_Tables (Int.toNat x3_1) (0, 0)).1), ii ((List.getD a_Tables (Int.toNat x3_1) (0, 0)).2)])]) (by kernel_rfl) ?_
    refine XR.runT E0_ok 1 2 [(1, pp 1 0), (3, ii x3_1), (4, pp 2 0)] [(2, .cells [ii ((List.getD a_Tables (Int.toNat x3_1) (0, 0)).1), ii ((List.getD a_Tables (Int.toNat x3_1) (0, 0)).2)] 0 55 0), (1, .cells [ii a_Sorters, s0 0 a_Tables.length] 0 37 0), (0, rc encP a_Tables z0 y0 2)] 3 rfl (by kernel_rfl) ?_
    refine XR.done (by kernel_rfl) ?_
    show XQ _ _ _ _ _ _ _ _
    refine XQ.seq E0_ok (by kernel_rfl) ?_
    refine XQ.seq E0_ok (by kernel_rfl) ?_
    refine XQ.region (by kernel_rfl) ?_
    refine XR.runS E0_ok 1 5 [(1, pp 1 0), (3, ii x3_1), (4, pp 2 0), (26, ii ((List.getD a_Tables (Int.toNat x3_1) (0, 0)).1)), (29, ii (w64 (a_Sorters - 1)))] rfl (by kernel_rfl) ?_
    obtain ⟨r8, r8_h, h⟩ := bS h
    refine XR.call E0_ok [1, 3, 4, 30] rfl (K := 66) (args := [ii ((List.getD a_Tables (Int.toNat x3_1) (0, 0)).1), ii 0, ii (w64 (a_Sorters - 1))]) (d := (some (path 12 30))) (by kernel_rfl) (KC.of_calls E0_ok (F := Proofs.Tryd.f66) (v := .bool r8) (by kernel_rfl) rfl rfl (fun w hI => f66_ok m ((List.getD a_Tables (Int.toNat x3_1) (0, 0)).1) 0 (w64 (a_Sorters - 1)) r8 r8_h w hI)) ?_
    rintro _ _ _ ⟨rfl, rfl, rfl⟩
    refine XR.conv (σ' := [(1, pp 1 0), (3, ii x3_1), (4, pp 2 0), (30, .bool r8)]) (h' := [(2, .cells [ii ((List.getD a_Tables (Int.toNat x3_1) (0, 0)).1), ii ((List.getD a_Tables (Int.toNat x3_1) (0, 0)).2)] 0 55 0), (1, .cells [ii a_Sorters, s0 0 a_Tables.length] 0 37 0), (0, rc encP a_Tables z0 y0 2)]) (c' := 3) ?_ (by kernel_rfl)
    refine XR.runS E0_ok 1 2 [(1, pp 1 0), (3, ii x3_1), (4, pp 2 0), (32, .bool (!r8))] rfl (by kernel_rfl) ?_
    cases b3 : (!r8 : Bool) with
    | true =>
     have h := cT b3 h
     refine XR.runS E0_ok 1 8 [(1, pp 1 0), (3, ii x3_1), (4, pp 2 0), (40, .bool true)] rfl (by kernel_rfl) ?_
     refine XR.done (by kernel_rfl) ?_
     show XQ _ _ _ _ _ _ _ _
     refine XQ.cond (s := (.tmp 40)) (b := true) (by kernel_rfl) (by kernel_rfl) (fun _ => ?_) (fun q => by cases q)
     refine XQ.seq E0_ok (by kernel_rfl) ?_
     refine XQ.region (by kernel_rfl) ?_
     refine XR.runS E0_ok 1 1 [(2, ii 2)] rfl (by kernel_rfl) ?_
     refine XR.done (by kernel_rfl) ?_
     show XQ _ _ _ _ _ _ _ _
     refine XQ.ren (σ' := [(2, ii 2)]) (h' := [(0, rc encP a_Tables z0 y0 2)]) (c' := 1) [0] (by decide) rfl ⟨by kernel_rfl, trivial⟩ ⟨⟨_, _, rfl, rfl, .inl ⟨rfl, rowC_scal encP_ok _⟩⟩, trivial⟩ rfl ?_
     refine XQ.ret (by kernel_rfl) ?_
     cases h
     exact hQ
    | false =>
     have h := cF b3 h
     refine XR.runS E0_ok 1 5 [(1, pp 1 0), (3, ii x3_1), (4, pp 2 0), (32, .bool false), (34, ii ((List.getD a_Tables (Int.toNat x3_1) (0, 0)).2)), (37, ii (w64 (a_Sorters - 1)))] rfl (by kernel_rfl) ?_
     obtain ⟨r9, r9_h, h⟩ := bS h
     refine XR.call E0_ok [1, 3, 4, 32, 38] rfl (K := 66) (args := [ii ((List.getD a_Tables (Int.toNat x3_1) (0, 0)).2), ii 0, ii (w64 (a_Sorters - 1))]) (d := (some (path 12 38))) (by kernel_rfl) (KC.of_calls E0_ok (F := Proofs.Tryd.f66) (v := .bool r9) (by kernel_rfl) rfl rfl (fun w hI => f66_ok m ((List.getD a_Tables (Int.toNat x3_1) (0, 0)).2) 0 (w64 (a_Sorters - 1)) r9 r9_h w hI)) ?_
     rintro _ _ _ ⟨rfl, rfl, rfl⟩
     refine XR.conv (σ' := [(1, pp 1 0), (3, ii x3_1), (4, pp 2 0), (32, .bool false), (38, .bool r9)]) (h' := [(2, .cells [ii ((List.getD a_Tables (Int.toNat x3_1) (0, 0)).1), ii ((List.getD a_Tables (Int.toNat x3_1) (0, 0)).2)] 0 55 0), (1, .cells [ii a_Sorters, s0 0 a_Tables.length] 0 37 0), (0, rc encP a_Tables z0 y0 2)]) (c' := 3) ?_ (by kernel_rfl)
     refine XR.runS E0_ok 1 2 [(1, pp 1 0), (3, ii x3_1), (4, pp 2 0), (40, .bool (!r9))] rfl (by kernel_rfl) ?_
     refine XR.done (by kernel_rfl) ?_
     show XQ _ _ _ _ _ _ _ _
     cases b4 : (!r9 : Bool) with
     | true =>
      have h := cT b4 h
      refine XQ.cond (s := (.tmp 40)) (b := true) (by kernel_rfl) (by kernel_rfl) (fun _ => ?_) (fun q => by cases q)
      refine XQ.seq E0_ok (by kernel_rfl) ?_
      refine XQ.region (by kernel_rfl) ?_
      refine XR.runS E0_ok 1 1 [(2, ii 2)] rfl (by kernel_rfl) ?_
      refine XR.done (by kernel_rfl) ?_
      show XQ _ _ _ _ _ _ _ _
      refine XQ.ren (σ' := [(2, ii 2)]) (h' := [(0, rc encP a_Tables z0 y0 2)]) (c' := 1) [0] (by decide) rfl ⟨by kernel_rfl, trivial⟩ ⟨⟨_, _, rfl, rfl, .inl ⟨rfl, rowC_scal encP_ok _⟩⟩, trivial⟩ rfl ?_
      refine XQ.ret (by kernel_rfl) ?_
      cases h
      exact hQ
     | false =>
      have h := cF b4 h
      refine XQ.cond (s := (.tmp 40)) (b := false) (by kernel_rfl) (by kernel_rfl) (fun q => by cases q) (fun _ => ?_)
      refine XQ.skip (by kernel_rfl) ?_
      show XQ _ _ _ _ _ _ _ _
      refine XQ.seq E0_ok (by kernel_rfl) ?_
      refine XQ.seq E0_ok (by kernel_rfl) ?_
      refine XQ.region (by kernel_rfl) ?_
      refine XR.runS E0_ok 1 5 [(1, pp 1 0), (3, ii x3_1), (4, pp 2 0), (45, .bool (((List.getD a_Tables (Int.toNat x3_1) (0, 0)).1) == ((List.getD a_Tables (Int.toNat x3_1) (0, 0)).2)))] rfl (by kernel_rfl) ?_
      refine XR.done (by kernel_rfl) ?_
      show XQ _ _ _ _ _ _ _ _
      cases b5 : (((List.getD a_Tables (Int.toNat x3_1) (0, 0)).1) == ((List.getD a_Tables (Int.toNat x3_1) (0, 0)).2) : Bool) with
      | true =>
       have h := cT b5 h
       refine XQ.cond (s := (.tmp 45)) (b := true) (by kernel_rfl) (by kernel_rfl) (fun _ => ?_) (fun q => by cases q)
       refine XQ.seq E0_ok (by kernel_rfl) ?_
       refine XQ.region (by kernel_rfl) ?_
       refine XR.runS E0_ok 1 1 [(2, ii 13)] rfl (by kernel_rfl) ?_
       refine XR.done (by kernel_rfl) ?_
       show XQ _ _ _ _ _ _ _ _
       refine XQ.ren (σ' := [(2, ii 13)]) (h' := [(0, rc encP a_Tables z0 y0 2)]) (c' := 1) [0] (by decide) rfl ⟨by kernel_rfl, trivial⟩ ⟨⟨_, _, rfl, rfl, .inl ⟨rfl, rowC_scal encP_ok _⟩⟩, trivial⟩ rfl ?_
       refine XQ.ret (by kernel_rfl) ?_
       cases h
       exact hQ
      | false =>
       have h := cF b5 h
       refine XQ.cond (s := (.tmp 45)) (b := false) (by kernel_rfl) (by kernel_rfl) (fun q => by cases q) (fun _ => ?_)
       refine XQ.skip (by kernel_rfl) ?_
       show XQ _ _ _ _ _ _ _ _
       refine XQ.seq E0_ok (by kernel_rfl) ?_
       refine XQ.quiet E0_ok (by kernel_rfl) (by kernel_rfl) ?_
       refine XU.run E0_ok 1 3 [1, 3, 4, 47, 48] rfl (σ' := [(1, pp 1 0), (3, ii x3_1), (4, pp 2 0), (47, s0 0 a_Tables.length), (48, ii x3_1)]) (by kernel_rfl) ?_
       cases b6 : (cutOK 0 x3_1 ((a_Tables.length : Nat) : Int) a_Tables.length : Bool) with
       | false => cases (cF b6 h)
       | true =>
        have h := cT b6 h
        refine XU.rd E0_ok [1, 3, 4, 49] rfl (v := sl 0 0 (Int.toNat x3_1) a_Tables.length) (v_cut (nt := 55) (s := 2) (x := (src 55 (.tmp 47))) (lo := none) (hi := (some (.tmp 48))) (mx := none) (b := 0) (o := 0) (len := a_Tables.length) (cap := a_Tables.length) (l := none) (u := (some x3_1)) (m := none) (cs := rowC encP a_Tables) (fz := z0) (e := y0) (es := 2) (o' := 0) (len' := Int.toNat x3_1) (cap' := a_Tables.length) (d := (some (path 12 49))) (by kernel_rfl) (by kernel_rfl) (by kernel_rfl) (by kernel_rfl) (by kernel_rfl) (by kernel_rfl) (by kernel_rfl) rfl b6 (by simp only [Option.getD_none, Option.getD_some] <;> omega) (by simp only [Option.getD_none, Option.getD_some] <;> omega) (by simp only [Option.getD_none, Option.getD_some] <;> omega)) (σ' := [(1, pp 1 0), (3, ii x3_1), (4, pp 2 0), (49, sl 0 0 (Int.toNat x3_1) a_Tables.length)]) (by kernel_rfl) ?_
        refine XU.run E0_ok 1 4 [1, 3, 49, 51, 53] rfl (σ' := [(1, pp 1 0), (3, ii x3_1), (49, sl 0 0 (Int.toNat x3_1) a_Tables.length), (51, ii ((List.getD a_Tables (Int.toNat x3_1) (0, 0)).1)), (53, ii ((List.getD a_Tables (Int.toNat x3_1) (0, 0)).2))]) (by kernel_rfl) ?_
        cases b7 : (Nat.ble (Int.toNat x3_1) a_Tables.length : Bool) with
        | false => cases (cF b7 h)
        | true =>
         have h := cT b7 h
         obtain ⟨r10, r10_h, h⟩ := bS h
         refine XU.callH E0_ok [1, 3, 54] rfl (K := 79) (args := [sl 0 0 (Int.toNat x3_1) a_Tables.length, ii ((List.getD a_Tables (Int.toNat x3_1) (0, 0)).1), ii ((List.getD a_Tables (Int.toNat x3_1) (0, 0)).2)]) (d := (some (path 12 54))) (V := .bool r10) (by kernel_rfl) rfl (KC.quietT encP_ok rfl E0_ok (args0 := [sl 0 0 (Int.toNat x3_1) a_Tables.length, ii ((List.getD a_Tables (Int.toNat x3_1) (0, 0)).1), ii ((List.getD a_Tables (Int.toNat x3_1) (0, 0)).2)]) (h0 := [(0, rc encP a_Tables (z0 + ((rowC encP a_Tables).length + 1)) y0 2)]) (h1 := [(0, rc encP (List.take (Int.toNat x3_1) a_Tables) (z0 + ((rowC encP a_Tables).length + 1)) y0 2)]) (n := 1) (V := .bool r10) [0] 0 (xs := a_Tables) (z := z0) (e := y0) (m := Int.toNat x3_1) (cap := a_Tables.length) [] [ii ((List.getD a_Tables (Int.toNat x3_1) (0, 0)).1), ii ((List.getD a_Tables (Int.toNat x3_1) (0, 0)).2)] (f79_ok m (z0 + ((rowC encP a_Tables).length + 1)) y0 (List.take (Int.toNat x3_1) a_Tables) ((List.getD a_Tables (Int.toNat x3_1) (0, 0)).1) ((List.getD a_Tables (Int.toNat x3_1) (0, 0)).2) r10 r10_h) b7 b7 rfl (by kernel_rfl) (by kernel_rfl) rfl (by rfl) (by decide) rfl (by kernel_rfl) ⟨⟨_, _, rfl, rfl, .inl ⟨rfl, rowC_scal encP_ok _⟩⟩, trivial⟩) (σ' := [(1, pp 1 0), (3, ii x3_1), (54, .bool r10)]) (by kernel_rfl) ?_
         refine XU.done (by kernel_rfl) ?_
         show XQ _ _ _ _ _ _ _ _
         cases b8 : (r10 : Bool) with
         | true =>
          have h := cT b8 h
          refine XQ.cond (s := (.tmp 54)) (b := true) (by kernel_rfl) (by kernel_rfl) (fun _ => ?_) (fun q => by cases q)
          refine XQ.seq E0_ok (by kernel_rfl) ?_
          refine XQ.region (by kernel_rfl) ?_
          refine XR.runS E0_ok 1 1 [(2, ii 6)] rfl (by kernel_rfl) ?_
          refine XR.done (by kernel_rfl) ?_
          show XQ _ _ _ _ _ _ _ _
          refine XQ.ren (σ' := [(2, ii 6)]) (h' := [(0, rc encP a_Tables z0 y0 2)]) (c' := 1) [0] (by decide) rfl ⟨by kernel_rfl, trivial⟩ ⟨⟨_, _, rfl, rfl, .inl ⟨rfl, rowC_scal encP_ok _⟩⟩, trivial⟩ rfl ?_
          refine XQ.ret (by kernel_rfl) ?_
          cases h
          exact hQ
         | false =>
          have h := cF b8 h
          refine XQ.cond (s := (.tmp 54)) (b := false) (by kernel_rfl) (by kernel_rfl) (fun q => by cases q) (fun _ => ?_)
          refine XQ.skip (by kernel_rfl) ?_
          show XQ _ _ _ _ _ _ _ _
          refine XQ.region (by kernel_rfl) ?_
          refine XR.runS E0_ok 1 3 [(1, pp 1 0), (3, ii (w64 (x3_1 + 1)))] rfl (by kernel_rfl) ?_
          refine XR.done (by kernel_rfl) ?_
          show XL _ _ _ _ _ _ _ _ _
          refine XL.ren (σ' := [(1, pp 1 0), (3, ii (w64 (x3_1 + 1)))]) (h' := [(1, .cells [ii a_Sorters, s0 0 a_Tables.length] 0 37 0), (0, rc encP a_Tables z0 y0 2)]) (c' := 2) [0, 1] (by decide) rfl ⟨by kernel_rfl, by kernel_rfl, trivial⟩ ⟨⟨_, _, rfl, rfl, .inr ⟨_, _, _, _, rfl, rfl⟩⟩, ⟨_, _, rfl, rfl, .inl ⟨rfl, rowC_scal encP_ok _⟩⟩, trivial⟩ rfl ?_
          refine XL.conv (f48_1_ok m fuel z0 y0 a_Sorters a_Tables (w64 (x3_1 + 1)) o h Q hQ) (by first | rfl | simp)
  | false =>
   have h := cF b1 h
   refine XQ.cond (s := (.tmp 17)) (b := false) (by kernel_rfl) (by kernel_rfl) (fun q => by cases q) (fun _ => ?_)
   refine XQ.ren (σ' := []) (h' := [(0, rc encP a_Tables z0 y0 2)]) (c' := 1) [0] (by decide) rfl trivial ⟨⟨_, _, rfl, rfl, .inl ⟨rfl, rowC_scal encP_ok _⟩⟩, trivial⟩ rfl ?_
   refine XQ.exit (i := 0) (by kernel_rfl) ?_
   cases h
   exact hQ

def f48 (m : Nat) (a_Sorters : Int) (a_Tables : List (Int × Int)) : Option (Int) :=
 (f66 m a_Sorters 1 8).bind fun r1 =>
  cond (!r1) (
   some (1)
  ) (
   cond (decide (((a_Tables.length : Nat) : Int) > 28)) (
    some (3)
   ) (
    (f48_1 m m a_Sorters a_Tables 0).bind fun o1 =>
     match o1 with
     | .r x2_r1 =>
      some (x2_r1)
     | .x0 =>
      some (0)
   )
  )

theorem f48_ok (m : Nat) (z0 : Nat) (y0 : Nat) (a_Sorters : Int) (a_Tables : List (Int × Int)) (o : Int) (h : f48 m a_Sorters a_Tables = some o) : KC E0 48 [.agg #[ii a_Sorters, s0 0 a_Tables.length]] [(0, rc encP a_Tables z0 y0 2)] 1 (fun v _ _ => v = ii o) := by
 refine KC.bodyN E0_ok (F := Proofs.Tryd.f48) (by kernel_rfl) (code := f48_C48) (by kernel_rfl) (nt := 55) (by kernel_rfl) (rs := [.tmp 2]) (by kernel_rfl) (by kernel_rfl) (σ := [(0, .agg #[ii a_Sorters, s0 0 a_Tables.length])]) (by kernel_rfl) ?_
 unfold f48 at h
 refine XQ.seq E0_ok (by kernel_rfl) ?_
 refine XQ.region (by kernel_rfl) ?_
 refine XR.runT E0_ok 1 2 [(1, pp 1 0)] [(1, .cells [ii a_Sorters, s0 0 a_Tables.length] 0 37 0), (0, rc encP a_Tables z0 y0 2)] 2 rfl (by kernel_rfl) ?_
 refine XR.done (by kernel_rfl) ?_
 show XQ _ _ _ _ _ _ _ _
 refine XQ.seq E0_ok (by kernel_rfl) ?_
 refine XQ.seq E0_ok (by kernel_rfl) ?_
 refine XQ.region (by kernel_rfl) ?_
 refine XR.runS E0_ok 1 2 [(1, pp 1 0), (6, ii a_Sorters)] rfl (by kernel_rfl) ?_
 obtain ⟨r1, r1_h, h⟩ := bS h
 refine XR.call E0_ok [1, 7] rfl (K := 66) (args := [ii a_Sorters, ii 1, ii 8]) (d := (some (path 12 7))) (by kernel_rfl) (KC.of_calls E0_ok (F := Proofs.Tryd.f66) (v := .bool r1) (by kernel_rfl) rfl rfl (fun w hI => f66_ok m a_Sorters 1 8 r1 r1_h w hI)) ?_
 rintro _ _ _ ⟨rfl, rfl, rfl⟩
 refine XR.conv (σ' := [(1, pp 1 0), (7, .bool r1)]) (h' := [(1, .cells [ii a_Sorters, s0 0 a_Tables.length] 0 37 0), (0, rc encP a_Tables z0 y0 2)]) (c' := 2) ?_ (by kernel_rfl)
 refine XR.runS E0_ok 1 1 [(1, pp 1 0), (8, .bool (!r1))] rfl (by kernel_rfl) ?_
 refine XR.done (by kernel_rfl) ?_
 show XQ _ _ _ _ _ _ _ _
 cases b1 : (!r1 : Bool) with
 | true =>
  have h := cT b1 h
  refine XQ.cond (s := (.tmp 8)) (b := true) (by kernel_rfl) (by kernel_rfl) (fun _ => ?_) (fun q => by cases q)
  refine XQ.seq E0_ok (by kernel_rfl) ?_
  refine XQ.region (by kernel_rfl) ?_
  refine XR.runS E0_ok 1 1 [(2, ii 1)] rfl (by kernel_rfl) ?_
  refine XR.done (by kernel_rfl) ?_
  show XQ _ _ _ _ _ _ _ _
  refine XQ.ret (by kernel_rfl) ?_
  have h := Option.some.inj h
  subst h
  exact ⟨fun i q => (by cases q), ii 1, (by kernel_rfl), rfl⟩
 | false =>
  have h := cF b1 h
  refine XQ.cond (s := (.tmp 8)) (b := false) (by kernel_rfl) (by kernel_rfl) (fun q => by cases q) (fun _ => ?_)
  refine XQ.skip (by kernel_rfl) ?_
  show XQ _ _ _ _ _ _ _ _
  refine XQ.seq E0_ok (by kernel_rfl) ?_
  refine XQ.seq E0_ok (by kernel_rfl) ?_
  refine XQ.region (by kernel_rfl) ?_
  refine XR.runS E0_ok 1 4 [(1, pp 1 0), (12, .bool (decide (((a_Tables.length : Nat) : Int) > 28)))] rfl (by kernel_rfl) ?_
  refine XR.done (by kernel_rfl) ?_
  show XQ _ _ _ _ _ _ _ _
  cases b2 : (decide (((a_Tables.length : Nat) : Int) > 28) : Bool) with
  | true =>
   have h := cT b2 h
   refine XQ.cond (s := (.tmp 12)) (b := true) (by kernel_rfl) (by kernel_rfl) (fun _ => ?_) (fun q => by cases q)
   refine XQ.seq E0_ok (by kernel_rfl) ?_
   refine XQ.region (by kernel_rfl) ?_
   refine XR.runS E0_ok 1 1 [(2, ii 3)] rfl (by kernel_rfl) ?_
   refine XR.done (by kernel_rfl) ?_
   show XQ _ _ _ _ _ _ _ _
   refine XQ.ret (by kernel_rfl) ?_
   have h := Option.some.inj h
   subst h
   exact ⟨fun i q => (by cases q), ii 3, (by kernel_rfl), rfl⟩
  | false =>
   have h := cF b2 h
   refine XQ.cond (s := (.tmp 12)) (b := false) (by kernel_rfl) (by kernel_rfl) (fun q => by cases q) (fun _ => ?_)
   refine XQ.skip (by kernel_rfl) ?_
   show XQ _ _ _ _ _ _ _ _
   refine XQ.seq E0_ok (by kernel_rfl) ?_
   refine XQ.seq E0_ok (by kernel_rfl) ?_
   refine XQ.region (by kernel_rfl) ?_
   refine XR.runS E0_ok 1 1 [(1, pp 1 0), (3, ii 0)] rfl (by kernel_rfl) ?_
   refine XR.done (by kernel_rfl) ?_
   show XQ _ _ _ _ _ _ _ _
   refine XQ.block (id := 0) (by kernel_rfl) ?_
   refine XQ.loop m (by kernel_rfl) ?_
   obtain ⟨o1, o1_h, h⟩ := bS h
   refine XL.ren (σ' := [(1, pp 1 0), (3, ii 0)]) (h' := [(1, .cells [ii a_Sorters, s0 0 a_Tables.length] 0 37 0), (0, rc encP a_Tables z0 y0 2)]) (c' := 2) [0, 1] (by decide) rfl ⟨by kernel_rfl, by kernel_rfl, trivial⟩ ⟨⟨_, _, rfl, rfl, .inr ⟨_, _, _, _, rfl, rfl⟩⟩, ⟨_, _, rfl, rfl, .inl ⟨rfl, rowC_scal encP_ok _⟩⟩, trivial⟩ rfl ?_
   cases o1 with
   | r x2_r1 =>
    dsimp only at h
    refine XL.conv (f48_1_ok m m z0 y0 a_Sorters a_Tables 0 (.r x2_r1) o1_h _ ?_) (by first | rfl | simp)
    have h := Option.some.inj h
    subst h
    exact ⟨fun i q => (by cases q), ii x2_r1, (by kernel_rfl), rfl⟩
   | x0 =>
    dsimp only at h
    refine XL.conv (f48_1_ok m m z0 y0 a_Sorters a_Tables 0 (.x0) o1_h _ ?_) (by first | rfl | simp)
    show XQ _ _ _ _ _ _ _ _
    refine XQ.seq E0_ok (by kernel_rfl) ?_
    refine XQ.region (by kernel_rfl) ?_
    refine XR.runS E0_ok 1 1 [(2, ii 0)] rfl (by kernel_rfl) ?_
    refine XR.done (by kernel_rfl) ?_
    show XQ _ _ _ _ _ _ _ _
    refine XQ.ret (by kernel_rfl) ?_
    have h := Option.some.inj h
    subst h
    exact ⟨fun i q => (by cases q), ii 0, (by kernel_rfl), rfl⟩

/-! vitola/vitolaref12.Trios -/
noncomputable def f46_C46 : Code := Proofs.Tryd.f46.body.getD .skip
noncomputable def f46_L1 : Code := lft (lft (rgt (lft (rgt (rgt (rgt (rgt f46_C46)))))))
noncomputable def f46_L2 : Code := lft (lft (rgt (lft (lft (rgt f46_L1)))))
noncomputable def f46_L3 : Code := lft (lft (rgt (lft (lft (rgt f46_L2)))))

def f46_3 (m : Nat) : Nat → Int → List (Int × Int) → Int → Int → Int → Int → Option Int
 | 0, _, _, _, _, _, _ => none
 | fuel + 1, a_Sorters, a_Tables, x6_1, x7_2, x5_3, x8_3 =>
  cond (decide (x8_3 < a_Sorters)) (
   (f79 m a_Tables x6_1 x7_2).bind fun r80 =>
    (f79 m a_Tables x6_1 x8_3).bind fun r81 =>
     cond (r81 == r80) (
      (f79 m a_Tables x7_2 x8_3).bind fun r82 =>
       f46_3 m fuel a_Sorters a_Tables x6_1 x7_2 (cond (r82 == r80) (w64 (x5_3 + 1)) x5_3) (w64 (x8_3 + 1))
     ) (
      f46_3 m fuel a_Sorters a_Tables x6_1 x7_2 x5_3 (w64 (x8_3 + 1))
     )
  ) (
   some (x5_3)
  )

theorem f46_3_ok (m : Nat) : ∀ (fuel : Nat) (z0 : Nat) (y0 : Nat) (a_Sorters : Int) (a_Tables : List (Int × Int)) (x6_1 : Int) (x7_2 : Int) (x5_3 : Int) (x8_3 : Int) (o : Int), f46_3 m fuel a_Sorters a_Tables x6_1 x7_2 x5_3 x8_3 = some o → ∀ Q : QP, Q (.exit 4) [(1, pp 1 0), (5, ii o), (6, ii x6_1), (7, ii x7_2)] [(1, .cells [ii a_Sorters, s0 0 a_Tables.length] 0 37 0), (0, rc encP a_Tables z0 y0 2)] 2 → XL E0 61 1 fuel f46_L3 [(1, pp 1 0), (5, ii x5_3), (6, ii x6_1), (7, ii x7_2), (8, ii x8_3)] [(1, .cells [ii a_Sorters, s0 0 a_Tables.length] 0 37 0), (0, rc encP a_Tables z0 y0 2)] 2 Q
 | 0, z0, y0, a_Sorters, a_Tables, x6_1, x7_2, x5_3, x8_3, o, h, Q, hQ => by cases h
 | fuel + 1, z0, y0, a_Sorters, a_Tables, x6_1, x7_2, x5_3, x8_3, o, h, Q, hQ => by
  unfold f46_3 at h
  refine XL.succ E0_ok ?_
  refine XQ.seq E0_ok (by kernel_rfl) ?_
  refine XQ.seq E0_ok (by kernel_rfl) ?_
  refine XQ.region (by kernel_rfl) ?_
  refine XR.runS E0_ok 1 4 [(1, pp 1 0), (5, ii x5_3), (6, ii x6_1), (7, ii x7_2), (8, ii x8_3), (34, .bool (decide (x8_3 < a_Sorters)))] rfl (by kernel_rfl) ?_
  refine XR.done (by kernel_rfl) ?_
  show XQ _ _ _ _ _ _ _ _
  cases b1 : (decide (x8_3 < a_Sorters) : Bool) with
  | true =>
   have h := cT b1 h
   refine XQ.cond (s := (.tmp 34)) (b := true) (by kernel_rfl) (by kernel_rfl) (fun _ => ?_) (fun q => by cases q)
   refine XQ.skip (by kernel_rfl) ?_
   show XQ _ _ _ _ _ _ _ _
   refine XQ.seq E0_ok (by kernel_rfl) ?_
   refine XQ.block (id := 5) (by kernel_rfl) ?_
   refine XQ.seq E0_ok (by kernel_rfl) ?_
   refine XQ.region (by kernel_rfl) ?_
   refine XR.runS E0_ok 1 4 [(1, pp 1 0), (5, ii x5_3), (6, ii x6_1), (7, ii x7_2), (8, ii x8_3), (38, s0 0 a_Tables.length), (39, ii x6_1), (40, ii x7_2)] rfl (by kernel_rfl) ?_
   obtain ⟨r80, r80_h, h⟩ := bS h
   refine XR.call E0_ok [1, 5, 6, 7, 8, 41] rfl (K := 79) (args := [s0 0 a_Tables.length, ii x6_1, ii x7_2]) (d := (some (path 12 41))) (by kernel_rfl) (KQ.call (KC.quiet E0_ok (args0 := [s0 0 a_Tables.length, ii x6_1, ii x7_2]) (h0 := [(0, rc encP a_Tables (z0 + ((rowC encP a_Tables).length + 1)) y0 2)]) (n := 1) (V := .bool r80) [0] (f79_ok m (z0 + ((rowC encP a_Tables).length + 1)) y0 a_Tables x6_1 x7_2 r80 r80_h) rfl (by rfl) (by decide) rfl (by kernel_rfl) ⟨⟨_, _, rfl, rfl, .inl ⟨rfl, rowC_scal encP_ok _⟩⟩, trivial⟩) rfl) ?_
   rintro _ _ _ ⟨rfl, rfl, rfl⟩
   refine XR.conv (σ' := [(1, pp 1 0), (5, ii x5_3), (6, ii x6_1), (7, ii x7_2), (8, ii x8_3), (41, .bool r80)]) (h' := [(1, .cells [ii a_Sorters, s0 0 a_Tables.length] 0 37 0), (0, rc encP a_Tables z0 y0 2)]) (c' := 2) ?_ (by kernel_rfl)
   refine XR.runS E0_ok 1 1 [(1, pp 1 0), (5, ii x5_3), (6, ii x6_1), (7, ii x7_2), (8, ii x8_3), (9, .bool r80)] rfl (by kernel_rfl) ?_
   refine XR.done (by kernel_rfl) ?_
   show XQ _ _ _ _ _ _ _ _
   refine XQ.seq E0_ok (by kernel_rfl) ?_
   refine XQ.region (by kernel_rfl) ?_
   refine XR.runS E0_ok 1 4 [(1, pp 1 0), (5, ii x5_3), (6, ii x6_1), (7, ii x7_2), (8, ii x8_3), (9, .bool r80), (43, s0 0 a_Tables.length), (44, ii x6_1), (45, ii x8_3)] rfl (by kernel_rfl) ?_
   obtain ⟨r81, r81_h, h⟩ := bS h
   refine XR.call E0_ok [1, 5, 6, 7, 8, 9, 46] rfl (K := 79) (args := [s0 0 a_Tables.length, ii x6_1, ii x8_3]) (d := (some (path 12 46))) (by kernel_rfl) (KQ.call (KC.quiet E0_ok (args0 := [s0 0 a_Tables.length, ii x6_1, ii x8_3]) (h0 := [(0, rc encP a_Tables (z0 + ((rowC encP a_Tables).length + 1)) y0 2)]) (n := 1) (V := .bool r81) [0] (f79_ok m (z0 + ((rowC encP a_Tables).length + 1)) y0 a_Tables x6_1 x8_3 r81 r81_h) rfl (by rfl) (by decide) rfl (by kernel_rfl) ⟨⟨_, _, rfl, rfl, .inl ⟨rfl, rowC_scal encP_ok _⟩⟩, trivial⟩) rfl) ?_
   rintro _ _ _ ⟨rfl, rfl, rfl⟩
   refine XR.conv (σ' := [(1, pp 1 0), (5, ii x5_3), (6, ii x6_1), (7, ii x7_2), (8, ii x8_3), (9, .bool r80), (46, .bool r81)]) (h' := [(1, .cells [ii a_Sorters, s0 0 a_Tables.length] 0 37 0), (0, rc encP a_Tables z0 y0 2)]) (c' := 2) ?_ (by kernel_rfl)
   refine XR.runS E0_ok 1 3 [(1, pp 1 0), (5, ii x5_3), (6, ii x6_1), (7, ii x7_2), (8, ii x8_3), (9, .bool r80), (49, .bool (r81 == r80))] rfl (by kernel_rfl) ?_
   cases b2 : (r81 == r80 : Bool) with
   | true =>
    have h := cT b2 h
    refine XR.runS E0_ok 1 4 [(1, pp 1 0), (5, ii x5_3), (6, ii x6_1), (7, ii x7_2), (8, ii x8_3), (9, .bool r80), (49, .bool true), (51, s0 0 a_Tables.length), (52, ii x7_2), (53, ii x8_3)] rfl (by kernel_rfl) ?_
    obtain ⟨r82, r82_h, h⟩ := bS h
    refine XR.call E0_ok [1, 5, 6, 7, 8, 9, 49, 54] rfl (K := 79) (args := [s0 0 a_Tables.length, ii x7_2, ii x8_3]) (d := (some (path 12 54))) (by kernel_rfl) (KQ.call (KC.quiet E0_ok (args0 := [s0 0 a_Tables.length, ii x7_2, ii x8_3]) (h0 := [(0, rc encP a_Tables (z0 + ((rowC encP a_Tables).length + 1)) y0 2)]) (n := 1) (V := .bool r82) [0] (f79_ok m (z0 + ((rowC encP a_Tables).length + 1)) y0 a_Tables x7_2 x8_3 r82 r82_h) rfl (by rfl) (by decide) rfl (by kernel_rfl) ⟨⟨_, _, rfl, rfl, .inl ⟨rfl, rowC_scal encP_ok _⟩⟩, trivial⟩) rfl) ?_
    rintro _ _ _ ⟨rfl, rfl, rfl⟩
    refine XR.conv (σ' := [(1, pp 1 0), (5, ii x5_3), (6, ii x6_1), (7, ii x7_2), (8, ii x8_3), (9, .bool r80), (49, .bool true), (54, .bool r82)]) (h' := [(1, .cells [ii a_Sorters, s0 0 a_Tables.length] 0 37 0), (0, rc encP a_Tables z0 y0 2)]) (c' := 2) ?_ (by kernel_rfl)
    refine XR.runS E0_ok 1 3 [(1, pp 1 0), (5, ii x5_3), (6, ii x6_1), (7, ii x7_2), (8, ii x8_3), (57, .bool (r82 == r80))] rfl (by kernel_rfl) ?_
    refine XR.done (by kernel_rfl) ?_
    show XQ _ _ _ _ _ _ _ _
    refine XQ.meetC (σ' := [(1, pp 1 0), (5, ii (cond (r82 == r80) (w64 (x5_3 + 1)) x5_3)), (6, ii x6_1), (7, ii x7_2), (8, ii x8_3)]) (h' := [(1, .cells [ii a_Sorters, s0 0 a_Tables.length] 0 37 0), (0, rc encP a_Tables z0 y0 2)]) (c' := 2) ?_ ?_
    rotate_left
    ·refine XQ.cond (s := (.tmp 57)) (b := r82 == r80) (by kernel_rfl) (by kernel_rfl) (fun b3 => ?_) (fun b3 => ?_)
     ·refine XQ.region (by kernel_rfl) ?_
      refine XR.runS E0_ok 1 3 [(1, pp 1 0), (5, ii (w64 (x5_3 + 1))), (6, ii x6_1), (7, ii x7_2), (8, ii x8_3)] rfl (by kernel_rfl) ?_
      refine XR.done (by kernel_rfl) ?_
      refine ⟨rfl, ?_, ?_⟩
      ·try rw [b3]
       exact ⟨by kernel_rfl, by kernel_rfl, by kernel_rfl, by kernel_rfl, by kernel_rfl, trivial⟩
      ·try rw [b3]
       kernel_rfl
     ·refine XQ.skip (by kernel_rfl) ?_
      refine ⟨rfl, ?_, ?_⟩
      ·try rw [b3]
       exact ⟨by kernel_rfl, by kernel_rfl, by kernel_rfl, by kernel_rfl, by kernel_rfl, trivial⟩
      ·try rw [b3]
       kernel_rfl
    show XQ _ _ _ _ _ _ _ _
    refine XQ.region (by kernel_rfl) ?_
    refine XR.runS E0_ok 1 3 [(1, pp 1 0), (5, ii (cond (r82 == r80) (w64 (x5_3 + 1)) x5_3)), (6, ii x6_1), (7, ii x7_2), (8, ii (w64 (x8_3 + 1)))] rfl (by kernel_rfl) ?_
    refine XR.done (by kernel_rfl) ?_
    show XL _ _ _ _ _ _ _ _ _
    refine XL.ren (σ' := [(1, pp 1 0), (5, ii (cond (r82 == r80) (w64 (x5_3 + 1)) x5_3)), (6, ii x6_1), (7, ii x7_2), (8, ii (w64 (x8_3 + 1)))]) (h' := [(1, .cells [ii a_Sorters, s0 0 a_Tables.length] 0 37 0), (0, rc encP a_Tables z0 y0 2)]) (c' := 2) [0, 1] (by decide) rfl ⟨by kernel_rfl, by kernel_rfl, by kernel_rfl, by kernel_rfl, by kernel_rfl, trivial⟩ ⟨⟨_, _, rfl, rfl, .inr ⟨_, _, _, _, rfl, rfl⟩⟩, ⟨_, _, rfl, rfl, .inl ⟨rfl, rowC_scal encP_ok _⟩⟩, trivial⟩ rfl ?_
    refine XL.conv (f46_3_ok m fuel z0 y0 a_Sorters a_Tables x6_1 x7_2 (cond (r82 == r80) (w64 (x5_3 + 1)) x5_3) (w64 (x8_3 + 1)) o h Q hQ) (by first | rfl | simp)
   | false =>
    have h := cF b2 h
    refine XR.runS E0_ok 1 8 [(1, pp 1 0), (5, ii x5_3), (6, ii x6_1), (7, ii x7_2), (8, ii x8_3), (57, .bool false)] rfl (by kernel_rfl) ?_
    refine XR.done (by kernel_rfl) ?_
    show XQ _ _ _ _ _ _ _ _
    refine XQ.cond (s := (.tmp 57)) (b := false) (by kernel_rfl) (by kernel_rfl) (fun q => by cases q) (fun _ => ?_)
    refine XQ.skip (by kernel_rfl) ?_
    show XQ _ _ _ _ _ _ _ _
    refine XQ.region (by kernel_rfl) ?_
    refine XR.runS E0_ok 1 3 [(1, pp 1 0), (5, ii x5_3), (6, ii x6_1), (7, ii x7_2), (8, ii (w64 (x8_3 + 1)))] rfl (by kernel_rfl) ?_
    refine XR.done (by kernel_rfl) ?_
    show XL _ _ _ _ _ _ _ _ _
    refine XL.ren (σ' := [(1, pp 1 0), (5, ii x5_3), (6, ii x6_1), (7, ii x7_2), (8, ii (w64 (x8_3 + 1)))]) (h' := [(1, .cells [ii a_Sorters, s0 0 a_Tables.length] 0 37 0), (0, rc encP a_Tables z0 y0 2)]) (c' := 2) [0, 1] (by decide) rfl ⟨by kernel_rfl, by kernel_rfl, by kernel_rfl, by kernel_rfl, by kernel_rfl, trivial⟩ ⟨⟨_, _, rfl, rfl, .inr ⟨_, _, _, _, rfl, rfl⟩⟩, ⟨_, _, rfl, rfl, .inl ⟨rfl, rowC_scal encP_ok _⟩⟩, trivial⟩ rfl ?_
    refine XL.conv (f46_3_ok m fuel z0 y0 a_Sorters a_Tables x6_1 x7_2 x5_3 (w64 (x8_3 + 1)) o h Q hQ) (by first | rfl | simp)
  | false =>
   have h := cF b1 h
   refine XQ.cond (s := (.tmp 34)) (b := false) (by kernel_rfl) (by kernel_rfl) (fun q => by cases q) (fun _ => ?_)
   refine XQ.ren (σ' := [(1, pp 1 0), (5, ii x5_3), (6, ii x6_1), (7, ii x7_2)]) (h' := [(1, .cells [ii a_Sorters, s0 0 a_Tables.length] 0 37 0), (0, rc encP a_Tables z0 y0 2)]) (c' := 2) [0, 1] (by decide) rfl ⟨by kernel_rfl, by kernel_rfl, by kernel_rfl, by kernel_rfl, trivial⟩ ⟨⟨_, _, rfl, rfl, .inr ⟨_, _, _, _, rfl, rfl⟩⟩, ⟨_, _, rfl, rfl, .inl ⟨rfl, rowC_scal encP_ok _⟩⟩, trivial⟩ rfl ?_
   refine XQ.exit (i := 4) (by kernel_rfl) ?_
   cases h
   exact hQ

def f46_2 (m : Nat) : Nat → Int → List (Int × Int) → Int → Int → Int → Option Int
 | 0, _, _, _, _, _ => none
 | fuel + 1, a_Sorters, a_Tables, x6_1, x5_2, x7_2 =>
  cond (decide (x7_2 < a_Sorters)) (
   (f46_3 m m a_Sorters a_Tables x6_1 x7_2 x5_2 (w64 (x7_2 + 1))).bind fun o3 =>
    f46_2 m fuel a_Sorters a_Tables x6_1 o3 (w64 (x7_2 + 1))
  ) (
   some (x5_2)
  )

theorem f46_2_ok (m : Nat) : ∀ (fuel : Nat) (z0 : Nat) (y0 : Nat) (a_Sorters : Int) (a_Tables : List (Int × Int)) (x6_1 : Int) (x5_2 : Int) (x7_2 : Int) (o : Int), f46_2 m fuel a_Sorters a_Tables x6_1 x5_2 x7_2 = some o → ∀ Q : QP, Q (.exit 2) [(1, pp 1 0), (5, ii o), (6, ii x6_1)] [(1, .cells [ii a_Sorters, s0 0 a_Tables.length] 0 37 0), (0, rc encP a_Tables z0 y0 2)] 2 → XL E0 61 1 fuel f46_L2 [(1, pp 1 0), (5, ii x5_2), (6, ii x6_1), (7, ii x7_2)] [(1, .cells [ii a_Sorters, s0 0 a_Tables.length] 0 37 0), (0, rc encP a_Tables z0 y0 2)] 2 Q
 | 0, z0, y0, a_Sorters, a_Tables, x6_1, x5_2, x7_2, o, h, Q, hQ => by cases h
 | fuel + 1, z0, y0, a_Sorters, a_Tables, x6_1, x5_2, x7_2, o, h, Q, hQ => by
  unfold f46_2 at h
  refine XL.succ E0_ok ?_
  refine XQ.seq E0_ok (by kernel_rfl) ?_
  refine XQ.seq E0_ok (by kernel_rfl) ?_
  refine XQ.region (by kernel_rfl) ?_
  refine XR.runS E0_ok 1 4 [(1, pp 1 0), (5, ii x5_2), (6, ii x6_1), (7, ii x7_2), (26, .bool (decide (x7_2 < a_Sorters)))] rfl (by kernel_rfl) ?_
  refine XR.done (by kernel_rfl) ?_
  show XQ _ _ _ _ _ _ _ _
  cases b1 : (decide (x7_2 < a_Sorters) : Bool) with
  | true =>
   have h := cT b1 h
   refine XQ.cond (s := (.tmp 26)) (b := true) (by kernel_rfl) (by kernel_rfl) (fun _ => ?_) (fun q => by cases q)
   refine XQ.skip (by kernel_rfl) ?_
   show XQ _ _ _ _ _ _ _ _
   refine XQ.seq E0_ok (by kernel_rfl) ?_
   refine XQ.block (id := 3) (by kernel_rfl) ?_
   refine XQ.seq E0_ok (by kernel_rfl) ?_
   refine XQ.region (by kernel_rfl) ?_
   refine XR.runS E0_ok 1 3 [(1, pp 1 0), (5, ii x5_2), (6, ii x6_1), (7, ii x7_2), (8, ii (w64 (x7_2 + 1)))] rfl (by kernel_rfl) ?_
   refine XR.done (by kernel_rfl) ?_
   show XQ _ _ _ _ _ _ _ _
   refine XQ.block (id := 4) (by kernel_rfl) ?_
   refine XQ.loop m (by kernel_rfl) ?_
   obtain ⟨o3, o3_h, h⟩ := bS h
   refine XL.ren (σ' := [(1, pp 1 0), (5, ii x5_2), (6, ii x6_1), (7, ii x7_2), (8, ii (w64 (x7_2 + 1)))]) (h' := [(1, .cells [ii a_Sorters, s0 0 a_Tables.length] 0 37 0), (0, rc encP a_Tables z0 y0 2)]) (c' := 2) [0, 1] (by decide) rfl ⟨by kernel_rfl, by kernel_rfl, by kernel_rfl, by kernel_rfl, by kernel_rfl, trivial⟩ ⟨⟨_, _, rfl, rfl, .inr ⟨_, _, _, _, rfl, rfl⟩⟩, ⟨_, _, rfl, rfl, .inl ⟨rfl, rowC_scal encP_ok _⟩⟩, trivial⟩ rfl ?_
   refine XL.conv (f46_3_ok m m z0 y0 a_Sorters a_Tables x6_1 x7_2 x5_2 (w64 (x7_2 + 1)) o3 o3_h _ ?_) (by first | rfl | simp)
   show XQ _ _ _ _ _ _ _ _
   refine XQ.region (by kernel_rfl) ?_
   refine XR.runS E0_ok 1 3 [(1, pp 1 0), (5, ii o3), (6, ii x6_1), (7, ii (w64 (x7_2 + 1)))] rfl (by kernel_rfl) ?_
   refine XR.done (by kernel_rfl) ?_
   show XL _ _ _ _ _ _ _ _ _
   refine XL.ren (σ' := [(1, pp 1 0), (5, ii o3), (6, ii x6_1), (7, ii (w64 (x7_2 + 1)))]) (h' := [(1, .cells [ii a_Sorters, s0 0 a_Tables.length] 0 37 0), (0, rc encP a_Tables z0 y0 2)]) (c' := 2) [0, 1] (by decide) rfl ⟨by kernel_rfl, by kernel_rfl, by kernel_rfl, by kernel_rfl, trivial⟩ ⟨⟨_, _, rfl, rfl, .inr ⟨_, _, _, _, rfl, rfl⟩⟩, ⟨_, _, rfl, rfl, .inl ⟨rfl, rowC_scal encP_ok _⟩⟩, trivial⟩ rfl ?_
   refine XL.conv (f46_2_ok m fuel z0 y0 a_Sorters a_Tables x6_1 o3 (w64 (x7_2 + 1)) o h Q hQ) (by first | rfl | simp)
  | false =>
   have h := cF b1 h
   refine XQ.cond (s := (.tmp 26)) (b := false) (by kernel_rfl) (by kernel_rfl) (fun q => by cases q) (fun _ => ?_)
   refine XQ.ren (σ' := [(1, pp 1 0), (5, ii x5_2), (6, ii x6_1)]) (h' := [(1, .cells [ii a_Sorters, s0 0 a_Tables.length] 0 37 0), (0, rc encP a_Tables z0 y0 2)]) (c' := 2) [0, 1] (by decide) rfl ⟨by kernel_rfl, by kernel_rfl, by kernel_rfl, trivial⟩ ⟨⟨_, _, rfl, rfl, .inr ⟨_, _, _, _, rfl, rfl⟩⟩, ⟨_, _, rfl, rfl, .inl ⟨rfl, rowC_scal encP_ok _⟩⟩, trivial⟩ rfl ?_
   refine XQ.exit (i := 2) (by kernel_rfl) ?_
   cases h
   exact hQ

def f46_1 (m : Nat) : Nat → Int → List (Int × Int) → Int → Int → Option Int
 | 0, _, _, _, _ => none
 | fuel + 1, a_Sorters, a_Tables, x5_1, x6_1 =>
  cond (decide (x6_1 < a_Sorters)) (
   (f46_2 m m a_Sorters a_Tables x6_1 x5_1 (w64 (x6_1 + 1))).bind fun o2 =>
    f46_1 m fuel a_Sorters a_Tables o2 (w64 (x6_1 + 1))
  ) (
   some (x5_1)
  )

theorem f46_1_ok (m : Nat) : ∀ (fuel : Nat) (z0 : Nat) (y0 : Nat) (a_Sorters : Int) (a_Tables : List (Int × Int)) (x5_1 : Int) (x6_1 : Int) (o : Int), f46_1 m fuel a_Sorters a_Tables x5_1 x6_1 = some o → ∀ Q : QP, Q (.exit 0) [(5, ii o)] [(0, rc encP a_Tables z0 y0 2)] 1 → XL E0 61 1 fuel f46_L1 [(1, pp 1 0), (5, ii x5_1), (6, ii x6_1)] [(1, .cells [ii a_Sorters, s0 0 a_Tables.length] 0 37 0), (0, rc encP a_Tables z0 y0 2)] 2 Q
 | 0, z0, y0, a_Sorters, a_Tables, x5_1, x6_1, o, h, Q, hQ => by cases h
 | fuel + 1, z0, y0, a_Sorters, a_Tables, x5_1, x6_1, o, h, Q, hQ => by
  unfold f46_1 at h
  refine XL.succ E0_ok ?_
  refine XQ.seq E0_ok (by kernel_rfl) ?_
  refine XQ.seq E0_ok (by kernel_rfl) ?_
  refine XQ.region (by kernel_rfl) ?_
  refine XR.runS E0_ok 1 4 [(1, pp 1 0), (5, ii x5_1), (6, ii x6_1), (18, .bool (decide (x6_1 < a_Sorters)))] rfl (by kernel_rfl) ?_
  refine XR.done (by kernel_rfl) ?_
  show XQ _ _ _ _ _ _ _ _
  cases b1 : (decide (x6_1 < a_Sorters) : Bool) with
  | true =>
   have h := cT b1 h
   refine XQ.cond (s := (.tmp 18)) (b := true) (by kernel_rfl) (by kernel_rfl) (fun _ => ?_) (fun q => by cases q)
   refine XQ.skip (by kernel_rfl) ?_
   show XQ _ _ _ _ _ _ _ _
   refine XQ.seq E0_ok (by kernel_rfl) ?_
   refine XQ.block (id := 1) (by kernel_rfl) ?_
   refine XQ.seq E0_ok (by kernel_rfl) ?_
   refine XQ.region (by kernel_rfl) ?_
   refine XR.runS E0_ok 1 3 [(1, pp 1 0), (5, ii x5_1), (6, ii x6_1), (7, ii (w64 (x6_1 + 1)))] rfl (by kernel_rfl) ?_
   refine XR.done (by kernel_rfl) ?_
   show XQ _ _ _ _ _ _ _ _
   refine XQ.block (id := 2) (by kernel_rfl) ?_
   refine XQ.loop m (by kernel_rfl) ?_
   obtain ⟨o2, o2_h, h⟩ := bS h
   refine XL.ren (σ' := [(1, pp 1 0), (5, ii x5_1), (6, ii x6_1), (7, ii (w64 (x6_1 + 1)))]) (h' := [(1, .cells [ii a_Sorters, s0 0 a_Tables.length] 0 37 0), (0, rc encP a_Tables z0 y0 2)]) (c' := 2) [0, 1] (by decide) rfl ⟨by kernel_rfl, by kernel_rfl, by kernel_rfl, by kernel_rfl, trivial⟩ ⟨⟨_, _, rfl, rfl, .inr ⟨_, _, _, _, rfl, rfl⟩⟩, ⟨_, _, rfl, rfl, .inl ⟨rfl, rowC_scal encP_ok _⟩⟩, trivial⟩ rfl ?_
   refine XL.conv (f46_2_ok m m z0 y0 a_Sorters a_Tables x6_1 x5_1 (w64 (x6_1 + 1)) o2 o2_h _ ?_) (by first | rfl | simp)
   show XQ _ _ _ _ _ _ _ _
   refine XQ.region (by kernel_rfl) ?_
   refine XR.runS E0_ok 1 3 [(1, pp 1 0), (5, ii o2), (6, ii (w64 (x6_1 + 1)))] rfl (by kernel_rfl) ?_
   refine XR.done (by kernel_rfl) ?_
   show XL _ _ _ _ _ _ _ _ _
   refine XL.ren (σ' := [(1, pp 1 0), (5, ii o2), (6, ii (w64 (x6_1 + 1)))]) (h' := [(1, .cells [ii a_Sorters, s0 0 a_Tables.length] 0 37 0), (0, rc encP a_Tables z0 y0 2)]) (c' := 2) [0, 1] (by decide) rfl ⟨by kernel_rfl, by kernel_rfl, by kernel_rfl, trivial⟩ ⟨⟨_, _, rfl, rfl, .inr ⟨_, _, _, _, rfl, rfl⟩⟩, ⟨_, _, rfl, rfl, .inl ⟨rfl, rowC_scal encP_ok _⟩⟩, trivial⟩ rfl ?_
   refine XL.conv (f46_1_ok m fuel z0 y0 a_Sorters a_Tables o2 (w64 (x6_1 + 1)) o h Q hQ) (by first | rfl | simp)
  | false =>
   have h := cF b1 h
   refine XQ.cond (s := (.tmp 18)) (b := false) (by kernel_rfl) (by kernel_rfl) (fun q => by cases q) (fun _ => ?_)
   refine XQ.ren (σ' := [(5, ii x5_1)]) (h' := [(0, rc encP a_Tables z0 y0 2)]) (c' := 1) [0] (by decide) rfl ⟨by kernel_rfl, trivial⟩ ⟨⟨_, _, rfl, rfl, .inl ⟨rfl, rowC_scal encP_ok _⟩⟩, trivial⟩ rfl ?_
   refine XQ.exit (i := 0) (by kernel_rfl) ?_
   cases h
   exact hQ

def f46 (m : Nat) (a_Sorters : Int) (a_Tables : List (Int × Int)) : Option (Int × Int) :=
 (f48 m a_Sorters a_Tables).bind fun r1 =>
  cond (r1 != 0) (
   some (0, r1)
  ) (
   (f46_1 m m a_Sorters a_Tables 0 0).bind fun o1 =>
    some (o1, 0)
  )

theorem f46_ok (m : Nat) (z0 : Nat) (y0 : Nat) (a_Sorters : Int) (a_Tables : List (Int × Int)) (o : Int × Int) (h : f46 m a_Sorters a_Tables = some o) : KC E0 46 [.agg #[ii a_Sorters, s0 0 a_Tables.length]] [(0, rc encP a_Tables z0 y0 2)] 1 (fun v _ _ => v = .tuple #[ii o.1, ii o.2]) := by
 refine KC.bodyN E0_ok (F := Proofs.Tryd.f46) (by kernel_rfl) (code := f46_C46) (by kernel_rfl) (nt := 61) (by kernel_rfl) (rs := [.tmp 2, .tmp 3]) (by kernel_rfl) (by kernel_rfl) (σ := [(0, .agg #[ii a_Sorters, s0 0 a_Tables.length])]) (by kernel_rfl) ?_
 unfold f46 at h
 refine XQ.seq E0_ok (by kernel_rfl) ?_
 refine XQ.region (by kernel_rfl) ?_
 refine XR.runT E0_ok 1 3 [(1, pp 1 0)] [(1, .cells [ii a_Sorters, s0 0 a_Tables.length] 0 37 0), (0, rc encP a_Tables z0 y0 2)] 2 rfl (by kernel_rfl) ?_
 refine XR.done (by kernel_rfl) ?_
 show XQ _ _ _ _ _ _ _ _
 refine XQ.seq E0_ok (by kernel_rfl) ?_
 refine XQ.region (by kernel_rfl) ?_
 refine XR.runS E0_ok 1 1 [(1, pp 1 0), (10, .agg #[ii a_Sorters, s0 0 a_Tables.length])] rfl (by kernel_rfl) ?_
 obtain ⟨r1, r1_h, h⟩ := bS h
 refine XR.call E0_ok [1, 11] rfl (K := 48) (args := [.agg #[ii a_Sorters, s0 0 a_Tables.length]]) (d := (some (path 12 11))) (by kernel_rfl) (KQ.call (KC.quiet E0_ok (args0 := [.agg #[ii a_Sorters, s0 0 a_Tables.length]]) (h0 := [(0, rc encP a_Tables (z0 + ((rowC encP a_Tables).length + 1)) y0 2)]) (n := 1) (V := ii r1) [0] (f48_ok m (z0 + ((rowC encP a_Tables).length + 1)) y0 a_Sorters a_Tables r1 r1_h) rfl (by rfl) (by decide) rfl (by kernel_rfl) ⟨⟨_, _, rfl, rfl, .inl ⟨rfl, rowC_scal encP_ok _⟩⟩, trivial⟩) rfl) ?_
 rintro _ _ _ ⟨rfl, rfl, rfl⟩
 refine XR.conv (σ' := [(1, pp 1 0), (11, ii r1)]) (h' := [(1, .cells [ii a_Sorters, s0 0 a_Tables.length] 0 37 0), (0, rc encP a_Tables z0 y0 2)]) (c' := 2) ?_ (by kernel_rfl)
 refine XR.runS E0_ok 1 1 [(1, pp 1 0), (4, ii r1)] rfl (by kernel_rfl) ?_
 refine XR.done (by kernel_rfl) ?_
 show XQ _ _ _ _ _ _ _ _
 refine XQ.seq E0_ok (by kernel_rfl) ?_
 refine XQ.seq E0_ok (by kernel_rfl) ?_
 refine XQ.region (by kernel_rfl) ?_
 refine XR.runS E0_ok 1 2 [(1, pp 1 0), (4, ii r1), (13, .bool (r1 != 0))] rfl (by kernel_rfl) ?_
 refine XR.done (by kernel_rfl) ?_
 show XQ _ _ _ _ _ _ _ _
 cases b1 : (r1 != 0 : Bool) with
 | true =>
  have h := cT b1 h
  refine XQ.cond (s := (.tmp 13)) (b := true) (by kernel_rfl) (by kernel_rfl) (fun _ => ?_) (fun q => by cases q)
  refine XQ.seq E0_ok (by kernel_rfl) ?_
  refine XQ.region (by kernel_rfl) ?_
  refine XR.runS E0_ok 1 3 [(2, ii 0), (3, ii r1)] rfl (by kernel_rfl) ?_
  refine XR.done (by kernel_rfl) ?_
  show XQ _ _ _ _ _ _ _ _
  refine XQ.ret (by kernel_rfl) ?_
  have h := Option.some.inj h
  subst h
  exact ⟨fun i q => (by cases q), .tuple #[ii 0, ii r1], (by kernel_rfl), rfl⟩
 | false =>
  have h := cF b1 h
  refine XQ.cond (s := (.tmp 13)) (b := false) (by kernel_rfl) (by kernel_rfl) (fun q => by cases q) (fun _ => ?_)
  refine XQ.skip (by kernel_rfl) ?_
  show XQ _ _ _ _ _ _ _ _
  refine XQ.seq E0_ok (by kernel_rfl) ?_
  refine XQ.region (by kernel_rfl) ?_
  refine XR.runS E0_ok 1 1 [(1, pp 1 0), (5, ii 0)] rfl (by kernel_rfl) ?_
  refine XR.done (by kernel_rfl) ?_
  show XQ _ _ _ _ _ _ _ _
  refine XQ.seq E0_ok (by kernel_rfl) ?_
  refine XQ.seq E0_ok (by kernel_rfl) ?_
  refine XQ.region (by kernel_rfl) ?_
  refine XR.runS E0_ok 1 1 [(1, pp 1 0), (5, ii 0), (6, ii 0)] rfl (by kernel_rfl) ?_
  refine XR.done (by kernel_rfl) ?_
  show XQ _ _ _ _ _ _ _ _
  refine XQ.block (id := 0) (by kernel_rfl) ?_
  refine XQ.loop m (by kernel_rfl) ?_
  obtain ⟨o1, o1_h, h⟩ := bS h
  refine XL.ren (σ' := [(1, pp 1 0), (5, ii 0), (6, ii 0)]) (h' := [(1, .cells [ii a_Sorters, s0 0 a_Tables.length] 0 37 0), (0, rc encP a_Tables z0 y0 2)]) (c' := 2) [0, 1] (by decide) rfl ⟨by kernel_rfl, by kernel_rfl, by kernel_rfl, trivial⟩ ⟨⟨_, _, rfl, rfl, .inr ⟨_, _, _, _, rfl, rfl⟩⟩, ⟨_, _, rfl, rfl, .inl ⟨rfl, rowC_scal encP_ok _⟩⟩, trivial⟩ rfl ?_
  refine XL.conv (f46_1_ok m m z0 y0 a_Sorters a_Tables 0 0 o1 o1_h _ ?_) (by first | rfl | simp)
  show XQ _ _ _ _ _ _ _ _
  refine XQ.seq E0_ok (by kernel_rfl) ?_
  refine XQ.region (by kernel_rfl) ?_
  refine XR.runS E0_ok 1 3 [(2, ii o1), (3, ii 0)] rfl (by kernel_rfl) ?_
  refine XR.done (by kernel_rfl) ?_
  show XQ _ _ _ _ _ _ _ _
  refine XQ.ret (by kernel_rfl) ?_
  have h := Option.some.inj h
  subst h
  exact ⟨fun i q => (by cases q), .tuple #[ii o1, ii 0], (by kernel_rfl), rfl⟩

/-! vitola/vitolaref12.Others -/
noncomputable def f45_C45 : Code := Proofs.Tryd.f45.body.getD .skip
noncomputable def f45_C80 : Code := Proofs.Tryd.f80.body.getD .skip
noncomputable def f45_L1 : Code := lft (lft (rgt (lft (rgt (rgt f45_C80)))))
noncomputable def f45_L2 : Code := lft (lft (rgt (lft (lft (rgt f45_L1)))))

def f45_2 (m : Nat) : Nat → Int → List (Int × Int) → Int → Int → List (Int × Int) → Option (List (Int × Int))
 | 0, _, _, _, _, _ => none
 | fuel + 1, a_Sorters, a_Tables, x8_1, x9_2, lh7_2 =>
  cond (decide (x9_2 < a_Sorters)) (
   (f79 m a_Tables x8_1 x9_2).bind fun r10 =>
    cond (!(r10 == true)) (
     cond (fitsB (lh7_2.length + 1) 16) (
      f45_2 m fuel a_Sorters a_Tables x8_1 (w64 (x9_2 + 1)) (lh7_2 ++ [(x8_1, x9_2)])
     ) none
    ) (
     f45_2 m fuel a_Sorters a_Tables x8_1 (w64 (x9_2 + 1)) lh7_2
    )
  ) (
   some (lh7_2)
  )

theorem f45_2_ok (m : Nat) : ∀ (fuel : Nat) (z0 : Nat) (y0 : Nat) (a_Sorters : Int) (a_Tables : List (Int × Int)) (x8_1 : Int) (x9_2 : Int) (lh7_2 : List (Int × Int)) (o : (List (Int × Int))), f45_2 m fuel a_Sorters a_Tables x8_1 x9_2 lh7_2 = some o → ∀ Q : QP, Q (.exit 2) [(0, ii a_Sorters), (1, s0 0 a_Tables.length), (2, .bool true), (6, pp 4 0), (7, pp 5 0), (8, ii x8_1)] [(7, rc encP o 0 55 2), (6, rc encP [] 0 55 2), (5, .cells [ii a_Sorters, s0 7 o.length] 0 37 0), (4, .cells [ii 0, s0 6 0] 0 37 0), (3, rc encP [] 0 55 2), (2, .cells [ii 0, s0 3 0] 0 37 0), (1, .cells [ii a_Sorters, s0 0 a_Tables.length] 0 37 0), (0, rc encP a_Tables z0 y0 2)] 8 → XL E0 39 4 fuel f45_L2 [(0, ii a_Sorters), (1, s0 0 a_Tables.length), (2, .bool true), (6, pp 4 0), (7, pp 5 0), (8, ii x8_1), (9, ii x9_2)] [(7, rc encP lh7_2 0 55 2), (6, rc encP [] 0 55 2), (5, .cells [ii a_Sorters, s0 7 lh7_2.length] 0 37 0), (4, .cells [ii 0, s0 6 0] 0 37 0), (3, rc encP [] 0 55 2), (2, .cells [ii 0, s0 3 0] 0 37 0), (1, .cells [ii a_Sorters, s0 0 a_Tables.length] 0 37 0), (0, rc encP a_Tables z0 y0 2)] 8 Q
 | 0, z0, y0, a_Sorters, a_Tables, x8_1, x9_2, lh7_2, o, h, Q, hQ => by cases h
 | fuel + 1, z0, y0, a_Sorters, a_Tables, x8_1, x9_2, lh7_2, o, h, Q, hQ => by
  unfold f45_2 at h
  refine XL.succ E0_ok ?_
  refine XQ.seq E0_ok (by kernel_rfl) ?_
  refine XQ.seq E0_ok (by kernel_rfl) ?_
  refine XQ.region (by kernel_rfl) ?_
  refine XR.runS E0_ok 1 3 [(0, ii a_Sorters), (1, s0 0 a_Tables.length), (2, .bool true), (6, pp 4 0), (7, pp 5 0), (8, ii x8_1), (9, ii x9_2), (21, .bool (decide (x9_2 < a_Sorters)))] rfl (by kernel_rfl) ?_
  refine XR.done (by kernel_rfl) ?_
  show XQ _ _ _ _ _ _ _ _
  cases b1 : (decide (x9_2 < a_Sorters) : Bool) with
  | true =>
   have h := cT b1 h
   refine XQ.cond (s := (.tmp 21)) (b := true) (by kernel_rfl) (by kernel_rfl) (fun _ => ?_) (fun q => by cases q)
   refine XQ.skip (by kernel_rfl) ?_
   show XQ _ _ _ _ _ _ _ _
   refine XQ.seq E0_ok (by kernel_rfl) ?_
   refine XQ.block (id := 3) (by kernel_rfl) ?_
   refine XQ.seq E0_ok (by kernel_rfl) ?_
   refine XQ.region (by kernel_rfl) ?_
   refine XR.runS E0_ok 1 3 [(0, ii a_Sorters), (1, s0 0 a_Tables.length), (2, .bool true), (6, pp 4 0), (7, pp 5 0), (8, ii x8_1), (9, ii x9_2), (24, s0 0 a_Tables.length), (25, ii x8_1), (26, ii x9_2)] rfl (by kernel_rfl) ?_
   obtain ⟨r10, r10_h, h⟩ := bS h
   refine XR.call E0_ok [0, 1, 2, 6, 7, 8, 9, 27] rfl (K := 79) (args := [s0 0 a_Tables.length, ii x8_1, ii x9_2]) (d := (some (path 12 27))) (by kernel_rfl) (KQ.call (KC.quiet E0_ok (args0 := [s0 0 a_Tables.length, ii x8_1, ii x9_2]) (h0 := [(0, rc encP a_Tables (z0 + ((rowC encP a_Tables).length + 1)) y0 2)]) (n := 1) (V := .bool r10) [0] (f79_ok m (z0 + ((rowC encP a_Tables).length + 1)) y0 a_Tables x8_1 x9_2 r10 r10_h) rfl (by rfl) (by decide) rfl (by kernel_rfl) ⟨⟨_, _, rfl, rfl, .inl ⟨rfl, rowC_scal encP_ok _⟩⟩, trivial⟩) rfl) ?_
   rintro _ _ _ ⟨rfl, rfl, rfl⟩
   refine XR.conv (σ' := [(0, ii a_Sorters), (1, s0 0 a_Tables.length), (2, .bool true), (6, pp 4 0), (7, pp 5 0), (8, ii x8_1), (9, ii x9_2), (27, .bool r10)]) (h' := [(7, rc encP lh7_2 0 55 2), (6, rc encP [] 0 55 2), (5, .cells [ii a_Sorters, s0 7 lh7_2.length] 0 37 0), (4, .cells [ii 0, s0 6 0] 0 37 0), (3, rc encP [] 0 55 2), (2, .cells [ii 0, s0 3 0] 0 37 0), (1, .cells [ii a_Sorters, s0 0 a_Tables.length] 0 37 0), (0, rc encP a_Tables z0 y0 2)]) (c' := 8) ?_ (by kernel_rfl)
   refine XR.runS E0_ok 1 2 [(0, ii a_Sorters), (1, s0 0 a_Tables.length), (2, .bool true), (6, pp 4 0), (7, pp 5 0), (8, ii x8_1), (9, ii x9_2), (29, .bool (!(r10 == true)))] rfl (by kernel_rfl) ?_
   refine XR.done (by kernel_rfl) ?_
   show XQ _ _ _ _ _ _ _ _
   cases b2 : (!(r10 == true) : Bool) with
   | true =>
    have h := cT b2 h
    refine XQ.cond (s := (.tmp 29)) (b := true) (by kernel_rfl) (by kernel_rfl) (fun _ => ?_) (fun q => by cases q)
    refine XQ.region (by kernel_rfl) ?_
    refine XR.runT E0_ok 1 6 [(0, ii a_Sorters), (1, s0 0 a_Tables.length), (2, .bool true), (6, pp 4 0), (7, pp 5 0), (8, ii x8_1), (9, ii x9_2), (31, s0 7 lh7_2.length), (35, s0 8 1)] [(8, .cells [ii x8_1, ii x9_2] 0 55 2), (7, rc encP lh7_2 0 55 2), (6, rc encP [] 0 55 2), (5, .cells [ii a_Sorters, s0 7 lh7_2.length] 0 37 0), (4, .cells [ii 0, s0 6 0] 0 37 0), (3, rc encP [] 0 55 2), (2, .cells [ii 0, s0 3 0] 0 37 0), (1, .cells [ii a_Sorters, s0 0 a_Tables.length] 0 37 0), (0, rc encP a_Tables z0 y0 2)] 9 rfl (by kernel_rfl) ?_
    cases b3 : (fitsB (lh7_2.length + 1) 16 : Bool) with
    | false => cases (cF b3 h)
    | true =>
     have h := cT b3 h
     refine XR.ef E0_ok [0, 1, 2, 6, 7, 8, 9, 36] rfl (e_append encP_ok (bytes := 16) (e := 55) (x := (src 39 (.tmp 31))) (y := (src 39 (.tmp 35))) (b := 7) (len := lh7_2.length) (cap := lh7_2.length) (xs := lh7_2) (m := 0) (ys := [(x8_1, x9_2)]) (d := (some (path 12 36))) (n' := (lh7_2 ++ [(x8_1, x9_2)]).length) (h' := [(9, rc encP (lh7_2 ++ [(x8_1, x9_2)]) 0 55 2), (8, .cells [ii x8_1, ii x9_2] 0 55 2), (6, rc encP [] 0 55 2), (5, .cells [ii a_Sorters, s0 7 lh7_2.length] 0 37 0), (4, .cells [ii 0, s0 6 0] 0 37 0), (3, rc encP [] 0 55 2), (2, .cells [ii 0, s0 3 0] 0 37 0), (1, .cells [ii a_Sorters, s0 0 a_Tables.length] 0 37 0), (0, rc encP a_Tables z0 y0 2)]) (by kernel_rfl) (by kernel_rfl) (by kernel_rfl) (by kernel_rfl) rfl (by simp) (by simp) b3 (by simp) (by kernel_rfl)) (σ' := [(0, ii a_Sorters), (1, s0 0 a_Tables.length), (2, .bool true), (6, pp 4 0), (7, pp 5 0), (8, ii x8_1), (9, ii x9_2), (36, s0 9 ((lh7_2 ++ [(x8_1, x9_2)]).length))]) (by kernel_rfl) ?_
     refine XR.runT E0_ok 1 2 [(0, ii a_Sorters), (1, s0 0 a_Tables.length), (2, .bool true), (6, pp 4 0), (7, pp 5 0), (8, ii x8_1), (9, ii x9_2)] [(9, rc encP (lh7_2 ++ [(x8_1, x9_2)]) 0 55 2), (8, .cells [ii x8_1, ii x9_2] 0 55 2), (6, rc encP [] 0 55 2), (5, .cells [ii a_Sorters, s0 9 ((lh7_2 ++ [(x8_1, x9_2)]).length)] 0 37 0), (4, .cells [ii 0, s0 6 0] 0 37 0), (3, rc encP [] 0 55 2), (2, .cells [ii 0, s0 3 0] 0 37 0), (1, .cells [ii a_Sorters, s0 0 a_Tables.length] 0 37 0), (0, rc encP a_Tables z0 y0 2)] 10 rfl (by kernel_rfl) ?_
     refine XR.done (by kernel_rfl) ?_
     show XQ _ _ _ _ _ _ _ _
     refine XQ.region (by kernel_rfl) ?_
     refine XR.runS E0_ok 1 3 [(0, ii a_Sorters), (1, s0 0 a_Tables.length), (2, .bool true), (6, pp 4 0), (7, pp 5 0), (8, ii x8_1), (9, ii (w64 (x9_2 + 1)))] rfl (by kernel_rfl) ?_
     refine XR.done (by kernel_rfl) ?_
     show XL _ _ _ _ _ _ _ _ _
     refine XL.ren (σ' := [(0, ii a_Sorters), (1, s0 0 a_Tables.length), (2, .bool true), (6, pp 4 0), (7, pp 5 0), (8, ii x8_1), (9, ii (w64 (x9_2 + 1)))]) (h' := [(7, rc encP (lh7_2 ++ [(x8_1, x9_2)]) 0 55 2), (6, rc encP [] 0 55 2), (5, .cells [ii a_Sorters, s0 7 ((lh7_2 ++ [(x8_1, x9_2)]).length)] 0 37 0), (4, .cells [ii 0, s0 6 0] 0 37 0), (3, rc encP [] 0 55 2), (2, .cells [ii 0, s0 3 0] 0 37 0), (1, .cells [ii a_Sorters, s0 0 a_Tables.length] 0 37 0), (0, rc encP a_Tables z0 y0 2)]) (c' := 8) [0, 1, 2, 3, 4, 5, 6, 9] (by decide) rfl ⟨by kernel_rfl, by kernel_rfl, by kernel_rfl, by kernel_rfl, by kernel_rfl, by kernel_rfl, by kernel_rfl, trivial⟩ ⟨⟨_, _, rfl, rfl, .inl ⟨rfl, rowC_scal encP_ok _⟩⟩, ⟨_, _, rfl, rfl, .inl ⟨rfl, rowC_scal encP_ok _⟩⟩, ⟨_, _, rfl, rfl, .inr ⟨_, _, _, _, rfl, rfl⟩⟩, ⟨_, _, rfl, rfl, .inr ⟨_, _, _, _, rfl, rfl⟩⟩, ⟨_, _, rfl, rfl, .inl ⟨rfl, rowC_scal encP_ok _⟩⟩, ⟨_, _, rfl, rfl, .inr ⟨_, _, _, _, rfl, rfl⟩⟩, ⟨_, _, rfl, rfl, .inr ⟨_, _, _, _, rfl, rfl⟩⟩, ⟨_, _, rfl, rfl, .inl ⟨rfl, rowC_scal encP_ok _⟩⟩, trivial⟩ rfl ?_
     refine XL.conv (f45_2_ok m fuel z0 y0 a_Sorters a_Tables x8_1 (w64 (x9_2 + 1)) (lh7_2 ++ [(x8_1, x9_2)]) o h Q hQ) (by first | rfl | simp)
   | false =>
    have h := cF b2 h
    refine XQ.cond (s := (.tmp 29)) (b := false) (by kernel_rfl) (by kernel_rfl) (fun q => by cases q) (fun _ => ?_)
    refine XQ.skip (by kernel_rfl) ?_
    show XQ _ _ _ _ _ _ _ _
    refine XQ.region (by kernel_rfl) ?_
    refine XR.runS E0_ok 1 3 [(0, ii a_Sorters), (1, s0 0 a_Tables.length), (2, .bool true), (6, pp 4 0), (7, pp 5 0), (8, ii x8_1), (9, ii (w64 (x9_2 + 1)))] rfl (by kernel_rfl) ?_
    refine XR.done (by kernel_rfl) ?_
    show XL _ _ _ _ _ _ _ _ _
    refine XL.ren (σ' := [(0, ii a_Sorters), (1, s0 0 a_Tables.length), (2, .bool true), (6, pp 4 0), (7, pp 5 0), (8, ii x8_1), (9, ii (w64 (x9_2 + 1)))]) (h' := [(7, rc encP lh7_2 0 55 2), (6, rc encP [] 0 55 2), (5, .cells [ii a_Sorters, s0 7 lh7_2.length] 0 37 0), (4, .cells [ii 0, s0 6 0] 0 37 0), (3, rc encP [] 0 55 2), (2, .cells [ii 0, s0 3 0] 0 37 0), (1, .cells [ii a_Sorters, s0 0 a_Tables.length] 0 37 0), (0, rc encP a_Tables z0 y0 2)]) (c' := 8) [0, 1, 2, 3, 4, 5, 6, 7] (by decide) rfl ⟨by kernel_rfl, by kernel_rfl, by kernel_rfl, by kernel_rfl, by kernel_rfl, by kernel_rfl, by kernel_rfl, trivial⟩ ⟨⟨_, _, rfl, rfl, .inl ⟨rfl, rowC_scal encP_ok _⟩⟩, ⟨_, _, rfl, rfl, .inl ⟨rfl, rowC_scal encP_ok _⟩⟩, ⟨_, _, rfl, rfl, .inr ⟨_, _, _, _, rfl, rfl⟩⟩, ⟨_, _, rfl, rfl, .inr ⟨_, _, _, _, rfl, rfl⟩⟩, ⟨_, _, rfl, rfl, .inl ⟨rfl, rowC_scal encP_ok _⟩⟩, ⟨_, _, rfl, rfl, .inr ⟨_, _, _, _, rfl, rfl⟩⟩, ⟨_, _, rfl, rfl, .inr ⟨_, _, _, _, rfl, rfl⟩⟩, ⟨_, _, rfl, rfl, .inl ⟨rfl, rowC_scal encP_ok _⟩⟩, trivial⟩ rfl ?_
    refine XL.conv (f45_2_ok m fuel z0 y0 a_Sorters a_Tables x8_1 (w64 (x9_2 + 1)) lh7_2 o h Q hQ) (by first | rfl | simp)
  | false =>
   have h := cF b1 h
   refine XQ.cond (s := (.tmp 21)) (b := false) (by kernel_rfl) (by kernel_rfl) (fun q => by cases q) (fun _ => ?_)
   refine XQ.ren (σ' := [(0, ii a_Sorters), (1, s0 0 a_Tables.length), (2, .bool true), (6, pp 4 0), (7, pp 5 0), (8, ii x8_1)]) (h' := [(7, rc encP lh7_2 0 55 2), (6, rc encP [] 0 55 2), (5, .cells [ii a_Sorters, s0 7 lh7_2.length] 0 37 0), (4, .cells [ii 0, s0 6 0] 0 37 0), (3, rc encP [] 0 55 2), (2, .cells [ii 0, s0 3 0] 0 37 0), (1, .cells [ii a_Sorters, s0 0 a_Tables.length] 0 37 0), (0, rc encP a_Tables z0 y0 2)]) (c' := 8) [0, 1, 2, 3, 4, 5, 6, 7] (by decide) rfl ⟨by kernel_rfl, by kernel_rfl, by kernel_rfl, by kernel_rfl, by kernel_rfl, by kernel_rfl, trivial⟩ ⟨⟨_, _, rfl, rfl, .inl ⟨rfl, rowC_scal encP_ok _⟩⟩, ⟨_, _, rfl, rfl, .inl ⟨rfl, rowC_scal encP_ok _⟩⟩, ⟨_, _, rfl, rfl, .inr ⟨_, _, _, _, rfl, rfl⟩⟩, ⟨_, _, rfl, rfl, .inr ⟨_, _, _, _, rfl, rfl⟩⟩, ⟨_, _, rfl, rfl, .inl ⟨rfl, rowC_scal encP_ok _⟩⟩, ⟨_, _, rfl, rfl, .inr ⟨_, _, _, _, rfl, rfl⟩⟩, ⟨_, _, rfl, rfl, .inr ⟨_, _, _, _, rfl, rfl⟩⟩, ⟨_, _, rfl, rfl, .inl ⟨rfl, rowC_scal encP_ok _⟩⟩, trivial⟩ rfl ?_
   refine XQ.exit (i := 2) (by kernel_rfl) ?_
   cases h
   exact hQ

def f45_1 (m : Nat) : Nat → Int → List (Int × Int) → Int → List (Int × Int) → Option (List (Int × Int))
 | 0, _, _, _, _ => none
 | fuel + 1, a_Sorters, a_Tables, x8_1, lh7_1 =>
  cond (decide (x8_1 < a_Sorters)) (
   (f45_2 m m a_Sorters a_Tables x8_1 (w64 (x8_1 + 1)) lh7_1).bind fun o2 =>
    f45_1 m fuel a_Sorters a_Tables (w64 (x8_1 + 1)) o2
  ) (
   some (lh7_1)
  )

theorem f45_1_ok (m : Nat) : ∀ (fuel : Nat) (z0 : Nat) (y0 : Nat) (a_Sorters : Int) (a_Tables : List (Int × Int)) (x8_1 : Int) (lh7_1 : List (Int × Int)) (o : (List (Int × Int))), f45_1 m fuel a_Sorters a_Tables x8_1 lh7_1 = some o → ∀ Q : QP, Q (.exit 0) [(6, pp 4 0), (7, pp 5 0)] [(7, rc encP o 0 55 2), (6, rc encP [] 0 55 2), (5, .cells [ii a_Sorters, s0 7 o.length] 0 37 0), (4, .cells [ii 0, s0 6 0] 0 37 0), (3, rc encP [] 0 55 2), (2, .cells [ii 0, s0 3 0] 0 37 0), (1, .cells [ii a_Sorters, s0 0 a_Tables.length] 0 37 0), (0, rc encP a_Tables z0 y0 2)] 8 → XL E0 39 4 fuel f45_L1 [(0, ii a_Sorters), (1, s0 0 a_Tables.length), (2, .bool true), (6, pp 4 0), (7, pp 5 0), (8, ii x8_1)] [(7, rc encP lh7_1 0 55 2), (6, rc encP [] 0 55 2), (5, .cells [ii a_Sorters, s0 7 lh7_1.length] 0 37 0), (4, .cells [ii 0, s0 6 0] 0 37 0), (3, rc encP [] 0 55 2), (2, .cells [ii 0, s0 3 0] 0 37 0), (1, .cells [ii a_Sorters, s0 0 a_Tables.length] 0 37 0), (0, rc encP a_Tables z0 y0 2)] 8 Q
 | 0, z0, y0, a_Sorters, a_Tables, x8_1, lh7_1, o, h, Q, hQ => by cases h
 | fuel + 1, z0, y0, a_Sorters, a_Tables, x8_1, lh7_1, o, h, Q, hQ => by
  unfold f45_1 at h
  refine XL.succ E0_ok ?_
  refine XQ.seq E0_ok (by kernel_rfl) ?_
  refine XQ.seq E0_ok (by kernel_rfl) ?_
  refine XQ.region (by kernel_rfl) ?_
  refine XR.runS E0_ok 1 3 [(0, ii a_Sorters), (1, s0 0 a_Tables.length), (2, .bool true), (6, pp 4 0), (7, pp 5 0), (8, ii x8_1), (14, .bool (decide (x8_1 < a_Sorters)))] rfl (by kernel_rfl) ?_
  refine XR.done (by kernel_rfl) ?_
  show XQ _ _ _ _ _ _ _ _
  cases b1 : (decide (x8_1 < a_Sorters) : Bool) with
  | true =>
   have h := cT b1 h
   refine XQ.cond (s := (.tmp 14)) (b := true) (by kernel_rfl) (by kernel_rfl) (fun _ => ?_) (fun q => by cases q)
   refine XQ.skip (by kernel_rfl) ?_
   show XQ _ _ _ _ _ _ _ _
   refine XQ.seq E0_ok (by kernel_rfl) ?_
   refine XQ.block (id := 1) (by kernel_rfl) ?_
   refine XQ.seq E0_ok (by kernel_rfl) ?_
   refine XQ.region (by kernel_rfl) ?_
   refine XR.runS E0_ok 1 3 [(0, ii a_Sorters), (1, s0 0 a_Tables.length), (2, .bool true), (6, pp 4 0), (7, pp 5 0), (8, ii x8_1), (9, ii (w64 (x8_1 + 1)))] rfl (by kernel_rfl) ?_
   refine XR.done (by kernel_rfl) ?_
   show XQ _ _ _ _ _ _ _ _
   refine XQ.block (id := 2) (by kernel_rfl) ?_
   refine XQ.loop m (by kernel_rfl) ?_
   obtain ⟨o2, o2_h, h⟩ := bS h
   refine XL.ren (σ' := [(0, ii a_Sorters), (1, s0 0 a_Tables.length), (2, .bool true), (6, pp 4 0), (7, pp 5 0), (8, ii x8_1), (9, ii (w64 (x8_1 + 1)))]) (h' := [(7, rc encP lh7_1 0 55 2), (6, rc encP [] 0 55 2), (5, .cells [ii a_Sorters, s0 7 lh7_1.length] 0 37 0), (4, .cells [ii 0, s0 6 0] 0 37 0), (3, rc encP [] 0 55 2), (2, .cells [ii 0, s0 3 0] 0 37 0), (1, .cells [ii a_Sorters, s0 0 a_Tables.length] 0 37 0), (0, rc encP a_Tables z0 y0 2)]) (c' := 8) [0, 1, 2, 3, 4, 5, 6, 7] (by decide) rfl ⟨by kernel_rfl, by kernel_rfl, by kernel_rfl, by kernel_rfl, by kernel_rfl, by kernel_rfl, by kernel_rfl, trivial⟩ ⟨⟨_, _, rfl, rfl, .inl ⟨rfl, rowC_scal encP_ok _⟩⟩, ⟨_, _, rfl, rfl, .inl ⟨rfl, rowC_scal encP_ok _⟩⟩, ⟨_, _, rfl, rfl, .inr ⟨_, _, _, _, rfl, rfl⟩⟩, ⟨_, _, rfl, rfl, .inr ⟨_, _, _, _, rfl, rfl⟩⟩, ⟨_, _, rfl, rfl, .inl ⟨rfl, rowC_scal encP_ok _⟩⟩, ⟨_, _, rfl, rfl, .inr ⟨_, _, _, _, rfl, rfl⟩⟩, ⟨_, _, rfl, rfl, .inr ⟨_, _, _, _, rfl, rfl⟩⟩, ⟨_, _, rfl, rfl, .inl ⟨rfl, rowC_scal encP_ok _⟩⟩, trivial⟩ rfl ?_
   refine XL.conv (f45_2_ok m m z0 y0 a_Sorters a_Tables x8_1 (w64 (x8_1 + 1)) lh7_1 o2 o2_h _ ?_) (by first | rfl | simp)
   show XQ _ _ _ _ _ _ _ _
   refine XQ.region (by kernel_rfl) ?_
   refine XR.runS E0_ok 1 3 [(0, ii a_Sorters), (1, s0 0 a_Tables.length), (2, .bool true), (6, pp 4 0), (7, pp 5 0), (8, ii (w64 (x8_1 + 1)))] rfl (by kernel_rfl) ?_
   refine XR.done (by kernel_rfl) ?_
   show XL _ _ _ _ _ _ _ _ _
   refine XL.ren (σ' := [(0, ii a_Sorters), (1, s0 0 a_Tables.length), (2, .bool true), (6, pp 4 0), (7, pp 5 0), (8, ii (w64 (x8_1 + 1)))]) (h' := [(7, rc encP o2 0 55 2), (6, rc encP [] 0 55 2), (5, .cells [ii a_Sorters, s0 7 o2.length] 0 37 0), (4, .cells [ii 0, s0 6 0] 0 37 0), (3, rc encP [] 0 55 2), (2, .cells [ii 0, s0 3 0] 0 37 0), (1, .cells [ii a_Sorters, s0 0 a_Tables.length] 0 37 0), (0, rc encP a_Tables z0 y0 2)]) (c' := 8) [0, 1, 2, 3, 4, 5, 6, 7] (by decide) rfl ⟨by kernel_rfl, by kernel_rfl, by kernel_rfl, by kernel_rfl, by kernel_rfl, by kernel_rfl, trivial⟩ ⟨⟨_, _, rfl, rfl, .inl ⟨rfl, rowC_scal encP_ok _⟩⟩, ⟨_, _, rfl, rfl, .inl ⟨rfl, rowC_scal encP_ok _⟩⟩, ⟨_, _, rfl, rfl, .inr ⟨_, _, _, _, rfl, rfl⟩⟩, ⟨_, _, rfl, rfl, .inr ⟨_, _, _, _, rfl, rfl⟩⟩, ⟨_, _, rfl, rfl, .inl ⟨rfl, rowC_scal encP_ok _⟩⟩, ⟨_, _, rfl, rfl, .inr ⟨_, _, _, _, rfl, rfl⟩⟩, ⟨_, _, rfl, rfl, .inr ⟨_, _, _, _, rfl, rfl⟩⟩, ⟨_, _, rfl, rfl, .inl ⟨rfl, rowC_scal encP_ok _⟩⟩, trivial⟩ rfl ?_
   refine XL.conv (f45_1_ok m fuel z0 y0 a_Sorters a_Tables (w64 (x8_1 + 1)) o2 o h Q hQ) (by first | rfl | simp)
  | false =>
   have h := cF b1 h
   refine XQ.cond (s := (.tmp 14)) (b := false) (by kernel_rfl) (by kernel_rfl) (fun q => by cases q) (fun _ => ?_)
   refine XQ.ren (σ' := [(6, pp 4 0), (7, pp 5 0)]) (h' := [(7, rc encP lh7_1 0 55 2), (6, rc encP [] 0 55 2), (5, .cells [ii a_Sorters, s0 7 lh7_1.length] 0 37 0), (4, .cells [ii 0, s0 6 0] 0 37 0), (3, rc encP [] 0 55 2), (2, .cells [ii 0, s0 3 0] 0 37 0), (1, .cells [ii a_Sorters, s0 0 a_Tables.length] 0 37 0), (0, rc encP a_Tables z0 y0 2)]) (c' := 8) [0, 1, 2, 3, 4, 5, 6, 7] (by decide) rfl ⟨by kernel_rfl, by kernel_rfl, trivial⟩ ⟨⟨_, _, rfl, rfl, .inl ⟨rfl, rowC_scal encP_ok _⟩⟩, ⟨_, _, rfl, rfl, .inl ⟨rfl, rowC_scal encP_ok _⟩⟩, ⟨_, _, rfl, rfl, .inr ⟨_, _, _, _, rfl, rfl⟩⟩, ⟨_, _, rfl, rfl, .inr ⟨_, _, _, _, rfl, rfl⟩⟩, ⟨_, _, rfl, rfl, .inl ⟨rfl, rowC_scal encP_ok _⟩⟩, ⟨_, _, rfl, rfl, .inr ⟨_, _, _, _, rfl, rfl⟩⟩, ⟨_, _, rfl, rfl, .inr ⟨_, _, _, _, rfl, rfl⟩⟩, ⟨_, _, rfl, rfl, .inl ⟨rfl, rowC_scal encP_ok _⟩⟩, trivial⟩ rfl ?_
   refine XQ.exit (i := 0) (by kernel_rfl) ?_
   cases h
   exact hQ

def f45 (m : Nat) (a_Sorters : Int) (a_Tables : List (Int × Int)) : Option (Int × (List (Int × Int)) × Int) :=
 (f48 m a_Sorters a_Tables).bind fun r1 =>
  cond (r1 != 0) (
   some (0, [], r1)
  ) (
   (f45_1 m m a_Sorters a_Tables 0 []).bind fun o1 =>
    some (a_Sorters, o1, 0)
  )

theorem f45_ok (m : Nat) (z0 : Nat) (y0 : Nat) (a_Sorters : Int) (a_Tables : List (Int × Int)) (o : Int × (List (Int × Int)) × Int) (h : f45 m a_Sorters a_Tables = some o) : KC E0 45 [.agg #[ii a_Sorters, s0 0 a_Tables.length]] [(0, rc encP a_Tables z0 y0 2)] 1 (fun v h' c' => v = .tuple #[.agg #[ii o.1, s0 1 o.2.1.length], ii o.2.2] ∧ h' = [(1, rc encP o.2.1 0 55 2)] ++ [(0, rc encP a_Tables z0 y0 2)] ∧ c' = 2) := by
 refine KC.renO ?_
 refine KC.bodyN E0_ok (F := Proofs.Tryd.f45) (by kernel_rfl) (code := f45_C45) (by kernel_rfl) (nt := 16) (by kernel_rfl) (rs := [.cell 2 37, .tmp 3]) (by kernel_rfl) (by kernel_rfl) (σ := [(0, .agg #[ii a_Sorters, s0 0 a_Tables.length])]) (by kernel_rfl) ?_
 unfold f45 at h
 refine XQ.seq E0_ok (by kernel_rfl) ?_
 refine XQ.region (by kernel_rfl) ?_
 refine XR.runT E0_ok 1 3 [(1, pp 1 0), (2, pp 2 0)] [(2, .cells [ii 0, .slice none 0 0] 0 37 0), (1, .cells [ii a_Sorters, s0 0 a_Tables.length] 0 37 0), (0, rc encP a_Tables z0 y0 2)] 3 rfl (by kernel_rfl) ?_
 refine XR.done (by kernel_rfl) ?_
 show XQ _ _ _ _ _ _ _ _
 refine XQ.ghost 55 2 rfl (σ' := [(1, pp 1 0), (2, pp 2 0)]) (h' := [(2, .cells [ii 0, s0 3 0] 0 37 0), (1, .cells [ii a_Sorters, s0 0 a_Tables.length] 0 37 0), (0, rc encP a_Tables z0 y0 2)]) ⟨by kernel_rfl, by kernel_rfl, trivial⟩ ⟨⟨_, rfl, .inr ⟨_, _, _, _, rfl, rfl⟩⟩, ⟨_, rfl, .inl rfl⟩, ⟨_, rfl, .inl rfl⟩, trivial⟩ ?_
 refine XQ.conv (σ' := [(1, pp 1 0), (2, pp 2 0)]) (h' := [(3, rc encP [] 0 55 2), (2, .cells [ii 0, s0 3 0] 0 37 0), (1, .cells [ii a_Sorters, s0 0 a_Tables.length] 0 37 0), (0, rc encP a_Tables z0 y0 2)]) (c' := 4) ?_ (by kernel_rfl)
 refine XQ.seq E0_ok (by kernel_rfl) ?_
 refine XQ.region (by kernel_rfl) ?_
 refine XR.runS E0_ok 1 1 [(1, pp 1 0), (2, pp 2 0), (5, .agg #[ii a_Sorters, s0 0 a_Tables.length])] rfl (by kernel_rfl) ?_
 obtain ⟨r1, r1_h, h⟩ := bS h
 refine XR.call E0_ok [1, 2, 6] rfl (K := 48) (args := [.agg #[ii a_Sorters, s0 0 a_Tables.length]]) (d := (some (path 12 6))) (by kernel_rfl) (KQ.call (KC.quiet E0_ok (args0 := [.agg #[ii a_Sorters, s0 0 a_Tables.length]]) (h0 := [(0, rc encP a_Tables (z0 + ((rowC encP a_Tables).length + 1)) y0 2)]) (n := 1) (V := ii r1) [0] (f48_ok m (z0 + ((rowC encP a_Tables).length + 1)) y0 a_Sorters a_Tables r1 r1_h) rfl (by rfl) (by decide) rfl (by kernel_rfl) ⟨⟨_, _, rfl, rfl, .inl ⟨rfl, rowC_scal encP_ok _⟩⟩, trivial⟩) rfl) ?_
 rintro _ _ _ ⟨rfl, rfl, rfl⟩
 refine XR.conv (σ' := [(1, pp 1 0), (2, pp 2 0), (6, ii r1)]) (h' := [(3, rc encP [] 0 55 2), (2, .cells [ii 0, s0 3 0] 0 37 0), (1, .cells [ii a_Sorters, s0 0 a_Tables.length] 0 37 0), (0, rc encP a_Tables z0 y0 2)]) (c' := 4) ?_ (by kernel_rfl)
 refine XR.runS E0_ok 1 1 [(1, pp 1 0), (2, pp 2 0), (4, ii r1)] rfl (by kernel_rfl) ?_
 refine XR.done (by kernel_rfl) ?_
 show XQ _ _ _ _ _ _ _ _
 refine XQ.seq E0_ok (by kernel_rfl) ?_
 refine XQ.seq E0_ok (by kernel_rfl) ?_
 refine XQ.region (by kernel_rfl) ?_
 refine XR.runS E0_ok 1 2 [(1, pp 1 0), (2, pp 2 0), (4, ii r1), (8, .bool (r1 != 0))] rfl (by kernel_rfl) ?_
 refine XR.done (by kernel_rfl) ?_
 show XQ _ _ _ _ _ _ _ _
 cases b1 : (r1 != 0 : Bool) with
 | true =>
  have h := cT b1 h
  refine XQ.cond (s := (.tmp 8)) (b := true) (by kernel_rfl) (by kernel_rfl) (fun _ => ?_) (fun q => by cases q)
  refine XQ.seq E0_ok (by kernel_rfl) ?_
  refine XQ.region (by kernel_rfl) ?_
  refine XR.runT E0_ok 1 4 [(2, pp 2 0), (3, ii r1)] [(3, rc encP [] 0 55 2), (2, .cells [ii 0, .slice none 0 0] 0 37 0), (1, .cells [ii a_Sorters, s0 0 a_Tables.length] 0 37 0), (0, rc encP a_Tables z0 y0 2)] 4 rfl (by kernel_rfl) ?_
  refine XR.done (by kernel_rfl) ?_
  show XQ _ _ _ _ _ _ _ _
  refine XQ.ghost 55 2 rfl (σ' := [(2, pp 2 0), (3, ii r1)]) (h' := [(3, rc encP [] 0 55 2), (2, .cells [ii 0, s0 4 0] 0 37 0), (1, .cells [ii a_Sorters, s0 0 a_Tables.length] 0 37 0), (0, rc encP a_Tables z0 y0 2)]) ⟨by kernel_rfl, by kernel_rfl, trivial⟩ ⟨⟨_, rfl, .inl rfl⟩, ⟨_, rfl, .inr ⟨_, _, _, _, rfl, rfl⟩⟩, ⟨_, rfl, .inl rfl⟩, ⟨_, rfl, .inl rfl⟩, trivial⟩ ?_
  refine XQ.conv (σ' := [(2, pp 2 0), (3, ii r1)]) (h' := [(4, rc encP [] 0 55 2), (3, rc encP [] 0 55 2), (2, .cells [ii 0, s0 4 0] 0 37 0), (1, .cells [ii a_Sorters, s0 0 a_Tables.length] 0 37 0), (0, rc encP a_Tables z0 y0 2)]) (c' := 5) ?_ (by kernel_rfl)
  refine XQ.ren (σ' := [(2, pp 1 0), (3, ii r1)]) (h' := [(2, rc encP [] 0 55 2), (1, .cells [ii 0, s0 2 0] 0 37 0), (0, rc encP a_Tables z0 y0 2)]) (c' := 3) [0, 2, 4] (by decide) rfl ⟨by kernel_rfl, by kernel_rfl, trivial⟩ ⟨⟨_, _, rfl, rfl, .inl ⟨rfl, rowC_scal encP_ok _⟩⟩, ⟨_, _, rfl, rfl, .inr ⟨_, _, _, _, rfl, rfl⟩⟩, ⟨_, _, rfl, rfl, .inl ⟨rfl, rowC_scal encP_ok _⟩⟩, trivial⟩ rfl ?_
  refine XQ.ret (by kernel_rfl) ?_
  have h := Option.some.inj h
  subst h
  exact ⟨fun i q => (by cases q), .tuple #[.agg #[ii 0, s0 2 0], ii r1], (by kernel_rfl), [0, 2], .tuple #[.agg #[ii 0, s0 1 0], ii r1], [(1, rc encP [] 0 55 2), (0, rc encP a_Tables z0 y0 2)], (by decide), rfl, (by kernel_rfl), ⟨⟨_, _, rfl, rfl, .inl ⟨rfl, rowC_scal encP_ok _⟩⟩, ⟨_, _, rfl, rfl, .inl ⟨rfl, rowC_scal encP_ok _⟩⟩, trivial⟩, (by kernel_rfl), (by kernel_rfl), rfl⟩
 | false =>
  have h := cF b1 h
  refine XQ.cond (s := (.tmp 8)) (b := false) (by kernel_rfl) (by kernel_rfl) (fun q => by cases q) (fun _ => ?_)
  refine XQ.skip (by kernel_rfl) ?_
  show XQ _ _ _ _ _ _ _ _
  refine XQ.seq E0_ok (by kernel_rfl) ?_
  refine XQ.region (by kernel_rfl) ?_
  refine XR.runS E0_ok 1 4 [(2, pp 2 0), (12, ii a_Sorters), (14, s0 0 a_Tables.length)] rfl (by kernel_rfl) ?_
  refine XR.callK E0_ok [2, 15] rfl (K := 80) (args := [ii a_Sorters, s0 0 a_Tables.length, .bool true]) (d := (some (path 12 15))) (by kernel_rfl) ?_
  refine KC.bodyN E0_ok (F := Proofs.Tryd.f80) (by kernel_rfl) (code := f45_C80) (by kernel_rfl) (nt := 39) (by kernel_rfl) (rs := [.cell 6 37]) (by kernel_rfl) (by kernel_rfl) (σ := [(0, ii a_Sorters), (1, s0 0 a_Tables.length), (2, .bool true)]) (by kernel_rfl) ?_
  refine XQ.seq E0_ok (by kernel_rfl) ?_
  refine XQ.region (by kernel_rfl) ?_
  refine XR.runT E0_ok 1 1 [(0, ii a_Sorters), (1, s0 0 a_Tables.length), (2, .bool true), (6, pp 4 0)] [(4, .cells [ii 0, .slice none 0 0] 0 37 0), (3, rc encP [] 0 55 2), (2, .cells [ii 0, s0 3 0] 0 37 0), (1, .cells [ii a_Sorters, s0 0 a_Tables.length] 0 37 0), (0, rc encP a_Tables z0 y0 2)] 5 rfl (by kernel_rfl) ?_
  refine XR.done (by kernel_rfl) ?_
  show XQ _ _ _ _ _ _ _ _
  refine XQ.ghost 55 2 rfl (σ' := [(0, ii a_Sorters), (1, s0 0 a_Tables.length), (2, .bool true), (6, pp 4 0)]) (h' := [(4, .cells [ii 0, s0 5 0] 0 37 0), (3, rc encP [] 0 55 2), (2, .cells [ii 0, s0 3 0] 0 37 0), (1, .cells [ii a_Sorters, s0 0 a_Tables.length] 0 37 0), (0, rc encP a_Tables z0 y0 2)]) ⟨by kernel_rfl, by kernel_rfl, by kernel_rfl, by kernel_rfl, trivial⟩ ⟨⟨_, rfl, .inr ⟨_, _, _, _, rfl, rfl⟩⟩, ⟨_, rfl, .inl rfl⟩, ⟨_, rfl, .inl rfl⟩, ⟨_, rfl, .inl rfl⟩, ⟨_, rfl, .inl rfl⟩, trivial⟩ ?_
  refine XQ.conv (σ' := [(0, ii a_Sorters), (1, s0 0 a_Tables.length), (2, .bool true), (6, pp 4 0)]) (h' := [(5, rc encP [] 0 55 2), (4, .cells [ii 0, s0 5 0] 0 37 0), (3, rc encP [] 0 55 2), (2, .cells [ii 0, s0 3 0] 0 37 0), (1, .cells [ii a_Sorters, s0 0 a_Tables.length] 0 37 0), (0, rc encP a_Tables z0 y0 2)]) (c' := 6) ?_ (by kernel_rfl)
  refine XQ.seq E0_ok (by kernel_rfl) ?_
  refine XQ.region (by kernel_rfl) ?_
  refine XR.runT E0_ok 1 4 [(0, ii a_Sorters), (1, s0 0 a_Tables.length), (2, .bool true), (6, pp 4 0), (7, pp 6 0)] [(6, .cells [ii a_Sorters, .slice none 0 0] 0 37 0), (5, rc encP [] 0 55 2), (4, .cells [ii 0, s0 5 0] 0 37 0), (3, rc encP [] 0 55 2), (2, .cells [ii 0, s0 3 0] 0 37 0), (1, .cells [ii a_Sorters, s0 0 a_Tables.length] 0 37 0), (0, rc encP a_Tables z0 y0 2)] 7 rfl (by kernel_rfl) ?_
  refine XR.done (by kernel_rfl) ?_
  show XQ _ _ _ _ _ _ _ _
  refine XQ.ghost 55 2 rfl (σ' := [(0, ii a_Sorters), (1, s0 0 a_Tables.length), (2, .bool true), (6, pp 4 0), (7, pp 6 0)]) (h' := [(6, .cells [ii a_Sorters, s0 7 0] 0 37 0), (5, rc encP [] 0 55 2), (4, .cells [ii 0, s0 5 0] 0 37 0), (3, rc encP [] 0 55 2), (2, .cells [ii 0, s0 3 0] 0 37 0), (1, .cells [ii a_Sorters, s0 0 a_Tables.length] 0 37 0), (0, rc encP a_Tables z0 y0 2)]) ⟨by kernel_rfl, by kernel_rfl, by kernel_rfl, by kernel_rfl, by kernel_rfl, trivial⟩ ⟨⟨_, rfl, .inr ⟨_, _, _, _, rfl, rfl⟩⟩, ⟨_, rfl, .inl rfl⟩, ⟨_, rfl, .inl rfl⟩, ⟨_, rfl, .inl rfl⟩, ⟨_, rfl, .inl rfl⟩, ⟨_, rfl, .inl rfl⟩, ⟨_, rfl, .inl rfl⟩, trivial⟩ ?_
  refine XQ.conv (σ' := [(0, ii a_Sorters), (1, s0 0 a_Tables.length), (2, .bool true), (6, pp 4 0), (7, pp 6 0)]) (h' := [(7, rc encP [] 0 55 2), (6, .cells [ii a_Sorters, s0 7 0] 0 37 0), (5, rc encP [] 0 55 2), (4, .cells [ii 0, s0 5 0] 0 37 0), (3, rc encP [] 0 55 2), (2, .cells [ii 0, s0 3 0] 0 37 0), (1, .cells [ii a_Sorters, s0 0 a_Tables.length] 0 37 0), (0, rc encP a_Tables z0 y0 2)]) (c' := 8) ?_ (by kernel_rfl)
  refine XQ.seq E0_ok (by kernel_rfl) ?_
  refine XQ.seq E0_ok (by kernel_rfl) ?_
  refine XQ.region (by kernel_rfl) ?_
  refine XR.runS E0_ok 1 1 [(0, ii a_Sorters), (1, s0 0 a_Tables.length), (2, .bool true), (6, pp 4 0), (7, pp 6 0), (8, ii 0)] rfl (by kernel_rfl) ?_
  refine XR.done (by kernel_rfl) ?_
  show XQ _ _ _ _ _ _ _ _
  refine XQ.block (id := 0) (by kernel_rfl) ?_
  refine XQ.loop m (by kernel_rfl) ?_
  obtain ⟨o1, o1_h, h⟩ := bS h
  refine XL.ren (σ' := [(0, ii a_Sorters), (1, s0 0 a_Tables.length), (2, .bool true), (6, pp 4 0), (7, pp 5 0), (8, ii 0)]) (h' := [(7, rc encP [] 0 55 2), (6, rc encP [] 0 55 2), (5, .cells [ii a_Sorters, s0 7 0] 0 37 0), (4, .cells [ii 0, s0 6 0] 0 37 0), (3, rc encP [] 0 55 2), (2, .cells [ii 0, s0 3 0] 0 37 0), (1, .cells [ii a_Sorters, s0 0 a_Tables.length] 0 37 0), (0, rc encP a_Tables z0 y0 2)]) (c' := 8) [0, 1, 2, 3, 4, 6, 5, 7] (by decide) rfl ⟨by kernel_rfl, by kernel_rfl, by kernel_rfl, by kernel_rfl, by kernel_rfl, by kernel_rfl, trivial⟩ ⟨⟨_, _, rfl, rfl, .inl ⟨rfl, rowC_scal encP_ok _⟩⟩, ⟨_, _, rfl, rfl, .inl ⟨rfl, rowC_scal encP_ok _⟩⟩, ⟨_, _, rfl, rfl, .inr ⟨_, _, _, _, rfl, rfl⟩⟩, ⟨_, _, rfl, rfl, .inr ⟨_, _, _, _, rfl, rfl⟩⟩, ⟨_, _, rfl, rfl, .inl ⟨rfl, rowC_scal encP_ok _⟩⟩, ⟨_, _, rfl, rfl, .inr ⟨_, _, _, _, rfl, rfl⟩⟩, ⟨_, _, rfl, rfl, .inr ⟨_, _, _, _, rfl, rfl⟩⟩, ⟨_, _, rfl, rfl, .inl ⟨rfl, rowC_scal encP_ok _⟩⟩, trivial⟩ rfl ?_
  refine XL.conv (f45_1_ok m m z0 y0 a_Sorters a_Tables 0 [] o1 o1_h _ ?_) (by first | rfl | simp)
  show XQ _ _ _ _ _ _ _ _
  refine XQ.seq E0_ok (by kernel_rfl) ?_
  refine XQ.region (by kernel_rfl) ?_
  refine XR.runT E0_ok 1 2 [(6, pp 4 0)] [(7, rc encP o1 0 55 2), (6, rc encP [] 0 55 2), (5, .cells [ii a_Sorters, s0 7 o1.length] 0 37 0), (4, .cells [ii a_Sorters, s0 7 o1.length] 0 37 0), (3, rc encP [] 0 55 2), (2, .cells [ii 0, s0 3 0] 0 37 0), (1, .cells [ii a_Sorters, s0 0 a_Tables.length] 0 37 0), (0, rc encP a_Tables z0 y0 2)] 8 rfl (by kernel_rfl) ?_
  refine XR.done (by kernel_rfl) ?_
  show XQ _ _ _ _ _ _ _ _
  refine XQ.ret (by kernel_rfl) ?_
  refine ⟨fun i q => (by cases q), .agg #[ii a_Sorters, s0 7 o1.length], (by kernel_rfl), ?_⟩
  refine XR.conv (σ' := [(2, pp 2 0), (15, .agg #[ii a_Sorters, s0 7 o1.length])]) (h' := [(7, rc encP o1 0 55 2), (6, rc encP [] 0 55 2), (5, .cells [ii a_Sorters, s0 7 o1.length] 0 37 0), (4, .cells [ii a_Sorters, s0 7 o1.length] 0 37 0), (3, rc encP [] 0 55 2), (2, .cells [ii 0, s0 3 0] 0 37 0), (1, .cells [ii a_Sorters, s0 0 a_Tables.length] 0 37 0), (0, rc encP a_Tables z0 y0 2)]) (c' := 8) ?_ (by kernel_rfl)
  refine XR.runT E0_ok 1 2 [(2, pp 2 0), (3, ii 0)] [(7, rc encP o1 0 55 2), (6, rc encP [] 0 55 2), (5, .cells [ii a_Sorters, s0 7 o1.length] 0 37 0), (4, .cells [ii a_Sorters, s0 7 o1.length] 0 37 0), (3, rc encP [] 0 55 2), (2, .cells [ii a_Sorters, s0 7 o1.length] 0 37 0), (1, .cells [ii a_Sorters, s0 0 a_Tables.length] 0 37 0), (0, rc encP a_Tables z0 y0 2)] 8 rfl (by kernel_rfl) ?_
  refine XR.done (by kernel_rfl) ?_
  show XQ _ _ _ _ _ _ _ _
  refine XQ.ren (σ' := [(2, pp 1 0), (3, ii 0)]) (h' := [(2, rc encP o1 0 55 2), (1, .cells [ii a_Sorters, s0 2 o1.length] 0 37 0), (0, rc encP a_Tables z0 y0 2)]) (c' := 3) [0, 2, 7] (by decide) rfl ⟨by kernel_rfl, by kernel_rfl, trivial⟩ ⟨⟨_, _, rfl, rfl, .inl ⟨rfl, rowC_scal encP_ok _⟩⟩, ⟨_, _, rfl, rfl, .inr ⟨_, _, _, _, rfl, rfl⟩⟩, ⟨_, _, rfl, rfl, .inl ⟨rfl, rowC_scal encP_ok _⟩⟩, trivial⟩ rfl ?_
  refine XQ.ret (by kernel_rfl) ?_
  have h := Option.some.inj h
  subst h
  exact ⟨fun i q => (by cases q), .tuple #[.agg #[ii a_Sorters, s0 2 o1.length], ii 0], (by kernel_rfl), [0, 2], .tuple #[.agg #[ii a_Sorters, s0 1 o1.length], ii 0], [(1, rc encP o1 0 55 2), (0, rc encP a_Tables z0 y0 2)], (by decide), rfl, (by kernel_rfl), ⟨⟨_, _, rfl, rfl, .inl ⟨rfl, rowC_scal encP_ok _⟩⟩, ⟨_, _, rfl, rfl, .inl ⟨rfl, rowC_scal encP_ok _⟩⟩, trivial⟩, (by kernel_rfl), (by kernel_rfl), rfl⟩

/-! vitola/vitolaref12.Counts -/
noncomputable def f44_C44 : Code := Proofs.Tryd.f44.body.getD .skip
noncomputable def f44_L1 : Code := lft (lft (rgt (lft (rgt (rgt (rgt (rgt f44_C44)))))))
noncomputable def f44_L2 : Code := lft (lft (rgt (lft (rgt (lft (lft (rgt f44_L1)))))))

def f44_2 (m : Nat) : Nat → Int → List (Int × Int) → Int → List Int → Int → Int → Option Int
 | 0, _, _, _, _, _, _ => none
 | fuel + 1, a_Sorters, a_Tables, x6_1, lh2_1, x7_2, x8_2 =>
  cond (decide (x8_2 < a_Sorters)) (
   (f79 m a_Tables x6_1 x8_2).bind fun r10 =>
    f44_2 m fuel a_Sorters a_Tables x6_1 lh2_1 (cond (r10) (w64 (x7_2 + 1)) x7_2) (w64 (x8_2 + 1))
  ) (
   some (x7_2)
  )

theorem f44_2_ok (m : Nat) : ∀ (fuel : Nat) (z0 : Nat) (y0 : Nat) (a_Sorters : Int) (a_Tables : List (Int × Int)) (x6_1 : Int) (lh2_1 : List Int) (x7_2 : Int) (x8_2 : Int) (o : Int), f44_2 m fuel a_Sorters a_Tables x6_1 lh2_1 x7_2 x8_2 = some o → ∀ Q : QP, Q (.exit 2) [(1, pp 1 0), (5, s0 2 lh2_1.length), (6, ii x6_1), (7, ii o)] [(2, rc (encI .i64) lh2_1 0 3 1), (1, .cells [ii a_Sorters, s0 0 a_Tables.length] 0 37 0), (0, rc encP a_Tables z0 y0 2)] 3 → XL E0 38 1 fuel f44_L2 [(1, pp 1 0), (5, s0 2 lh2_1.length), (6, ii x6_1), (7, ii x7_2), (8, ii x8_2)] [(2, rc (encI .i64) lh2_1 0 3 1), (1, .cells [ii a_Sorters, s0 0 a_Tables.length] 0 37 0), (0, rc encP a_Tables z0 y0 2)] 3 Q
 | 0, z0, y0, a_Sorters, a_Tables, x6_1, lh2_1, x7_2, x8_2, o, h, Q, hQ => by cases h
 | fuel + 1, z0, y0, a_Sorters, a_Tables, x6_1, lh2_1, x7_2, x8_2, o, h, Q, hQ => by
  unfold f44_2 at h
  refine XL.succ E0_ok ?_
  refine XQ.seq E0_ok (by kernel_rfl) ?_
  refine XQ.seq E0_ok (by kernel_rfl) ?_
  refine XQ.region (by kernel_rfl) ?_
  refine XR.runS E0_ok 1 4 [(1, pp 1 0), (5, s0 2 lh2_1.length), (6, ii x6_1), (7, ii x7_2), (8, ii x8_2), (23, .bool (decide (x8_2 < a_Sorters)))] rfl (by kernel_rfl) ?_
  refine XR.done (by kernel_rfl) ?_
  show XQ _ _ _ _ _ _ _ _
  cases b1 : (decide (x8_2 < a_Sorters) : Bool) with
  | true =>
   have h := cT b1 h
   refine XQ.cond (s := (.tmp 23)) (b := true) (by kernel_rfl) (by kernel_rfl) (fun _ => ?_) (fun q => by cases q)
   refine XQ.skip (by kernel_rfl) ?_
   show XQ _ _ _ _ _ _ _ _
   refine XQ.seq E0_ok (by kernel_rfl) ?_
   refine XQ.block (id := 3) (by kernel_rfl) ?_
   refine XQ.seq E0_ok (by kernel_rfl) ?_
   refine XQ.region (by kernel_rfl) ?_
   refine XR.runS E0_ok 1 4 [(1, pp 1 0), (5, s0 2 lh2_1.length), (6, ii x6_1), (7, ii x7_2), (8, ii x8_2), (27, s0 0 a_Tables.length), (28, ii x6_1), (29, ii x8_2)] rfl (by kernel_rfl) ?_
   obtain ⟨r10, r10_h, h⟩ := bS h
   refine XR.call E0_ok [1, 5, 6, 7, 8, 30] rfl (K := 79) (args := [s0 0 a_Tables.length, ii x6_1, ii x8_2]) (d := (some (path 12 30))) (by kernel_rfl) (KQ.call (KC.quiet E0_ok (args0 := [s0 0 a_Tables.length, ii x6_1, ii x8_2]) (h0 := [(0, rc encP a_Tables (z0 + ((rowC encP a_Tables).length + 1)) y0 2)]) (n := 1) (V := .bool r10) [0] (f79_ok m (z0 + ((rowC encP a_Tables).length + 1)) y0 a_Tables x6_1 x8_2 r10 r10_h) rfl (by rfl) (by decide) rfl (by kernel_rfl) ⟨⟨_, _, rfl, rfl, .inl ⟨rfl, rowC_scal encP_ok _⟩⟩, trivial⟩) rfl) ?_
   rintro _ _ _ ⟨rfl, rfl, rfl⟩
   refine XR.conv (σ' := [(1, pp 1 0), (5, s0 2 lh2_1.length), (6, ii x6_1), (7, ii x7_2), (8, ii x8_2), (30, .bool r10)]) (h' := [(2, rc (encI .i64) lh2_1 0 3 1), (1, .cells [ii a_Sorters, s0 0 a_Tables.length] 0 37 0), (0, rc encP a_Tables z0 y0 2)]) (c' := 3) ?_ (by kernel_rfl)
   refine XR.done (by kernel_rfl) ?_
   show XQ _ _ _ _ _ _ _ _
   refine XQ.meetC (σ' := [(1, pp 1 0), (5, s0 2 lh2_1.length), (6, ii x6_1), (7, ii (cond (r10) (w64 (x7_2 + 1)) x7_2)), (8, ii x8_2)]) (h' := [(2, rc (encI .i64) lh2_1 0 3 1), (1, .cells [ii a_Sorters, s0 0 a_Tables.length] 0 37 0), (0, rc encP a_Tables z0 y0 2)]) (c' := 3) ?_ ?_
   rotate_left
   ·refine XQ.cond (s := (.tmp 30)) (b := r10) (by kernel_rfl) (by kernel_rfl) (fun b2 => ?_) (fun b2 => ?_)
    ·refine XQ.region (by kernel_rfl) ?_
     refine XR.runS E0_ok 1 3 [(1, pp 1 0), (5, s0 2 lh2_1.length), (6, ii x6_1), (7, ii (w64 (x7_2 + 1))), (8, ii x8_2)] rfl (by kernel_rfl) ?_
     refine XR.done (by kernel_rfl) ?_
     refine ⟨rfl, ?_, ?_⟩
     ·try rw [b2]
      exact ⟨by kernel_rfl, by kernel_rfl, by kernel_rfl, by kernel_rfl, by kernel_rfl, trivial⟩
     ·try rw [b2]
      kernel_rfl
    ·refine XQ.skip (by kernel_rfl) ?_
     refine ⟨rfl, ?_, ?_⟩
     ·try rw [b2]
      exact ⟨by kernel_rfl, by kernel_rfl, by kernel_rfl, by kernel_rfl, by kernel_rfl, trivial⟩
     ·try rw [b2]
      kernel_rfl
   show XQ _ _ _ _ _ _ _ _
   refine XQ.region (by kernel_rfl) ?_
   refine XR.runS E0_ok 1 3 [(1, pp 1 0), (5, s0 2 lh2_1.length), (6, ii x6_1), (7, ii (cond (r10) (w64 (x7_2 + 1)) x7_2)), (8, ii (w64 (x8_2 + 1)))] rfl (by kernel_rfl) ?_
   refine XR.done (by kernel_rfl) ?_
   show XL _ _ _ _ _ _ _ _ _
   refine XL.ren (σ' := [(1, pp 1 0), (5, s0 2 lh2_1.length), (6, ii x6_1), (7, ii (cond (r10) (w64 (x7_2 + 1)) x7_2)), (8, ii (w64 (x8_2 + 1)))]) (h' := [(2, rc (encI .i64) lh2_1 0 3 1), (1, .cells [ii a_Sorters, s0 0 a_Tables.length] 0 37 0), (0, rc encP a_Tables z0 y0 2)]) (c' := 3) [0, 1, 2] (by decide) rfl ⟨by kernel_rfl, by kernel_rfl, by kernel_rfl, by kernel_rfl, by kernel_rfl, trivial⟩ ⟨⟨_, _, rfl, rfl, .inl ⟨rfl, rowC_scal (encI_ok .i64) _⟩⟩, ⟨_, _, rfl, rfl, .inr ⟨_, _, _, _, rfl, rfl⟩⟩, ⟨_, _, rfl, rfl, .inl ⟨rfl, rowC_scal encP_ok _⟩⟩, trivial⟩ rfl ?_
   refine XL.conv (f44_2_ok m fuel z0 y0 a_Sorters a_Tables x6_1 lh2_1 (cond (r10) (w64 (x7_2 + 1)) x7_2) (w64 (x8_2 + 1)) o h Q hQ) (by first | rfl | simp)
  | false =>
   have h := cF b1 h
   refine XQ.cond (s := (.tmp 23)) (b := false) (by kernel_rfl) (by kernel_rfl) (fun q => by cases q) (fun _ => ?_)
   refine XQ.ren (σ' := [(1, pp 1 0), (5, s0 2 lh2_1.length), (6, ii x6_1), (7, ii x7_2)]) (h' := [(2, rc (encI .i64) lh2_1 0 3 1), (1, .cells [ii a_Sorters, s0 0 a_Tables.length] 0 37 0), (0, rc encP a_Tables z0 y0 2)]) (c' := 3) [0, 1, 2] (by decide) rfl ⟨by kernel_rfl, by kernel_rfl, by kernel_rfl, by kernel_rfl, trivial⟩ ⟨⟨_, _, rfl, rfl, .inl ⟨rfl, rowC_scal (encI_ok .i64) _⟩⟩, ⟨_, _, rfl, rfl, .inr ⟨_, _, _, _, rfl, rfl⟩⟩, ⟨_, _, rfl, rfl, .inl ⟨rfl, rowC_scal encP_ok _⟩⟩, trivial⟩ rfl ?_
   refine XQ.exit (i := 2) (by kernel_rfl) ?_
   cases h
   exact hQ

def f44_1 (m : Nat) : Nat → Int → List (Int × Int) → Int → List Int → Option (List Int)
 | 0, _, _, _, _ => none
 | fuel + 1, a_Sorters, a_Tables, x6_1, lh2_1 =>
  cond (decide (x6_1 < a_Sorters)) (
   (f44_2 m m a_Sorters a_Tables x6_1 lh2_1 0 0).bind fun o2 =>
    cond (fitsB (lh2_1.length + 1) 8) (
     f44_1 m fuel a_Sorters a_Tables (w64 (x6_1 + 1)) (lh2_1 ++ [o2])
    ) none
  ) (
   some (lh2_1)
  )

theorem f44_1_ok (m : Nat) : ∀ (fuel : Nat) (z0 : Nat) (y0 : Nat) (a_Sorters : Int) (a_Tables : List (Int × Int)) (x6_1 : Int) (lh2_1 : List Int) (o : (List Int)), f44_1 m fuel a_Sorters a_Tables x6_1 lh2_1 = some o → ∀ Q : QP, Q (.exit 0) [(5, s0 1 o.length)] [(1, rc (encI .i64) o 0 3 1), (0, rc encP a_Tables z0 y0 2)] 2 → XL E0 38 1 fuel f44_L1 [(1, pp 1 0), (5, s0 2 lh2_1.length), (6, ii x6_1)] [(2, rc (encI .i64) lh2_1 0 3 1), (1, .cells [ii a_Sorters, s0 0 a_Tables.length] 0 37 0), (0, rc encP a_Tables z0 y0 2)] 3 Q
 | 0, z0, y0, a_Sorters, a_Tables, x6_1, lh2_1, o, h, Q, hQ => by cases h
 | fuel + 1, z0, y0, a_Sorters, a_Tables, x6_1, lh2_1, o, h, Q, hQ => by
  unfold f44_1 at h
  refine XL.succ E0_ok ?_
  refine XQ.seq E0_ok (by kernel_rfl) ?_
  refine XQ.seq E0_ok (by kernel_rfl) ?_
  refine XQ.region (by kernel_rfl) ?_
  refine XR.runS E0_ok 1 4 [(1, pp 1 0), (5, s0 2 lh2_1.length), (6, ii x6_1), (17, .bool (decide (x6_1 < a_Sorters)))] rfl (by kernel_rfl) ?_
  refine XR.done (by kernel_rfl) ?_
  show XQ _ _ _ _ _ _ _ _
  cases b1 : (decide (x6_1 < a_Sorters) : Bool) with
  | true =>
   have h := cT b1 h
   refine XQ.cond (s := (.tmp 17)) (b := true) (by kernel_rfl) (by kernel_rfl) (fun _ => ?_) (fun q => by cases q)
   refine XQ.skip (by kernel_rfl) ?_
   show XQ _ _ _ _ _ _ _ _
   refine XQ.seq E0_ok (by kernel_rfl) ?_
   refine XQ.block (id := 1) (by kernel_rfl) ?_
   refine XQ.seq E0_ok (by kernel_rfl) ?_
   refine XQ.region (by kernel_rfl) ?_
   refine XR.runS E0_ok 1 1 [(1, pp 1 0), (5, s0 2 lh2_1.length), (6, ii x6_1), (7, ii 0)] rfl (by kernel_rfl) ?_
   refine XR.done (by kernel_rfl) ?_
   show XQ _ _ _ _ _ _ _ _
   refine XQ.seq E0_ok (by kernel_rfl) ?_
   refine XQ.seq E0_ok (by kernel_rfl) ?_
   refine XQ.region (by kernel_rfl) ?_
   refine XR.runS E0_ok 1 1 [(1, pp 1 0), (5, s0 2 lh2_1.length), (6, ii x6_1), (7, ii 0), (8, ii 0)] rfl (by kernel_rfl) ?_
   refine XR.done (by kernel_rfl) ?_
   show XQ _ _ _ _ _ _ _ _
   refine XQ.block (id := 2) (by kernel_rfl) ?_
   refine XQ.loop m (by kernel_rfl) ?_
   obtain ⟨o2, o2_h, h⟩ := bS h
   refine XL.ren (σ' := [(1, pp 1 0), (5, s0 2 lh2_1.length), (6, ii x6_1), (7, ii 0), (8, ii 0)]) (h' := [(2, rc (encI .i64) lh2_1 0 3 1), (1, .cells [ii a_Sorters, s0 0 a_Tables.length] 0 37 0), (0, rc encP a_Tables z0 y0 2)]) (c' := 3) [0, 1, 2] (by decide) rfl ⟨by kernel_rfl, by kernel_rfl, by kernel_rfl, by kernel_rfl, by kernel_rfl, trivial⟩ ⟨⟨_, _, rfl, rfl, .inl ⟨rfl, rowC_scal (encI_ok .i64) _⟩⟩, ⟨_, _, rfl, rfl, .inr ⟨_, _, _, _, rfl, rfl⟩⟩, ⟨_, _, rfl, rfl, .inl ⟨rfl, rowC_scal encP_ok _⟩⟩, trivial⟩ rfl ?_
   refine XL.conv (f44_2_ok m m z0 y0 a_Sorters a_Tables x6_1 lh2_1 0 0 o2 o2_h _ ?_) (by first | rfl | simp)
   show XQ _ _ _ _ _ _ _ _
   refine XQ.region (by kernel_rfl) ?_
   refine XR.runT E0_ok 1 3 [(1, pp 1 0), (6, ii x6_1), (33, s0 2 lh2_1.length), (35, s0 3 1)] [(3, .cells [ii o2] 0 3 1), (2, rc (encI .i64) lh2_1 0 3 1), (1, .cells [ii a_Sorters, s0 0 a_Tables.length] 0 37 0), (0, rc encP a_Tables z0 y0 2)] 4 rfl (by kernel_rfl) ?_
   cases b3 : (fitsB (lh2_1.length + 1) 8 : Bool) with
   | false => cases (cF b3 h)
   | true =>
    have h := cT b3 h
    refine XR.ef E0_ok [1, 6, 36] rfl (e_append (encI_ok .i64) (bytes := 8) (e := 3) (x := (src 38 (.tmp 33))) (y := (src 38 (.tmp 35))) (b := 2) (len := lh2_1.length) (cap := lh2_1.length) (xs := lh2_1) (m := 0) (ys := [o2]) (d := (some (path 12 36))) (n' := (lh2_1 ++ [o2]).length) (h' := [(4, rc (encI .i64) (lh2_1 ++ [o2]) 0 3 1), (3, .cells [ii o2] 0 3 1), (1, .cells [ii a_Sorters, s0 0 a_Tables.length] 0 37 0), (0, rc encP a_Tables z0 y0 2)]) (by kernel_rfl) (by kernel_rfl) (by kernel_rfl) (by kernel_rfl) rfl (by simp) (by simp) b3 (by simp) (by kernel_rfl)) (σ' := [(1, pp 1 0), (6, ii x6_1), (36, s0 4 ((lh2_1 ++ [o2]).length))]) (by kernel_rfl) ?_
    refine XR.runS E0_ok 1 1 [(1, pp 1 0), (5, s0 4 ((lh2_1 ++ [o2]).length)), (6, ii x6_1)] rfl (by kernel_rfl) ?_
    refine XR.done (by kernel_rfl) ?_
    show XQ _ _ _ _ _ _ _ _
    refine XQ.region (by kernel_rfl) ?_
    refine XR.runS E0_ok 1 3 [(1, pp 1 0), (5, s0 4 ((lh2_1 ++ [o2]).length)), (6, ii (w64 (x6_1 + 1)))] rfl (by kernel_rfl) ?_
    refine XR.done (by kernel_rfl) ?_
    show XL _ _ _ _ _ _ _ _ _
    refine XL.ren (σ' := [(1, pp 1 0), (5, s0 2 ((lh2_1 ++ [o2]).length)), (6, ii (w64 (x6_1 + 1)))]) (h' := [(2, rc (encI .i64) (lh2_1 ++ [o2]) 0 3 1), (1, .cells [ii a_Sorters, s0 0 a_Tables.length] 0 37 0), (0, rc encP a_Tables z0 y0 2)]) (c' := 3) [0, 1, 4] (by decide) rfl ⟨by kernel_rfl, by kernel_rfl, by kernel_rfl, trivial⟩ ⟨⟨_, _, rfl, rfl, .inl ⟨rfl, rowC_scal (encI_ok .i64) _⟩⟩, ⟨_, _, rfl, rfl, .inr ⟨_, _, _, _, rfl, rfl⟩⟩, ⟨_, _, rfl, rfl, .inl ⟨rfl, rowC_scal encP_ok _⟩⟩, trivial⟩ rfl ?_
    refine XL.conv (f44_1_ok m fuel z0 y0 a_Sorters a_Tables (w64 (x6_1 + 1)) (lh2_1 ++ [o2]) o h Q hQ) (by first | rfl | simp)
  | false =>
   have h := cF b1 h
   refine XQ.cond (s := (.tmp 17)) (b := false) (by kernel_rfl) (by kernel_rfl) (fun q => by cases q) (fun _ => ?_)
   refine XQ.ren (σ' := [(5, s0 1 lh2_1.length)]) (h' := [(1, rc (encI .i64) lh2_1 0 3 1), (0, rc encP a_Tables z0 y0 2)]) (c' := 2) [0, 2] (by decide) rfl ⟨by kernel_rfl, trivial⟩ ⟨⟨_, _, rfl, rfl, .inl ⟨rfl, rowC_scal (encI_ok .i64) _⟩⟩, ⟨_, _, rfl, rfl, .inl ⟨rfl, rowC_scal encP_ok _⟩⟩, trivial⟩ rfl ?_
   refine XQ.exit (i := 0) (by kernel_rfl) ?_
   cases h
   exact hQ

def f44 (m : Nat) (a_Sorters : Int) (a_Tables : List (Int × Int)) : Option ((List Int) × Int) :=
 (f48 m a_Sorters a_Tables).bind fun r1 =>
  cond (r1 != 0) (
   some ([], r1)
  ) (
   (f44_1 m m a_Sorters a_Tables 0 []).bind fun o1 =>
    some (o1, 0)
  )

theorem f44_ok (m : Nat) (z0 : Nat) (y0 : Nat) (a_Sorters : Int) (a_Tables : List (Int × Int)) (o : (List Int) × Int) (h : f44 m a_Sorters a_Tables = some o) : KC E0 44 [.agg #[ii a_Sorters, s0 0 a_Tables.length]] [(0, rc encP a_Tables z0 y0 2)] 1 (fun v h' c' => v = .tuple #[s0 1 o.1.length, ii o.2] ∧ h' = [(1, rc (encI .i64) o.1 0 3 1)] ++ [(0, rc encP a_Tables z0 y0 2)] ∧ c' = 2) := by
 refine KC.bodyN E0_ok (F := Proofs.Tryd.f44) (by kernel_rfl) (code := f44_C44) (by kernel_rfl) (nt := 38) (by kernel_rfl) (rs := [.tmp 2, .tmp 3]) (by kernel_rfl) (by kernel_rfl) (σ := [(0, .agg #[ii a_Sorters, s0 0 a_Tables.length])]) (by kernel_rfl) ?_
 unfold f44 at h
 refine XQ.seq E0_ok (by kernel_rfl) ?_
 refine XQ.region (by kernel_rfl) ?_
 refine XR.runT E0_ok 1 3 [(1, pp 1 0)] [(1, .cells [ii a_Sorters, s0 0 a_Tables.length] 0 37 0), (0, rc encP a_Tables z0 y0 2)] 2 rfl (by kernel_rfl) ?_
 refine XR.done (by kernel_rfl) ?_
 show XQ _ _ _ _ _ _ _ _
 refine XQ.seq E0_ok (by kernel_rfl) ?_
 refine XQ.region (by kernel_rfl) ?_
 refine XR.runS E0_ok 1 1 [(1, pp 1 0), (9, .agg #[ii a_Sorters, s0 0 a_Tables.length])] rfl (by kernel_rfl) ?_
 obtain ⟨r1, r1_h, h⟩ := bS h
 refine XR.call E0_ok [1, 10] rfl (K := 48) (args := [.agg #[ii a_Sorters, s0 0 a_Tables.length]]) (d := (some (path 12 10))) (by kernel_rfl) (KQ.call (KC.quiet E0_ok (args0 := [.agg #[ii a_Sorters, s0 0 a_Tables.length]]) (h0 := [(0, rc encP a_Tables (z0 + ((rowC encP a_Tables).length + 1)) y0 2)]) (n := 1) (V := ii r1) [0] (f48_ok m (z0 + ((rowC encP a_Tables).length + 1)) y0 a_Sorters a_Tables r1 r1_h) rfl (by rfl) (by decide) rfl (by kernel_rfl) ⟨⟨_, _, rfl, rfl, .inl ⟨rfl, rowC_scal encP_ok _⟩⟩, trivial⟩) rfl) ?_
 rintro _ _ _ ⟨rfl, rfl, rfl⟩
 refine XR.conv (σ' := [(1, pp 1 0), (10, ii r1)]) (h' := [(1, .cells [ii a_Sorters, s0 0 a_Tables.length] 0 37 0), (0, rc encP a_Tables z0 y0 2)]) (c' := 2) ?_ (by kernel_rfl)
 refine XR.runS E0_ok 1 1 [(1, pp 1 0), (4, ii r1)] rfl (by kernel_rfl) ?_
 refine XR.done (by kernel_rfl) ?_
 show XQ _ _ _ _ _ _ _ _
 refine XQ.seq E0_ok (by kernel_rfl) ?_
 refine XQ.seq E0_ok (by kernel_rfl) ?_
 refine XQ.region (by kernel_rfl) ?_
 refine XR.runS E0_ok 1 2 [(1, pp 1 0), (4, ii r1), (12, .bool (r1 != 0))] rfl (by kernel_rfl) ?_
 refine XR.done (by kernel_rfl) ?_
 show XQ _ _ _ _ _ _ _ _
 cases b1 : (r1 != 0 : Bool) with
 | true =>
  have h := cT b1 h
  refine XQ.cond (s := (.tmp 12)) (b := true) (by kernel_rfl) (by kernel_rfl) (fun _ => ?_) (fun q => by cases q)
  refine XQ.seq E0_ok (by kernel_rfl) ?_
  refine XQ.region (by kernel_rfl) ?_
  refine XR.runS E0_ok 1 3 [(2, .slice none 0 0), (3, ii r1)] rfl (by kernel_rfl) ?_
  refine XR.done (by kernel_rfl) ?_
  show XQ _ _ _ _ _ _ _ _
  refine XQ.ghost 3 1 rfl (σ' := [(2, s0 2 0), (3, ii r1)]) (h' := [(1, .cells [ii a_Sorters, s0 0 a_Tables.length] 0 37 0), (0, rc encP a_Tables z0 y0 2)]) ⟨by kernel_rfl, by kernel_rfl, trivial⟩ ⟨⟨_, rfl, .inl rfl⟩, ⟨_, rfl, .inl rfl⟩, trivial⟩ ?_
  refine XQ.conv (σ' := [(2, s0 2 0), (3, ii r1)]) (h' := [(2, rc (encI .i64) [] 0 3 1), (1, .cells [ii a_Sorters, s0 0 a_Tables.length] 0 37 0), (0, rc encP a_Tables z0 y0 2)]) (c' := 3) ?_ (by kernel_rfl)
  refine XQ.ren (σ' := [(2, s0 1 0), (3, ii r1)]) (h' := [(1, rc (encI .i64) [] 0 3 1), (0, rc encP a_Tables z0 y0 2)]) (c' := 2) [0, 2] (by decide) rfl ⟨by kernel_rfl, by kernel_rfl, trivial⟩ ⟨⟨_, _, rfl, rfl, .inl ⟨rfl, rowC_scal (encI_ok .i64) _⟩⟩, ⟨_, _, rfl, rfl, .inl ⟨rfl, rowC_scal encP_ok _⟩⟩, trivial⟩ rfl ?_
  refine XQ.ret (by kernel_rfl) ?_
  have h := Option.some.inj h
  subst h
  exact ⟨fun i q => (by cases q), .tuple #[s0 1 0, ii r1], (by kernel_rfl), (by kernel_rfl), (by kernel_rfl), rfl⟩
 | false =>
  have h := cF b1 h
  refine XQ.cond (s := (.tmp 12)) (b := false) (by kernel_rfl) (by kernel_rfl) (fun q => by cases q) (fun _ => ?_)
  refine XQ.skip (by kernel_rfl) ?_
  show XQ _ _ _ _ _ _ _ _
  refine XQ.seq E0_ok (by kernel_rfl) ?_
  refine XQ.region (by kernel_rfl) ?_
  refine XR.runS E0_ok 1 1 [(1, pp 1 0), (5, .slice none 0 0)] rfl (by kernel_rfl) ?_
  refine XR.done (by kernel_rfl) ?_
  show XQ _ _ _ _ _ _ _ _
  refine XQ.ghost 3 1 rfl (σ' := [(1, pp 1 0), (5, s0 2 0)]) (h' := [(1, .cells [ii a_Sorters, s0 0 a_Tables.length] 0 37 0), (0, rc encP a_Tables z0 y0 2)]) ⟨by kernel_rfl, by kernel_rfl, trivial⟩ ⟨⟨_, rfl, .inl rfl⟩, ⟨_, rfl, .inl rfl⟩, trivial⟩ ?_
  refine XQ.conv (σ' := [(1, pp 1 0), (5, s0 2 0)]) (h' := [(2, rc (encI .i64) [] 0 3 1), (1, .cells [ii a_Sorters, s0 0 a_Tables.length] 0 37 0), (0, rc encP a_Tables z0 y0 2)]) (c' := 3) ?_ (by kernel_rfl)
  refine XQ.seq E0_ok (by kernel_rfl) ?_
  refine XQ.seq E0_ok (by kernel_rfl) ?_
  refine XQ.region (by kernel_rfl) ?_
  refine XR.runS E0_ok 1 1 [(1, pp 1 0), (5, s0 2 0), (6, ii 0)] rfl (by kernel_rfl) ?_
  refine XR.done (by kernel_rfl) ?_
  show XQ _ _ _ _ _ _ _ _
  refine XQ.block (id := 0) (by kernel_rfl) ?_
  refine XQ.loop m (by kernel_rfl) ?_
  obtain ⟨o1, o1_h, h⟩ := bS h
  refine XL.ren (σ' := [(1, pp 1 0), (5, s0 2 0), (6, ii 0)]) (h' := [(2, rc (encI .i64) [] 0 3 1), (1, .cells [ii a_Sorters, s0 0 a_Tables.length] 0 37 0), (0, rc encP a_Tables z0 y0 2)]) (c' := 3) [0, 1, 2] (by decide) rfl ⟨by kernel_rfl, by kernel_rfl, by kernel_rfl, trivial⟩ ⟨⟨_, _, rfl, rfl, .inl ⟨rfl, rowC_scal (encI_ok .i64) _⟩⟩, ⟨_, _, rfl, rfl, .inr ⟨_, _, _, _, rfl, rfl⟩⟩, ⟨_, _, rfl, rfl, .inl ⟨rfl, rowC_scal encP_ok _⟩⟩, trivial⟩ rfl ?_
  refine XL.conv (f44_1_ok m m z0 y0 a_Sorters a_Tables 0 [] o1 o1_h _ ?_) (by first | rfl | simp)
  show XQ _ _ _ _ _ _ _ _
  refine XQ.seq E0_ok (by kernel_rfl) ?_
  refine XQ.region (by kernel_rfl) ?_
  refine XR.runS E0_ok 1 3 [(2, s0 1 o1.length), (3, ii 0)] rfl (by kernel_rfl) ?_
  refine XR.done (by kernel_rfl) ?_
  show XQ _ _ _ _ _ _ _ _
  refine XQ.ren (σ' := [(2, s0 1 o1.length), (3, ii 0)]) (h' := [(1, rc (encI .i64) o1 0 3 1), (0, rc encP a_Tables z0 y0 2)]) (c' := 2) [0, 1] (by decide) rfl ⟨by kernel_rfl, by kernel_rfl, trivial⟩ ⟨⟨_, _, rfl, rfl, .inl ⟨rfl, rowC_scal (encI_ok .i64) _⟩⟩, ⟨_, _, rfl, rfl, .inl ⟨rfl, rowC_scal encP_ok _⟩⟩, trivial⟩ rfl ?_
  refine XQ.ret (by kernel_rfl) ?_
  have h := Option.some.inj h
  subst h
  exact ⟨fun i q => (by cases q), .tuple #[s0 1 o1.length, ii 0], (by kernel_rfl), (by kernel_rfl), (by kernel_rfl), rfl⟩

end Go.Xm
