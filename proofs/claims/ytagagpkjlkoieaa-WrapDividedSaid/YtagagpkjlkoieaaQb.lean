/- What these functions of the program compute, as functions in Lean, and the proofs that they do: slices.Max[[]int,int], vitolalaw05.gaps. Conditions: none. -/
import Derived.Test.YtagagpkjlkoieaaPq
namespace Go.Xm
open Go.RowKit
set_option linter.unusedVariables false
set_option linter.unusedSimpArgs false
set_option maxRecDepth 20000

/-! slices.Max[[]int,int] -/
noncomputable def f55_C55 : Code := Proofs.Try.f55.body.getD .skip
noncomputable def f55_L1 : Code := lft (lft (rgt (lft (rgt (rgt (rgt f55_C55))))))

def f55_1 (m : Nat) : Nat → List Int → Int → Int → Option Int
 | 0, _, _, _ => none
 | fuel + 1, a, x3_1, x4_1 =>
  cond (decide (x4_1 < ((a.length : Nat) : Int))) (
   cond (inRow x4_1 a.length) (
    f55_1 m fuel a (iMax x3_1 (List.getD a (Int.toNat x4_1) 0)) (w64 (x4_1 + 1))
   ) none
  ) (
   some (x3_1)
  )

theorem f55_1_ok (m : Nat) : ∀ (fuel : Nat) (z0 : Nat) (y0 : Nat) (a : List Int) (x3_1 : Int) (x4_1 : Int) (o : Int), f55_1 m fuel a x3_1 x4_1 = some o → ∀ Q : QP, Q (.exit 0) [(3, ii o)] [(0, rc (encI .i64) a z0 y0 1)] 1 → XL E0 25 1 fuel f55_L1 [(0, s0 0 a.length), (3, ii x3_1), (4, ii x4_1)] [(0, rc (encI .i64) a z0 y0 1)] 1 Q
 | 0, z0, y0, a, x3_1, x4_1, o, h, Q, hQ => by cases h
 | fuel + 1, z0, y0, a, x3_1, x4_1, o, h, Q, hQ => by
  unfold f55_1 at h
  refine XL.succ E0_ok ?_
  refine XQ.seq E0_ok (by kernel_rfl) ?_
  refine XQ.seq E0_ok (by kernel_rfl) ?_
  refine XQ.region (by kernel_rfl) ?_
  refine XR.runS E0_ok 1 4 [(0, s0 0 a.length), (3, ii x3_1), (4, ii x4_1), (15, .bool (decide (x4_1 < ((a.length : Nat) : Int))))] rfl (by kernel_rfl) ?_
  refine XR.done (by kernel_rfl) ?_
  show XQ _ _ _ _ _ _ _ _
  cases b1 : (decide (x4_1 < ((a.length : Nat) : Int)) : Bool) with
  | true =>
   have h := cT b1 h
   refine XQ.cond (s := (.tmp 15)) (b := true) (by kernel_rfl) (by kernel_rfl) (fun _ => ?_) (fun q => by cases q)
   refine XQ.skip (by kernel_rfl) ?_
   show XQ _ _ _ _ _ _ _ _
   refine XQ.seq E0_ok (by kernel_rfl) ?_
   refine XQ.block (id := 1) (by kernel_rfl) ?_
   refine XQ.region (by kernel_rfl) ?_
   refine XR.runS E0_ok 1 3 [(0, s0 0 a.length), (4, ii x4_1), (18, ii x3_1), (19, s0 0 a.length), (20, ii x4_1)] rfl (by kernel_rfl) ?_
   cases b2 : (inRow x4_1 a.length : Bool) with
   | false => cases (cF b2 h)
   | true =>
    have h := cT b2 h
    refine XR.rd E0_ok [0, 4, 18, 21] rfl (v := pp 0 ((Int.toNat x4_1) * 1)) (v_idx (s := 1) (x := (src 25 (.tmp 19))) (y := (src 25 (.tmp 20))) (b := 0) (o := 0) (len := a.length) (cap := a.length) (ik := .i64) (i := x4_1) (off := (Int.toNat x4_1) * 1) (d := (some (path 12 21))) (by kernel_rfl) (by kernel_rfl) (by kernel_rfl) b2 (by omega)) (σ' := [(0, s0 0 a.length), (4, ii x4_1), (18, ii x3_1), (21, pp 0 ((Int.toNat x4_1) * 1))]) (by kernel_rfl) ?_
    refine XR.rd E0_ok [0, 4, 18, 22] rfl (v := ii (List.getD a (Int.toNat x4_1) 0)) (v_load1 (encI_ok .i64) (x := (src 25 (.tmp 21))) (b := 0) (off := (Int.toNat x4_1) * 1) (xs := a) (fz := z0) (e := y0) (es := 1) (d := (some (path 12 22))) (by kernel_rfl) (by kernel_rfl) (by kernel_rfl) (Int.toNat x4_1) 0 0 (by first | rfl | omega) (row_len (inRow_toNat b2) (by simp)) rfl rfl) (σ' := [(0, s0 0 a.length), (4, ii x4_1), (18, ii x3_1), (22, ii (List.getD a (Int.toNat x4_1) 0))]) (by kernel_rfl) ?_
    refine XR.runS E0_ok 1 2 [(0, s0 0 a.length), (3, ii (iMax x3_1 (List.getD a (Int.toNat x4_1) 0))), (4, ii x4_1)] rfl (by kernel_rfl) ?_
    refine XR.done (by kernel_rfl) ?_
    show XQ _ _ _ _ _ _ _ _
    refine XQ.region (by kernel_rfl) ?_
    refine XR.runS E0_ok 1 3 [(0, s0 0 a.length), (3, ii (iMax x3_1 (List.getD a (Int.toNat x4_1) 0))), (4, ii (w64 (x4_1 + 1)))] rfl (by kernel_rfl) ?_
    refine XR.done (by kernel_rfl) ?_
    show XL _ _ _ _ _ _ _ _ _
    refine XL.ren (σ' := [(0, s0 0 a.length), (3, ii (iMax x3_1 (List.getD a (Int.toNat x4_1) 0))), (4, ii (w64 (x4_1 + 1)))]) (h' := [(0, rc (encI .i64) a z0 y0 1)]) (c' := 1) [0] (by decide) rfl ⟨by kernel_rfl, by kernel_rfl, by kernel_rfl, trivial⟩ ⟨⟨_, _, rfl, rfl, .inl ⟨rfl, rowC_scal (encI_ok .i64) _⟩⟩, trivial⟩ rfl ?_
    refine XL.conv (f55_1_ok m fuel z0 y0 a (iMax x3_1 (List.getD a (Int.toNat x4_1) 0)) (w64 (x4_1 + 1)) o h Q hQ) (by first | rfl | simp)
  | false =>
   have h := cF b1 h
   refine XQ.cond (s := (.tmp 15)) (b := false) (by kernel_rfl) (by kernel_rfl) (fun q => by cases q) (fun _ => ?_)
   refine XQ.ren (σ' := [(3, ii x3_1)]) (h' := [(0, rc (encI .i64) a z0 y0 1)]) (c' := 1) [0] (by decide) rfl ⟨by kernel_rfl, trivial⟩ ⟨⟨_, _, rfl, rfl, .inl ⟨rfl, rowC_scal (encI_ok .i64) _⟩⟩, trivial⟩ rfl ?_
   refine XQ.exit (i := 0) (by kernel_rfl) ?_
   cases h
   exact hQ

def f55 (m : Nat) (a : List Int) : Option (Int) :=
 cond (decide (((a.length : Nat) : Int) < 1)) (
  none
 ) (
  cond (inRow 0 a.length) (
   (f55_1 m m a (List.getD a 0 0) 1).bind fun o1 =>
    some (o1)
  ) none
 )

theorem f55_ok (m : Nat) (z0 : Nat) (y0 : Nat) (a : List Int) (o : Int) (h : f55 m a = some o) : KC E0 55 [s0 0 a.length] [(0, rc (encI .i64) a z0 y0 1)] 1 (fun v _ _ => v = ii o) := by
 refine KC.bodyN E0_ok (F := Proofs.Try.f55) (by kernel_rfl) (code := f55_C55) (by kernel_rfl) (nt := 25) (by kernel_rfl) (rs := [.tmp 2]) (by kernel_rfl) (by kernel_rfl) (σ := [(0, s0 0 a.length)]) (by kernel_rfl) ?_
 unfold f55 at h
 refine XQ.seq E0_ok (by kernel_rfl) ?_
 refine XQ.region (by kernel_rfl) ?_
 refine XR.runS E0_ok 1 1 [(0, s0 0 a.length)] rfl (by kernel_rfl) ?_
 refine XR.done (by kernel_rfl) ?_
 show XQ _ _ _ _ _ _ _ _
 refine XQ.seq E0_ok (by kernel_rfl) ?_
 refine XQ.seq E0_ok (by kernel_rfl) ?_
 refine XQ.region (by kernel_rfl) ?_
 refine XR.runS E0_ok 1 3 [(0, s0 0 a.length), (7, .bool (decide (((a.length : Nat) : Int) < 1)))] rfl (by kernel_rfl) ?_
 refine XR.done (by kernel_rfl) ?_
 show XQ _ _ _ _ _ _ _ _
 cases b1 : (decide (((a.length : Nat) : Int) < 1) : Bool) with
 | true =>
  have h := cT b1 h
  refine XQ.cond (s := (.tmp 7)) (b := true) (by kernel_rfl) (by kernel_rfl) (fun _ => ?_) (fun q => by cases q)
  refine XQ.region (by kernel_rfl) ?_
  cases h
 | false =>
  have h := cF b1 h
  refine XQ.cond (s := (.tmp 7)) (b := false) (by kernel_rfl) (by kernel_rfl) (fun q => by cases q) (fun _ => ?_)
  refine XQ.skip (by kernel_rfl) ?_
  show XQ _ _ _ _ _ _ _ _
  refine XQ.seq E0_ok (by kernel_rfl) ?_
  refine XQ.region (by kernel_rfl) ?_
  refine XR.runS E0_ok 1 1 [(0, s0 0 a.length), (9, s0 0 a.length)] rfl (by kernel_rfl) ?_
  cases b2 : (inRow 0 a.length : Bool) with
  | false => cases (cF b2 h)
  | true =>
   have h := cT b2 h
   refine XR.rd E0_ok [0, 10] rfl (v := pp 0 (0 * 1)) (v_idx (s := 1) (x := (src 25 (.tmp 9))) (y := (src 25 (.const (ii 0)))) (b := 0) (o := 0) (len := a.length) (cap := a.length) (ik := .i64) (i := 0) (off := 0 * 1) (d := (some (path 12 10))) (by kernel_rfl) (by kernel_rfl) (by kernel_rfl) b2 (by omega)) (σ' := [(0, s0 0 a.length), (10, pp 0 (0 * 1))]) (by kernel_rfl) ?_
   refine XR.rd E0_ok [0, 11] rfl (v := ii (List.getD a 0 0)) (v_load1 (encI_ok .i64) (x := (src 25 (.tmp 10))) (b := 0) (off := 0 * 1) (xs := a) (fz := z0) (e := y0) (es := 1) (d := (some (path 12 11))) (by kernel_rfl) (by kernel_rfl) (by kernel_rfl) 0 0 0 (by first | rfl | omega) (row_len (inRow_toNat b2) (by simp)) rfl rfl) (σ' := [(0, s0 0 a.length), (11, ii (List.getD a 0 0))]) (by kernel_rfl) ?_
   refine XR.runS E0_ok 1 1 [(0, s0 0 a.length), (3, ii (List.getD a 0 0))] rfl (by kernel_rfl) ?_
   refine XR.done (by kernel_rfl) ?_
   show XQ _ _ _ _ _ _ _ _
   refine XQ.seq E0_ok (by kernel_rfl) ?_
   refine XQ.seq E0_ok (by kernel_rfl) ?_
   refine XQ.region (by kernel_rfl) ?_
   refine XR.runS E0_ok 1 1 [(0, s0 0 a.length), (3, ii (List.getD a 0 0)), (4, ii 1)] rfl (by kernel_rfl) ?_
   refine XR.done (by kernel_rfl) ?_
   show XQ _ _ _ _ _ _ _ _
   refine XQ.block (id := 0) (by kernel_rfl) ?_
   refine XQ.loop m (by kernel_rfl) ?_
   obtain ⟨o1, o1_h, h⟩ := bS h
   refine XL.ren (σ' := [(0, s0 0 a.length), (3, ii (List.getD a 0 0)), (4, ii 1)]) (h' := [(0, rc (encI .i64) a z0 y0 1)]) (c' := 1) [0] (by decide) rfl ⟨by kernel_rfl, by kernel_rfl, by kernel_rfl, trivial⟩ ⟨⟨_, _, rfl, rfl, .inl ⟨rfl, rowC_scal (encI_ok .i64) _⟩⟩, trivial⟩ rfl ?_
   refine XL.conv (f55_1_ok m m z0 y0 a (List.getD a 0 0) 1 o1 o1_h _ ?_) (by first | rfl | simp)
   show XQ _ _ _ _ _ _ _ _
   refine XQ.seq E0_ok (by kernel_rfl) ?_
   refine XQ.region (by kernel_rfl) ?_
   refine XR.runS E0_ok 1 2 [(2, ii o1)] rfl (by kernel_rfl) ?_
   refine XR.done (by kernel_rfl) ?_
   show XQ _ _ _ _ _ _ _ _
   refine XQ.ret (by kernel_rfl) ?_
   have h := Option.some.inj h
   subst h
   exact ⟨fun i q => (by cases q), ii o1, (by kernel_rfl), rfl⟩

/-! vitola/vitolalaw05.gaps -/
noncomputable def f56_C56 : Code := Proofs.Try.f56.body.getD .skip
noncomputable def f56_C82 : Code := Proofs.Try.f82.body.getD .skip
noncomputable def f56_L1 : Code := lft (lft (rgt (lft (rgt (rgt (rgt f56_C56))))))

def f56_1 (m : Nat) : Nat → Int → Int → Int → Int → Int → List Int → List Int → Option (List Int)
 | 0, _, _, _, _, _, _, _ => none
 | fuel + 1, a_Marks, a_Step, a_Turns, x12_1, x13_1, lh1_1, lh2_1 =>
  cond (decide (x13_1 < x12_1)) (
   cond (inRow x13_1 lh1_1.length) (
    cond (decide ((w64 (x13_1 + 1)) < ((lh1_1.length : Nat) : Int))) (
     cond (inRow (w64 (x13_1 + 1)) lh1_1.length) (
      cond (fitsB (lh2_1.length + 1) 8) (
       f56_1 m fuel a_Marks a_Step a_Turns x12_1 (w64 (x13_1 + 1)) lh1_1 (lh2_1 ++ [w64 ((List.getD lh1_1 (Int.toNat (w64 (x13_1 + 1))) 0) - (List.getD lh1_1 (Int.toNat x13_1) 0))])
      ) none
     ) none
    ) (
     cond (fitsB (lh2_1.length + 1) 8) (
      f56_1 m fuel a_Marks a_Step a_Turns x12_1 (w64 (x13_1 + 1)) lh1_1 (lh2_1 ++ [w64 (a_Marks - (List.getD lh1_1 (Int.toNat x13_1) 0))])
     ) none
    )
   ) none
  ) (
   some (lh2_1)
  )

theorem f56_1_ok (m : Nat) : ∀ (fuel : Nat) (a_Marks : Int) (a_Step : Int) (a_Turns : Int) (x12_1 : Int) (x13_1 : Int) (lh1_1 : List Int) (lh2_1 : List Int) (o : (List Int)), f56_1 m fuel a_Marks a_Step a_Turns x12_1 x13_1 lh1_1 lh2_1 = some o → ∀ Q : QP, Q (.exit 0) [(4, s0 0 o.length)] [(0, rc (encI .i64) o 0 3 1)] 1 → XL E0 42 0 fuel f56_L1 [(1, pp 0 0), (3, s0 1 lh1_1.length), (4, s0 2 lh2_1.length), (11, s0 1 lh1_1.length), (12, ii x12_1), (13, ii x13_1)] [(2, rc (encI .i64) lh2_1 0 3 1), (1, rc (encI .i64) lh1_1 0 3 1), (0, .cells [ii a_Marks, ii a_Step, ii a_Turns] 0 23 0)] 3 Q
 | 0, a_Marks, a_Step, a_Turns, x12_1, x13_1, lh1_1, lh2_1, o, h, Q, hQ => by cases h
 | fuel + 1, a_Marks, a_Step, a_Turns, x12_1, x13_1, lh1_1, lh2_1, o, h, Q, hQ => by
  unfold f56_1 at h
  refine XL.succ E0_ok ?_
  refine XQ.seq E0_ok (by kernel_rfl) ?_
  refine XQ.region (by kernel_rfl) ?_
  refine XR.runS E0_ok 1 1 [(1, pp 0 0), (3, s0 1 lh1_1.length), (4, s0 2 lh2_1.length), (11, s0 1 lh1_1.length), (12, ii x12_1), (13, ii x13_1), (14, .bool (decide (x13_1 < x12_1)))] rfl (by kernel_rfl) ?_
  refine XR.done (by kernel_rfl) ?_
  show XQ _ _ _ _ _ _ _ _
  refine XQ.seq E0_ok (by kernel_rfl) ?_
  cases b1 : (decide (x13_1 < x12_1) : Bool) with
  | true =>
   have h := cT b1 h
   refine XQ.cond (s := (.tmp 14)) (b := true) (by kernel_rfl) (by kernel_rfl) (fun _ => ?_) (fun q => by cases q)
   refine XQ.skip (by kernel_rfl) ?_
   show XQ _ _ _ _ _ _ _ _
   refine XQ.seq E0_ok (by kernel_rfl) ?_
   refine XQ.block (id := 1) (by kernel_rfl) ?_
   refine XQ.seq E0_ok (by kernel_rfl) ?_
   refine XQ.region (by kernel_rfl) ?_
   refine XR.runS E0_ok 1 1 [(1, pp 0 0), (3, s0 1 lh1_1.length), (4, s0 2 lh2_1.length), (11, s0 1 lh1_1.length), (12, ii x12_1), (13, ii x13_1), (15, ii x13_1)] rfl (by kernel_rfl) ?_
   cases b2 : (inRow x13_1 lh1_1.length : Bool) with
   | false => cases (cF b2 h)
   | true =>
    have h := cT b2 h
    refine XR.rd E0_ok [1, 3, 4, 11, 12, 13, 15, 16] rfl (v := pp 1 ((Int.toNat x13_1) * 1)) (v_idx (s := 1) (x := (src 42 (.tmp 11))) (y := (src 42 (.tmp 13))) (b := 1) (o := 0) (len := lh1_1.length) (cap := lh1_1.length) (ik := .i64) (i := x13_1) (off := (Int.toNat x13_1) * 1) (d := (some (path 12 16))) (by kernel_rfl) (by kernel_rfl) (by kernel_rfl) b2 (by omega)) (σ' := [(1, pp 0 0), (3, s0 1 lh1_1.length), (4, s0 2 lh2_1.length), (11, s0 1 lh1_1.length), (12, ii x12_1), (13, ii x13_1), (15, ii x13_1), (16, pp 1 ((Int.toNat x13_1) * 1))]) (by kernel_rfl) ?_
    refine XR.rd E0_ok [1, 3, 4, 11, 12, 13, 15, 17] rfl (v := ii (List.getD lh1_1 (Int.toNat x13_1) 0)) (v_load1 (encI_ok .i64) (x := (src 42 (.tmp 16))) (b := 1) (off := (Int.toNat x13_1) * 1) (xs := lh1_1) (fz := 0) (e := 3) (es := 1) (d := (some (path 12 17))) (by kernel_rfl) (by kernel_rfl) (by kernel_rfl) (Int.toNat x13_1) 0 0 (by first | rfl | omega) (row_len (inRow_toNat b2) (by simp)) rfl rfl) (σ' := [(1, pp 0 0), (3, s0 1 lh1_1.length), (4, s0 2 lh2_1.length), (11, s0 1 lh1_1.length), (12, ii x12_1), (13, ii x13_1), (15, ii x13_1), (17, ii (List.getD lh1_1 (Int.toNat x13_1) 0))]) (by kernel_rfl) ?_
    refine XR.runS E0_ok 1 2 [(1, pp 0 0), (3, s0 1 lh1_1.length), (4, s0 2 lh2_1.length), (5, ii x13_1), (6, ii (List.getD lh1_1 (Int.toNat x13_1) 0)), (11, s0 1 lh1_1.length), (12, ii x12_1), (13, ii x13_1)] rfl (by kernel_rfl) ?_
    refine XR.done (by kernel_rfl) ?_
    show XQ _ _ _ _ _ _ _ _
    refine XQ.seq E0_ok (by kernel_rfl) ?_
    refine XQ.region (by kernel_rfl) ?_
    refine XR.runS E0_ok 1 5 [(1, pp 0 0), (3, s0 1 lh1_1.length), (4, s0 2 lh2_1.length), (5, ii x13_1), (6, ii (List.getD lh1_1 (Int.toNat x13_1) 0)), (11, s0 1 lh1_1.length), (12, ii x12_1), (13, ii x13_1), (22, .bool (decide ((w64 (x13_1 + 1)) < ((lh1_1.length : Nat) : Int))))] rfl (by kernel_rfl) ?_
    refine XR.done (by kernel_rfl) ?_
    show XQ _ _ _ _ _ _ _ _
    cases b3 : (decide ((w64 (x13_1 + 1)) < ((lh1_1.length : Nat) : Int)) : Bool) with
    | true =>
     have h := cT b3 h
     refine XQ.cond (s := (.tmp 22)) (b := true) (by kernel_rfl) (by kernel_rfl) (fun _ => ?_) (fun q => by cases q)
     refine XQ.region (by kernel_rfl) ?_
     refine XR.runS E0_ok 1 4 [(1, pp 0 0), (3, s0 1 lh1_1.length), (6, ii (List.getD lh1_1 (Int.toNat x13_1) 0)), (11, s0 1 lh1_1.length), (12, ii x12_1), (13, ii x13_1), (23, s0 2 lh2_1.length), (24, s0 1 lh1_1.length), (26, ii (w64 (x13_1 + 1)))] rfl (by kernel_rfl) ?_
     cases b4 : (inRow (w64 (x13_1 + 1)) lh1_1.length : Bool) with
     | false => cases (cF b4 h)
     | true =>
      have h := cT b4 h
      refine XR.rd E0_ok [1, 3, 6, 11, 12, 13, 23, 27] rfl (v := pp 1 ((Int.toNat (w64 (x13_1 + 1))) * 1)) (v_idx (s := 1) (x := (src 42 (.tmp 24))) (y := (src 42 (.tmp 26))) (b := 1) (o := 0) (len := lh1_1.length) (cap := lh1_1.length) (ik := .i64) (i := w64 (x13_1 + 1)) (off := (Int.toNat (w64 (x13_1 + 1))) * 1) (d := (some (path 12 27))) (by kernel_rfl) (by kernel_rfl) (by kernel_rfl) b4 (by omega)) (σ' := [(1, pp 0 0), (3, s0 1 lh1_1.length), (6, ii (List.getD lh1_1 (Int.toNat x13_1) 0)), (11, s0 1 lh1_1.length), (12, ii x12_1), (13, ii x13_1), (23, s0 2 lh2_1.length), (27, pp 1 ((Int.toNat (w64 (x13_1 + 1))) * 1))]) (by kernel_rfl) ?_
      refine XR.rd E0_ok [1, 3, 6, 11, 12, 13, 23, 28] rfl (v := ii (List.getD lh1_1 (Int.toNat (w64 (x13_1 + 1))) 0)) (v_load1 (encI_ok .i64) (x := (src 42 (.tmp 27))) (b := 1) (off := (Int.toNat (w64 (x13_1 + 1))) * 1) (xs := lh1_1) (fz := 0) (e := 3) (es := 1) (d := (some (path 12 28))) (by kernel_rfl) (by kernel_rfl) (by kernel_rfl) (Int.toNat (w64 (x13_1 + 1))) 0 0 (by first | rfl | omega) (row_len (inRow_toNat b4) (by simp)) rfl rfl) (σ' := [(1, pp 0 0), (3, s0 1 lh1_1.length), (6, ii (List.getD lh1_1 (Int.toNat x13_1) 0)), (11, s0 1 lh1_1.length), (12, ii x12_1), (13, ii x13_1), (23, s0 2 lh2_1.length), (28, ii (List.getD lh1_1 (Int.toNat (w64 (x13_1 + 1))) 0))]) (by kernel_rfl) ?_
      refine XR.runT E0_ok 1 3 [(1, pp 0 0), (3, s0 1 lh1_1.length), (11, s0 1 lh1_1.length), (12, ii x12_1), (13, ii x13_1), (23, s0 2 lh2_1.length), (31, s0 3 1)] [(3, .cells [ii (w64 ((List.getD lh1_1 (Int.toNat (w64 (x13_1 + 1))) 0) - (List.getD lh1_1 (Int.toNat x13_1) 0)))] 0 3 1), (2, rc (encI .i64) lh2_1 0 3 1), (1, rc (encI .i64) lh1_1 0 3 1), (0, .cells [ii a_Marks, ii a_Step, ii a_Turns] 0 23 0)] 4 rfl (by kernel_rfl) ?_
      cases b5 : (fitsB (lh2_1.length + 1) 8 : Bool) with
      | false => cases (cF b5 h)
      | true =>
       have h := cT b5 h
       refine XR.ef E0_ok [1, 3, 11, 12, 13, 32] rfl (e_append (encI_ok .i64) (bytes := 8) (e := 3) (x := (src 42 (.tmp 23))) (y := (src 42 (.tmp 31))) (b := 2) (len := lh2_1.length) (cap := lh2_1.length) (xs := lh2_1) (m := 0) (ys := [w64 ((List.getD lh1_1 (Int.toNat (w64 (x13_1 + 1))) 0) - (List.getD lh1_1 (Int.toNat x13_1) 0))]) (d := (some (path 12 32))) (n' := (lh2_1 ++ [w64 ((List.getD lh1_1 (Int.toNat (w64 (x13_1 + 1))) 0) - (List.getD lh1_1 (Int.toNat x13_1) 0))]).length) (h' := [(4, rc (encI .i64) (lh2_1 ++ [w64 ((List.getD lh1_1 (Int.toNat (w64 (x13_1 + 1))) 0) - (List.getD lh1_1 (Int.toNat x13_1) 0))]) 0 3 1), (3, .cells [ii (w64 ((List.getD lh1_1 (Int.toNat (w64 (x13_1 + 1))) 0) - (List.getD lh1_1 (Int.toNat x13_1) 0)))] 0 3 1), (1, rc (encI .i64) lh1_1 0 3 1), (0, .cells [ii a_Marks, ii a_Step, ii a_Turns] 0 23 0)]) (by kernel_rfl) (by kernel_rfl) (by kernel_rfl) (by kernel_rfl) rfl (by simp) (by simp) b5 (by simp) (by kernel_rfl)) (σ' := [(1, pp 0 0), (3, s0 1 lh1_1.length), (11, s0 1 lh1_1.length), (12, ii x12_1), (13, ii x13_1), (32, s0 4 ((lh2_1 ++ [w64 ((List.getD lh1_1 (Int.toNat (w64 (x13_1 + 1))) 0) - (List.getD lh1_1 (Int.toNat x13_1) 0))]).length))]) (by kernel_rfl) ?_
       refine XR.runS E0_ok 1 1 [(1, pp 0 0), (3, s0 1 lh1_1.length), (4, s0 4 ((lh2_1 ++ [w64 ((List.getD lh1_1 (Int.toNat (w64 (x13_1 + 1))) 0) - (List.getD lh1_1 (Int.toNat x13_1) 0))]).length)), (11, s0 1 lh1_1.length), (12, ii x12_1), (13, ii x13_1)] rfl (by kernel_rfl) ?_
       refine XR.done (by kernel_rfl) ?_
       show XQ _ _ _ _ _ _ _ _
       refine XQ.region (by kernel_rfl) ?_
       refine XR.runS E0_ok 1 2 [(1, pp 0 0), (3, s0 1 lh1_1.length), (4, s0 4 ((lh2_1 ++ [w64 ((List.getD lh1_1 (Int.toNat (w64 (x13_1 + 1))) 0) - (List.getD lh1_1 (Int.toNat x13_1) 0))]).length)), (11, s0 1 lh1_1.length), (12, ii x12_1), (13, ii (w64 (x13_1 + 1)))] rfl (by kernel_rfl) ?_
       refine XR.done (by kernel_rfl) ?_
       show XL _ _ _ _ _ _ _ _ _
       refine XL.ren (σ' := [(1, pp 0 0), (3, s0 1 lh1_1.length), (4, s0 2 ((lh2_1 ++ [w64 ((List.getD lh1_1 (Int.toNat (w64 (x13_1 + 1))) 0) - (List.getD lh1_1 (Int.toNat x13_1) 0))]).length)), (11, s0 1 lh1_1.length), (12, ii x12_1), (13, ii (w64 (x13_1 + 1)))]) (h' := [(2, rc (encI .i64) (lh2_1 ++ [w64 ((List.getD lh1_1 (Int.toNat (w64 (x13_1 + 1))) 0) - (List.getD lh1_1 (Int.toNat x13_1) 0))]) 0 3 1), (1, rc (encI .i64) lh1_1 0 3 1), (0, .cells [ii a_Marks, ii a_Step, ii a_Turns] 0 23 0)]) (c' := 3) [0, 1, 4] (by decide) rfl ⟨by kernel_rfl, by kernel_rfl, by kernel_rfl, by kernel_rfl, by kernel_rfl, by kernel_rfl, trivial⟩ ⟨⟨_, _, rfl, rfl, .inl ⟨rfl, rowC_scal (encI_ok .i64) _⟩⟩, ⟨_, _, rfl, rfl, .inl ⟨rfl, rowC_scal (encI_ok .i64) _⟩⟩, ⟨_, _, rfl, rfl, .inr ⟨_, _, _, _, rfl, rfl⟩⟩, trivial⟩ rfl ?_
       refine XL.conv (f56_1_ok m fuel a_Marks a_Step a_Turns x12_1 (w64 (x13_1 + 1)) lh1_1 (lh2_1 ++ [w64 ((List.getD lh1_1 (Int.toNat (w64 (x13_1 + 1))) 0) - (List.getD lh1_1 (Int.toNat x13_1) 0))]) o h Q hQ) (by first | rfl | simp)
    | false =>
     have h := cF b3 h
     refine XQ.cond (s := (.tmp 22)) (b := false) (by kernel_rfl) (by kernel_rfl) (fun q => by cases q) (fun _ => ?_)
     refine XQ.region (by kernel_rfl) ?_
     refine XR.runT E0_ok 1 6 [(1, pp 0 0), (3, s0 1 lh1_1.length), (11, s0 1 lh1_1.length), (12, ii x12_1), (13, ii x13_1), (33, s0 2 lh2_1.length), (38, s0 3 1)] [(3, .cells [ii (w64 (a_Marks - (List.getD lh1_1 (Int.toNat x13_1) 0)))] 0 3 1), (2, rc (encI .i64) lh2_1 0 3 1), (1, rc (encI .i64) lh1_1 0 3 1), (0, .cells [ii a_Marks, ii a_Step, ii a_Turns] 0 23 0)] 4 rfl (by kernel_rfl) ?_
     cases b6 : (fitsB (lh2_1.length + 1) 8 : Bool) with
     | false => cases (cF b6 h)
     | true =>
      have h := cT b6 h
      refine XR.ef E0_ok [1, 3, 11, 12, 13, 39] rfl (e_append (encI_ok .i64) (bytes := 8) (e := 3) (x := (src 42 (.tmp 33))) (y := (src 42 (.tmp 38))) (b := 2) (len := lh2_1.length) (cap := lh2_1.length) (xs := lh2_1) (m := 0) (ys := [w64 (a_Marks - (List.getD lh1_1 (Int.toNat x13_1) 0))]) (d := (some (path 12 39))) (n' := (lh2_1 ++ [w64 (a_Marks - (List.getD lh1_1 (Int.toNat x13_1) 0))]).length) (h' := [(4, rc (encI .i64) (lh2_1 ++ [w64 (a_Marks - (List.getD lh1_1 (Int.toNat x13_1) 0))]) 0 3 1), (3, .cells [ii (w64 (a_Marks - (List.getD lh1_1 (Int.toNat x13_1) 0)))] 0 3 1), (1, rc (encI .i64) lh1_1 0 3 1), (0, .cells [ii a_Marks, ii a_Step, ii a_Turns] 0 23 0)]) (by kernel_rfl) (by kernel_rfl) (by kernel_rfl) (by kernel_rfl) rfl (by simp) (by simp) b6 (by simp) (by kernel_rfl)) (σ' := [(1, pp 0 0), (3, s0 1 lh1_1.length), (11, s0 1 lh1_1.length), (12, ii x12_1), (13, ii x13_1), (39, s0 4 ((lh2_1 ++ [w64 (a_Marks - (List.getD lh1_1 (Int.toNat x13_1) 0))]).length))]) (by kernel_rfl) ?_
      refine XR.runS E0_ok 1 1 [(1, pp 0 0), (3, s0 1 lh1_1.length), (4, s0 4 ((lh2_1 ++ [w64 (a_Marks - (List.getD lh1_1 (Int.toNat x13_1) 0))]).length)), (11, s0 1 lh1_1.length), (12, ii x12_1), (13, ii x13_1)] rfl (by kernel_rfl) ?_
      refine XR.done (by kernel_rfl) ?_
      show XQ _ _ _ _ _ _ _ _
      refine XQ.region (by kernel_rfl) ?_
      refine XR.runS E0_ok 1 2 [(1, pp 0 0), (3, s0 1 lh1_1.length), (4, s0 4 ((lh2_1 ++ [w64 (a_Marks - (List.getD lh1_1 (Int.toNat x13_1) 0))]).length)), (11, s0 1 lh1_1.length), (12, ii x12_1), (13, ii (w64 (x13_1 + 1)))] rfl (by kernel_rfl) ?_
      refine XR.done (by kernel_rfl) ?_
      show XL _ _ _ _ _ _ _ _ _
      refine XL.ren (σ' := [(1, pp 0 0), (3, s0 1 lh1_1.length), (4, s0 2 ((lh2_1 ++ [w64 (a_Marks - (List.getD lh1_1 (Int.toNat x13_1) 0))]).length)), (11, s0 1 lh1_1.length), (12, ii x12_1), (13, ii (w64 (x13_1 + 1)))]) (h' := [(2, rc (encI .i64) (lh2_1 ++ [w64 (a_Marks - (List.getD lh1_1 (Int.toNat x13_1) 0))]) 0 3 1), (1, rc (encI .i64) lh1_1 0 3 1), (0, .cells [ii a_Marks, ii a_Step, ii a_Turns] 0 23 0)]) (c' := 3) [0, 1, 4] (by decide) rfl ⟨by kernel_rfl, by kernel_rfl, by kernel_rfl, by kernel_rfl, by kernel_rfl, by kernel_rfl, trivial⟩ ⟨⟨_, _, rfl, rfl, .inl ⟨rfl, rowC_scal (encI_ok .i64) _⟩⟩, ⟨_, _, rfl, rfl, .inl ⟨rfl, rowC_scal (encI_ok .i64) _⟩⟩, ⟨_, _, rfl, rfl, .inr ⟨_, _, _, _, rfl, rfl⟩⟩, trivial⟩ rfl ?_
      refine XL.conv (f56_1_ok m fuel a_Marks a_Step a_Turns x12_1 (w64 (x13_1 + 1)) lh1_1 (lh2_1 ++ [w64 (a_Marks - (List.getD lh1_1 (Int.toNat x13_1) 0))]) o h Q hQ) (by first | rfl | simp)
  | false =>
   have h := cF b1 h
   refine XQ.cond (s := (.tmp 14)) (b := false) (by kernel_rfl) (by kernel_rfl) (fun q => by cases q) (fun _ => ?_)
   refine XQ.ren (σ' := [(4, s0 0 lh2_1.length)]) (h' := [(0, rc (encI .i64) lh2_1 0 3 1)]) (c' := 1) [2] (by decide) rfl ⟨by kernel_rfl, trivial⟩ ⟨⟨_, _, rfl, rfl, .inl ⟨rfl, rowC_scal (encI_ok .i64) _⟩⟩, trivial⟩ rfl ?_
   refine XQ.exit (i := 0) (by kernel_rfl) ?_
   cases h
   exact hQ

def f56 (m : Nat) (a_Marks : Int) (a_Step : Int) (a_Turns : Int) : Option (List Int) :=
 (f46 m a_Marks a_Step a_Turns).bind fun r1 =>
  cond (Nat.ble r1.length 1000000) (
   (f56_1 m m a_Marks a_Step a_Turns (((sortI r1).length : Nat) : Int) 0 (sortI r1) []).bind fun o1 =>
    some (o1)
  ) none

theorem f56_ok (m : Nat) (a_Marks : Int) (a_Step : Int) (a_Turns : Int) (o : List Int) (h : f56 m a_Marks a_Step a_Turns = some o) : KC E0 56 [.agg #[ii a_Marks, ii a_Step, ii a_Turns]] [] 0 (fun v h' c' => v = s0 0 o.length ∧ h' = [(0, rc (encI .i64) o 0 3 1)] ∧ c' = 1) := by
 refine KC.bodyN E0_ok (F := Proofs.Try.f56) (by kernel_rfl) (code := f56_C56) (by kernel_rfl) (nt := 42) (by kernel_rfl) (rs := [.tmp 2]) (by kernel_rfl) (by kernel_rfl) (σ := [(0, .agg #[ii a_Marks, ii a_Step, ii a_Turns])]) (by kernel_rfl) ?_
 unfold f56 at h
 refine XQ.seq E0_ok (by kernel_rfl) ?_
 refine XQ.region (by kernel_rfl) ?_
 refine XR.runT E0_ok 1 2 [(1, pp 0 0)] [(0, .cells [ii a_Marks, ii a_Step, ii a_Turns] 0 23 0)] 1 rfl (by kernel_rfl) ?_
 refine XR.done (by kernel_rfl) ?_
 show XQ _ _ _ _ _ _ _ _
 refine XQ.seq E0_ok (by kernel_rfl) ?_
 refine XQ.region (by kernel_rfl) ?_
 refine XR.runS E0_ok 1 1 [(1, pp 0 0), (7, .agg #[ii a_Marks, ii a_Step, ii a_Turns])] rfl (by kernel_rfl) ?_
 obtain ⟨r1, r1_h, h⟩ := bS h
 refine XR.call E0_ok [1, 8] rfl (K := 46) (args := [.agg #[ii a_Marks, ii a_Step, ii a_Turns]]) (d := (some (path 12 8))) (by kernel_rfl) (KC.lift (V2 := s0 1 r1.length) (H2 := [(1, rc (encI .i64) r1 0 3 1)]) [1, 0] (f46_ok m a_Marks a_Step a_Turns r1 r1_h) rfl (by decide) (by decide) (by kernel_rfl) ⟨⟨_, _, rfl, rfl, .inl ⟨rfl, rowC_scal (encI_ok .i64) _⟩⟩, trivial⟩ (by rfl)) ?_
 rintro _ _ _ ⟨rfl, rfl, rfl⟩
 refine XR.conv (σ' := [(1, pp 0 0), (8, s0 1 r1.length)]) (h' := [(1, rc (encI .i64) r1 0 3 1), (0, .cells [ii a_Marks, ii a_Step, ii a_Turns] 0 23 0)]) (c' := 2) ?_ (by kernel_rfl)
 refine XR.callK E0_ok [1, 9] rfl (K := 82) (args := [s0 1 r1.length]) (d := (some (path 12 9))) (by kernel_rfl) ?_
 refine KC.bodyN E0_ok (F := Proofs.Try.f82) (by kernel_rfl) (code := f56_C82) (by kernel_rfl) (nt := 4) (by kernel_rfl) (rs := [.tmp 2]) (by kernel_rfl) (by kernel_rfl) (σ := [(0, s0 1 r1.length)]) (by kernel_rfl) ?_
 refine XQ.seq E0_ok (by kernel_rfl) ?_
 refine XQ.region (by kernel_rfl) ?_
 refine XR.runT E0_ok 1 2 [(1, pp 2 0)] [(2, .cells [s0 1 r1.length] 0 36 0), (1, rc (encI .i64) r1 0 3 1), (0, .cells [ii a_Marks, ii a_Step, ii a_Turns] 0 23 0)] 3 rfl (by kernel_rfl) ?_
 refine XR.done (by kernel_rfl) ?_
 show XQ _ _ _ _ _ _ _ _
 refine XQ.seq E0_ok (by kernel_rfl) ?_
 refine XQ.region (by kernel_rfl) ?_
 refine XR.runS E0_ok 1 2 [(2, .func (.func 91) #[] #[pp 2 0])] rfl (by kernel_rfl) ?_
 refine XR.done (by kernel_rfl) ?_
 show XQ _ _ _ _ _ _ _ _
 refine XQ.ret (by kernel_rfl) ?_
 refine ⟨fun i q => (by cases q), .func (.func 91) #[] #[pp 2 0], (by kernel_rfl), ?_⟩
 refine XR.conv (σ' := [(1, pp 0 0), (9, .func (.func 91) #[] #[pp 2 0])]) (h' := [(2, .cells [s0 1 r1.length] 0 36 0), (1, rc (encI .i64) r1 0 3 1), (0, .cells [ii a_Marks, ii a_Step, ii a_Turns] 0 23 0)]) (c' := 3) ?_ (by kernel_rfl)
 cases b1 : (Nat.ble r1.length 1000000 : Bool) with
 | false => cases (cF b1 h)
 | true =>
  have h := cT b1 h
  refine XR.call E0_ok [1, 10] rfl (K := 81) (args := [.func (.func 91) #[] #[pp 2 0]]) (d := (some (path 12 10))) (by kernel_rfl) (sorted_row (c := 3) (b := 2) (V := s0 1 r1.length) (ys := r1) (n := r1.length) (fz1 := 0) (e1 := 36) (es1 := 0) (by kernel_rfl) rfl (fetch_all (encI_ok .i64) (ys := r1) (fz := 0) (e := 3) (es := 1) (by kernel_rfl) (by simp) (Nat.le_refl _)) b1) ?_
  rintro _ _ _ ⟨rfl, rfl, rfl⟩
  refine XR.conv (σ' := [(1, pp 0 0), (10, s0 3 ((sortI r1).length))]) (h' := [(3, rc (encI .i64) (sortI r1) 0 3 1), (2, .cells [s0 1 r1.length] 0 36 0), (1, rc (encI .i64) r1 0 3 1), (0, .cells [ii a_Marks, ii a_Step, ii a_Turns] 0 23 0)]) (c' := 4) ?_ (by kernel_rfl)
  refine XR.runS E0_ok 1 1 [(1, pp 0 0), (3, s0 3 ((sortI r1).length))] rfl (by kernel_rfl) ?_
  refine XR.done (by kernel_rfl) ?_
  show XQ _ _ _ _ _ _ _ _
  refine XQ.seq E0_ok (by kernel_rfl) ?_
  refine XQ.region (by kernel_rfl) ?_
  refine XR.runS E0_ok 1 1 [(1, pp 0 0), (3, s0 3 ((sortI r1).length)), (4, .slice none 0 0)] rfl (by kernel_rfl) ?_
  refine XR.done (by kernel_rfl) ?_
  show XQ _ _ _ _ _ _ _ _
  refine XQ.ghost 3 1 rfl (σ' := [(1, pp 0 0), (3, s0 3 ((sortI r1).length)), (4, s0 4 0)]) (h' := [(3, rc (encI .i64) (sortI r1) 0 3 1), (2, .cells [s0 1 r1.length] 0 36 0), (1, rc (encI .i64) r1 0 3 1), (0, .cells [ii a_Marks, ii a_Step, ii a_Turns] 0 23 0)]) ⟨by kernel_rfl, by kernel_rfl, by kernel_rfl, trivial⟩ ⟨⟨_, rfl, .inl rfl⟩, ⟨_, rfl, .inl rfl⟩, ⟨_, rfl, .inl rfl⟩, ⟨_, rfl, .inl rfl⟩, trivial⟩ ?_
  refine XQ.conv (σ' := [(1, pp 0 0), (3, s0 3 ((sortI r1).length)), (4, s0 4 0)]) (h' := [(4, rc (encI .i64) [] 0 3 1), (3, rc (encI .i64) (sortI r1) 0 3 1), (2, .cells [s0 1 r1.length] 0 36 0), (1, rc (encI .i64) r1 0 3 1), (0, .cells [ii a_Marks, ii a_Step, ii a_Turns] 0 23 0)]) (c' := 5) ?_ (by kernel_rfl)
  refine XQ.seq E0_ok (by kernel_rfl) ?_
  refine XQ.seq E0_ok (by kernel_rfl) ?_
  refine XQ.region (by kernel_rfl) ?_
  refine XR.runS E0_ok 1 3 [(1, pp 0 0), (3, s0 3 ((sortI r1).length)), (4, s0 4 0), (11, s0 3 ((sortI r1).length)), (12, ii (((sortI r1).length : Nat) : Int)), (13, ii 0)] rfl (by kernel_rfl) ?_
  refine XR.done (by kernel_rfl) ?_
  show XQ _ _ _ _ _ _ _ _
  refine XQ.block (id := 0) (by kernel_rfl) ?_
  refine XQ.loop m (by kernel_rfl) ?_
  obtain ⟨o1, o1_h, h⟩ := bS h
  refine XL.ren (σ' := [(1, pp 0 0), (3, s0 1 ((sortI r1).length)), (4, s0 2 0), (11, s0 1 ((sortI r1).length)), (12, ii (((sortI r1).length : Nat) : Int)), (13, ii 0)]) (h' := [(2, rc (encI .i64) [] 0 3 1), (1, rc (encI .i64) (sortI r1) 0 3 1), (0, .cells [ii a_Marks, ii a_Step, ii a_Turns] 0 23 0)]) (c' := 3) [0, 3, 4] (by decide) rfl ⟨by kernel_rfl, by kernel_rfl, by kernel_rfl, by kernel_rfl, by kernel_rfl, by kernel_rfl, trivial⟩ ⟨⟨_, _, rfl, rfl, .inl ⟨rfl, rowC_scal (encI_ok .i64) _⟩⟩, ⟨_, _, rfl, rfl, .inl ⟨rfl, rowC_scal (encI_ok .i64) _⟩⟩, ⟨_, _, rfl, rfl, .inr ⟨_, _, _, _, rfl, rfl⟩⟩, trivial⟩ rfl ?_
  refine XL.conv (f56_1_ok m m a_Marks a_Step a_Turns (((sortI r1).length : Nat) : Int) 0 (sortI r1) [] o1 o1_h _ ?_) (by first | rfl | simp)
  show XQ _ _ _ _ _ _ _ _
  refine XQ.seq E0_ok (by kernel_rfl) ?_
  refine XQ.region (by kernel_rfl) ?_
  refine XR.runS E0_ok 1 2 [(2, s0 0 o1.length)] rfl (by kernel_rfl) ?_
  refine XR.done (by kernel_rfl) ?_
  show XQ _ _ _ _ _ _ _ _
  refine XQ.ren (σ' := [(2, s0 0 o1.length)]) (h' := [(0, rc (encI .i64) o1 0 3 1)]) (c' := 1) [0] (by decide) rfl ⟨by kernel_rfl, trivial⟩ ⟨⟨_, _, rfl, rfl, .inl ⟨rfl, rowC_scal (encI_ok .i64) _⟩⟩, trivial⟩ rfl ?_
  refine XQ.ret (by kernel_rfl) ?_
  have h := Option.some.inj h
  subst h
  exact ⟨fun i q => (by cases q), s0 0 o1.length, (by kernel_rfl), (by kernel_rfl), (by kernel_rfl), rfl⟩

end Go.Xm
