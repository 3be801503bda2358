/- What these functions of the program compute, as functions in Lean, and the proofs that they do: vitolalaw05.kinds. Conditions: none. -/
import Derived.Test.YtagagpkjlkoieaaQb
import Derived.Test.YtagagpkjlkoieaaNa
namespace Go.Xm
open Go.RowKit
set_option linter.unusedVariables false
set_option linter.unusedSimpArgs false
set_option maxRecDepth 20000

/-! vitola/vitolalaw05.kinds -/
noncomputable def f57_C57 : Code := Proofs.Try.f57.body.getD .skip
noncomputable def f57_C82 : Code := Proofs.Try.f82.body.getD .skip
noncomputable def f57_C83 : Code := Proofs.Try.f83.body.getD .skip
noncomputable def f57_L1 : Code := lft (lft (rgt (lft (rgt (rgt f57_C83)))))
noncomputable def f57_L3 : Code := lft (lft (rgt (lft (rgt (lft (rgt (lft (lft (rgt f57_L1)))))))))

def f57_2 (m : Nat) : Nat → List Int → Int → Nat → Nat → Nat → Int → List Int → Option (Int × (List Int))
 | 0, _, _, _, _, _, _, _ => none
 | fuel + 1, a, x3_2, o4_2, n4_2, c4_2, x5_2, lh2_2 =>
  cond (decide (x5_2 < ((n4_2 : Nat) : Int))) (
   cond (inRow x5_2 n4_2) (
    cond (decide (o4_2 + (Int.toNat x5_2) < lh2_2.length)) (
     cond (inRow (w64 (x5_2 - 1)) n4_2) (
      cond (decide (o4_2 + (Int.toNat (w64 (x5_2 - 1))) < lh2_2.length)) (
       cond ((List.getD lh2_2 (o4_2 + (Int.toNat x5_2)) 0) != (List.getD lh2_2 (o4_2 + (Int.toNat (w64 (x5_2 - 1)))) 0)) (
        cond (inRow x3_2 lh2_2.length) (
         f57_2 m fuel a (w64 (x3_2 + 1)) o4_2 n4_2 c4_2 (w64 (x5_2 + 1)) (List.set lh2_2 (Int.toNat x3_2) (List.getD lh2_2 (o4_2 + (Int.toNat x5_2)) 0))
        ) none
       ) (
        f57_2 m fuel a x3_2 o4_2 n4_2 c4_2 (w64 (x5_2 + 1)) lh2_2
       )
      ) none
     ) none
    ) none
   ) none
  ) (
   some (x3_2, lh2_2)
  )

theorem f57_2_ok (m : Nat) : ∀ (fuel : Nat) (z0 : Nat) (y0 : Nat) (a : List Int) (x3_2 : Int) (o4_2 : Nat) (n4_2 : Nat) (c4_2 : Nat) (x5_2 : Int) (lh2_2 : List Int) (o : (Int × (List Int))), f57_2 m fuel a x3_2 o4_2 n4_2 c4_2 x5_2 lh2_2 = some o → ∀ Q : QP, Q (.exit 2) [(0, s0 2 o.2.length), (3, ii o.1)] [(2, rc (encI .i64) o.2 0 3 1), (1, .cells [s0 0 a.length] 0 36 0), (0, rc (encI .i64) a z0 y0 1)] 3 → XL E0 61 3 fuel f57_L3 [(0, s0 2 lh2_2.length), (3, ii x3_2), (4, sl 2 (o4_2 * 1) n4_2 c4_2), (5, ii x5_2)] [(2, rc (encI .i64) lh2_2 0 3 1), (1, .cells [s0 0 a.length] 0 36 0), (0, rc (encI .i64) a z0 y0 1)] 3 Q
 | 0, z0, y0, a, x3_2, o4_2, n4_2, c4_2, x5_2, lh2_2, o, h, Q, hQ => by cases h
 | fuel + 1, z0, y0, a, x3_2, o4_2, n4_2, c4_2, x5_2, lh2_2, o, h, Q, hQ => by
  unfold f57_2 at h
  refine XL.succ E0_ok ?_
  refine XQ.seq E0_ok (by kernel_rfl) ?_
  refine XQ.seq E0_ok (by kernel_rfl) ?_
  refine XQ.region (by kernel_rfl) ?_
  refine XR.runS E0_ok 1 4 [(0, s0 2 lh2_2.length), (3, ii x3_2), (4, sl 2 (o4_2 * 1) n4_2 c4_2), (5, ii x5_2), (32, .bool (decide (x5_2 < ((n4_2 : Nat) : Int))))] rfl (by kernel_rfl) ?_
  refine XR.done (by kernel_rfl) ?_
  show XQ _ _ _ _ _ _ _ _
  cases b1 : (decide (x5_2 < ((n4_2 : Nat) : Int)) : Bool) with
  | true =>
   have h := cT b1 h
   refine XQ.cond (s := (.tmp 32)) (b := true) (by kernel_rfl) (by kernel_rfl) (fun _ => ?_) (fun q => by cases q)
   refine XQ.skip (by kernel_rfl) ?_
   show XQ _ _ _ _ _ _ _ _
   refine XQ.seq E0_ok (by kernel_rfl) ?_
   refine XQ.block (id := 3) (by kernel_rfl) ?_
   refine XQ.seq E0_ok (by kernel_rfl) ?_
   refine XQ.quiet E0_ok (by kernel_rfl) (by kernel_rfl) ?_
   refine XU.run E0_ok 1 2 [0, 3, 4, 5, 35, 36] rfl (σ' := [(0, s0 2 lh2_2.length), (3, ii x3_2), (4, sl 2 (o4_2 * 1) n4_2 c4_2), (5, ii x5_2), (35, sl 2 (o4_2 * 1) n4_2 c4_2), (36, ii x5_2)]) (by kernel_rfl) ?_
   cases b2 : (inRow x5_2 n4_2 : Bool) with
   | false => cases (cF b2 h)
   | true =>
    have h := cT b2 h
    refine XU.rd E0_ok [0, 3, 4, 5, 37] rfl (v := pp 2 ((o4_2 + (Int.toNat x5_2)) * 1)) (v_idx (s := 1) (x := (src 61 (.tmp 35))) (y := (src 61 (.tmp 36))) (b := 2) (o := o4_2 * 1) (len := n4_2) (cap := c4_2) (ik := .i64) (i := x5_2) (off := (o4_2 + (Int.toNat x5_2)) * 1) (d := (some (path 12 37))) (by kernel_rfl) (by kernel_rfl) (by kernel_rfl) b2 (by omega)) (σ' := [(0, s0 2 lh2_2.length), (3, ii x3_2), (4, sl 2 (o4_2 * 1) n4_2 c4_2), (5, ii x5_2), (37, pp 2 ((o4_2 + (Int.toNat x5_2)) * 1))]) (by kernel_rfl) ?_
    cases b3 : (decide (o4_2 + (Int.toNat x5_2) < lh2_2.length) : Bool) with
    | false => cases (cF b3 h)
    | true =>
     have h := cT b3 h
     refine XU.rd E0_ok [0, 3, 4, 5, 38] rfl (v := ii (List.getD lh2_2 (o4_2 + (Int.toNat x5_2)) 0)) (v_load1 (encI_ok .i64) (x := (src 61 (.tmp 37))) (b := 2) (off := (o4_2 + (Int.toNat x5_2)) * 1) (xs := lh2_2) (fz := 0) (e := 3) (es := 1) (d := (some (path 12 38))) (by kernel_rfl) (by kernel_rfl) (by kernel_rfl) (o4_2 + (Int.toNat x5_2)) 0 0 (by first | rfl | omega) (row_len b3 (by simp)) rfl rfl) (σ' := [(0, s0 2 lh2_2.length), (3, ii x3_2), (4, sl 2 (o4_2 * 1) n4_2 c4_2), (5, ii x5_2), (38, ii (List.getD lh2_2 (o4_2 + (Int.toNat x5_2)) 0))]) (by kernel_rfl) ?_
     refine XU.run E0_ok 1 3 [0, 3, 4, 5, 38, 39, 41] rfl (σ' := [(0, s0 2 lh2_2.length), (3, ii x3_2), (4, sl 2 (o4_2 * 1) n4_2 c4_2), (5, ii x5_2), (38, ii (List.getD lh2_2 (o4_2 + (Int.toNat x5_2)) 0)), (39, sl 2 (o4_2 * 1) n4_2 c4_2), (41, ii (w64 (x5_2 - 1)))]) (by kernel_rfl) ?_
     cases b4 : (inRow (w64 (x5_2 - 1)) n4_2 : Bool) with
     | false => cases (cF b4 h)
     | true =>
      have h := cT b4 h
      refine XU.rd E0_ok [0, 3, 4, 5, 38, 42] rfl (v := pp 2 ((o4_2 + (Int.toNat (w64 (x5_2 - 1)))) * 1)) (v_idx (s := 1) (x := (src 61 (.tmp 39))) (y := (src 61 (.tmp 41))) (b := 2) (o := o4_2 * 1) (len := n4_2) (cap := c4_2) (ik := .i64) (i := w64 (x5_2 - 1)) (off := (o4_2 + (Int.toNat (w64 (x5_2 - 1)))) * 1) (d := (some (path 12 42))) (by kernel_rfl) (by kernel_rfl) (by kernel_rfl) b4 (by omega)) (σ' := [(0, s0 2 lh2_2.length), (3, ii x3_2), (4, sl 2 (o4_2 * 1) n4_2 c4_2), (5, ii x5_2), (38, ii (List.getD lh2_2 (o4_2 + (Int.toNat x5_2)) 0)), (42, pp 2 ((o4_2 + (Int.toNat (w64 (x5_2 - 1)))) * 1))]) (by kernel_rfl) ?_
      cases b5 : (decide (o4_2 + (Int.toNat (w64 (x5_2 - 1))) < lh2_2.length) : Bool) with
      | false => cases (cF b5 h)
      | true =>
       have h := cT b5 h
       refine XU.rd E0_ok [0, 3, 4, 5, 38, 43] rfl (v := ii (List.getD lh2_2 (o4_2 + (Int.toNat (w64 (x5_2 - 1)))) 0)) (v_load1 (encI_ok .i64) (x := (src 61 (.tmp 42))) (b := 2) (off := (o4_2 + (Int.toNat (w64 (x5_2 - 1)))) * 1) (xs := lh2_2) (fz := 0) (e := 3) (es := 1) (d := (some (path 12 43))) (by kernel_rfl) (by kernel_rfl) (by kernel_rfl) (o4_2 + (Int.toNat (w64 (x5_2 - 1)))) 0 0 (by first | rfl | omega) (row_len b5 (by simp)) rfl rfl) (σ' := [(0, s0 2 lh2_2.length), (3, ii x3_2), (4, sl 2 (o4_2 * 1) n4_2 c4_2), (5, ii x5_2), (38, ii (List.getD lh2_2 (o4_2 + (Int.toNat x5_2)) 0)), (43, ii (List.getD lh2_2 (o4_2 + (Int.toNat (w64 (x5_2 - 1)))) 0))]) (by kernel_rfl) ?_
       refine XU.run E0_ok 1 1 [0, 3, 4, 5, 44] rfl (σ' := [(0, s0 2 lh2_2.length), (3, ii x3_2), (4, sl 2 (o4_2 * 1) n4_2 c4_2), (5, ii x5_2), (44, .bool ((List.getD lh2_2 (o4_2 + (Int.toNat x5_2)) 0) != (List.getD lh2_2 (o4_2 + (Int.toNat (w64 (x5_2 - 1)))) 0)))]) (by kernel_rfl) ?_
       refine XU.done (by kernel_rfl) ?_
       show XQ _ _ _ _ _ _ _ _
       cases b6 : ((List.getD lh2_2 (o4_2 + (Int.toNat x5_2)) 0) != (List.getD lh2_2 (o4_2 + (Int.toNat (w64 (x5_2 - 1)))) 0) : Bool) with
       | true =>
        have h := cT b6 h
        refine XQ.cond (s := (.tmp 44)) (b := true) (by kernel_rfl) (by kernel_rfl) (fun _ => ?_) (fun q => by cases q)
        refine XQ.seq E0_ok (by kernel_rfl) ?_
        refine XQ.region (by kernel_rfl) ?_
        refine XR.runS E0_ok 1 4 [(0, s0 2 lh2_2.length), (3, ii x3_2), (4, sl 2 (o4_2 * 1) n4_2 c4_2), (5, ii x5_2), (45, s0 2 lh2_2.length), (46, ii x3_2), (47, sl 2 (o4_2 * 1) n4_2 c4_2), (48, ii x5_2)] rfl (by kernel_rfl) ?_
        refine XR.rd E0_ok [0, 3, 4, 5, 45, 46, 49] rfl (v := pp 2 ((o4_2 + (Int.toNat x5_2)) * 1)) (v_idx (s := 1) (x := (src 61 (.tmp 47))) (y := (src 61 (.tmp 48))) (b := 2) (o := o4_2 * 1) (len := n4_2) (cap := c4_2) (ik := .i64) (i := x5_2) (off := (o4_2 + (Int.toNat x5_2)) * 1) (d := (some (path 12 49))) (by kernel_rfl) (by kernel_rfl) (by kernel_rfl) b2 (by omega)) (σ' := [(0, s0 2 lh2_2.length), (3, ii x3_2), (4, sl 2 (o4_2 * 1) n4_2 c4_2), (5, ii x5_2), (45, s0 2 lh2_2.length), (46, ii x3_2), (49, pp 2 ((o4_2 + (Int.toNat x5_2)) * 1))]) (by kernel_rfl) ?_
        refine XR.rd E0_ok [0, 3, 4, 5, 45, 46, 50] rfl (v := ii (List.getD lh2_2 (o4_2 + (Int.toNat x5_2)) 0)) (v_load1 (encI_ok .i64) (x := (src 61 (.tmp 49))) (b := 2) (off := (o4_2 + (Int.toNat x5_2)) * 1) (xs := lh2_2) (fz := 0) (e := 3) (es := 1) (d := (some (path 12 50))) (by kernel_rfl) (by kernel_rfl) (by kernel_rfl) (o4_2 + (Int.toNat x5_2)) 0 0 (by first | rfl | omega) (row_len b3 (by simp)) rfl rfl) (σ' := [(0, s0 2 lh2_2.length), (3, ii x3_2), (4, sl 2 (o4_2 * 1) n4_2 c4_2), (5, ii x5_2), (45, s0 2 lh2_2.length), (46, ii x3_2), (50, ii (List.getD lh2_2 (o4_2 + (Int.toNat x5_2)) 0))]) (by kernel_rfl) ?_
        cases b7 : (inRow x3_2 lh2_2.length : Bool) with
        | false => cases (cF b7 h)
        | true =>
         have h := cT b7 h
         refine XR.rd E0_ok [0, 3, 4, 5, 50, 51] rfl (v := pp 2 ((Int.toNat x3_2) * 1)) (v_idx (s := 1) (x := (src 61 (.tmp 45))) (y := (src 61 (.tmp 46))) (b := 2) (o := 0) (len := lh2_2.length) (cap := lh2_2.length) (ik := .i64) (i := x3_2) (off := (Int.toNat x3_2) * 1) (d := (some (path 12 51))) (by kernel_rfl) (by kernel_rfl) (by kernel_rfl) b7 (by omega)) (σ' := [(0, s0 2 lh2_2.length), (3, ii x3_2), (4, sl 2 (o4_2 * 1) n4_2 c4_2), (5, ii x5_2), (50, ii (List.getD lh2_2 (o4_2 + (Int.toNat x5_2)) 0)), (51, pp 2 ((Int.toNat x3_2) * 1))]) (by kernel_rfl) ?_
         refine XR.ef E0_ok [0, 3, 4, 5] rfl (e_store (encI_ok .i64) (size := 1) (x := (src 61 (.tmp 51))) (y := (src 61 (.tmp 50))) (b := 2) (off := (Int.toNat x3_2) * 1) (xs := lh2_2) (e := 3) (es := 1) (d := none) (h' := [(2, rc (encI .i64) (List.set lh2_2 (Int.toNat x3_2) (List.getD lh2_2 (o4_2 + (Int.toNat x5_2)) 0)) 0 3 1), (1, .cells [s0 0 a.length] 0 36 0), (0, rc (encI .i64) a z0 y0 1)]) (w := ii (List.getD lh2_2 (o4_2 + (Int.toNat x5_2)) 0)) (ws := [ii (List.getD lh2_2 (o4_2 + (Int.toNat x5_2)) 0)]) (a := List.getD lh2_2 (o4_2 + (Int.toNat x5_2)) 0) (by kernel_rfl) (by kernel_rfl) (by kernel_rfl) (Int.toNat x3_2) 0 0 (by first | rfl | omega) (row_len (inRow_toNat b7) (by simp)) (by kernel_rfl) rfl rfl rfl rfl rfl (by kernel_rfl)) (σ' := [(0, s0 2 lh2_2.length), (3, ii x3_2), (4, sl 2 (o4_2 * 1) n4_2 c4_2), (5, ii x5_2)]) (by kernel_rfl) ?_
         refine XR.done (by kernel_rfl) ?_
         show XQ _ _ _ _ _ _ _ _
         refine XQ.region (by kernel_rfl) ?_
         refine XR.runS E0_ok 1 3 [(0, s0 2 lh2_2.length), (3, ii (w64 (x3_2 + 1))), (4, sl 2 (o4_2 * 1) n4_2 c4_2), (5, ii x5_2)] rfl (by kernel_rfl) ?_
         refine XR.done (by kernel_rfl) ?_
         show XQ _ _ _ _ _ _ _ _
         refine XQ.region (by kernel_rfl) ?_
         refine XR.runS E0_ok 1 3 [(0, s0 2 lh2_2.length), (3, ii (w64 (x3_2 + 1))), (4, sl 2 (o4_2 * 1) n4_2 c4_2), (5, ii (w64 (x5_2 + 1)))] rfl (by kernel_rfl) ?_
         refine XR.done (by kernel_rfl) ?_
         show XL _ _ _ _ _ _ _ _ _
         refine XL.ren (σ' := [(0, s0 2 lh2_2.length), (3, ii (w64 (x3_2 + 1))), (4, sl 2 (o4_2 * 1) n4_2 c4_2), (5, ii (w64 (x5_2 + 1)))]) (h' := [(2, rc (encI .i64) (List.set lh2_2 (Int.toNat x3_2) (List.getD lh2_2 (o4_2 + (Int.toNat x5_2)) 0)) 0 3 1), (1, .cells [s0 0 a.length] 0 36 0), (0, rc (encI .i64) a z0 y0 1)]) (c' := 3) [0, 1, 2] (by decide) rfl ⟨by kernel_rfl, by kernel_rfl, by kernel_rfl, by kernel_rfl, trivial⟩ ⟨⟨_, _, rfl, rfl, .inl ⟨rfl, rowC_scal (encI_ok .i64) _⟩⟩, ⟨_, _, rfl, rfl, .inr ⟨_, _, _, _, rfl, rfl⟩⟩, ⟨_, _, rfl, rfl, .inl ⟨rfl, rowC_scal (encI_ok .i64) _⟩⟩, trivial⟩ rfl ?_
         refine XL.conv (f57_2_ok m fuel z0 y0 a (w64 (x3_2 + 1)) o4_2 n4_2 c4_2 (w64 (x5_2 + 1)) (List.set lh2_2 (Int.toNat x3_2) (List.getD lh2_2 (o4_2 + (Int.toNat x5_2)) 0)) o h Q hQ) (by first | rfl | simp)
       | false =>
        have h := cF b6 h
        refine XQ.cond (s := (.tmp 44)) (b := false) (by kernel_rfl) (by kernel_rfl) (fun q => by cases q) (fun _ => ?_)
        refine XQ.skip (by kernel_rfl) ?_
        show XQ _ _ _ _ _ _ _ _
        refine XQ.region (by kernel_rfl) ?_
        refine XR.runS E0_ok 1 3 [(0, s0 2 lh2_2.length), (3, ii x3_2), (4, sl 2 (o4_2 * 1) n4_2 c4_2), (5, ii (w64 (x5_2 + 1)))] rfl (by kernel_rfl) ?_
        refine XR.done (by kernel_rfl) ?_
        show XL _ _ _ _ _ _ _ _ _
        refine XL.ren (σ' := [(0, s0 2 lh2_2.length), (3, ii x3_2), (4, sl 2 (o4_2 * 1) n4_2 c4_2), (5, ii (w64 (x5_2 + 1)))]) (h' := [(2, rc (encI .i64) lh2_2 0 3 1), (1, .cells [s0 0 a.length] 0 36 0), (0, rc (encI .i64) a z0 y0 1)]) (c' := 3) [0, 1, 2] (by decide) rfl ⟨by kernel_rfl, by kernel_rfl, by kernel_rfl, by kernel_rfl, trivial⟩ ⟨⟨_, _, rfl, rfl, .inl ⟨rfl, rowC_scal (encI_ok .i64) _⟩⟩, ⟨_, _, rfl, rfl, .inr ⟨_, _, _, _, rfl, rfl⟩⟩, ⟨_, _, rfl, rfl, .inl ⟨rfl, rowC_scal (encI_ok .i64) _⟩⟩, trivial⟩ rfl ?_
        refine XL.conv (f57_2_ok m fuel z0 y0 a x3_2 o4_2 n4_2 c4_2 (w64 (x5_2 + 1)) lh2_2 o h Q hQ) (by first | rfl | simp)
  | false =>
   have h := cF b1 h
   refine XQ.cond (s := (.tmp 32)) (b := false) (by kernel_rfl) (by kernel_rfl) (fun q => by cases q) (fun _ => ?_)
   refine XQ.ren (σ' := [(0, s0 2 lh2_2.length), (3, ii x3_2)]) (h' := [(2, rc (encI .i64) lh2_2 0 3 1), (1, .cells [s0 0 a.length] 0 36 0), (0, rc (encI .i64) a z0 y0 1)]) (c' := 3) [0, 1, 2] (by decide) rfl ⟨by kernel_rfl, by kernel_rfl, trivial⟩ ⟨⟨_, _, rfl, rfl, .inl ⟨rfl, rowC_scal (encI_ok .i64) _⟩⟩, ⟨_, _, rfl, rfl, .inr ⟨_, _, _, _, rfl, rfl⟩⟩, ⟨_, _, rfl, rfl, .inl ⟨rfl, rowC_scal (encI_ok .i64) _⟩⟩, trivial⟩ rfl ?_
   refine XQ.exit (i := 2) (by kernel_rfl) ?_
   cases h
   exact hQ

inductive Of57_1 where
 | r (n2_r1 : Nat) (c2_r1 : Nat) (lh2_r1 : List Int)
 | x0 (lh2_x01 : List Int)

def f57_1 (m : Nat) : Nat → List Int → Int → List Int → Option Of57_1
 | 0, _, _, _ => none
 | fuel + 1, a, x3_1, lh2_1 =>
  cond (decide (x3_1 < ((lh2_1.length : Nat) : Int))) (
   cond (inRow x3_1 lh2_1.length) (
    cond (inRow (w64 (x3_1 - 1)) lh2_1.length) (
     cond ((List.getD lh2_1 (Int.toNat x3_1) 0) == (List.getD lh2_1 (Int.toNat (w64 (x3_1 - 1))) 0)) (
      cond (cutOK x3_1 ((lh2_1.length : Nat) : Int) ((lh2_1.length : Nat) : Int) lh2_1.length) (
       (f57_2 m m a x3_1 (Int.toNat x3_1) (lh2_1.length - (Int.toNat x3_1)) (lh2_1.length - (Int.toNat x3_1)) 1 lh2_1).bind fun o2 =>
        cond (cutOK o2.1 ((o2.2.length : Nat) : Int) ((o2.2.length : Nat) : Int) o2.2.length) (
         cond (decide ((Int.toNat o2.1) + (o2.2.length - (Int.toNat o2.1)) ≤ o2.2.length)) (
          cond (cutOK 0 o2.1 ((o2.2.length : Nat) : Int) o2.2.length) (
           some (.r (Int.toNat o2.1) o2.2.length (clearL 0 o2.2 (Int.toNat o2.1) (o2.2.length - (Int.toNat o2.1))))
          ) none
         ) none
        ) none
      ) none
     ) (
      f57_1 m fuel a (w64 (x3_1 + 1)) lh2_1
     )
    ) none
   ) none
  ) (
   some (.x0 lh2_1)
  )

theorem f57_1_ok (m : Nat) : ∀ (fuel : Nat) (z0 : Nat) (y0 : Nat) (a : List Int) (x3_1 : Int) (lh2_1 : List Int) (o : Of57_1), f57_1 m fuel a x3_1 lh2_1 = some o → ∀ Q : QP, (match o with | .r n2_r1 c2_r1 lh2_r1 => Q .ret [(2, sl 2 0 n2_r1 c2_r1)] [(2, rc (encI .i64) lh2_r1 0 3 1), (1, .cells [s0 0 a.length] 0 36 0), (0, rc (encI .i64) a z0 y0 1)] 3 | .x0 lh2_x01 => Q (.exit 0) [(0, s0 2 lh2_x01.length)] [(2, rc (encI .i64) lh2_x01 0 3 1), (1, .cells [s0 0 a.length] 0 36 0), (0, rc (encI .i64) a z0 y0 1)] 3) → XL E0 61 3 fuel f57_L1 [(0, s0 2 lh2_1.length), (3, ii x3_1)] [(2, rc (encI .i64) lh2_1 0 3 1), (1, .cells [s0 0 a.length] 0 36 0), (0, rc (encI .i64) a z0 y0 1)] 3 Q
 | 0, z0, y0, a, x3_1, lh2_1, o, h, Q, hQ => by cases h
 | fuel + 1, z0, y0, a, x3_1, lh2_1, o, h, Q, hQ => by
  unfold f57_1 at h
  refine XL.succ E0_ok ?_
  refine XQ.seq E0_ok (by kernel_rfl) ?_
  refine XQ.seq E0_ok (by kernel_rfl) ?_
  refine XQ.region (by kernel_rfl) ?_
  refine XR.runS E0_ok 1 4 [(0, s0 2 lh2_1.length), (3, ii x3_1), (13, .bool (decide (x3_1 < ((lh2_1.length : Nat) : Int))))] rfl (by kernel_rfl) ?_
  refine XR.done (by kernel_rfl) ?_
  show XQ _ _ _ _ _ _ _ _
  cases b1 : (decide (x3_1 < ((lh2_1.length : Nat) : Int)) : Bool) with
  | true =>
   have h := cT b1 h
   refine XQ.cond (s := (.tmp 13)) (b := true) (by kernel_rfl) (by kernel_rfl) (fun _ => ?_) (fun q => by cases q)
   refine XQ.skip (by kernel_rfl) ?_
   show XQ _ _ _ _ _ _ _ _
   refine XQ.seq E0_ok (by kernel_rfl) ?_
   refine XQ.block (id := 1) (by kernel_rfl) ?_
   refine XQ.seq E0_ok (by kernel_rfl) ?_
   refine XQ.quiet E0_ok (by kernel_rfl) (by kernel_rfl) ?_
   refine XU.run E0_ok 1 2 [0, 3, 16, 17] rfl (σ' := [(0, s0 2 lh2_1.length), (3, ii x3_1), (16, s0 2 lh2_1.length), (17, ii x3_1)]) (by kernel_rfl) ?_
   cases b2 : (inRow x3_1 lh2_1.length : Bool) with
   | false => cases (cF b2 h)
   | true =>
    have h := cT b2 h
    refine XU.rd E0_ok [0, 3, 18] rfl (v := pp 2 ((Int.toNat x3_1) * 1)) (v_idx (s := 1) (x := (src 61 (.tmp 16))) (y := (src 61 (.tmp 17))) (b := 2) (o := 0) (len := lh2_1.length) (cap := lh2_1.length) (ik := .i64) (i := x3_1) (off := (Int.toNat x3_1) * 1) (d := (some (path 12 18))) (by kernel_rfl) (by kernel_rfl) (by kernel_rfl) b2 (by omega)) (σ' := [(0, s0 2 lh2_1.length), (3, ii x3_1), (18, pp 2 ((Int.toNat x3_1) * 1))]) (by kernel_rfl) ?_
    refine XU.rd E0_ok [0, 3, 19] rfl (v := ii (List.getD lh2_1 (Int.toNat x3_1) 0)) (v_load1 (encI_ok .i64) (x := (src 61 (.tmp 18))) (b := 2) (off := (Int.toNat x3_1) * 1) (xs := lh2_1) (fz := 0) (e := 3) (es := 1) (d := (some (path 12 19))) (by kernel_rfl) (by kernel_rfl) (by kernel_rfl) (Int.toNat x3_1) 0 0 (by first | rfl | omega) (row_len (inRow_toNat b2) (by simp)) rfl rfl) (σ' := [(0, s0 2 lh2_1.length), (3, ii x3_1), (19, ii (List.getD lh2_1 (Int.toNat x3_1) 0))]) (by kernel_rfl) ?_
    refine XU.run E0_ok 1 3 [0, 3, 19, 20, 22] rfl (σ' := [(0, s0 2 lh2_1.length), (3, ii x3_1), (19, ii (List.getD lh2_1 (Int.toNat x3_1) 0)), (20, s0 2 lh2_1.length), (22, ii (w64 (x3_1 - 1)))]) (by kernel_rfl) ?_
    cases b3 : (inRow (w64 (x3_1 - 1)) lh2_1.length : Bool) with
    | false => cases (cF b3 h)
    | true =>
     have h := cT b3 h
     refine XU.rd E0_ok [0, 3, 19, 23] rfl (v := pp 2 ((Int.toNat (w64 (x3_1 - 1))) * 1)) (v_idx (s := 1) (x := (src 61 (.tmp 20))) (y := (src 61 (.tmp 22))) (b := 2) (o := 0) (len := lh2_1.length) (cap := lh2_1.length) (ik := .i64) (i := w64 (x3_1 - 1)) (off := (Int.toNat (w64 (x3_1 - 1))) * 1) (d := (some (path 12 23))) (by kernel_rfl) (by kernel_rfl) (by kernel_rfl) b3 (by omega)) (σ' := [(0, s0 2 lh2_1.length), (3, ii x3_1), (19, ii (List.getD lh2_1 (Int.toNat x3_1) 0)), (23, pp 2 ((Int.toNat (w64 (x3_1 - 1))) * 1))]) (by kernel_rfl) ?_
     refine XU.rd E0_ok [0, 3, 19, 24] rfl (v := ii (List.getD lh2_1 (Int.toNat (w64 (x3_1 - 1))) 0)) (v_load1 (encI_ok .i64) (x := (src 61 (.tmp 23))) (b := 2) (off := (Int.toNat (w64 (x3_1 - 1))) * 1) (xs := lh2_1) (fz := 0) (e := 3) (es := 1) (d := (some (path 12 24))) (by kernel_rfl) (by kernel_rfl) (by kernel_rfl) (Int.toNat (w64 (x3_1 - 1))) 0 0 (by first | rfl | omega) (row_len (inRow_toNat b3) (by simp)) rfl rfl) (σ' := [(0, s0 2 lh2_1.length), (3, ii x3_1), (19, ii (List.getD lh2_1 (Int.toNat x3_1) 0)), (24, ii (List.getD lh2_1 (Int.toNat (w64 (x3_1 - 1))) 0))]) (by kernel_rfl) ?_
     refine XU.run E0_ok 1 1 [0, 3, 25] rfl (σ' := [(0, s0 2 lh2_1.length), (3, ii x3_1), (25, .bool ((List.getD lh2_1 (Int.toNat x3_1) 0) == (List.getD lh2_1 (Int.toNat (w64 (x3_1 - 1))) 0)))]) (by kernel_rfl) ?_
     refine XU.done (by kernel_rfl) ?_
     show XQ _ _ _ _ _ _ _ _
     cases b4 : ((List.getD lh2_1 (Int.toNat x3_1) 0) == (List.getD lh2_1 (Int.toNat (w64 (x3_1 - 1))) 0) : Bool) with
     | true =>
      have h := cT b4 h
      refine XQ.cond (s := (.tmp 25)) (b := true) (by kernel_rfl) (by kernel_rfl) (fun _ => ?_) (fun q => by cases q)
      refine XQ.seq E0_ok (by kernel_rfl) ?_
      refine XQ.region (by kernel_rfl) ?_
      refine XR.runS E0_ok 1 2 [(0, s0 2 lh2_1.length), (3, ii x3_1), (26, s0 2 lh2_1.length), (27, ii x3_1)] rfl (by kernel_rfl) ?_
      cases b5 : (cutOK x3_1 ((lh2_1.length : Nat) : Int) ((lh2_1.length : Nat) : Int) lh2_1.length : Bool) with
      | false => cases (cF b5 h)
      | true =>
       have h := cT b5 h
       refine XR.rd E0_ok [0, 3, 28] rfl (v := sl 2 ((Int.toNat x3_1) * 1) (lh2_1.length - (Int.toNat x3_1)) (lh2_1.length - (Int.toNat x3_1))) (v_cut (nt := 61) (s := 1) (x := (src 61 (.tmp 26))) (lo := (some (.tmp 27))) (hi := none) (mx := none) (b := 2) (o := 0) (len := lh2_1.length) (cap := lh2_1.length) (l := (some x3_1)) (u := none) (m := none) (cs := rowC (encI .i64) lh2_1) (fz := 0) (e := 3) (es := 1) (o' := (Int.toNat x3_1) * 1) (len' := lh2_1.length - (Int.toNat x3_1)) (cap' := lh2_1.length - (Int.toNat x3_1)) (d := (some (path 12 28))) (by kernel_rfl) (by kernel_rfl) (by kernel_rfl) (by kernel_rfl) (by kernel_rfl) (by kernel_rfl) (by kernel_rfl) rfl b5 (by simp only [Option.getD_none, Option.getD_some] <;> omega) (by simp only [Option.getD_none, Option.getD_some] <;> omega) (by simp only [Option.getD_none, Option.getD_some] <;> omega)) (σ' := [(0, s0 2 lh2_1.length), (3, ii x3_1), (28, sl 2 ((Int.toNat x3_1) * 1) (lh2_1.length - (Int.toNat x3_1)) (lh2_1.length - (Int.toNat x3_1)))]) (by kernel_rfl) ?_
       refine XR.runS E0_ok 1 1 [(0, s0 2 lh2_1.length), (3, ii x3_1), (4, sl 2 ((Int.toNat x3_1) * 1) (lh2_1.length - (Int.toNat x3_1)) (lh2_1.length - (Int.toNat x3_1)))] rfl (by kernel_rfl) ?_
       refine XR.done (by kernel_rfl) ?_
       show XQ _ _ _ _ _ _ _ _
       refine XQ.seq E0_ok (by kernel_rfl) ?_
       refine XQ.seq E0_ok (by kernel_rfl) ?_
       refine XQ.region (by kernel_rfl) ?_
       refine XR.runS E0_ok 1 1 [(0, s0 2 lh2_1.length), (3, ii x3_1), (4, sl 2 ((Int.toNat x3_1) * 1) (lh2_1.length - (Int.toNat x3_1)) (lh2_1.length - (Int.toNat x3_1))), (5, ii 1)] rfl (by kernel_rfl) ?_
       refine XR.done (by kernel_rfl) ?_
       show XQ _ _ _ _ _ _ _ _
       refine XQ.block (id := 2) (by kernel_rfl) ?_
       refine XQ.loop m (by kernel_rfl) ?_
       obtain ⟨o2, o2_h, h⟩ := bS h
       refine XL.ren (σ' := [(0, s0 2 lh2_1.length), (3, ii x3_1), (4, sl 2 ((Int.toNat x3_1) * 1) (lh2_1.length - (Int.toNat x3_1)) (lh2_1.length - (Int.toNat x3_1))), (5, ii 1)]) (h' := [(2, rc (encI .i64) lh2_1 0 3 1), (1, .cells [s0 0 a.length] 0 36 0), (0, rc (encI .i64) a z0 y0 1)]) (c' := 3) [0, 1, 2] (by decide) rfl ⟨by kernel_rfl, by kernel_rfl, by kernel_rfl, by kernel_rfl, trivial⟩ ⟨⟨_, _, rfl, rfl, .inl ⟨rfl, rowC_scal (encI_ok .i64) _⟩⟩, ⟨_, _, rfl, rfl, .inr ⟨_, _, _, _, rfl, rfl⟩⟩, ⟨_, _, rfl, rfl, .inl ⟨rfl, rowC_scal (encI_ok .i64) _⟩⟩, trivial⟩ rfl ?_
       refine XL.conv (f57_2_ok m m z0 y0 a x3_1 (Int.toNat x3_1) (lh2_1.length - (Int.toNat x3_1)) (lh2_1.length - (Int.toNat x3_1)) 1 lh2_1 o2 o2_h _ ?_) (by first | rfl | simp)
       show XQ _ _ _ _ _ _ _ _
       refine XQ.seq E0_ok (by kernel_rfl) ?_
       refine XQ.region (by kernel_rfl) ?_
       refine XR.runS E0_ok 1 2 [(0, s0 2 o2.2.length), (3, ii o2.1), (54, s0 2 o2.2.length), (55, ii o2.1)] rfl (by kernel_rfl) ?_
       cases b7 : (cutOK o2.1 ((o2.2.length : Nat) : Int) ((o2.2.length : Nat) : Int) o2.2.length : Bool) with
       | false => cases (cF b7 h)
       | true =>
        have h := cT b7 h
        refine XR.rd E0_ok [0, 3, 56] rfl (v := sl 2 ((Int.toNat o2.1) * 1) (o2.2.length - (Int.toNat o2.1)) (o2.2.length - (Int.toNat o2.1))) (v_cut (nt := 61) (s := 1) (x := (src 61 (.tmp 54))) (lo := (some (.tmp 55))) (hi := none) (mx := none) (b := 2) (o := 0) (len := o2.2.length) (cap := o2.2.length) (l := (some o2.1)) (u := none) (m := none) (cs := rowC (encI .i64) o2.2) (fz := 0) (e := 3) (es := 1) (o' := (Int.toNat o2.1) * 1) (len' := o2.2.length - (Int.toNat o2.1)) (cap' := o2.2.length - (Int.toNat o2.1)) (d := (some (path 12 56))) (by kernel_rfl) (by kernel_rfl) (by kernel_rfl) (by kernel_rfl) (by kernel_rfl) (by kernel_rfl) (by kernel_rfl) rfl b7 (by simp only [Option.getD_none, Option.getD_some] <;> omega) (by simp only [Option.getD_none, Option.getD_some] <;> omega) (by simp only [Option.getD_none, Option.getD_some] <;> omega)) (σ' := [(0, s0 2 o2.2.length), (3, ii o2.1), (56, sl 2 ((Int.toNat o2.1) * 1) (o2.2.length - (Int.toNat o2.1)) (o2.2.length - (Int.toNat o2.1)))]) (by kernel_rfl) ?_
        cases b8 : (decide ((Int.toNat o2.1) + (o2.2.length - (Int.toNat o2.1)) ≤ o2.2.length) : Bool) with
        | false => cases (cF b8 h)
        | true =>
         have h := cT b8 h
         refine XR.ef E0_ok [0, 3] rfl (e_clear (encI_ok .i64) (z := #[ii 0]) (x := (src 61 (.tmp 56))) (b := 2) (o := (Int.toNat o2.1) * 1) (len := o2.2.length - (Int.toNat o2.1)) (cap := o2.2.length - (Int.toNat o2.1)) (xs := o2.2) (e := 3) (es := 1) (d := none) (h' := [(2, rc (encI .i64) (clearL 0 o2.2 (Int.toNat o2.1) (o2.2.length - (Int.toNat o2.1))) 0 3 1), (1, .cells [s0 0 a.length] 0 36 0), (0, rc (encI .i64) a z0 y0 1)]) (by kernel_rfl) (by kernel_rfl) (by kernel_rfl) (Int.toNat o2.1) 0 rfl rfl (by first | rfl | omega) b8 (by kernel_rfl)) (σ' := [(0, s0 2 o2.2.length), (3, ii o2.1)]) (by kernel_rfl) ?_
         refine XR.done (by kernel_rfl) ?_
         show XQ _ _ _ _ _ _ _ _
         refine XQ.seq E0_ok (by kernel_rfl) ?_
         refine XQ.region (by kernel_rfl) ?_
         refine XR.runS E0_ok 1 2 [(57, s0 2 o2.2.length), (58, ii o2.1)] rfl (by kernel_rfl) ?_
         cases b9 : (cutOK 0 o2.1 ((o2.2.length : Nat) : Int) o2.2.length : Bool) with
         | false => cases (cF b9 h)
         | true =>
          have h := cT b9 h
          refine XR.rd E0_ok [59] rfl (v := sl 2 0 (Int.toNat o2.1) o2.2.length) (v_cut (nt := 61) (s := 1) (x := (src 61 (.tmp 57))) (lo := none) (hi := (some (.tmp 58))) (mx := none) (b := 2) (o := 0) (len := o2.2.length) (cap := o2.2.length) (l := none) (u := (some o2.1)) (m := none) (cs := rowC (encI .i64) (clearL 0 o2.2 (Int.toNat o2.1) (o2.2.length - (Int.toNat o2.1)))) (fz := 0) (e := 3) (es := 1) (o' := 0) (len' := Int.toNat o2.1) (cap' := o2.2.length) (d := (some (path 12 59))) (by kernel_rfl) (by kernel_rfl) (by kernel_rfl) (by kernel_rfl) (by kernel_rfl) (by kernel_rfl) (by kernel_rfl) rfl b9 (by simp only [Option.getD_none, Option.getD_some] <;> omega) (by simp only [Option.getD_none, Option.getD_some] <;> omega) (by simp only [Option.getD_none, Option.getD_some] <;> omega)) (σ' := [(59, sl 2 0 (Int.toNat o2.1) o2.2.length)]) (by kernel_rfl) ?_
          refine XR.runS E0_ok 1 1 [(2, sl 2 0 (Int.toNat o2.1) o2.2.length)] rfl (by kernel_rfl) ?_
          refine XR.done (by kernel_rfl) ?_
          show XQ _ _ _ _ _ _ _ _
          refine XQ.ren (σ' := [(2, sl 2 0 (Int.toNat o2.1) o2.2.length)]) (h' := [(2, rc (encI .i64) (clearL 0 o2.2 (Int.toNat o2.1) (o2.2.length - (Int.toNat o2.1))) 0 3 1), (1, .cells [s0 0 a.length] 0 36 0), (0, rc (encI .i64) a z0 y0 1)]) (c' := 3) [0, 1, 2] (by decide) rfl ⟨by kernel_rfl, trivial⟩ ⟨⟨_, _, rfl, rfl, .inl ⟨rfl, rowC_scal (encI_ok .i64) _⟩⟩, ⟨_, _, rfl, rfl, .inr ⟨_, _, _, _, rfl, rfl⟩⟩, ⟨_, _, rfl, rfl, .inl ⟨rfl, rowC_scal (encI_ok .i64) _⟩⟩, trivial⟩ rfl ?_
          refine XQ.ret (by kernel_rfl) ?_
          cases h
          exact hQ
     | false =>
      have h := cF b4 h
      refine XQ.cond (s := (.tmp 25)) (b := false) (by kernel_rfl) (by kernel_rfl) (fun q => by cases q) (fun _ => ?_)
      refine XQ.skip (by kernel_rfl) ?_
      show XQ _ _ _ _ _ _ _ _
      refine XQ.region (by kernel_rfl) ?_
      refine XR.runS E0_ok 1 3 [(0, s0 2 lh2_1.length), (3, ii (w64 (x3_1 + 1)))] rfl (by kernel_rfl) ?_
      refine XR.done (by kernel_rfl) ?_
      show XL _ _ _ _ _ _ _ _ _
      refine XL.ren (σ' := [(0, s0 2 lh2_1.length), (3, ii (w64 (x3_1 + 1)))]) (h' := [(2, rc (encI .i64) lh2_1 0 3 1), (1, .cells [s0 0 a.length] 0 36 0), (0, rc (encI .i64) a z0 y0 1)]) (c' := 3) [0, 1, 2] (by decide) rfl ⟨by kernel_rfl, by kernel_rfl, trivial⟩ ⟨⟨_, _, rfl, rfl, .inl ⟨rfl, rowC_scal (encI_ok .i64) _⟩⟩, ⟨_, _, rfl, rfl, .inr ⟨_, _, _, _, rfl, rfl⟩⟩, ⟨_, _, rfl, rfl, .inl ⟨rfl, rowC_scal (encI_ok .i64) _⟩⟩, trivial⟩ rfl ?_
      refine XL.conv (f57_1_ok m fuel z0 y0 a (w64 (x3_1 + 1)) lh2_1 o h Q hQ) (by first | rfl | simp)
  | false =>
   have h := cF b1 h
   refine XQ.cond (s := (.tmp 13)) (b := false) (by kernel_rfl) (by kernel_rfl) (fun q => by cases q) (fun _ => ?_)
   refine XQ.ren (σ' := [(0, s0 2 lh2_1.length)]) (h' := [(2, rc (encI .i64) lh2_1 0 3 1), (1, .cells [s0 0 a.length] 0 36 0), (0, rc (encI .i64) a z0 y0 1)]) (c' := 3) [0, 1, 2] (by decide) rfl ⟨by kernel_rfl, trivial⟩ ⟨⟨_, _, rfl, rfl, .inl ⟨rfl, rowC_scal (encI_ok .i64) _⟩⟩, ⟨_, _, rfl, rfl, .inr ⟨_, _, _, _, rfl, rfl⟩⟩, ⟨_, _, rfl, rfl, .inl ⟨rfl, rowC_scal (encI_ok .i64) _⟩⟩, trivial⟩ rfl ?_
   refine XQ.exit (i := 0) (by kernel_rfl) ?_
   cases h
   exact hQ

def f57 (m : Nat) (a : List Int) : Option (List Int) :=
 cond (Nat.ble a.length 1000000) (
  cond (decide ((((sortI a).length : Nat) : Int) < 2)) (
   some (sortI a)
  ) (
   (f57_1 m m a 1 (sortI a)).bind fun o1 =>
    match o1 with
    | .r n2_r1 c2_r1 lh2_r1 =>
     cond (Nat.ble n2_r1 c2_r1 && Nat.ble n2_r1 lh2_r1.length) (
      some (List.take n2_r1 lh2_r1)
     ) none
    | .x0 lh2_x01 =>
     some (lh2_x01)
  )
 ) none

theorem f57_ok (m : Nat) (z0 : Nat) (y0 : Nat) (a : List Int) (o : List Int) (h : f57 m a = some o) : KC E0 57 [s0 0 a.length] [(0, rc (encI .i64) a z0 y0 1)] 1 (fun v h' c' => v = s0 1 o.length ∧ h' = [(1, rc (encI .i64) o 0 3 1)] ++ [(0, rc (encI .i64) a z0 y0 1)] ∧ c' = 2) := by
 refine KC.bodyN E0_ok (F := Proofs.Try.f57) (by kernel_rfl) (code := f57_C57) (by kernel_rfl) (nt := 7) (by kernel_rfl) (rs := [.tmp 2]) (by kernel_rfl) (by kernel_rfl) (σ := [(0, s0 0 a.length)]) (by kernel_rfl) ?_
 unfold f57 at h
 refine XQ.seq E0_ok (by kernel_rfl) ?_
 refine XQ.region (by kernel_rfl) ?_
 refine XR.runS E0_ok 1 1 [(0, s0 0 a.length)] rfl (by kernel_rfl) ?_
 refine XR.done (by kernel_rfl) ?_
 show XQ _ _ _ _ _ _ _ _
 refine XQ.seq E0_ok (by kernel_rfl) ?_
 refine XQ.region (by kernel_rfl) ?_
 refine XR.runS E0_ok 1 1 [(3, s0 0 a.length)] rfl (by kernel_rfl) ?_
 refine XR.callK E0_ok [4] rfl (K := 82) (args := [s0 0 a.length]) (d := (some (path 12 4))) (by kernel_rfl) ?_
 refine KC.bodyN E0_ok (F := Proofs.Try.f82) (by kernel_rfl) (code := f57_C82) (by kernel_rfl) (nt := 4) (by kernel_rfl) (rs := [.tmp 2]) (by kernel_rfl) (by kernel_rfl) (σ := [(0, s0 0 a.length)]) (by kernel_rfl) ?_
 refine XQ.seq E0_ok (by kernel_rfl) ?_
 refine XQ.region (by kernel_rfl) ?_
 refine XR.runT E0_ok 1 2 [(1, pp 1 0)] [(1, .cells [s0 0 a.length] 0 36 0), (0, rc (encI .i64) a z0 y0 1)] 2 rfl (by kernel_rfl) ?_
 refine XR.done (by kernel_rfl) ?_
 show XQ _ _ _ _ _ _ _ _
 refine XQ.seq E0_ok (by kernel_rfl) ?_
 refine XQ.region (by kernel_rfl) ?_
 refine XR.runS E0_ok 1 2 [(2, .func (.func 91) #[] #[pp 1 0])] rfl (by kernel_rfl) ?_
 refine XR.done (by kernel_rfl) ?_
 show XQ _ _ _ _ _ _ _ _
 refine XQ.ret (by kernel_rfl) ?_
 refine ⟨fun i q => (by cases q), .func (.func 91) #[] #[pp 1 0], (by kernel_rfl), ?_⟩
 refine XR.conv (σ' := [(4, .func (.func 91) #[] #[pp 1 0])]) (h' := [(1, .cells [s0 0 a.length] 0 36 0), (0, rc (encI .i64) a z0 y0 1)]) (c' := 2) ?_ (by kernel_rfl)
 cases b1 : (Nat.ble a.length 1000000 : Bool) with
 | false => cases (cF b1 h)
 | true =>
  have h := cT b1 h
  refine XR.call E0_ok [5] rfl (K := 81) (args := [.func (.func 91) #[] #[pp 1 0]]) (d := (some (path 12 5))) (by kernel_rfl) (sorted_row (c := 2) (b := 1) (V := s0 0 a.length) (ys := a) (n := a.length) (fz1 := 0) (e1 := 36) (es1 := 0) (by kernel_rfl) rfl (fetch_all (encI_ok .i64) (ys := a) (fz := z0) (e := y0) (es := 1) (by kernel_rfl) (by simp) (Nat.le_refl _)) b1) ?_
  rintro _ _ _ ⟨rfl, rfl, rfl⟩
  refine XR.conv (σ' := [(5, s0 2 ((sortI a).length))]) (h' := [(2, rc (encI .i64) (sortI a) 0 3 1), (1, .cells [s0 0 a.length] 0 36 0), (0, rc (encI .i64) a z0 y0 1)]) (c' := 3) ?_ (by kernel_rfl)
  refine XR.callK E0_ok [6] rfl (K := 83) (args := [s0 2 ((sortI a).length)]) (d := (some (path 12 6))) (by kernel_rfl) ?_
  refine KC.bodyN E0_ok (F := Proofs.Try.f83) (by kernel_rfl) (code := f57_C83) (by kernel_rfl) (nt := 61) (by kernel_rfl) (rs := [.tmp 2]) (by kernel_rfl) (by kernel_rfl) (σ := [(0, s0 2 ((sortI a).length))]) (by kernel_rfl) ?_
  refine XQ.seq E0_ok (by kernel_rfl) ?_
  refine XQ.region (by kernel_rfl) ?_
  refine XR.runS E0_ok 1 1 [(0, s0 2 ((sortI a).length))] rfl (by kernel_rfl) ?_
  refine XR.done (by kernel_rfl) ?_
  show XQ _ _ _ _ _ _ _ _
  refine XQ.seq E0_ok (by kernel_rfl) ?_
  refine XQ.seq E0_ok (by kernel_rfl) ?_
  refine XQ.region (by kernel_rfl) ?_
  refine XR.runS E0_ok 1 3 [(0, s0 2 ((sortI a).length)), (8, .bool (decide ((((sortI a).length : Nat) : Int) < 2)))] rfl (by kernel_rfl) ?_
  refine XR.done (by kernel_rfl) ?_
  show XQ _ _ _ _ _ _ _ _
  cases b2 : (decide ((((sortI a).length : Nat) : Int) < 2) : Bool) with
  | true =>
   have h := cT b2 h
   refine XQ.cond (s := (.tmp 8)) (b := true) (by kernel_rfl) (by kernel_rfl) (fun _ => ?_) (fun q => by cases q)
   refine XQ.seq E0_ok (by kernel_rfl) ?_
   refine XQ.region (by kernel_rfl) ?_
   refine XR.runS E0_ok 1 2 [(2, s0 2 ((sortI a).length))] rfl (by kernel_rfl) ?_
   refine XR.done (by kernel_rfl) ?_
   show XQ _ _ _ _ _ _ _ _
   refine XQ.ret (by kernel_rfl) ?_
   refine ⟨fun i q => (by cases q), s0 2 ((sortI a).length), (by kernel_rfl), ?_⟩
   refine XR.conv (σ' := [(6, s0 2 ((sortI a).length))]) (h' := [(2, rc (encI .i64) (sortI a) 0 3 1), (1, .cells [s0 0 a.length] 0 36 0), (0, rc (encI .i64) a z0 y0 1)]) (c' := 3) ?_ (by kernel_rfl)
   refine XR.runS E0_ok 1 1 [(2, s0 2 ((sortI a).length))] rfl (by kernel_rfl) ?_
   refine XR.done (by kernel_rfl) ?_
   show XQ _ _ _ _ _ _ _ _
   refine XQ.ren (σ' := [(2, s0 1 ((sortI a).length))]) (h' := [(1, rc (encI .i64) (sortI a) 0 3 1), (0, rc (encI .i64) a z0 y0 1)]) (c' := 2) [0, 2] (by decide) rfl ⟨by kernel_rfl, trivial⟩ ⟨⟨_, _, rfl, rfl, .inl ⟨rfl, rowC_scal (encI_ok .i64) _⟩⟩, ⟨_, _, rfl, rfl, .inl ⟨rfl, rowC_scal (encI_ok .i64) _⟩⟩, trivial⟩ rfl ?_
   refine XQ.ret (by kernel_rfl) ?_
   have h := Option.some.inj h
   subst h
   exact ⟨fun i q => (by cases q), s0 1 ((sortI a).length), (by kernel_rfl), (by kernel_rfl), (by kernel_rfl), rfl⟩
  | false =>
   have h := cF b2 h
   refine XQ.cond (s := (.tmp 8)) (b := false) (by kernel_rfl) (by kernel_rfl) (fun q => by cases q) (fun _ => ?_)
   refine XQ.skip (by kernel_rfl) ?_
   show XQ _ _ _ _ _ _ _ _
   refine XQ.seq E0_ok (by kernel_rfl) ?_
   refine XQ.seq E0_ok (by kernel_rfl) ?_
   refine XQ.region (by kernel_rfl) ?_
   refine XR.runS E0_ok 1 1 [(0, s0 2 ((sortI a).length)), (3, ii 1)] rfl (by kernel_rfl) ?_
   refine XR.done (by kernel_rfl) ?_
   show XQ _ _ _ _ _ _ _ _
   refine XQ.block (id := 0) (by kernel_rfl) ?_
   refine XQ.loop m (by kernel_rfl) ?_
   obtain ⟨o1, o1_h, h⟩ := bS h
   refine XL.ren (σ' := [(0, s0 2 ((sortI a).length)), (3, ii 1)]) (h' := [(2, rc (encI .i64) (sortI a) 0 3 1), (1, .cells [s0 0 a.length] 0 36 0), (0, rc (encI .i64) a z0 y0 1)]) (c' := 3) [0, 1, 2] (by decide) rfl ⟨by kernel_rfl, by kernel_rfl, trivial⟩ ⟨⟨_, _, rfl, rfl, .inl ⟨rfl, rowC_scal (encI_ok .i64) _⟩⟩, ⟨_, _, rfl, rfl, .inr ⟨_, _, _, _, rfl, rfl⟩⟩, ⟨_, _, rfl, rfl, .inl ⟨rfl, rowC_scal (encI_ok .i64) _⟩⟩, trivial⟩ rfl ?_
   cases o1 with
   | r n2_r1 c2_r1 lh2_r1 =>
    dsimp only at h
    refine XL.conv (f57_1_ok m m z0 y0 a 1 (sortI a) (.r n2_r1 c2_r1 lh2_r1) o1_h _ ?_) (by first | rfl | simp)
    refine ⟨fun i q => (by cases q), sl 2 0 n2_r1 c2_r1, (by kernel_rfl), ?_⟩
    refine XR.conv (σ' := [(6, sl 2 0 n2_r1 c2_r1)]) (h' := [(2, rc (encI .i64) lh2_r1 0 3 1), (1, .cells [s0 0 a.length] 0 36 0), (0, rc (encI .i64) a z0 y0 1)]) (c' := 3) ?_ (by kernel_rfl)
    refine XR.runS E0_ok 1 1 [(2, sl 2 0 n2_r1 c2_r1)] rfl (by kernel_rfl) ?_
    refine XR.done (by kernel_rfl) ?_
    show XQ _ _ _ _ _ _ _ _
    cases b4 : (Nat.ble n2_r1 c2_r1 && Nat.ble n2_r1 lh2_r1.length : Bool) with
    | false => cases (cF b4 h)
    | true =>
     have h := cT b4 h
     refine XQ.trimR 2 3 1 2 lh2_r1 n2_r1 c2_r1 (by kernel_rfl) (g := (encI .i64)) (by kernel_rfl) (by kernel_rfl) b4 ?_
     refine XQ.conv (σ' := (2, s0 2 ((List.take n2_r1 lh2_r1).length)) :: [(2, sl 2 0 n2_r1 c2_r1)]) (h' := [(2, rc (encI .i64) (List.take n2_r1 lh2_r1) 0 3 1), (1, .cells [s0 0 a.length] 0 36 0), (0, rc (encI .i64) a z0 y0 1)]) (c' := 3) ?_ (by kernel_rfl)
     refine XQ.ren (σ' := [(2, s0 1 ((List.take n2_r1 lh2_r1).length))]) (h' := [(1, rc (encI .i64) (List.take n2_r1 lh2_r1) 0 3 1), (0, rc (encI .i64) a z0 y0 1)]) (c' := 2) [0, 2] (by decide) rfl ⟨by kernel_rfl, trivial⟩ ⟨⟨_, _, rfl, rfl, .inl ⟨rfl, rowC_scal (encI_ok .i64) _⟩⟩, ⟨_, _, rfl, rfl, .inl ⟨rfl, rowC_scal (encI_ok .i64) _⟩⟩, trivial⟩ rfl ?_
     refine XQ.ret (by kernel_rfl) ?_
     have h := Option.some.inj h
     subst h
     exact ⟨fun i q => (by cases q), s0 1 ((List.take n2_r1 lh2_r1).length), (by kernel_rfl), (by kernel_rfl), (by kernel_rfl), rfl⟩
   | x0 lh2_x01 =>
    dsimp only at h
    refine XL.conv (f57_1_ok m m z0 y0 a 1 (sortI a) (.x0 lh2_x01) o1_h _ ?_) (by first | rfl | simp)
    show XQ _ _ _ _ _ _ _ _
    refine XQ.seq E0_ok (by kernel_rfl) ?_
    refine XQ.region (by kernel_rfl) ?_
    refine XR.runS E0_ok 1 2 [(2, s0 2 lh2_x01.length)] rfl (by kernel_rfl) ?_
    refine XR.done (by kernel_rfl) ?_
    show XQ _ _ _ _ _ _ _ _
    refine XQ.ret (by kernel_rfl) ?_
    refine ⟨fun i q => (by cases q), s0 2 lh2_x01.length, (by kernel_rfl), ?_⟩
    refine XR.conv (σ' := [(6, s0 2 lh2_x01.length)]) (h' := [(2, rc (encI .i64) lh2_x01 0 3 1), (1, .cells [s0 0 a.length] 0 36 0), (0, rc (encI .i64) a z0 y0 1)]) (c' := 3) ?_ (by kernel_rfl)
    refine XR.runS E0_ok 1 1 [(2, s0 2 lh2_x01.length)] rfl (by kernel_rfl) ?_
    refine XR.done (by kernel_rfl) ?_
    show XQ _ _ _ _ _ _ _ _
    refine XQ.ren (σ' := [(2, s0 1 lh2_x01.length)]) (h' := [(1, rc (encI .i64) lh2_x01 0 3 1), (0, rc (encI .i64) a z0 y0 1)]) (c' := 2) [0, 2] (by decide) rfl ⟨by kernel_rfl, trivial⟩ ⟨⟨_, _, rfl, rfl, .inl ⟨rfl, rowC_scal (encI_ok .i64) _⟩⟩, ⟨_, _, rfl, rfl, .inl ⟨rfl, rowC_scal (encI_ok .i64) _⟩⟩, trivial⟩ rfl ?_
    refine XQ.ret (by kernel_rfl) ?_
    have h := Option.some.inj h
    subst h
    exact ⟨fun i q => (by cases q), s0 1 lh2_x01.length, (by kernel_rfl), (by kernel_rfl), (by kernel_rfl), rfl⟩

end Go.Xm
