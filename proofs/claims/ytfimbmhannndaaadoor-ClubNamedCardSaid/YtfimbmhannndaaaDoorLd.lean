/- What these functions of the program compute, as functions in Lean, and the proofs that they do: slices.Min[[]int,int], club.tally).plans, club.Count. Conditions: the library's variables hold what their texts lay. -/
import Derived.Test.YtfimbmhannndaaaDoorZk
import Derived.Test.YtfimbmhannndaaaDoorLb
import Derived.Test.YtfimbmhannndaaaDoorNg
import Derived.Test.YtfimbmhannndaaaDoorZx
import Derived.Test.YtfimbmhannndaaaDoorDd
import Derived.Test.YtfimbmhannndaaaDoorCl
namespace Go.Xm
open Go.RowKit
set_option linter.unusedVariables false
set_option linter.unusedSimpArgs false
set_option maxRecDepth 20000
noncomputable def f97_C97 : Code := Proofs.Tryd.f97.body.getD .skip
noncomputable def f97_L1 : Code := lft (lft (rgt (lft (rgt (rgt (rgt f97_C97))))))
def f97_1 (m : Nat) : Nat → List Int → Int → Int → Option Int
 | 0, _, _, _ => none
 | fuel + 1, a, x3_1, x4_1 =>
  cond (decide (x4_1 < ((a.length : Nat) : Int))) (
   cond (inRow x4_1 a.length) (
    f97_1 m fuel a (iMin x3_1 (List.getD a (Int.toNat x4_1) 0)) (w64 (x4_1 + 1))
   ) none
  ) (
   some (x3_1)
  )
theorem f97_1_ok (m : Nat) : ∀ (fuel : Nat) (z0 : Nat) (y0 : Nat) (a : List Int) (x3_1 : Int) (x4_1 : Int) (o : Int), f97_1 m fuel a x3_1 x4_1 = some o → ∀ Q : QP, Q (.exit 0) [(3, ii o)] [(0, rc (encI .i64) a z0 y0 1)] 1 → XL E0 25 1 fuel f97_L1 [(0, s0 0 a.length), (3, ii x3_1), (4, ii x4_1)] [(0, rc (encI .i64) a z0 y0 1)] 1 Q
 | 0, z0, y0, a, x3_1, x4_1, o, h, Q, hQ => by cases h
 | fuel + 1, z0, y0, a, x3_1, x4_1, o, h, Q, hQ => by
  unfold f97_1 at h
  refine XL.succ E0_ok ?_
  refine XQ.seq E0_ok (by kernel_rfl) ?_
  refine XQ.seq E0_ok (by kernel_rfl) ?_
  refine rQk ?_
  refine XR.runS E0_ok 1 4 [(0, s0 0 a.length), (3, ii x3_1), (4, ii x4_1), (15, .bool (decide (x4_1 < ((a.length : Nat) : Int))))] rfl (by kernel_rfl) ?_
  refine dQk ?_
  show XQ _ _ _ _ _ _ _ _
  cases b1 : (decide (x4_1 < ((a.length : Nat) : Int)) : Bool) with
  | true =>
   have h := cT b1 h
   refine iTk (.tmp 15) ?_
   refine kQk ?_
   show XQ _ _ _ _ _ _ _ _
   refine XQ.seq E0_ok (by kernel_rfl) ?_
   refine XQ.block (id := 1) (by kernel_rfl) ?_
   refine rQk ?_
   refine XR.runS E0_ok 1 3 [(0, s0 0 a.length), (4, ii x4_1), (18, ii x3_1), (19, s0 0 a.length), (20, ii x4_1)] rfl (by kernel_rfl) ?_
   cases b2 : (inRow x4_1 a.length : Bool) with
   | false => cases (cF b2 h)
   | true =>
    have h := cT b2 h
    refine XR.rd E0_ok [0, 4, 18, 21] rfl (v := pp 0 ((Int.toNat x4_1) * 1)) (v_idx (s := 1) (x := (src 25 (.tmp 19))) (y := (src 25 (.tmp 20))) (b := 0) (o := 0) (len := a.length) (cap := a.length) (ik := .i64) (i := x4_1) (off := (Int.toNat x4_1) * 1) (d := (some (path 12 21))) (by kernel_rfl) (by kernel_rfl) (by kernel_rfl) b2 (by omega)) (σ' := [(0, s0 0 a.length), (4, ii x4_1), (18, ii x3_1), (21, pp 0 ((Int.toNat x4_1) * 1))]) (by kernel_rfl) ?_
    refine XR.rd E0_ok [0, 4, 18, 22] rfl (v := ii (List.getD a (Int.toNat x4_1) 0)) (v_load1 (encI_ok .i64) (x := (src 25 (.tmp 21))) (b := 0) (off := (Int.toNat x4_1) * 1) (xs := a) (fz := z0) (e := y0) (es := 1) (d := (some (path 12 22))) (by kernel_rfl) (by kernel_rfl) (by kernel_rfl) (Int.toNat x4_1) 0 0 (by first | with_reducible rfl | omega | rfl) (row_len (inRow_toNat b2) (by simp)) rfl rfl) (σ' := [(0, s0 0 a.length), (4, ii x4_1), (18, ii x3_1), (22, ii (List.getD a (Int.toNat x4_1) 0))]) (by kernel_rfl) ?_
    refine XR.runS E0_ok 1 2 [(0, s0 0 a.length), (3, ii (iMin x3_1 (List.getD a (Int.toNat x4_1) 0))), (4, ii x4_1)] rfl (by kernel_rfl) ?_
    refine dQk ?_
    show XQ _ _ _ _ _ _ _ _
    refine rQk ?_
    refine XR.runS E0_ok 1 3 [(0, s0 0 a.length), (3, ii (iMin x3_1 (List.getD a (Int.toNat x4_1) 0))), (4, ii (w64 (x4_1 + 1)))] rfl (by kernel_rfl) ?_
    refine dQk ?_
    show XL _ _ _ _ _ _ _ _ _
    refine XL.ren (σ' := [(0, s0 0 a.length), (3, ii (iMin x3_1 (List.getD a (Int.toNat x4_1) 0))), (4, ii (w64 (x4_1 + 1)))]) (h' := [(0, rc (encI .i64) a z0 y0 1)]) (c' := 1) [0] (by decide) rfl ⟨rfl, rfl, rfl, trivial⟩ ⟨⟨_, _, rfl, rfl, .inl ⟨rfl, rwI⟩⟩, trivial⟩ rfl ?_
    refine XL.conv (f97_1_ok m fuel z0 y0 a (iMin x3_1 (List.getD a (Int.toNat x4_1) 0)) (w64 (x4_1 + 1)) o h Q hQ) (by first | with_reducible rfl | simp | rfl)
  | false =>
   have h := cF b1 h
   refine iFk (.tmp 15) ?_
   refine XQ.ren (σ' := [(3, ii x3_1)]) (h' := [(0, rc (encI .i64) a z0 y0 1)]) (c' := 1) [0] (by decide) rfl ⟨rfl, trivial⟩ ⟨⟨_, _, rfl, rfl, .inl ⟨rfl, rwI⟩⟩, trivial⟩ rfl ?_
   refine XQ.exit (i := 0) (by kernel_rfl) ?_
   cases h
   exact hQ
def f97 (m : Nat) (a : List Int) : Option (Int) :=
 cond (decide (((a.length : Nat) : Int) < 1)) (
  none
 ) (
  cond (inRow 0 a.length) (
   (f97_1 m m a (List.getD a 0 0) 1).bind fun o1 =>
    some (o1)
  ) none
 )
theorem f97_ok (m : Nat) (z0 : Nat) (y0 : Nat) (a : List Int) (o : Int) (h : f97 m a = some o) : KC E0 97 [s0 0 a.length] [(0, rc (encI .i64) a z0 y0 1)] 1 (fun v _ _ => v = ii o) := by
 refine KC.bodyN E0_ok (F := Proofs.Tryd.f97) (by kernel_rfl) (code := f97_C97) (by kernel_rfl) (nt := 25) (by kernel_rfl) (rs := [.tmp 2]) (by kernel_rfl) (by kernel_rfl) (σ := [(0, s0 0 a.length)]) (by kernel_rfl) ?_
 unfold f97 at h
 refine XQ.seq E0_ok (by kernel_rfl) ?_
 refine rQk ?_
 refine XR.runS E0_ok 1 1 [(0, s0 0 a.length)] rfl (by kernel_rfl) ?_
 refine dQk ?_
 show XQ _ _ _ _ _ _ _ _
 refine XQ.seq E0_ok (by kernel_rfl) ?_
 refine XQ.seq E0_ok (by kernel_rfl) ?_
 refine rQk ?_
 refine XR.runS E0_ok 1 3 [(0, s0 0 a.length), (7, .bool (decide (((a.length : Nat) : Int) < 1)))] rfl (by kernel_rfl) ?_
 refine dQk ?_
 show XQ _ _ _ _ _ _ _ _
 cases b1 : (decide (((a.length : Nat) : Int) < 1) : Bool) with
 | true =>
  have h := cT b1 h
  refine iTk (.tmp 7) ?_
  refine rQk ?_
  cases h
 | false =>
  have h := cF b1 h
  refine iFk (.tmp 7) ?_
  refine kQk ?_
  show XQ _ _ _ _ _ _ _ _
  refine XQ.seq E0_ok (by kernel_rfl) ?_
  refine rQk ?_
  refine XR.runS E0_ok 1 1 [(0, s0 0 a.length), (9, s0 0 a.length)] rfl (by kernel_rfl) ?_
  cases b2 : (inRow 0 a.length : Bool) with
  | false => cases (cF b2 h)
  | true =>
   have h := cT b2 h
   refine XR.rd E0_ok [0, 10] rfl (v := pp 0 (0 * 1)) (v_idx (s := 1) (x := (src 25 (.tmp 9))) (y := (src 25 (.const (ii 0)))) (b := 0) (o := 0) (len := a.length) (cap := a.length) (ik := .i64) (i := 0) (off := 0 * 1) (d := (some (path 12 10))) (by kernel_rfl) (by kernel_rfl) (by kernel_rfl) b2 (by omega)) (σ' := [(0, s0 0 a.length), (10, pp 0 (0 * 1))]) (by kernel_rfl) ?_
   refine XR.rd E0_ok [0, 11] rfl (v := ii (List.getD a 0 0)) (v_load1 (encI_ok .i64) (x := (src 25 (.tmp 10))) (b := 0) (off := 0 * 1) (xs := a) (fz := z0) (e := y0) (es := 1) (d := (some (path 12 11))) (by kernel_rfl) (by kernel_rfl) (by kernel_rfl) 0 0 0 (by first | with_reducible rfl | omega | rfl) (row_len (inRow_toNat b2) (by simp)) rfl rfl) (σ' := [(0, s0 0 a.length), (11, ii (List.getD a 0 0))]) (by kernel_rfl) ?_
   refine XR.runS E0_ok 1 1 [(0, s0 0 a.length), (3, ii (List.getD a 0 0))] rfl (by kernel_rfl) ?_
   refine dQk ?_
   show XQ _ _ _ _ _ _ _ _
   refine XQ.seq E0_ok (by kernel_rfl) ?_
   refine XQ.seq E0_ok (by kernel_rfl) ?_
   refine rQk ?_
   refine XR.runS E0_ok 1 1 [(0, s0 0 a.length), (3, ii (List.getD a 0 0)), (4, ii 1)] rfl (by kernel_rfl) ?_
   refine dQk ?_
   show XQ _ _ _ _ _ _ _ _
   refine XQ.block (id := 0) (by kernel_rfl) ?_
   refine XQ.loop m (by kernel_rfl) ?_
   obtain ⟨o1, o1_h, h⟩ := bS h
   refine XL.ren (σ' := [(0, s0 0 a.length), (3, ii (List.getD a 0 0)), (4, ii 1)]) (h' := [(0, rc (encI .i64) a z0 y0 1)]) (c' := 1) [0] (by decide) rfl ⟨rfl, rfl, rfl, trivial⟩ ⟨⟨_, _, rfl, rfl, .inl ⟨rfl, rwI⟩⟩, trivial⟩ rfl ?_
   refine XL.conv (f97_1_ok m m z0 y0 a (List.getD a 0 0) 1 o1 o1_h _ ?_) (by first | with_reducible rfl | simp | rfl)
   show XQ _ _ _ _ _ _ _ _
   refine XQ.seq E0_ok (by kernel_rfl) ?_
   refine rQk ?_
   refine XR.runS E0_ok 1 2 [(2, ii o1)] rfl (by kernel_rfl) ?_
   refine dQk ?_
   show XQ _ _ _ _ _ _ _ _
   refine XQ.ret (by kernel_rfl) ?_
   have h := Option.some.inj h
   subst h
   exact ⟨fun i q => (by cases q), ii o1, (by kernel_rfl), rfl⟩
noncomputable def f72_C72 : Code := Proofs.Tryd.f72.body.getD .skip
noncomputable def f72_C61 : Code := Proofs.Tryd.f61.body.getD .skip
noncomputable def f72_C82 : Code := Proofs.Tryd.f82.body.getD .skip
noncomputable def f72_C83 : Code := Proofs.Tryd.f83.body.getD .skip
noncomputable def f72_L1 : Code := lft (lft (rgt (lft (rgt (rgt (rgt (rgt f72_C72)))))))
noncomputable def f72_L2 : Code := lft (lft (rgt (lft (rgt (rgt (rgt (rgt (rgt (rgt (rgt f72_C72))))))))))
noncomputable def f72_L3 : Code := lft (lft (rgt (lft (rgt (rgt (rgt (lft (lft (rgt (rgt f72_L2))))))))))
noncomputable def f72_L5 : Code := lft (lft (rgt f72_C83))
def f72_1 (m : Nat) : Nat → List (List Int × Int) → List Int → Int → Int → List Int → List Int → Option ((List Int) × (List Int))
 | 0, _, _, _, _, _, _ => none
 | fuel + 1, a, b, x21_1, x22_1, lh2_1, lh3_1 =>
  cond (decide (x22_1 < x21_1)) (
   cond (inRow x22_1 lh2_1.length) (
    cond (inRow x22_1 8) (
     cond (decide (Int.toNat x22_1 < lh3_1.length)) (
      f72_1 m fuel a b x21_1 (w64 (x22_1 + 1)) lh2_1 (List.set lh3_1 (Int.toNat x22_1) (w64 ((List.getD lh2_1 (Int.toNat x22_1) 0) + 1)))
     ) none
    ) none
   ) none
  ) (
   some (lh2_1, lh3_1)
  )

abbrev qld1 (lh2_1 : List Int) (x21_1 : Int) (t : St) : St := (0, .map (some 0)) :: (5, s0 2 lh2_1.length) :: (6, pp 3 0) :: (20, s0 2 lh2_1.length) :: (21, ii x21_1) :: t
theorem f72_1_ok (m : Nat) : ∀ (fuel : Nat) (a : List (List Int × Int)) (z1 : Nat) (y1 : Nat) (b : List Int) (x21_1 : Int) (x22_1 : Int) (lh2_1 : List Int) (lh3_1 : List Int) (o : ((List Int) × (List Int))), f72_1 m fuel a b x21_1 x22_1 lh2_1 lh3_1 = some o → ∀ Q : QP, Q (.exit 0) [(0, .map (some 0)), (5, s0 2 o.1.length), (6, pp 3 0)] [(3, rK o.2), (2, rI o.1), (1, rc (encI .i64) b z1 y1 1), (0, iM a)] 4 → XL (keepEnv E0) 85 2 fuel f72_L1 (qld1 lh2_1 x21_1 [(22, ii x22_1)]) [(3, rK lh3_1), (2, rI lh2_1), (1, rc (encI .i64) b z1 y1 1), (0, iM a)] 4 Q
 | 0, a, z1, y1, b, x21_1, x22_1, lh2_1, lh3_1, o, h, Q, hQ => by cases h
 | fuel + 1, a, z1, y1, b, x21_1, x22_1, lh2_1, lh3_1, o, h, Q, hQ => by
  unfold f72_1 at h
  refine XL.succ kE ?_
  refine qQk ?_
  refine rSk 1 (qld1 lh2_1 x21_1 [(22, ii x22_1), (23, .bool (decide (x22_1 < x21_1)))]) ?_
  refine dQk ?_
  show XQ _ _ _ _ _ _ _ _
  refine sQk ?_
  cases b1 : (decide (x22_1 < x21_1) : Bool) with
  | true =>
   have h := cT b1 h
   refine iTk (.tmp 23) ?_
   refine kQk ?_
   show XQ _ _ _ _ _ _ _ _
   refine sQk ?_
   refine XQ.block (id := 1) (by kernel_rfl) ?_
   refine qQk ?_
   refine rSk 1 (qld1 lh2_1 x21_1 [(22, ii x22_1), (24, ii x22_1)]) ?_
   cases b2 : (inRow x22_1 lh2_1.length : Bool) with
   | false => cases (cF b2 h)
   | true =>
    have h := cT b2 h
    refine XR.rd kE [0, 5, 6, 20, 21, 22, 24, 25] rfl (v := pp 2 ((Int.toNat x22_1) * 1)) (v_idx (s := 1) (x := (src 85 (.tmp 20))) (y := (src 85 (.tmp 22))) (b := 2) (o := 0) (len := lh2_1.length) (cap := lh2_1.length) (ik := .i64) (i := x22_1) (off := (Int.toNat x22_1) * 1) (d := (some (path 12 25))) (by kernel_rfl) (by kernel_rfl) (by kernel_rfl) b2 (by omega)) (σ' := (qld1 lh2_1 x21_1 [(22, ii x22_1), (24, ii x22_1), (25, pp 2 ((Int.toNat x22_1) * 1))])) (by kernel_rfl) ?_
    refine XR.rd kE [0, 5, 6, 20, 21, 22, 24, 26] rfl (v := ii (List.getD lh2_1 (Int.toNat x22_1) 0)) (v_load1 (encI_ok .i64) (x := (src 85 (.tmp 25))) (b := 2) (off := (Int.toNat x22_1) * 1) (xs := lh2_1) (fz := 0) (e := 3) (es := 1) (d := (some (path 12 26))) (by kernel_rfl) (by kernel_rfl) (by kernel_rfl) (Int.toNat x22_1) 0 0 (by first | with_reducible rfl | omega | rfl) (row_len (inRow_toNat b2) (by simp)) rfl rfl) (σ' := (qld1 lh2_1 x21_1 [(22, ii x22_1), (24, ii x22_1), (26, ii (List.getD lh2_1 (Int.toNat x22_1) 0))])) (by kernel_rfl) ?_
    refine rSk 2 [(0, .map (some 0)), (5, s0 2 lh2_1.length), (6, pp 3 0), (7, ii x22_1), (8, ii (List.getD lh2_1 (Int.toNat x22_1) 0)), (20, s0 2 lh2_1.length), (21, ii x21_1), (22, ii x22_1)] ?_
    refine dQk ?_
    show XQ _ _ _ _ _ _ _ _
    refine rQk ?_
    refine rSk 3 (qld1 lh2_1 x21_1 [(22, ii x22_1), (27, ii x22_1), (29, ii (w64 ((List.getD lh2_1 (Int.toNat x22_1) 0) + 1)))]) ?_
    cases b3 : (inRow x22_1 8 : Bool) with
    | false => cases (cF b3 h)
    | true =>
     have h := cT b3 h
     refine XR.rd kE [0, 5, 6, 20, 21, 22, 29, 30] rfl (v := pp 3 ((Int.toNat x22_1) * 1)) (v_idxA (s := 1) (len := 8) (x := (src 85 (.tmp 6))) (y := (src 85 (.tmp 27))) (b := 3) (o := 0) (ik := .i64) (i := x22_1) (off := (Int.toNat x22_1) * 1) (d := (some (path 12 30))) (by kernel_rfl) (by kernel_rfl) (by kernel_rfl) b3 (by omega)) (σ' := (qld1 lh2_1 x21_1 [(22, ii x22_1), (29, ii (w64 ((List.getD lh2_1 (Int.toNat x22_1) 0) + 1))), (30, pp 3 ((Int.toNat x22_1) * 1))])) (by kernel_rfl) ?_
     cases b4 : (decide (Int.toNat x22_1 < lh3_1.length) : Bool) with
     | false => cases (cF b4 h)
     | true =>
      have h := cT b4 h
      refine XR.ef kE [0, 5, 6, 20, 21, 22] rfl (e_store (encI_ok .i64) (size := 1) (x := (src 85 (.tmp 30))) (y := (src 85 (.tmp 29))) (b := 3) (off := (Int.toNat x22_1) * 1) (xs := lh3_1) (e := 123) (es := 0) (d := none) (h' := [(3, rK (List.set lh3_1 (Int.toNat x22_1) (w64 ((List.getD lh2_1 (Int.toNat x22_1) 0) + 1)))), (2, rI lh2_1), (1, rc (encI .i64) b z1 y1 1), (0, iM a)]) (w := ii (w64 ((List.getD lh2_1 (Int.toNat x22_1) 0) + 1))) (ws := [ii (w64 ((List.getD lh2_1 (Int.toNat x22_1) 0) + 1))]) (a := w64 ((List.getD lh2_1 (Int.toNat x22_1) 0) + 1)) (by kernel_rfl) (by kernel_rfl) (by kernel_rfl) (Int.toNat x22_1) 0 0 (by first | with_reducible rfl | omega | rfl) (row_len b4 (by simp)) (by kernel_rfl) rfl rfl rfl rfl rfl (by kernel_rfl)) (σ' := (qld1 lh2_1 x21_1 [(22, ii x22_1)])) (by kernel_rfl) ?_
      refine dQk ?_
      show XQ _ _ _ _ _ _ _ _
      refine rQk ?_
      refine rSk 2 (qld1 lh2_1 x21_1 [(22, ii (w64 (x22_1 + 1)))]) ?_
      refine dQk ?_
      show XL _ _ _ _ _ _ _ _ _
      refine XL.ren (σ' := (qld1 lh2_1 x21_1 [(22, ii (w64 (x22_1 + 1)))])) (h' := [(3, rK (List.set lh3_1 (Int.toNat x22_1) (w64 ((List.getD lh2_1 (Int.toNat x22_1) 0) + 1)))), (2, rI lh2_1), (1, rc (encI .i64) b z1 y1 1), (0, iM a)]) (c' := 4) [0, 1, 2, 3] (by decide) rfl ⟨rfl, rfl, rfl, rfl, rfl, rfl, trivial⟩ ⟨⟨_, _, rfl, rfl, .inl ⟨rfl, rwI⟩⟩, ⟨_, _, rfl, rfl, .inl ⟨rfl, rwI⟩⟩, ⟨_, _, rfl, rfl, .inl ⟨rfl, rwI⟩⟩, ⟨_, _, rfl, rfl, .inl ⟨rfl, trivial⟩⟩, trivial⟩ rfl ?_
      refine XL.conv (f72_1_ok m fuel a z1 y1 b x21_1 (w64 (x22_1 + 1)) lh2_1 (List.set lh3_1 (Int.toNat x22_1) (w64 ((List.getD lh2_1 (Int.toNat x22_1) 0) + 1))) o h Q hQ) (by first | with_reducible rfl | simp | rfl)
  | false =>
   have h := cF b1 h
   refine iFk (.tmp 23) ?_
   refine XQ.ren (σ' := [(0, .map (some 0)), (5, s0 2 lh2_1.length), (6, pp 3 0)]) (h' := [(3, rK lh3_1), (2, rI lh2_1), (1, rc (encI .i64) b z1 y1 1), (0, iM a)]) (c' := 4) [0, 1, 2, 3] (by decide) rfl ⟨rfl, rfl, rfl, trivial⟩ ⟨⟨_, _, rfl, rfl, .inl ⟨rfl, rwI⟩⟩, ⟨_, _, rfl, rfl, .inl ⟨rfl, rwI⟩⟩, ⟨_, _, rfl, rfl, .inl ⟨rfl, rwI⟩⟩, ⟨_, _, rfl, rfl, .inl ⟨rfl, trivial⟩⟩, trivial⟩ rfl ?_
   refine XQ.exit (i := 0) (by kernel_rfl) ?_
   cases h
   exact hQ
def f72_3 (m : Nat) : Nat → List Int → Int → Int → Int → List (List Int × Int) → List Int → List Int → Int → List Int → Option (List Int)
 | 0, _, _, _, _, _, _, _, _, _ => none
 | fuel + 1, b, x11_2, x43_2, x44_2, mh0_2, lh2_2, lh3_2, x14_3, lh4_3 =>
  cond (x14_3 != 0) (
   cond (tzC x14_3) (
    cond (inRow (tzF x14_3) lh4_3.length) (
     f72_3 m fuel b x11_2 x43_2 x44_2 mh0_2 lh2_2 lh3_2 (andV .u64 x14_3 (IntKind.wrap .u64 (x14_3 - 1))) (List.set lh4_3 (Int.toNat (tzF x14_3)) (w64 ((List.getD lh4_3 (Int.toNat (tzF x14_3)) 0) - 1)))
    ) none
   ) none
  ) (
   some (lh4_3)
  )

abbrev qld2 (lh2_2 : List Int) (lh4_3 : List Int) (x11_2 : Int) (x14_3 : Int) (x43_2 : Int) (x44_2 : Int) (t : St) : St := (0, .map (some 0)) :: (5, s0 2 lh2_2.length) :: (6, pp 3 0) :: (11, ii x11_2) :: (13, s0 4 lh4_3.length) :: (14, uu x14_3) :: (43, uu x43_2) :: (44, uu x44_2) :: t
theorem f72_3_ok (m : Nat) : ∀ (fuel : Nat) (z1 : Nat) (y1 : Nat) (b : List Int) (x11_2 : Int) (x43_2 : Int) (x44_2 : Int) (mh0_2 : List (List Int × Int)) (lh2_2 : List Int) (lh3_2 : List Int) (x14_3 : Int) (lh4_3 : List Int) (o : (List Int)), f72_3 m fuel b x11_2 x43_2 x44_2 mh0_2 lh2_2 lh3_2 x14_3 lh4_3 = some o → ∀ Q : QP, Q (.exit 4) [(0, .map (some 0)), (5, s0 2 lh2_2.length), (6, pp 3 0), (11, ii x11_2), (13, s0 4 o.length), (43, uu x43_2), (44, uu x44_2)] [(4, rI o), (3, rK lh3_2), (2, rI lh2_2), (1, rc (encI .i64) b z1 y1 1), (0, iM mh0_2)] 5 → XL (keepEnv E0) 85 2 fuel f72_L3 (qld2 lh2_2 lh4_3 x11_2 x14_3 x43_2 x44_2 []) [(4, rI lh4_3), (3, rK lh3_2), (2, rI lh2_2), (1, rc (encI .i64) b z1 y1 1), (0, iM mh0_2)] 5 Q
 | 0, z1, y1, b, x11_2, x43_2, x44_2, mh0_2, lh2_2, lh3_2, x14_3, lh4_3, o, h, Q, hQ => by cases h
 | fuel + 1, z1, y1, b, x11_2, x43_2, x44_2, mh0_2, lh2_2, lh3_2, x14_3, lh4_3, o, h, Q, hQ => by
  unfold f72_3 at h
  refine XL.succ kE ?_
  refine sQk ?_
  refine qQk ?_
  refine rSk 2 (qld2 lh2_2 lh4_3 x11_2 x14_3 x43_2 x44_2 [(58, .bool (x14_3 != 0))]) ?_
  refine dQk ?_
  show XQ _ _ _ _ _ _ _ _
  cases b1 : (x14_3 != 0 : Bool) with
  | true =>
   have h := cT b1 h
   refine iTk (.tmp 58) ?_
   refine kQk ?_
   show XQ _ _ _ _ _ _ _ _
   refine sQk ?_
   refine XQ.block (id := 5) (by kernel_rfl) ?_
   refine rQk ?_
   refine rSk 2 (qld2 lh2_2 lh4_3 x11_2 x14_3 x43_2 x44_2 [(63, s0 4 lh4_3.length), (64, uu x14_3)]) ?_
   cases b2 : (tzC x14_3 : Bool) with
   | false => cases (cF b2 h)
   | true =>
    have h := cT b2 h
    refine XR.call kE [0, 5, 6, 11, 13, 14, 43, 44, 63, 65] rfl (K := 96) (args := [uu x14_3]) (d := (some (path 12 65))) (by kernel_rfl) (KC.of_calls kE (F := Proofs.Tryd.f96) (v := ii (tzF x14_3)) (by kernel_rfl) rfl rfl (tzF_ok b2)) ?_
    rintro _ _ _ ⟨rfl, rfl, rfl⟩
    refine XR.conv (σ' := (qld2 lh2_2 lh4_3 x11_2 x14_3 x43_2 x44_2 [(63, s0 4 lh4_3.length), (65, ii (tzF x14_3))])) (h' := [(4, rI lh4_3), (3, rK lh3_2), (2, rI lh2_2), (1, rc (encI .i64) b z1 y1 1), (0, iM mh0_2)]) (c' := 5) ?_ (by kernel_rfl)
    cases b3 : (inRow (tzF x14_3) lh4_3.length : Bool) with
    | false => cases (cF b3 h)
    | true =>
     have h := cT b3 h
     refine XR.rd kE [0, 5, 6, 11, 13, 14, 43, 44, 63, 65, 66] rfl (v := pp 4 ((Int.toNat (tzF x14_3)) * 1)) (v_idx (s := 1) (x := (src 85 (.tmp 63))) (y := (src 85 (.tmp 65))) (b := 4) (o := 0) (len := lh4_3.length) (cap := lh4_3.length) (ik := .i64) (i := tzF x14_3) (off := (Int.toNat (tzF x14_3)) * 1) (d := (some (path 12 66))) (by kernel_rfl) (by kernel_rfl) (by kernel_rfl) b3 (by omega)) (σ' := (qld2 lh2_2 lh4_3 x11_2 x14_3 x43_2 x44_2 [(63, s0 4 lh4_3.length), (65, ii (tzF x14_3)), (66, pp 4 ((Int.toNat (tzF x14_3)) * 1))])) (by kernel_rfl) ?_
     refine XR.rd kE [0, 5, 6, 11, 13, 14, 43, 44, 63, 65, 67] rfl (v := ii (List.getD lh4_3 (Int.toNat (tzF x14_3)) 0)) (v_load1 (encI_ok .i64) (x := (src 85 (.tmp 66))) (b := 4) (off := (Int.toNat (tzF x14_3)) * 1) (xs := lh4_3) (fz := 0) (e := 3) (es := 1) (d := (some (path 12 67))) (by kernel_rfl) (by kernel_rfl) (by kernel_rfl) (Int.toNat (tzF x14_3)) 0 0 (by first | with_reducible rfl | omega | rfl) (row_len (inRow_toNat b3) (by simp)) rfl rfl) (σ' := (qld2 lh2_2 lh4_3 x11_2 x14_3 x43_2 x44_2 [(63, s0 4 lh4_3.length), (65, ii (tzF x14_3)), (67, ii (List.getD lh4_3 (Int.toNat (tzF x14_3)) 0))])) (by kernel_rfl) ?_
     refine rSk 1 (qld2 lh2_2 lh4_3 x11_2 x14_3 x43_2 x44_2 [(63, s0 4 lh4_3.length), (65, ii (tzF x14_3)), (68, ii (w64 ((List.getD lh4_3 (Int.toNat (tzF x14_3)) 0) - 1)))]) ?_
     refine XR.rd kE [0, 5, 6, 11, 13, 14, 43, 44, 68, 69] rfl (v := pp 4 ((Int.toNat (tzF x14_3)) * 1)) (v_idx (s := 1) (x := (src 85 (.tmp 63))) (y := (src 85 (.tmp 65))) (b := 4) (o := 0) (len := lh4_3.length) (cap := lh4_3.length) (ik := .i64) (i := tzF x14_3) (off := (Int.toNat (tzF x14_3)) * 1) (d := (some (path 12 69))) (by kernel_rfl) (by kernel_rfl) (by kernel_rfl) b3 (by omega)) (σ' := (qld2 lh2_2 lh4_3 x11_2 x14_3 x43_2 x44_2 [(68, ii (w64 ((List.getD lh4_3 (Int.toNat (tzF x14_3)) 0) - 1))), (69, pp 4 ((Int.toNat (tzF x14_3)) * 1))])) (by kernel_rfl) ?_
     refine XR.ef kE [0, 5, 6, 11, 13, 14, 43, 44] rfl (e_store (encI_ok .i64) (size := 1) (x := (src 85 (.tmp 69))) (y := (src 85 (.tmp 68))) (b := 4) (off := (Int.toNat (tzF x14_3)) * 1) (xs := lh4_3) (e := 3) (es := 1) (d := none) (h' := [(4, rI (List.set lh4_3 (Int.toNat (tzF x14_3)) (w64 ((List.getD lh4_3 (Int.toNat (tzF x14_3)) 0) - 1)))), (3, rK lh3_2), (2, rI lh2_2), (1, rc (encI .i64) b z1 y1 1), (0, iM mh0_2)]) (w := ii (w64 ((List.getD lh4_3 (Int.toNat (tzF x14_3)) 0) - 1))) (ws := [ii (w64 ((List.getD lh4_3 (Int.toNat (tzF x14_3)) 0) - 1))]) (a := w64 ((List.getD lh4_3 (Int.toNat (tzF x14_3)) 0) - 1)) (by kernel_rfl) (by kernel_rfl) (by kernel_rfl) (Int.toNat (tzF x14_3)) 0 0 (by first | with_reducible rfl | omega | rfl) (row_len (inRow_toNat b3) (by simp)) (by kernel_rfl) rfl rfl rfl rfl rfl (by kernel_rfl)) (σ' := (qld2 lh2_2 lh4_3 x11_2 x14_3 x43_2 x44_2 [])) (by kernel_rfl) ?_
     refine dQk ?_
     show XQ _ _ _ _ _ _ _ _
     refine rQk ?_
     refine rSk 5 [(0, .map (some 0)), (5, s0 2 lh2_2.length), (6, pp 3 0), (11, ii x11_2), (13, s0 4 lh4_3.length), (14, uu (andV .u64 x14_3 (IntKind.wrap .u64 (x14_3 - 1)))), (43, uu x43_2), (44, uu x44_2)] ?_
     refine dQk ?_
     show XL _ _ _ _ _ _ _ _ _
     refine XL.ren (σ' := [(0, .map (some 0)), (5, s0 2 lh2_2.length), (6, pp 3 0), (11, ii x11_2), (13, s0 4 lh4_3.length), (14, uu (andV .u64 x14_3 (IntKind.wrap .u64 (x14_3 - 1)))), (43, uu x43_2), (44, uu x44_2)]) (h' := [(4, rI (List.set lh4_3 (Int.toNat (tzF x14_3)) (w64 ((List.getD lh4_3 (Int.toNat (tzF x14_3)) 0) - 1)))), (3, rK lh3_2), (2, rI lh2_2), (1, rc (encI .i64) b z1 y1 1), (0, iM mh0_2)]) (c' := 5) [0, 1, 2, 3, 4] (by decide) rfl ⟨rfl, rfl, rfl, rfl, rfl, rfl, rfl, rfl, trivial⟩ ⟨⟨_, _, rfl, rfl, .inl ⟨rfl, rwI⟩⟩, ⟨_, _, rfl, rfl, .inl ⟨rfl, rwI⟩⟩, ⟨_, _, rfl, rfl, .inl ⟨rfl, rwI⟩⟩, ⟨_, _, rfl, rfl, .inl ⟨rfl, rwI⟩⟩, ⟨_, _, rfl, rfl, .inl ⟨rfl, trivial⟩⟩, trivial⟩ rfl ?_
     refine XL.conv (f72_3_ok m fuel z1 y1 b x11_2 x43_2 x44_2 mh0_2 lh2_2 lh3_2 (andV .u64 x14_3 (IntKind.wrap .u64 (x14_3 - 1))) (List.set lh4_3 (Int.toNat (tzF x14_3)) (w64 ((List.getD lh4_3 (Int.toNat (tzF x14_3)) 0) - 1))) o h Q hQ) (by first | with_reducible rfl | simp | rfl)
  | false =>
   have h := cF b1 h
   refine iFk (.tmp 58) ?_
   refine XQ.ren (σ' := [(0, .map (some 0)), (5, s0 2 lh2_2.length), (6, pp 3 0), (11, ii x11_2), (13, s0 4 lh4_3.length), (43, uu x43_2), (44, uu x44_2)]) (h' := [(4, rI lh4_3), (3, rK lh3_2), (2, rI lh2_2), (1, rc (encI .i64) b z1 y1 1), (0, iM mh0_2)]) (c' := 5) [0, 1, 2, 3, 4] (by decide) rfl ⟨rfl, rfl, rfl, rfl, rfl, rfl, rfl, trivial⟩ ⟨⟨_, _, rfl, rfl, .inl ⟨rfl, rwI⟩⟩, ⟨_, _, rfl, rfl, .inl ⟨rfl, rwI⟩⟩, ⟨_, _, rfl, rfl, .inl ⟨rfl, rwI⟩⟩, ⟨_, _, rfl, rfl, .inl ⟨rfl, rwI⟩⟩, ⟨_, _, rfl, rfl, .inl ⟨rfl, trivial⟩⟩, trivial⟩ rfl ?_
   refine XQ.exit (i := 4) (by kernel_rfl) ?_
   cases h
   exact hQ
def f72_4 (m : Nat) : Nat → List Int → List (List Int × Int) → List Int → List Int → List Int → Option (List Int)
 | 0, _, _, _, _, _ => none
 | fuel + 1, b, mh0_2, lh2_2, lh3_2, lh6_4 =>
  some (lh6_4)
theorem f72_4_ok (m : Nat) : ∀ (fuel : Nat) (z1 : Nat) (y1 : Nat) (b : List Int) (mh0_2 : List (List Int × Int)) (lh2_2 : List Int) (lh3_2 : List Int) (lh6_4 : List Int) (o : (List Int)), f72_4 m fuel b mh0_2 lh2_2 lh3_2 lh6_4 = some o → ∀ Q : QP, Q (.exit 0) [] [(8, rI []), (7, .cells [s0 4 0] 0 22 0), (6, rI o), (5, .cells [ii 0] 0 3 1), (3, rK lh3_2), (2, rI lh2_2), (1, rc (encI .i64) b z1 y1 1), (0, iM mh0_2)] 9 → XL (keepEnv E0) 28 9 fuel f72_L5 [(0, s0 8 0), (2, ii 0), (3, ii (-1))] [(8, rI []), (7, .cells [s0 4 0] 0 22 0), (6, rI lh6_4), (5, .cells [ii 0] 0 3 1), (3, rK lh3_2), (2, rI lh2_2), (1, rc (encI .i64) b z1 y1 1), (0, iM mh0_2)] 9 Q
 | 0, z1, y1, b, mh0_2, lh2_2, lh3_2, lh6_4, o, h, Q, hQ => by cases h
 | fuel + 1, z1, y1, b, mh0_2, lh2_2, lh3_2, lh6_4, o, h, Q, hQ => by
  unfold f72_4 at h
  refine XL.succ kE ?_
  refine sQk ?_
  refine qQk ?_
  refine rSk 3 [(0, s0 8 0), (2, ii 0), (3, ii (-1)), (9, .bool false)] ?_
  refine dQk ?_
  show XQ _ _ _ _ _ _ _ _
  refine iFk (.tmp 9) ?_
  refine XQ.ren (σ' := []) (h' := [(8, rI []), (7, .cells [s0 4 0] 0 22 0), (6, rI lh6_4), (5, .cells [ii 0] 0 3 1), (3, rK lh3_2), (2, rI lh2_2), (1, rc (encI .i64) b z1 y1 1), (0, iM mh0_2)]) (c' := 9) [0, 1, 2, 3, 4, 5, 6, 7, 8] (by decide) rfl trivial ⟨⟨_, _, rfl, rfl, .inl ⟨rfl, rwI⟩⟩, ⟨_, _, rfl, rfl, .inr ⟨_, _, _, _, rfl, rfl⟩⟩, ⟨_, _, rfl, rfl, .inl ⟨rfl, rwI⟩⟩, ⟨_, _, rfl, rfl, .inr ⟨_, _, _, _, rfl, rfl⟩⟩, ⟨_, _, rfl, rfl, .inl ⟨rfl, rwI⟩⟩, ⟨_, _, rfl, rfl, .inl ⟨rfl, rwI⟩⟩, ⟨_, _, rfl, rfl, .inl ⟨rfl, rwI⟩⟩, ⟨_, _, rfl, rfl, .inl ⟨rfl, trivial⟩⟩, trivial⟩ rfl ?_
  refine XQ.exit (i := 0) (by kernel_rfl) ?_
  cases h
  exact hQ
def f72_2 (m : Nat) (F : (List (List Int × Int)) → (List Int) → Option (Int × (List (List Int × Int)))) : Nat → List Int → Int → Int → Int → List (List Int × Int) → List Int → List Int → Option (Int × (List (List Int × Int)) × (List Int))
 | 0, _, _, _, _, _, _, _ => none
 | fuel + 1, b, x11_2, x43_2, x44_2, mh0_2, lh2_2, lh3_2 =>
  cond (decide (x44_2 < x43_2)) (
   (f94 m x44_2).bind fun r20 =>
    cond (inRow 0 lh2_2.length) (
     cond (r20 != (List.getD lh2_2 0 0)) (
      f72_2 m F fuel b x11_2 x43_2 (IntKind.wrap .u64 (x44_2 + 1)) mh0_2 lh2_2 lh3_2
     ) (
      cond (cutOK 1 ((lh2_2.length : Nat) : Int) ((lh2_2.length : Nat) : Int) lh2_2.length) (
       cond (decide (1 + (lh2_2.length - 1) ≤ lh2_2.length)) (
        cond (decide ((lh2_2.length - 1) ≤ (lh2_2.length - 1))) (
         cond (fitsB (lh2_2.length - 1) 8) (
          (f72_3 m m b x11_2 x43_2 x44_2 mh0_2 lh2_2 lh3_2 x44_2 (List.take (lh2_2.length - 1) (List.drop 1 lh2_2))).bind fun o3 =>
           cond (decide (1 ≤ o3.length)) (
            cond (fitsB (o3.length + 1) 8) (
             (f97 m (o3 ++ [0])).bind fun r21 =>
              cond (decide (r21 ≥ 0)) (
               (F mh0_2 o3).bind fun r23 =>
                f72_2 m F fuel b (w64 (x11_2 + r23.1)) x43_2 (IntKind.wrap .u64 (x44_2 + 1)) r23.2 lh2_2 lh3_2
              ) (
               f72_2 m F fuel b x11_2 x43_2 (IntKind.wrap .u64 (x44_2 + 1)) mh0_2 lh2_2 lh3_2
              )
            ) none
           ) (
            (f97 m [0]).bind fun r24 =>
             cond (decide (r24 ≥ 0)) (
              (f72_4 m m b mh0_2 lh2_2 lh3_2 [0]).bind fun o4 =>
               f72_2 m F fuel b (w64 (x11_2 + 1)) x43_2 (IntKind.wrap .u64 (x44_2 + 1)) mh0_2 lh2_2 lh3_2
             ) (
              f72_2 m F fuel b x11_2 x43_2 (IntKind.wrap .u64 (x44_2 + 1)) mh0_2 lh2_2 lh3_2
             )
           )
         ) none
        ) none
       ) none
      ) none
     )
    ) none
  ) (
   some (x11_2, mh0_2, lh3_2)
  )
theorem f72_2_ok (m : Nat) (F : (List (List Int × Int)) → (List Int) → Option (Int × (List (List Int × Int)))) (hF : ∀ (z1 : Nat) (y1 : Nat) (a : List (List Int × Int)) (b : List Int) (o : Int × (List (List Int × Int))), F a b = some o → KC E0 72 [.map (some 0), s0 1 b.length] [(1, rc (encI .i64) b z1 y1 1), (0, iM a)] 2 (fun v h' _ => v = ii o.1 ∧ hget h' 0 = some (iM o.2))) : ∀ (fuel : Nat) (z1 : Nat) (y1 : Nat) (b : List Int) (x11_2 : Int) (x43_2 : Int) (x44_2 : Int) (mh0_2 : List (List Int × Int)) (lh2_2 : List Int) (lh3_2 : List Int) (o : (Int × (List (List Int × Int)) × (List Int))), f72_2 m F fuel b x11_2 x43_2 x44_2 mh0_2 lh2_2 lh3_2 = some o → ∀ Q : QP, Q (.exit 2) [(0, .map (some 0)), (6, pp 2 0), (11, ii o.1)] [(2, rK o.2.2), (1, rc (encI .i64) b z1 y1 1), (0, iM o.2.1)] 3 → XL (keepEnv E0) 85 2 fuel f72_L2 [(0, .map (some 0)), (5, s0 2 lh2_2.length), (6, pp 3 0), (11, ii x11_2), (43, uu x43_2), (44, uu x44_2)] [(3, rK lh3_2), (2, rI lh2_2), (1, rc (encI .i64) b z1 y1 1), (0, iM mh0_2)] 4 Q
 | 0, z1, y1, b, x11_2, x43_2, x44_2, mh0_2, lh2_2, lh3_2, o, h, Q, hQ => by cases h
 | fuel + 1, z1, y1, b, x11_2, x43_2, x44_2, mh0_2, lh2_2, lh3_2, o, h, Q, hQ => by
  unfold f72_2 at h
  refine XL.succ kE ?_
  refine qQk ?_
  refine rSk 1 [(0, .map (some 0)), (5, s0 2 lh2_2.length), (6, pp 3 0), (11, ii x11_2), (43, uu x43_2), (44, uu x44_2), (45, .bool (decide (x44_2 < x43_2)))] ?_
  refine dQk ?_
  show XQ _ _ _ _ _ _ _ _
  refine sQk ?_
  cases b1 : (decide (x44_2 < x43_2) : Bool) with
  | true =>
   have h := cT b1 h
   refine iTk (.tmp 45) ?_
   refine kQk ?_
   show XQ _ _ _ _ _ _ _ _
   refine sQk ?_
   refine XQ.block (id := 3) (by kernel_rfl) ?_
   refine qQk ?_
   refine rSk 2 [(0, .map (some 0)), (5, s0 2 lh2_2.length), (6, pp 3 0), (11, ii x11_2), (12, uu x44_2), (43, uu x43_2), (44, uu x44_2)] ?_
   refine dQk ?_
   show XQ _ _ _ _ _ _ _ _
   refine sQk ?_
   refine sQk ?_
   refine XQ.quiet kE (by kernel_rfl) (by kernel_rfl) ?_
   refine XU.run kE 1 1 [0, 5, 6, 11, 12, 43, 44, 47] rfl (σ' := [(0, .map (some 0)), (5, s0 2 lh2_2.length), (6, pp 3 0), (11, ii x11_2), (12, uu x44_2), (43, uu x43_2), (44, uu x44_2), (47, uu x44_2)]) (by kernel_rfl) ?_
   obtain ⟨r20, r20_h, h⟩ := bS h
   refine XU.call kE [0, 5, 6, 11, 12, 43, 44, 48] rfl (K := 94) (F := Proofs.Tryd.f94) (args := [uu x44_2]) (d := (some (path 12 48))) (v := ii r20) (by kernel_rfl) (by kernel_rfl) rfl rfl (fun w hI => f94_ok m x44_2 r20 r20_h w hI) (σ' := [(0, .map (some 0)), (5, s0 2 lh2_2.length), (6, pp 3 0), (11, ii x11_2), (12, uu x44_2), (43, uu x43_2), (44, uu x44_2), (48, ii r20)]) (by kernel_rfl) ?_
   refine XU.run kE 1 1 [0, 5, 6, 11, 12, 43, 44, 48, 49] rfl (σ' := [(0, .map (some 0)), (5, s0 2 lh2_2.length), (6, pp 3 0), (11, ii x11_2), (12, uu x44_2), (43, uu x43_2), (44, uu x44_2), (48, ii r20), (49, s0 2 lh2_2.length)]) (by kernel_rfl) ?_
   cases b2 : (inRow 0 lh2_2.length : Bool) with
   | false => cases (cF b2 h)
   | true =>
    have h := cT b2 h
    refine XU.rd kE [0, 5, 6, 11, 12, 43, 44, 48, 50] rfl (v := pp 2 (0 * 1)) (v_idx (s := 1) (x := (src 85 (.tmp 49))) (y := (src 85 (.const (ii 0)))) (b := 2) (o := 0) (len := lh2_2.length) (cap := lh2_2.length) (ik := .i64) (i := 0) (off := 0 * 1) (d := (some (path 12 50))) (by kernel_rfl) (by kernel_rfl) (by kernel_rfl) b2 (by omega)) (σ' := [(0, .map (some 0)), (5, s0 2 lh2_2.length), (6, pp 3 0), (11, ii x11_2), (12, uu x44_2), (43, uu x43_2), (44, uu x44_2), (48, ii r20), (50, pp 2 (0 * 1))]) (by kernel_rfl) ?_
    refine XU.rd kE [0, 5, 6, 11, 12, 43, 44, 48, 51] rfl (v := ii (List.getD lh2_2 0 0)) (v_load1 (encI_ok .i64) (x := (src 85 (.tmp 50))) (b := 2) (off := 0 * 1) (xs := lh2_2) (fz := 0) (e := 3) (es := 1) (d := (some (path 12 51))) (by kernel_rfl) (by kernel_rfl) (by kernel_rfl) 0 0 0 (by first | with_reducible rfl | omega | rfl) (row_len (inRow_toNat b2) (by simp)) rfl rfl) (σ' := [(0, .map (some 0)), (5, s0 2 lh2_2.length), (6, pp 3 0), (11, ii x11_2), (12, uu x44_2), (43, uu x43_2), (44, uu x44_2), (48, ii r20), (51, ii (List.getD lh2_2 0 0))]) (by kernel_rfl) ?_
    refine XU.run kE 1 1 [0, 5, 6, 11, 12, 43, 44, 52] rfl (σ' := [(0, .map (some 0)), (5, s0 2 lh2_2.length), (6, pp 3 0), (11, ii x11_2), (12, uu x44_2), (43, uu x43_2), (44, uu x44_2), (52, .bool (r20 != (List.getD lh2_2 0 0)))]) (by kernel_rfl) ?_
    refine XU.done (by kernel_rfl) ?_
    show XQ _ _ _ _ _ _ _ _
    cases b3 : (r20 != (List.getD lh2_2 0 0) : Bool) with
    | true =>
     have h := cT b3 h
     refine iTk (.tmp 52) ?_
     refine XQ.exit (i := 3) (by kernel_rfl) ?_
     show XQ _ _ _ _ _ _ _ _
     refine rQk ?_
     refine rSk 2 [(0, .map (some 0)), (5, s0 2 lh2_2.length), (6, pp 3 0), (11, ii x11_2), (43, uu x43_2), (44, uu (IntKind.wrap .u64 (x44_2 + 1)))] ?_
     refine dQk ?_
     show XL _ _ _ _ _ _ _ _ _
     refine XL.conv (f72_2_ok m F hF fuel z1 y1 b x11_2 x43_2 (IntKind.wrap .u64 (x44_2 + 1)) mh0_2 lh2_2 lh3_2 o h Q hQ) (by first | with_reducible rfl | simp | rfl)
    | false =>
     have h := cF b3 h
     refine iFk (.tmp 52) ?_
     refine kQk ?_
     show XQ _ _ _ _ _ _ _ _
     refine qQk ?_
     refine rSk 1 [(0, .map (some 0)), (5, s0 2 lh2_2.length), (6, pp 3 0), (11, ii x11_2), (12, uu x44_2), (43, uu x43_2), (44, uu x44_2), (53, s0 2 lh2_2.length)] ?_
     cases b4 : (cutOK 1 ((lh2_2.length : Nat) : Int) ((lh2_2.length : Nat) : Int) lh2_2.length : Bool) with
     | false => cases (cF b4 h)
     | true =>
      have h := cT b4 h
      refine XR.rd kE [0, 5, 6, 11, 12, 43, 44, 54] rfl (v := sl 2 (1 * 1) (lh2_2.length - 1) (lh2_2.length - 1)) (v_cut (nt := 85) (s := 1) (x := (src 85 (.tmp 53))) (lo := (some (.const (ii 1)))) (hi := none) (mx := none) (b := 2) (o := 0) (len := lh2_2.length) (cap := lh2_2.length) (l := (some 1)) (u := none) (m := none) (cs := rowC (encI .i64) lh2_2) (fz := 0) (e := 3) (es := 1) (o' := 1 * 1) (len' := lh2_2.length - 1) (cap' := lh2_2.length - 1) (d := (some (path 12 54))) (by kernel_rfl) (by kernel_rfl) (by kernel_rfl) (by kernel_rfl) (by kernel_rfl) (by kernel_rfl) (by kernel_rfl) rfl b4 (by simp only [Option.getD_none, Option.getD_some] <;> omega) (by simp only [Option.getD_none, Option.getD_some] <;> omega) (by simp only [Option.getD_none, Option.getD_some] <;> omega)) (σ' := [(0, .map (some 0)), (5, s0 2 lh2_2.length), (6, pp 3 0), (11, ii x11_2), (12, uu x44_2), (43, uu x43_2), (44, uu x44_2), (54, sl 2 (1 * 1) (lh2_2.length - 1) (lh2_2.length - 1))]) (by kernel_rfl) ?_
      cases b5 : (decide (1 + (lh2_2.length - 1) ≤ lh2_2.length) : Bool) with
      | false => cases (cF b5 h)
      | true =>
       have h := cT b5 h
       cases b6 : (decide ((lh2_2.length - 1) ≤ (lh2_2.length - 1)) : Bool) with
       | false => cases (cF b6 h)
       | true =>
        have h := cT b6 h
        cases b7 : (fitsB (lh2_2.length - 1) 8 : Bool) with
        | false => cases (cF b7 h)
        | true =>
         have h := cT b7 h
         refine XR.call kE [0, 5, 6, 11, 12, 43, 44, 55] rfl (K := 55) (args := [sl 2 (1 * 1) (lh2_2.length - 1) (lh2_2.length - 1)]) (d := (some (path 12 55))) (by kernel_rfl) (clone55_part (xs := lh2_2) (fz := 0) (e0 := 3) (es0 := 1) (c := 4) 1 (by kernel_rfl) (by simp) b5 b6 b7) ?_
         rintro _ _ _ ⟨rfl, rfl, rfl⟩
         refine XR.conv (σ' := [(0, .map (some 0)), (5, s0 2 lh2_2.length), (6, pp 3 0), (11, ii x11_2), (12, uu x44_2), (43, uu x43_2), (44, uu x44_2), (55, s0 5 ((List.take (lh2_2.length - 1) (List.drop 1 lh2_2)).length))]) (h' := [(5, rI (List.take (lh2_2.length - 1) (List.drop 1 lh2_2))), (3, rK lh3_2), (2, rI lh2_2), (1, rc (encI .i64) b z1 y1 1), (0, iM mh0_2)]) (c' := 6) ?_ (by kernel_rfl)
         refine rSk 1 [(0, .map (some 0)), (5, s0 2 lh2_2.length), (6, pp 3 0), (11, ii x11_2), (12, uu x44_2), (13, s0 5 ((List.take (lh2_2.length - 1) (List.drop 1 lh2_2)).length)), (43, uu x43_2), (44, uu x44_2)] ?_
         refine dQk ?_
         show XQ _ _ _ _ _ _ _ _
         refine sQk ?_
         refine qQk ?_
         refine rSk 2 [(0, .map (some 0)), (5, s0 2 lh2_2.length), (6, pp 3 0), (11, ii x11_2), (13, s0 5 ((List.take (lh2_2.length - 1) (List.drop 1 lh2_2)).length)), (14, uu x44_2), (43, uu x43_2), (44, uu x44_2)] ?_
         refine dQk ?_
         show XQ _ _ _ _ _ _ _ _
         refine XQ.block (id := 4) (by kernel_rfl) ?_
         refine XQ.loop m (by kernel_rfl) ?_
         obtain ⟨o3, o3_h, h⟩ := bS h
         refine XL.ren (σ' := [(0, .map (some 0)), (5, s0 2 lh2_2.length), (6, pp 3 0), (11, ii x11_2), (13, s0 4 ((List.take (lh2_2.length - 1) (List.drop 1 lh2_2)).length)), (14, uu x44_2), (43, uu x43_2), (44, uu x44_2)]) (h' := [(4, rI (List.take (lh2_2.length - 1) (List.drop 1 lh2_2))), (3, rK lh3_2), (2, rI lh2_2), (1, rc (encI .i64) b z1 y1 1), (0, iM mh0_2)]) (c' := 5) [0, 1, 2, 3, 5] (by decide) rfl ⟨rfl, rfl, rfl, rfl, rfl, rfl, rfl, rfl, trivial⟩ ⟨⟨_, _, rfl, rfl, .inl ⟨rfl, rwI⟩⟩, ⟨_, _, rfl, rfl, .inl ⟨rfl, rwI⟩⟩, ⟨_, _, rfl, rfl, .inl ⟨rfl, rwI⟩⟩, ⟨_, _, rfl, rfl, .inl ⟨rfl, rwI⟩⟩, ⟨_, _, rfl, rfl, .inl ⟨rfl, trivial⟩⟩, trivial⟩ rfl ?_
         refine XL.conv (f72_3_ok m m z1 y1 b x11_2 x43_2 x44_2 mh0_2 lh2_2 lh3_2 x44_2 (List.take (lh2_2.length - 1) (List.drop 1 lh2_2)) o3 o3_h _ ?_) (by first | with_reducible rfl | simp | rfl)
         show XQ _ _ _ _ _ _ _ _
         refine qQk ?_
         refine rTk 2 [(0, .map (some 0)), (5, s0 2 lh2_2.length), (6, pp 3 0), (11, ii x11_2), (13, s0 4 o3.length), (43, uu x43_2), (44, uu x44_2), (70, s0 4 o3.length), (71, s0 5 1)] [(5, .cells [ii 0] 0 3 1), (4, rI o3), (3, rK lh3_2), (2, rI lh2_2), (1, rc (encI .i64) b z1 y1 1), (0, iM mh0_2)] 6 ?_
         cases b9 : (decide (1 ≤ o3.length) : Bool) with
         | true =>
          have h := cT b9 h
          cases b10 : (fitsB (o3.length + 1) 8 : Bool) with
          | false => cases (cF b10 h)
          | true =>
           have h := cT b10 h
           refine XR.ef kE [0, 5, 6, 11, 13, 43, 44, 72] rfl (e_appendK (encI_ok .i64) (bytes := 8) (e := 3) (x := (src 85 (.tmp 70))) (y := (src 85 (.tmp 71))) (b := 4) (len := o3.length) (cap := o3.length) (xs := o3) (m := 0) (ys := [0]) (d := (some (path 12 72))) (n' := (o3 ++ [0]).length) (h' := [(6, rI (o3 ++ [0])), (5, .cells [ii 0] 0 3 1), (4, .was (rowC (encI .i64) o3) 6 0 3 1), (3, rK lh3_2), (2, rI lh2_2), (1, rc (encI .i64) b z1 y1 1), (0, iM mh0_2)]) (by kernel_rfl) (by kernel_rfl) (by kernel_rfl) (by kernel_rfl) rfl (by simp) (by simp) b9 b10 (by simp) (by kernel_rfl)) (σ' := [(0, .map (some 0)), (5, s0 2 lh2_2.length), (6, pp 3 0), (11, ii x11_2), (13, s0 4 o3.length), (43, uu x43_2), (44, uu x44_2), (72, s0 6 ((o3 ++ [0]).length))]) (by kernel_rfl) ?_
           obtain ⟨r21, r21_h, h⟩ := bS h
           refine XR.call kE [0, 5, 6, 11, 13, 43, 44, 73] rfl (K := 97) (args := [s0 6 ((o3 ++ [0]).length)]) (d := (some (path 12 73))) (by kernel_rfl) (KQ.call (KC.quiet kE (args0 := [s0 0 ((o3 ++ [0]).length)]) (h0 := [(0, rc (encI .i64) (o3 ++ [0]) (0 + ((rowC (encI .i64) (o3 ++ [0])).length + 1)) 3 1)]) (n := 1) (V := ii r21) [6] (KC.keep (f97_ok m (0 + ((rowC (encI .i64) (o3 ++ [0])).length + 1)) 3 (o3 ++ [0]) r21 r21_h)) rfl (by rfl) (by decide) rfl (by kernel_rfl) ⟨⟨_, _, rfl, rfl, .inl ⟨rfl, rwI⟩⟩, trivial⟩) rfl) ?_
           rintro _ _ _ ⟨rfl, rfl, rfl⟩
           refine XR.conv (σ' := [(0, .map (some 0)), (5, s0 2 lh2_2.length), (6, pp 3 0), (11, ii x11_2), (13, s0 4 o3.length), (43, uu x43_2), (44, uu x44_2), (73, ii r21)]) (h' := [(6, rI (o3 ++ [0])), (5, .cells [ii 0] 0 3 1), (4, .was (rowC (encI .i64) o3) 6 0 3 1), (3, rK lh3_2), (2, rI lh2_2), (1, rc (encI .i64) b z1 y1 1), (0, iM mh0_2)]) (c' := 7) ?_ (by kernel_rfl)
           refine rSk 1 [(0, .map (some 0)), (5, s0 2 lh2_2.length), (6, pp 3 0), (11, ii x11_2), (13, s0 4 o3.length), (43, uu x43_2), (44, uu x44_2), (74, .bool (decide (r21 ≥ 0)))] ?_
           refine dQk ?_
           show XQ _ _ _ _ _ _ _ _
           refine XQ.backR (encI_ok .i64) rfl 4 6 (xs := o3) (ys := [0]) (e := 3) (h' := [(5, .cells [ii 0] 0 3 1), (4, rI o3), (3, rK lh3_2), (2, rI lh2_2), (1, rc (encI .i64) b z1 y1 1), (0, iM mh0_2)]) (by kernel_rfl) (by kernel_rfl) (by kernel_rfl) ?_
           cases b11 : (decide (r21 ≥ 0) : Bool) with
           | true =>
            have h := cT b11 h
            refine iTk (.tmp 74) ?_
            refine rQk ?_
            refine rSk 3 [(0, .map (some 0)), (5, s0 2 lh2_2.length), (6, pp 3 0), (43, uu x43_2), (44, uu x44_2), (75, ii x11_2), (76, .map (some 0)), (77, s0 4 o3.length)] ?_
            obtain ⟨r23, r23_h, h⟩ := bS h
            refine XR.call kE [0, 5, 6, 43, 44, 75, 78] rfl (K := 72) (args := [.map (some 0), s0 4 o3.length]) (d := (some (path 12 78))) (by kernel_rfl) (KC.liftM (n0 := 2) (b := 0) (i0 := 0) (args0 := [.map (some 0), s0 1 o3.length]) (h0 := [(1, rc (encI .i64) o3 (0 + ((rowC (encI .i64) o3).length + 1)) 3 1), (0, iM mh0_2)]) (V := ii r23.1) (h2 := [(5, .cells [ii 0] 0 3 1), (4, rI o3), (3, rK lh3_2), (2, rI lh2_2), (1, rc (encI .i64) b z1 y1 1), (0, iM r23.2)]) [0, 4] (KC.keep (hF (0 + ((rowC (encI .i64) o3).length + 1)) 3 mh0_2 o3 r23 r23_h)) rfl (by rfl) (by decide) rfl (by kernel_rfl) (by kernel_rfl) rfl ⟨⟨_, _, rfl, rfl, .inl ⟨rfl, rwI⟩⟩, ⟨_, _, rfl, rfl, .inl ⟨rfl, trivial⟩⟩, trivial⟩ (by kernel_rfl)) ?_
            rintro _ _ _ ⟨rfl, rfl, rfl⟩
            refine XR.conv (σ' := [(0, .map (some 0)), (5, s0 2 lh2_2.length), (6, pp 3 0), (43, uu x43_2), (44, uu x44_2), (75, ii x11_2), (78, ii r23.1)]) (h' := [(5, .cells [ii 0] 0 3 1), (4, rI o3), (3, rK lh3_2), (2, rI lh2_2), (1, rc (encI .i64) b z1 y1 1), (0, iM r23.2)]) (c' := 7) ?_ (by kernel_rfl)
            refine rSk 2 [(0, .map (some 0)), (5, s0 2 lh2_2.length), (6, pp 3 0), (11, ii (w64 (x11_2 + r23.1))), (43, uu x43_2), (44, uu x44_2)] ?_
            refine dQk ?_
            show XQ _ _ _ _ _ _ _ _
            refine rQk ?_
            refine rSk 2 [(0, .map (some 0)), (5, s0 2 lh2_2.length), (6, pp 3 0), (11, ii (w64 (x11_2 + r23.1))), (43, uu x43_2), (44, uu (IntKind.wrap .u64 (x44_2 + 1)))] ?_
            refine dQk ?_
            show XL _ _ _ _ _ _ _ _ _
            refine XL.ren (σ' := [(0, .map (some 0)), (5, s0 2 lh2_2.length), (6, pp 3 0), (11, ii (w64 (x11_2 + r23.1))), (43, uu x43_2), (44, uu (IntKind.wrap .u64 (x44_2 + 1)))]) (h' := [(3, rK lh3_2), (2, rI lh2_2), (1, rc (encI .i64) b z1 y1 1), (0, iM r23.2)]) (c' := 4) [0, 1, 2, 3] (by decide) rfl ⟨rfl, rfl, rfl, rfl, rfl, rfl, trivial⟩ ⟨⟨_, _, rfl, rfl, .inl ⟨rfl, rwI⟩⟩, ⟨_, _, rfl, rfl, .inl ⟨rfl, rwI⟩⟩, ⟨_, _, rfl, rfl, .inl ⟨rfl, rwI⟩⟩, ⟨_, _, rfl, rfl, .inl ⟨rfl, trivial⟩⟩, trivial⟩ rfl ?_
            refine XL.conv (f72_2_ok m F hF fuel z1 y1 b (w64 (x11_2 + r23.1)) x43_2 (IntKind.wrap .u64 (x44_2 + 1)) r23.2 lh2_2 lh3_2 o h Q hQ) (by first | with_reducible rfl | simp | rfl)
           | false =>
            have h := cF b11 h
            refine iFk (.tmp 74) ?_
            refine kQk ?_
            show XQ _ _ _ _ _ _ _ _
            refine rQk ?_
            refine rSk 2 [(0, .map (some 0)), (5, s0 2 lh2_2.length), (6, pp 3 0), (11, ii x11_2), (43, uu x43_2), (44, uu (IntKind.wrap .u64 (x44_2 + 1)))] ?_
            refine dQk ?_
            show XL _ _ _ _ _ _ _ _ _
            refine XL.ren (σ' := [(0, .map (some 0)), (5, s0 2 lh2_2.length), (6, pp 3 0), (11, ii x11_2), (43, uu x43_2), (44, uu (IntKind.wrap .u64 (x44_2 + 1)))]) (h' := [(3, rK lh3_2), (2, rI lh2_2), (1, rc (encI .i64) b z1 y1 1), (0, iM mh0_2)]) (c' := 4) [0, 1, 2, 3] (by decide) rfl ⟨rfl, rfl, rfl, rfl, rfl, rfl, trivial⟩ ⟨⟨_, _, rfl, rfl, .inl ⟨rfl, rwI⟩⟩, ⟨_, _, rfl, rfl, .inl ⟨rfl, rwI⟩⟩, ⟨_, _, rfl, rfl, .inl ⟨rfl, rwI⟩⟩, ⟨_, _, rfl, rfl, .inl ⟨rfl, trivial⟩⟩, trivial⟩ rfl ?_
            refine XL.conv (f72_2_ok m F hF fuel z1 y1 b x11_2 x43_2 (IntKind.wrap .u64 (x44_2 + 1)) mh0_2 lh2_2 lh3_2 o h Q hQ) (by first | with_reducible rfl | simp | rfl)
         | false =>
          have h := cF b9 h
          have hz := nil_of_len b9
          subst hz
          refine XR.conv (σ' := [(0, .map (some 0)), (5, s0 2 lh2_2.length), (6, pp 3 0), (11, ii x11_2), (13, s0 4 0), (43, uu x43_2), (44, uu x44_2), (70, s0 4 0), (71, s0 5 1)]) (h' := [(5, .cells [ii 0] 0 3 1), (4, rI []), (3, rK lh3_2), (2, rI lh2_2), (1, rc (encI .i64) b z1 y1 1), (0, iM mh0_2)]) (c' := 6) ?_ (by kernel_rfl)
          refine rTk 1 [(0, .map (some 0)), (5, s0 2 lh2_2.length), (6, pp 3 0), (11, ii x11_2), (13, s0 4 0), (43, uu x43_2), (44, uu x44_2), (72, s0 6 1)] [(6, .cells [ii 0] 0 3 1), (5, .cells [ii 0] 0 3 1), (3, rK lh3_2), (2, rI lh2_2), (1, rc (encI .i64) b z1 y1 1), (0, iM mh0_2)] 7 ?_
          obtain ⟨r24, r24_h, h⟩ := bS h
          refine XR.call kE [0, 5, 6, 11, 13, 43, 44, 73] rfl (K := 97) (args := [s0 6 1]) (d := (some (path 12 73))) (by kernel_rfl) (KQ.call (KC.quiet kE (args0 := [s0 0 1]) (h0 := [(0, rc (encI .i64) [0] (0 + ((rowC (encI .i64) [0]).length + 1)) 3 1)]) (n := 1) (V := ii r24) [6] (KC.keep (f97_ok m (0 + ((rowC (encI .i64) [0]).length + 1)) 3 [0] r24 r24_h)) rfl (by rfl) (by decide) rfl (by kernel_rfl) ⟨⟨_, _, rfl, rfl, .inl ⟨rfl, rwI⟩⟩, trivial⟩) rfl) ?_
          rintro _ _ _ ⟨rfl, rfl, rfl⟩
          refine XR.conv (σ' := [(0, .map (some 0)), (5, s0 2 lh2_2.length), (6, pp 3 0), (11, ii x11_2), (13, s0 4 0), (43, uu x43_2), (44, uu x44_2), (73, ii r24)]) (h' := [(6, rI [0]), (5, .cells [ii 0] 0 3 1), (3, rK lh3_2), (2, rI lh2_2), (1, rc (encI .i64) b z1 y1 1), (0, iM mh0_2)]) (c' := 7) ?_ (by kernel_rfl)
          refine rSk 1 [(0, .map (some 0)), (5, s0 2 lh2_2.length), (6, pp 3 0), (11, ii x11_2), (13, s0 4 0), (43, uu x43_2), (44, uu x44_2), (74, .bool (decide (r24 ≥ 0)))] ?_
          refine dQk ?_
          show XQ _ _ _ _ _ _ _ _
          cases b12 : (decide (r24 ≥ 0) : Bool) with
          | true =>
           have h := cT b12 h
           refine iTk (.tmp 74) ?_
           refine rQk ?_
           refine rSk 3 [(0, .map (some 0)), (5, s0 2 lh2_2.length), (6, pp 3 0), (43, uu x43_2), (44, uu x44_2), (75, ii x11_2), (76, .map (some 0)), (77, s0 4 0)] ?_
           refine XR.callK kE [0, 5, 6, 43, 44, 75, 78] rfl (K := 72) (args := [.map (some 0), s0 4 0]) (d := (some (path 12 78))) (by kernel_rfl) ?_
           refine KC.bodyN kE (F := Proofs.Tryd.f72) (by kernel_rfl) (code := f72_C72) (by kernel_rfl) (nt := 85) (by kernel_rfl) (rs := [.tmp 4]) (by kernel_rfl) (by kernel_rfl) (σ := [(0, .map (some 0)), (1, s0 4 0)]) (by kernel_rfl) ?_
           refine qQk ?_
           refine rSk 1 [(0, .map (some 0)), (1, s0 4 0)] ?_
           refine nQk id ?_
           refine rSk 1 [(0, .map (some 0)), (15, s0 4 0)] ?_
           refine XR.callK kE [0, 16] rfl (K := 61) (args := [s0 4 0]) (d := (some (path 12 16))) (by kernel_rfl) ?_
           refine KC.bodyN kE (F := Proofs.Tryd.f61) (by kernel_rfl) (code := f72_C61) (by kernel_rfl) (nt := 10) (by kernel_rfl) (rs := [.tmp 2]) (by kernel_rfl) (by kernel_rfl) (σ := [(0, s0 4 0)]) (by kernel_rfl) ?_
           refine qQk ?_
           refine rSk 1 [(0, s0 4 0)] ?_
           refine nQk id ?_
           refine rSk 1 [(4, s0 4 0)] ?_
           refine XR.callK kE [5] rfl (K := 82) (args := [s0 4 0]) (d := (some (path 12 5))) (by kernel_rfl) ?_
           refine KC.bodyN kE (F := Proofs.Tryd.f82) (by kernel_rfl) (code := f72_C82) (by kernel_rfl) (nt := 4) (by kernel_rfl) (rs := [.tmp 2]) (by kernel_rfl) (by kernel_rfl) (σ := [(0, s0 4 0)]) (by kernel_rfl) ?_
           refine qQk ?_
           refine rTk 2 [(1, pp 7 0)] [(7, .cells [s0 4 0] 0 22 0), (6, rI [0]), (5, .cells [ii 0] 0 3 1), (3, rK lh3_2), (2, rI lh2_2), (1, rc (encI .i64) b z1 y1 1), (0, iM mh0_2)] 8 ?_
           refine nQk id ?_
           refine rSk 2 [(2, .func (.func 105) #[] #[pp 7 0])] ?_
           refine dQk ?_
           show XQ _ _ _ _ _ _ _ _
           refine XQ.ret (by kernel_rfl) ?_
           refine ⟨fun i q => (by cases q), .func (.func 105) #[] #[pp 7 0], (by kernel_rfl), ?_⟩
           refine XR.conv (σ' := [(5, .func (.func 105) #[] #[pp 7 0])]) (h' := [(7, .cells [s0 4 0] 0 22 0), (6, rI [0]), (5, .cells [ii 0] 0 3 1), (3, rK lh3_2), (2, rI lh2_2), (1, rc (encI .i64) b z1 y1 1), (0, iM mh0_2)]) (c' := 8) ?_ (by kernel_rfl)
           refine XR.call kE [6] rfl (K := 81) (args := [.func (.func 105) #[] #[pp 7 0]]) (d := (some (path 12 6))) (by kernel_rfl) (KC.keep <| sorted_row (c := 8) (b := 7) (V := s0 4 0) (ys := []) (n := 0) (fz1 := 0) (e1 := 22) (es1 := 0) (by kernel_rfl) rfl (by kernel_rfl) (by kernel_rfl)) ?_
           rintro _ _ _ ⟨rfl, rfl, rfl⟩
           refine XR.conv (σ' := [(6, s0 8 0)]) (h' := [(8, rI []), (7, .cells [s0 4 0] 0 22 0), (6, rI [0]), (5, .cells [ii 0] 0 3 1), (3, rK lh3_2), (2, rI lh2_2), (1, rc (encI .i64) b z1 y1 1), (0, iM mh0_2)]) (c' := 9) ?_ (by kernel_rfl)
           refine rSk 1 [(3, s0 8 0)] ?_
           refine nQk id ?_
           refine rSk 1 [(3, s0 8 0), (7, s0 8 0)] ?_
           refine XR.callK kE [3] rfl (K := 83) (args := [s0 8 0]) (d := (some (path 12 8))) (by kernel_rfl) ?_
           refine KC.bodyN kE (F := Proofs.Tryd.f83) (by kernel_rfl) (code := f72_C83) (by kernel_rfl) (nt := 28) (by kernel_rfl) (rs := []) (by kernel_rfl) (by kernel_rfl) (σ := [(0, s0 8 0)]) (by kernel_rfl) ?_
           refine qQk ?_
           refine rSk 5 [(0, s0 8 0), (2, ii 0), (3, ii (-1))] ?_
           refine dQk ?_
           show XQ _ _ _ _ _ _ _ _
           refine XQ.block (id := 0) (by kernel_rfl) ?_
           refine XQ.loop m (by kernel_rfl) ?_
           obtain ⟨o4, o4_h, h⟩ := bS h
           refine XL.conv (f72_4_ok m m z1 y1 b mh0_2 lh2_2 lh3_2 [0] o4 o4_h _ ?_) (by first | with_reducible rfl | simp | rfl)
           refine ⟨fun i q => (by cases q), .tuple #[], (by kernel_rfl), ?_⟩
           refine XR.conv (σ' := [(3, s0 8 0)]) (h' := [(8, rI []), (7, .cells [s0 4 0] 0 22 0), (6, rI o4), (5, .cells [ii 0] 0 3 1), (3, rK lh3_2), (2, rI lh2_2), (1, rc (encI .i64) b z1 y1 1), (0, iM mh0_2)]) (c' := 9) ?_ (by kernel_rfl)
           refine nQk id ?_
           refine rSk 2 [(2, s0 8 0)] ?_
           refine dQk ?_
           show XQ _ _ _ _ _ _ _ _
           refine XQ.ret (by kernel_rfl) ?_
           refine ⟨fun i q => (by cases q), s0 8 0, (by kernel_rfl), ?_⟩
           refine XR.conv (σ' := [(0, .map (some 0)), (16, s0 8 0)]) (h' := [(8, rI []), (7, .cells [s0 4 0] 0 22 0), (6, rI o4), (5, .cells [ii 0] 0 3 1), (3, rK lh3_2), (2, rI lh2_2), (1, rc (encI .i64) b z1 y1 1), (0, iM mh0_2)]) (c' := 9) ?_ (by kernel_rfl)
           refine rSk 1 [(0, .map (some 0)), (5, s0 8 0)] ?_
           refine dQk ?_
           show XQ _ _ _ _ _ _ _ _
           refine sQk ?_
           refine qQk ?_
           refine rSk 3 [(0, .map (some 0)), (5, s0 8 0), (19, .bool true)] ?_
           refine dQk ?_
           show XQ _ _ _ _ _ _ _ _
           refine iTk (.tmp 19) ?_
           refine qQk ?_
           refine rSk 1 [(4, ii 1)] ?_
           refine dQk ?_
           show XQ _ _ _ _ _ _ _ _
           refine XQ.ret (by kernel_rfl) ?_
           refine ⟨fun i q => (by cases q), ii 1, (by kernel_rfl), ?_⟩
           refine XR.conv (σ' := [(0, .map (some 0)), (5, s0 2 lh2_2.length), (6, pp 3 0), (43, uu x43_2), (44, uu x44_2), (75, ii x11_2), (78, ii 1)]) (h' := [(8, rI []), (7, .cells [s0 4 0] 0 22 0), (6, rI o4), (5, .cells [ii 0] 0 3 1), (3, rK lh3_2), (2, rI lh2_2), (1, rc (encI .i64) b z1 y1 1), (0, iM mh0_2)]) (c' := 9) ?_ (by kernel_rfl)
           refine rSk 2 [(0, .map (some 0)), (5, s0 2 lh2_2.length), (6, pp 3 0), (11, ii (w64 (x11_2 + 1))), (43, uu x43_2), (44, uu x44_2)] ?_
           refine dQk ?_
           show XQ _ _ _ _ _ _ _ _
           refine rQk ?_
           refine rSk 2 [(0, .map (some 0)), (5, s0 2 lh2_2.length), (6, pp 3 0), (11, ii (w64 (x11_2 + 1))), (43, uu x43_2), (44, uu (IntKind.wrap .u64 (x44_2 + 1)))] ?_
           refine dQk ?_
           show XL _ _ _ _ _ _ _ _ _
           refine XL.ren (σ' := [(0, .map (some 0)), (5, s0 2 lh2_2.length), (6, pp 3 0), (11, ii (w64 (x11_2 + 1))), (43, uu x43_2), (44, uu (IntKind.wrap .u64 (x44_2 + 1)))]) (h' := [(3, rK lh3_2), (2, rI lh2_2), (1, rc (encI .i64) b z1 y1 1), (0, iM mh0_2)]) (c' := 4) [0, 1, 2, 3] (by decide) rfl ⟨rfl, rfl, rfl, rfl, rfl, rfl, trivial⟩ ⟨⟨_, _, rfl, rfl, .inl ⟨rfl, rwI⟩⟩, ⟨_, _, rfl, rfl, .inl ⟨rfl, rwI⟩⟩, ⟨_, _, rfl, rfl, .inl ⟨rfl, rwI⟩⟩, ⟨_, _, rfl, rfl, .inl ⟨rfl, trivial⟩⟩, trivial⟩ rfl ?_
           refine XL.conv (f72_2_ok m F hF fuel z1 y1 b (w64 (x11_2 + 1)) x43_2 (IntKind.wrap .u64 (x44_2 + 1)) mh0_2 lh2_2 lh3_2 o h Q hQ) (by first | with_reducible rfl | simp | rfl)
          | false =>
           have h := cF b12 h
           refine iFk (.tmp 74) ?_
           refine kQk ?_
           show XQ _ _ _ _ _ _ _ _
           refine rQk ?_
           refine rSk 2 [(0, .map (some 0)), (5, s0 2 lh2_2.length), (6, pp 3 0), (11, ii x11_2), (43, uu x43_2), (44, uu (IntKind.wrap .u64 (x44_2 + 1)))] ?_
           refine dQk ?_
           show XL _ _ _ _ _ _ _ _ _
           refine XL.ren (σ' := [(0, .map (some 0)), (5, s0 2 lh2_2.length), (6, pp 3 0), (11, ii x11_2), (43, uu x43_2), (44, uu (IntKind.wrap .u64 (x44_2 + 1)))]) (h' := [(3, rK lh3_2), (2, rI lh2_2), (1, rc (encI .i64) b z1 y1 1), (0, iM mh0_2)]) (c' := 4) [0, 1, 2, 3] (by decide) rfl ⟨rfl, rfl, rfl, rfl, rfl, rfl, trivial⟩ ⟨⟨_, _, rfl, rfl, .inl ⟨rfl, rwI⟩⟩, ⟨_, _, rfl, rfl, .inl ⟨rfl, rwI⟩⟩, ⟨_, _, rfl, rfl, .inl ⟨rfl, rwI⟩⟩, ⟨_, _, rfl, rfl, .inl ⟨rfl, trivial⟩⟩, trivial⟩ rfl ?_
           refine XL.conv (f72_2_ok m F hF fuel z1 y1 b x11_2 x43_2 (IntKind.wrap .u64 (x44_2 + 1)) mh0_2 lh2_2 lh3_2 o h Q hQ) (by first | with_reducible rfl | simp | rfl)
  | false =>
   have h := cF b1 h
   refine iFk (.tmp 45) ?_
   refine XQ.ren (σ' := [(0, .map (some 0)), (6, pp 2 0), (11, ii x11_2)]) (h' := [(2, rK lh3_2), (1, rc (encI .i64) b z1 y1 1), (0, iM mh0_2)]) (c' := 3) [0, 1, 3] (by decide) rfl ⟨rfl, rfl, rfl, trivial⟩ ⟨⟨_, _, rfl, rfl, .inl ⟨rfl, rwI⟩⟩, ⟨_, _, rfl, rfl, .inl ⟨rfl, rwI⟩⟩, ⟨_, _, rfl, rfl, .inl ⟨rfl, trivial⟩⟩, trivial⟩ rfl ?_
   refine XQ.exit (i := 2) (by kernel_rfl) ?_
   cases h
   exact hQ
def f72 (m : Nat) : Nat → (List (List Int × Int)) → (List Int) → Option (Int × (List (List Int × Int)))
 | 0, _, _ => none
 | fuel + 1, a, b =>
  (f61 m b).bind fun r1 =>
   cond (((r1.length : Nat) : Int) == 0) (
    some (1, a)
   ) (
    (f72_1 m m a b ((r1.length : Nat) : Int) 0 r1 [0, 0, 0, 0, 0, 0, 0, 0]).bind fun o1 =>
     cond (decide (o1.2.length = 8)) (
      cond (Nat.beq o1.2.length 8 && lensA 8 a) (
       cond (hasA a o1.2) (
        some (getA 0 a o1.2, a)
       ) (
        cond (decide (0 ≤ w64 (((o1.1.length : Nat) : Int) - 1))) (
         (f72_2 m (f72 m fuel) m b 0 (shV true .u64 1 (w64 (((o1.1.length : Nat) : Int) - 1))) 0 a o1.1 o1.2).bind fun o2 =>
          cond (decide (o2.2.2.length = 8)) (
           cond (Nat.beq o2.2.2.length 8 && lensA 8 o2.2.1) (
            some (o2.1, putA o2.2.1 o2.2.2 o2.1)
           ) none
          ) none
        ) none
       )
      ) none
     ) none
   )
theorem f72_ok (m : Nat) : ∀ (fuel : Nat) (z1 : Nat) (y1 : Nat) (a : List (List Int × Int)) (b : List Int) (o : Int × (List (List Int × Int))), f72 m fuel a b = some o → KC E0 72 [.map (some 0), s0 1 b.length] [(1, rc (encI .i64) b z1 y1 1), (0, iM a)] 2 (fun v h' _ => v = ii o.1 ∧ hget h' 0 = some (iM o.2))
 | 0, z1, y1, a, b, o, h => by cases h
 | fuel + 1, z1, y1, a, b, o, h => by
  refine KC.unkeep ?_
  refine KC.bodyN kE (F := Proofs.Tryd.f72) (by kernel_rfl) (code := f72_C72) (by kernel_rfl) (nt := 85) (by kernel_rfl) (rs := [.tmp 4]) (by kernel_rfl) (by kernel_rfl) (σ := [(0, .map (some 0)), (1, s0 1 b.length)]) (by kernel_rfl) ?_
  unfold f72 at h
  refine qQk ?_
  refine rSk 1 [(0, .map (some 0)), (1, s0 1 b.length)] ?_
  refine nQk id ?_
  refine rSk 1 [(0, .map (some 0)), (15, s0 1 b.length)] ?_
  obtain ⟨r1, r1_h, h⟩ := bS h
  refine XR.call kE [0, 16] rfl (K := 61) (args := [s0 1 b.length]) (d := (some (path 12 16))) (by kernel_rfl) (KC.liftH (n0 := 1) (m := 1) (args0 := [s0 0 b.length]) (h0 := [(0, rc (encI .i64) b (z1 + ((rowC (encI .i64) b).length + 1)) y1 1)]) (V := s0 1 r1.length) (V2 := s0 2 r1.length) (H := [(1, rI r1)]) (H2 := [(2, rI r1)]) [1] [2, 3, 1] (KC.keep (f61_ok m (z1 + ((rowC (encI .i64) b).length + 1)) y1 b r1 r1_h)) (by rfl) (by decide) rfl (by kernel_rfl) ⟨⟨_, _, rfl, rfl, .inl ⟨rfl, rwI⟩⟩, trivial⟩ (by decide) (by decide) (by kernel_rfl) ⟨⟨_, _, rfl, rfl, .inl ⟨rfl, rwI⟩⟩, trivial⟩ (by rfl)) ?_
  rintro _ _ _ ⟨rfl, rfl, rfl⟩
  refine XR.conv (σ' := [(0, .map (some 0)), (16, s0 2 r1.length)]) (h' := [(2, rI r1), (1, rc (encI .i64) b z1 y1 1), (0, iM a)]) (c' := 3) ?_ (by kernel_rfl)
  refine rSk 1 [(0, .map (some 0)), (5, s0 2 r1.length)] ?_
  refine dQk ?_
  show XQ _ _ _ _ _ _ _ _
  refine sQk ?_
  refine qQk ?_
  refine rSk 3 [(0, .map (some 0)), (5, s0 2 r1.length), (19, .bool (((r1.length : Nat) : Int) == 0))] ?_
  refine dQk ?_
  show XQ _ _ _ _ _ _ _ _
  cases b1 : (((r1.length : Nat) : Int) == 0 : Bool) with
  | true =>
   have h := cT b1 h
   refine iTk (.tmp 19) ?_
   refine qQk ?_
   refine rSk 1 [(4, ii 1)] ?_
   refine dQk ?_
   show XQ _ _ _ _ _ _ _ _
   refine XQ.ret (by kernel_rfl) ?_
   have h := Option.some.inj h
   subst h
   exact ⟨fun i q => (by cases q), ii 1, (by kernel_rfl), rfl, (by kernel_rfl)⟩
  | false =>
   have h := cF b1 h
   refine iFk (.tmp 19) ?_
   refine kQk ?_
   show XQ _ _ _ _ _ _ _ _
   refine qQk ?_
   refine rTk 1 [(0, .map (some 0)), (5, s0 2 r1.length), (6, pp 3 0)] [(3, .cells [ii 0, ii 0, ii 0, ii 0, ii 0, ii 0, ii 0, ii 0] 0 123 0), (2, rI r1), (1, rc (encI .i64) b z1 y1 1), (0, iM a)] 4 ?_
   refine dQk ?_
   show XQ _ _ _ _ _ _ _ _
   refine sQk ?_
   refine qQk ?_
   refine rSk 3 [(0, .map (some 0)), (5, s0 2 r1.length), (6, pp 3 0), (20, s0 2 r1.length), (21, ii ((r1.length : Nat) : Int)), (22, ii 0)] ?_
   refine dQk ?_
   show XQ _ _ _ _ _ _ _ _
   refine XQ.block (id := 0) (by kernel_rfl) ?_
   refine XQ.loop m (by kernel_rfl) ?_
   obtain ⟨o1, o1_h, h⟩ := bS h
   refine XL.conv (σ' := [(0, .map (some 0)), (5, s0 2 r1.length), (6, pp 3 0), (20, s0 2 r1.length), (21, ii ((r1.length : Nat) : Int)), (22, ii 0)]) (h' := [(3, rK [0, 0, 0, 0, 0, 0, 0, 0]), (2, rI r1), (1, rc (encI .i64) b z1 y1 1), (0, iM a)]) (c' := 4) ?_ (by kernel_rfl)
   refine XL.conv (f72_1_ok m m a z1 y1 b ((r1.length : Nat) : Int) 0 r1 [0, 0, 0, 0, 0, 0, 0, 0] o1 o1_h _ ?_) (by first | with_reducible rfl | simp | rfl)
   show XQ _ _ _ _ _ _ _ _
   refine sQk ?_
   refine qQk ?_
   refine rSk 1 [(0, .map (some 0)), (5, s0 2 o1.1.length), (6, pp 3 0), (33, .map (some 0))] ?_
   cases b3 : (decide (o1.2.length = 8) : Bool) with
   | false => cases (cF b3 h)
   | true =>
    have h := cT b3 h
    refine XR.rd kE [0, 5, 6, 33, 34] rfl (v := .agg (rowC (encI .i64) o1.2).toArray) (v_loadA (n := 8) (x := (src 85 (.tmp 6))) (b := 3) (L := o1.2) (fz := 0) (e := 123) (es := 0) (d := (some (path 12 34))) (by kernel_rfl) (by kernel_rfl) (by kernel_rfl) b3) (σ' := [(0, .map (some 0)), (5, s0 2 o1.1.length), (6, pp 3 0), (33, .map (some 0)), (34, .agg (rowC (encI .i64) o1.2).toArray)]) (by kernel_rfl) ?_
    cases b4 : (Nat.beq o1.2.length 8 && lensA 8 a : Bool) with
    | false => cases (cF b4 h)
    | true =>
     have h := cT b4 h
     refine XR.rd kE [0, 5, 6, 35] rfl (v := .tuple #[ii (getA 0 a o1.2), .bool (hasA a o1.2)]) (v_mgetAo (Value.int .i64) (n := 8) (x := (src 85 (.tmp 33))) (i := (src 85 (.tmp 34))) (z := .int .i64 0) (d := (some (path 12 35))) (b := 0) (k := o1.2) (l := a) (d0 := 0) (by kernel_rfl) (by kernel_rfl) (by kernel_rfl) rfl (by kernel_rfl) b4 rfl rfl rfl) (σ' := [(0, .map (some 0)), (5, s0 2 o1.1.length), (6, pp 3 0), (35, .tuple #[ii (getA 0 a o1.2), .bool (hasA a o1.2)])]) (by kernel_rfl) ?_
     refine rSk 5 [(0, .map (some 0)), (5, s0 2 o1.1.length), (6, pp 3 0), (9, ii (getA 0 a o1.2)), (10, .bool (hasA a o1.2))] ?_
     refine nQk id ?_
     refine rSk 1 [(0, .map (some 0)), (5, s0 2 o1.1.length), (6, pp 3 0), (9, ii (getA 0 a o1.2)), (38, .bool (hasA a o1.2))] ?_
     refine dQk ?_
     show XQ _ _ _ _ _ _ _ _
     cases b5 : (hasA a o1.2 : Bool) with
     | true =>
      have h := cT b5 h
      refine iTk (.tmp 38) ?_
      refine qQk ?_
      refine rSk 2 [(4, ii (getA 0 a o1.2))] ?_
      refine dQk ?_
      show XQ _ _ _ _ _ _ _ _
      refine XQ.ret (by kernel_rfl) ?_
      have h := Option.some.inj h
      subst h
      exact ⟨fun i q => (by cases q), ii (getA 0 a o1.2), (by kernel_rfl), rfl, (by kernel_rfl)⟩
     | false =>
      have h := cF b5 h
      refine iFk (.tmp 38) ?_
      refine kQk ?_
      show XQ _ _ _ _ _ _ _ _
      refine qQk ?_
      refine rSk 1 [(0, .map (some 0)), (5, s0 2 o1.1.length), (6, pp 3 0), (11, ii 0)] ?_
      refine dQk ?_
      show XQ _ _ _ _ _ _ _ _
      refine sQk ?_
      refine qQk ?_
      refine rSk 3 [(0, .map (some 0)), (5, s0 2 o1.1.length), (6, pp 3 0), (11, ii 0), (42, ii (w64 (((o1.1.length : Nat) : Int) - 1)))] ?_
      cases b6 : (decide (0 ≤ w64 (((o1.1.length : Nat) : Int) - 1)) : Bool) with
      | false => cases (cF b6 h)
      | true =>
       have h := cT b6 h
       have e7 : insV (headI ((gsOf (keepEnv E0) 85 (opsOf (lft (lft (rgt (rgt (rgt (rgt (rgt (rgt (rgt f72_C72))))))))))).drop 3) (trS 85 [(0, .map (some 0)), (5, s0 2 o1.1.length), (6, pp 3 0), (11, ii 0), (42, ii (w64 (((o1.1.length : Nat) : Int) - 1)))])) (trS 85 [(0, .map (some 0)), (5, s0 2 o1.1.length), (6, pp 3 0), (11, ii 0), (42, ii (w64 (((o1.1.length : Nat) : Int) - 1)))]) [(3, rK o1.2), (2, rI o1.1), (1, rc (encI .i64) b z1 y1 1), (0, iM a)] = (match (decide (0 ≤ w64 (((o1.1.length : Nat) : Int) - 1)) : Bool) with | true => some (uu (shV true .u64 1 (w64 (((o1.1.length : Nat) : Int) - 1)))) | false => none) := by kernel_rfl
       refine XR.rd kE [0, 5, 6, 11, 43] rfl (e7.trans (by rw [b6])) (σ' := [(0, .map (some 0)), (5, s0 2 o1.1.length), (6, pp 3 0), (11, ii 0), (43, uu (shV true .u64 1 (w64 (((o1.1.length : Nat) : Int) - 1))))]) (by kernel_rfl) ?_
       refine rSk 1 [(0, .map (some 0)), (5, s0 2 o1.1.length), (6, pp 3 0), (11, ii 0), (43, uu (shV true .u64 1 (w64 (((o1.1.length : Nat) : Int) - 1)))), (44, uu 0)] ?_
       refine dQk ?_
       show XQ _ _ _ _ _ _ _ _
       refine XQ.block (id := 2) (by kernel_rfl) ?_
       refine XQ.loop m (by kernel_rfl) ?_
       obtain ⟨o2, o2_h, h⟩ := bS h
       refine XL.conv (f72_2_ok m (f72 m fuel) (f72_ok m fuel) m z1 y1 b 0 (shV true .u64 1 (w64 (((o1.1.length : Nat) : Int) - 1))) 0 a o1.1 o1.2 o2 o2_h _ ?_) (by first | with_reducible rfl | simp | rfl)
       show XQ _ _ _ _ _ _ _ _
       refine qQk ?_
       refine rSk 1 [(6, pp 2 0), (11, ii o2.1), (81, .map (some 0))] ?_
       cases b9 : (decide (o2.2.2.length = 8) : Bool) with
       | false => cases (cF b9 h)
       | true =>
        have h := cT b9 h
        refine XR.rd kE [11, 81, 82] rfl (v := .agg (rowC (encI .i64) o2.2.2).toArray) (v_loadA (n := 8) (x := (src 85 (.tmp 6))) (b := 2) (L := o2.2.2) (fz := 0) (e := 123) (es := 0) (d := (some (path 12 82))) (by kernel_rfl) (by kernel_rfl) (by kernel_rfl) b9) (σ' := [(11, ii o2.1), (81, .map (some 0)), (82, .agg (rowC (encI .i64) o2.2.2).toArray)]) (by kernel_rfl) ?_
        refine rSk 1 [(11, ii o2.1), (81, .map (some 0)), (82, .agg (rowC (encI .i64) o2.2.2).toArray), (83, ii o2.1)] ?_
        cases b10 : (Nat.beq o2.2.2.length 8 && lensA 8 o2.2.1 : Bool) with
        | false => cases (cF b10 h)
        | true =>
         have h := cT b10 h
         refine XR.ef kE [11] rfl (e_mputA (Value.int .i64) (n := 8) (m := (src 85 (.tmp 81))) (i := (src 85 (.tmp 82))) (x := (src 85 (.tmp 83))) (d := none) (b := 0) (k := o2.2.2) (l := o2.2.1) (a := o2.1) (h' := [(2, rK o2.2.2), (1, rc (encI .i64) b z1 y1 1), (0, iM (putA o2.2.1 o2.2.2 o2.1))]) (by kernel_rfl) (by kernel_rfl) (by kernel_rfl) rfl (by kernel_rfl) b10 (by kernel_rfl) rfl rfl) (σ' := [(11, ii o2.1)]) (by kernel_rfl) ?_
         refine nQk id ?_
         refine rSk 2 [(4, ii o2.1)] ?_
         refine dQk ?_
         show XQ _ _ _ _ _ _ _ _
         refine XQ.ret (by kernel_rfl) ?_
         have h := Option.some.inj h
         subst h
         exact ⟨fun i q => (by cases q), ii o2.1, (by kernel_rfl), rfl, (by kernel_rfl)⟩
noncomputable def f26_C26 : Code := Proofs.Tryd.f26.body.getD .skip
def f26 (m : Nat) (a : List Int) : Option (Int × Int) :=
 (f21 m a).bind fun r1 =>
  cond (r1 != 0) (
   some (0, r1)
  ) (
   (f72 m m ([] : List (List Int × Int)) a).bind fun r2 =>
    some (r2.1, 0)
  )
theorem f26_ok (m : Nat) (z0 : Nat) (y0 : Nat) (a : List Int) (o : Int × Int) (h : f26 m a = some o) : KC E0 26 [s0 0 a.length] [(0, rc (encI .i64) a z0 y0 1)] 1 (fun v _ _ => v = .tuple #[ii o.1, ii o.2]) := by
 refine KC.bodyN E0_ok (F := Proofs.Tryd.f26) (by kernel_rfl) (code := f26_C26) (by kernel_rfl) (nt := 13) (by kernel_rfl) (rs := [.tmp 2, .tmp 3]) (by kernel_rfl) (by kernel_rfl) (σ := [(0, s0 0 a.length)]) (by kernel_rfl) ?_
 unfold f26 at h
 refine XQ.seq E0_ok (by kernel_rfl) ?_
 refine rQk ?_
 refine XR.runS E0_ok 1 2 [(0, s0 0 a.length)] rfl (by kernel_rfl) ?_
 refine dQk ?_
 show XQ _ _ _ _ _ _ _ _
 refine XQ.seq E0_ok (by kernel_rfl) ?_
 refine XQ.seq E0_ok (by kernel_rfl) ?_
 refine rQk ?_
 refine XR.runS E0_ok 1 1 [(0, s0 0 a.length), (5, s0 0 a.length)] rfl (by kernel_rfl) ?_
 obtain ⟨r1, r1_h, h⟩ := bS h
 refine XR.call E0_ok [0, 6] rfl (K := 21) (args := [s0 0 a.length]) (d := (some (path 12 6))) (by kernel_rfl) (KQ.call (KC.quiet E0_ok (args0 := [s0 0 a.length]) (h0 := [(0, rc (encI .i64) a (z0 + ((rowC (encI .i64) a).length + 1)) y0 1)]) (n := 1) (V := ii r1) [0] (f21_ok m (z0 + ((rowC (encI .i64) a).length + 1)) y0 a r1 r1_h) rfl (by rfl) (by decide) rfl (by kernel_rfl) ⟨⟨_, _, rfl, rfl, .inl ⟨rfl, rwI⟩⟩, trivial⟩) rfl) ?_
 rintro _ _ _ ⟨rfl, rfl, rfl⟩
 refine XR.conv (σ' := [(0, s0 0 a.length), (6, ii r1)]) (h' := [(0, rc (encI .i64) a z0 y0 1)]) (c' := 1) ?_ (by kernel_rfl)
 refine XR.runS E0_ok 1 1 [(0, s0 0 a.length), (4, ii r1)] rfl (by kernel_rfl) ?_
 refine dQk ?_
 show XQ _ _ _ _ _ _ _ _
 refine XQ.seq E0_ok (by kernel_rfl) ?_
 refine rQk ?_
 refine XR.runS E0_ok 1 2 [(0, s0 0 a.length), (4, ii r1), (8, .bool (r1 != 0))] rfl (by kernel_rfl) ?_
 refine dQk ?_
 show XQ _ _ _ _ _ _ _ _
 cases b1 : (r1 != 0 : Bool) with
 | true =>
  have h := cT b1 h
  refine iTk (.tmp 8) ?_
  refine XQ.seq E0_ok (by kernel_rfl) ?_
  refine rQk ?_
  refine XR.runS E0_ok 1 3 [(2, ii 0), (3, ii r1)] rfl (by kernel_rfl) ?_
  refine dQk ?_
  show XQ _ _ _ _ _ _ _ _
  refine XQ.ret (by kernel_rfl) ?_
  have h := Option.some.inj h
  subst h
  exact ⟨fun i q => (by cases q), .tuple #[ii 0, ii r1], (by kernel_rfl), rfl⟩
 | false =>
  have h := cF b1 h
  refine iFk (.tmp 8) ?_
  refine kQk ?_
  show XQ _ _ _ _ _ _ _ _
  refine XQ.seq E0_ok (by kernel_rfl) ?_
  refine rQk ?_
  refine XR.runT E0_ok 1 2 [(10, .map (some 1)), (11, s0 0 a.length)] [(1, iM []), (0, rc (encI .i64) a z0 y0 1)] 2 rfl (by kernel_rfl) ?_
  obtain ⟨r2, r2_h, h⟩ := bS h
  refine XR.call E0_ok [12] rfl (K := 72) (args := [.map (some 1), s0 0 a.length]) (d := (some (path 12 12))) (by kernel_rfl) (KC.liftM (n0 := 2) (b := 1) (i0 := 0) (args0 := [.map (some 0), s0 1 a.length]) (h0 := [(1, rc (encI .i64) a (z0 + ((rowC (encI .i64) a).length + 1)) y0 1), (0, iM [])]) (V := ii r2.1) (h2 := [(1, iM r2.2), (0, rc (encI .i64) a z0 y0 1)]) [1, 0] (f72_ok m m (z0 + ((rowC (encI .i64) a).length + 1)) y0 ([] : List (List Int × Int)) a r2 r2_h) rfl (by rfl) (by decide) rfl (by kernel_rfl) (by kernel_rfl) rfl ⟨⟨_, _, rfl, rfl, .inl ⟨rfl, rwI⟩⟩, ⟨_, _, rfl, rfl, .inl ⟨rfl, trivial⟩⟩, trivial⟩ (by kernel_rfl)) ?_
  rintro _ _ _ ⟨rfl, rfl, rfl⟩
  refine XR.conv (σ' := [(12, ii r2.1)]) (h' := [(1, iM r2.2), (0, rc (encI .i64) a z0 y0 1)]) (c' := 2) ?_ (by kernel_rfl)
  refine XR.runS E0_ok 1 2 [(2, ii r2.1), (3, ii 0)] rfl (by kernel_rfl) ?_
  refine dQk ?_
  show XQ _ _ _ _ _ _ _ _
  refine XQ.ret (by kernel_rfl) ?_
  have h := Option.some.inj h
  subst h
  exact ⟨fun i q => (by cases q), .tuple #[ii r2.1, ii 0], (by kernel_rfl), rfl⟩
end Go.Xm
