/- What these functions of the program compute, as functions in Lean, and the proofs that they do: club.Cross. Conditions: the library's variables hold what their texts lay. -/
import Derived.Test.YtfimbmhannndaaaDoorZx
import Derived.Test.YtfimbmhannndaaaDoorIb
namespace Go.Xm
open Go.RowKit

/-- Number i of a list of tables. -/
abbrev gT (l : List (Int × Int)) (i : Int) : Int × Int := List.getD l (Int.toNat i) (0, 0)
/-- Bit b of number a is turned. -/
abbrev sB (r : List Int) (a b : Int) : List Int := List.set r (Int.toNat a) (xorV .u64 (List.getD r (Int.toNat a) 0) (shV true .u64 1 b))

abbrev aT (t : Int × Int) : Value := .agg #[ii t.1, ii t.2]
abbrev t2 (t : Int × Int) : List Value := [ii t.1, ii t.2]
abbrev rU (l : List Int) : XObj := rc (encI .u64) l 0 117 1
abbrev z2 : XObj := .cells [ii 0, ii 0] 0 55 0
abbrev pN (n : Nat) : XObj := .cells [ii 0, s0 n 0] 0 34 0
abbrev nP : XObj := rc encP [] 0 55 2
abbrev pO (n : Int) (l : List (Int × Int)) : XObj := .cells [ii n, s0 0 l.length] 0 34 0
abbrev qD (a_Tables : List (Int × Int)) (b : Int) (c : Int) (d : Bool) (z0 : Nat) (y0 : Nat) (r1 : List Int × Int) : QP := fun xe xσ xh xc => xe = .normal ∧ (xσ, xh, xc) = ([(3, .bool d), (8, pp 1 0), (10, s0 2 r1.1.length), (12, pp 3 0), (13, pp 4 0)], [(5, rc encP [] 0 55 2), (4, .cells [ii ((gT a_Tables c).1), ii ((gT a_Tables c).2)] 0 55 0), (3, .cells [ii ((gT a_Tables b).1), ii ((gT a_Tables b).2)] 0 55 0), (2, rc (encI .u64) r1.1 0 117 1), (1, .cells [ii 0, s0 5 0] 0 34 0), (0, rc encP a_Tables z0 y0 2)], 6)

set_option linter.unusedVariables false
set_option linter.unusedSimpArgs false
set_option maxRecDepth 20000

/-! vitola/club.Cross -/
noncomputable def f30_C30 : Code := Proofs.Tryd.f30.body.getD .skip
noncomputable def f30_C76 : Code := Proofs.Tryd.f76.body.getD .skip
noncomputable def f30_C77 : Code := Proofs.Tryd.f77.body.getD .skip
noncomputable def f30_L1 : Code := lft (lft (rgt (lft (rgt (rgt (rgt (rgt (rgt (rgt (rgt f30_C30))))))))))

def f30_1 (m : Nat) : Nat → List (Int × Int) → Int → List Int → List Int → List Int → Option ((List Int) × (List Int) × (List Int))
 | 0, _, _, _, _, _ => none
 | fuel + 1, a_Tables, x86_1, lh2_1, lh3_1, lh4_1 =>
  cond (decide (x86_1 < 2)) (
   cond (inRow x86_1 2) (
    cond (decide (Int.toNat x86_1 < lh3_1.length)) (
     cond (decide (Int.toNat x86_1 < lh4_1.length)) (
      cond (inRow (List.getD lh3_1 (Int.toNat x86_1) 0) lh2_1.length) (
       cond (decide (0 ≤ List.getD lh4_1 (Int.toNat x86_1) 0)) (
        cond (inRow (List.getD lh4_1 (Int.toNat x86_1) 0) lh2_1.length) (
         cond (decide (0 ≤ List.getD lh3_1 (Int.toNat x86_1) 0)) (
          f30_1 m fuel a_Tables (w64 (x86_1 + 1)) (sB (sB lh2_1 (List.getD lh3_1 (Int.toNat x86_1) 0) (List.getD lh4_1 (Int.toNat x86_1) 0)) (List.getD lh4_1 (Int.toNat x86_1) 0) (List.getD lh3_1 (Int.toNat x86_1) 0)) lh3_1 lh4_1
         ) none
        ) none
       ) none
      ) none
     ) none
    ) none
   ) none
  ) (
   some (lh2_1, lh3_1, lh4_1)
  )

theorem f30_1_ok (m : Nat) : ∀ (fuel : Nat) (z0 : Nat) (y0 : Nat) (a_Tables : List (Int × Int)) (x86_1 : Int) (lh2_1 : List Int) (lh3_1 : List Int) (lh4_1 : List Int) (o : ((List Int) × (List Int) × (List Int))), f30_1 m fuel a_Tables x86_1 lh2_1 lh3_1 lh4_1 = some o → ∀ Q : QP, Q (.exit 1) [(8, pp 1 0), (10, s0 2 o.1.length), (12, pp 3 0), (13, pp 4 0)] [(5, nP), (4, rc (encI .i64) o.2.2 0 55 0), (3, rc (encI .i64) o.2.1 0 55 0), (2, rc (encI .u64) o.1 0 117 1), (1, pN 5), (0, rc encP a_Tables z0 y0 2)] 6 → XL E0 112 1 fuel f30_L1 [(8, pp 1 0), (10, s0 2 lh2_1.length), (12, pp 3 0), (13, pp 4 0), (86, ii x86_1)] [(5, nP), (4, rc (encI .i64) lh4_1 0 55 0), (3, rc (encI .i64) lh3_1 0 55 0), (2, rc (encI .u64) lh2_1 0 117 1), (1, pN 5), (0, rc encP a_Tables z0 y0 2)] 6 Q
 | 0, z0, y0, a_Tables, x86_1, lh2_1, lh3_1, lh4_1, o, h, Q, hQ => by cases h
 | fuel + 1, z0, y0, a_Tables, x86_1, lh2_1, lh3_1, lh4_1, o, h, Q, hQ => by
  unfold f30_1 at h
  refine XL.succ E0_ok ?_
  refine qQ ?_
  refine rS 1 [(8, pp 1 0), (10, s0 2 lh2_1.length), (12, pp 3 0), (13, pp 4 0), (86, ii x86_1), (87, .bool (decide (x86_1 < 2)))] ?_
  refine dQ ?_
  show XQ _ _ _ _ _ _ _ _
  refine sQ ?_
  cases b1 : (decide (x86_1 < 2) : Bool) with
  | true =>
   have h := cT b1 h
   refine iT (.tmp 87) ?_
   refine kQ ?_
   show XQ _ _ _ _ _ _ _ _
   refine sQ ?_
   refine XQ.block (id := 2) (by kernel_rfl) ?_
   refine qQ ?_
   refine rS 2 [(8, pp 1 0), (10, s0 2 lh2_1.length), (12, pp 3 0), (13, pp 4 0), (14, ii x86_1), (86, ii x86_1)] ?_
   refine dQ ?_
   show XQ _ _ _ _ _ _ _ _
   refine XQ.tail E0_ok 7 (by kernel_rfl) (by kernel_rfl) ?_
   refine XS.step E0_ok 2 rfl [8, 10, 12, 13, 14, 86, 89, 90] rfl (σ' := [(8, pp 1 0), (10, s0 2 lh2_1.length), (12, pp 3 0), (13, pp 4 0), (14, ii x86_1), (86, ii x86_1), (89, s0 2 lh2_1.length), (90, ii x86_1)]) (by kernel_rfl) ?_
   cases b2 : (inRow x86_1 2 : Bool) with
   | false => cases (cF b2 h)
   | true =>
    have h := cT b2 h
    refine XS.rd E0_ok rfl [8, 10, 12, 13, 14, 86, 89, 91] rfl (v := pp 3 ((Int.toNat x86_1) * 1)) (v_idxA (s := 1) (len := 2) (x := (src 112 (.tmp 12))) (y := (src 112 (.tmp 90))) (b := 3) (o := 0) (ik := .i64) (i := x86_1) (off := (Int.toNat x86_1) * 1) (d := (some (path 12 91))) (by kernel_rfl) (by kernel_rfl) (by kernel_rfl) b2 (by omega)) (σ' := [(8, pp 1 0), (10, s0 2 lh2_1.length), (12, pp 3 0), (13, pp 4 0), (14, ii x86_1), (86, ii x86_1), (89, s0 2 lh2_1.length), (91, pp 3 ((Int.toNat x86_1) * 1))]) (by kernel_rfl) ?_
    cases b3 : (decide (Int.toNat x86_1 < lh3_1.length) : Bool) with
    | false => cases (cF b3 h)
    | true =>
     have h := cT b3 h
     refine XS.rd E0_ok rfl [8, 10, 12, 13, 14, 86, 89, 92] rfl (v := ii (List.getD lh3_1 (Int.toNat x86_1) 0)) (v_load1 (encI_ok .i64) (x := (src 112 (.tmp 91))) (b := 3) (off := (Int.toNat x86_1) * 1) (xs := lh3_1) (fz := 0) (e := 55) (es := 0) (d := (some (path 12 92))) (by kernel_rfl) (by kernel_rfl) (by kernel_rfl) (Int.toNat x86_1) 0 0 (by first | rfl | omega) (row_len b3 (by simp)) rfl rfl) (σ' := [(8, pp 1 0), (10, s0 2 lh2_1.length), (12, pp 3 0), (13, pp 4 0), (14, ii x86_1), (86, ii x86_1), (89, s0 2 lh2_1.length), (92, ii (List.getD lh3_1 (Int.toNat x86_1) 0))]) (by kernel_rfl) ?_
     refine XS.step E0_ok 1 rfl [8, 10, 12, 13, 86, 89, 92, 93] rfl (σ' := [(8, pp 1 0), (10, s0 2 lh2_1.length), (12, pp 3 0), (13, pp 4 0), (86, ii x86_1), (89, s0 2 lh2_1.length), (92, ii (List.getD lh3_1 (Int.toNat x86_1) 0)), (93, ii x86_1)]) (by kernel_rfl) ?_
     refine XS.rd E0_ok rfl [8, 10, 12, 13, 86, 89, 92, 94] rfl (v := pp 4 ((Int.toNat x86_1) * 1)) (v_idxA (s := 1) (len := 2) (x := (src 112 (.tmp 13))) (y := (src 112 (.tmp 93))) (b := 4) (o := 0) (ik := .i64) (i := x86_1) (off := (Int.toNat x86_1) * 1) (d := (some (path 12 94))) (by kernel_rfl) (by kernel_rfl) (by kernel_rfl) b2 (by omega)) (σ' := [(8, pp 1 0), (10, s0 2 lh2_1.length), (12, pp 3 0), (13, pp 4 0), (86, ii x86_1), (89, s0 2 lh2_1.length), (92, ii (List.getD lh3_1 (Int.toNat x86_1) 0)), (94, pp 4 ((Int.toNat x86_1) * 1))]) (by kernel_rfl) ?_
     cases b4 : (decide (Int.toNat x86_1 < lh4_1.length) : Bool) with
     | false => cases (cF b4 h)
     | true =>
      have h := cT b4 h
      refine XS.rd E0_ok rfl [8, 10, 12, 13, 86, 89, 92, 95] rfl (v := ii (List.getD lh4_1 (Int.toNat x86_1) 0)) (v_load1 (encI_ok .i64) (x := (src 112 (.tmp 94))) (b := 4) (off := (Int.toNat x86_1) * 1) (xs := lh4_1) (fz := 0) (e := 55) (es := 0) (d := (some (path 12 95))) (by kernel_rfl) (by kernel_rfl) (by kernel_rfl) (Int.toNat x86_1) 0 0 (by first | rfl | omega) (row_len b4 (by simp)) rfl rfl) (σ' := [(8, pp 1 0), (10, s0 2 lh2_1.length), (12, pp 3 0), (13, pp 4 0), (86, ii x86_1), (89, s0 2 lh2_1.length), (92, ii (List.getD lh3_1 (Int.toNat x86_1) 0)), (95, ii (List.getD lh4_1 (Int.toNat x86_1) 0))]) (by kernel_rfl) ?_
      refine XS.done (by kernel_rfl) ?_
      refine XR.callK E0_ok [8, 10, 12, 13, 86] rfl (K := 77) (args := [s0 2 lh2_1.length, ii (List.getD lh3_1 (Int.toNat x86_1) 0), ii (List.getD lh4_1 (Int.toNat x86_1) 0)]) (d := (some (path 12 96))) (by kernel_rfl) ?_
      refine KC.bodyN E0_ok (F := Proofs.Tryd.f77) (by kernel_rfl) (code := f30_C77) (by kernel_rfl) (nt := 22) (by kernel_rfl) (rs := []) (by kernel_rfl) (by kernel_rfl) (σ := [(0, s0 2 lh2_1.length), (1, ii (List.getD lh3_1 (Int.toNat x86_1) 0)), (2, ii (List.getD lh4_1 (Int.toNat x86_1) 0))]) (by kernel_rfl) ?_
      refine sQ ?_
      refine XQ.tail E0_ok 8 (by kernel_rfl) (by kernel_rfl) ?_
      refine XS.step E0_ok 2 rfl [0, 1, 2, 6, 7] rfl (σ' := [(0, s0 2 lh2_1.length), (1, ii (List.getD lh3_1 (Int.toNat x86_1) 0)), (2, ii (List.getD lh4_1 (Int.toNat x86_1) 0)), (6, s0 2 lh2_1.length), (7, ii (List.getD lh3_1 (Int.toNat x86_1) 0))]) (by kernel_rfl) ?_
      cases b5 : (inRow (List.getD lh3_1 (Int.toNat x86_1) 0) lh2_1.length : Bool) with
      | false => cases (cF b5 h)
      | true =>
       have h := cT b5 h
       refine XS.rd E0_ok rfl [0, 1, 2, 6, 7, 8] rfl (v := pp 2 ((Int.toNat (List.getD lh3_1 (Int.toNat x86_1) 0)) * 1)) (v_idx (s := 1) (x := (src 22 (.tmp 6))) (y := (src 22 (.tmp 7))) (b := 2) (o := 0) (len := lh2_1.length) (cap := lh2_1.length) (ik := .i64) (i := List.getD lh3_1 (Int.toNat x86_1) 0) (off := (Int.toNat (List.getD lh3_1 (Int.toNat x86_1) 0)) * 1) (d := (some (path 12 8))) (by kernel_rfl) (by kernel_rfl) (by kernel_rfl) b5 (by omega)) (σ' := [(0, s0 2 lh2_1.length), (1, ii (List.getD lh3_1 (Int.toNat x86_1) 0)), (2, ii (List.getD lh4_1 (Int.toNat x86_1) 0)), (6, s0 2 lh2_1.length), (7, ii (List.getD lh3_1 (Int.toNat x86_1) 0)), (8, pp 2 ((Int.toNat (List.getD lh3_1 (Int.toNat x86_1) 0)) * 1))]) (by kernel_rfl) ?_
       refine XS.rd E0_ok rfl [0, 1, 2, 6, 7, 9] rfl (v := .int .u64 (List.getD lh2_1 (Int.toNat (List.getD lh3_1 (Int.toNat x86_1) 0)) 0)) (v_load1 (encI_ok .u64) (x := (src 22 (.tmp 8))) (b := 2) (off := (Int.toNat (List.getD lh3_1 (Int.toNat x86_1) 0)) * 1) (xs := lh2_1) (fz := 0) (e := 117) (es := 1) (d := (some (path 12 9))) (by kernel_rfl) (by kernel_rfl) (by kernel_rfl) (Int.toNat (List.getD lh3_1 (Int.toNat x86_1) 0)) 0 0 (by first | rfl | omega) (row_len (inRow_toNat b5) (by simp)) rfl rfl) (σ' := [(0, s0 2 lh2_1.length), (1, ii (List.getD lh3_1 (Int.toNat x86_1) 0)), (2, ii (List.getD lh4_1 (Int.toNat x86_1) 0)), (6, s0 2 lh2_1.length), (7, ii (List.getD lh3_1 (Int.toNat x86_1) 0)), (9, .int .u64 (List.getD lh2_1 (Int.toNat (List.getD lh3_1 (Int.toNat x86_1) 0)) 0))]) (by kernel_rfl) ?_
       refine XS.step E0_ok 1 rfl [0, 1, 2, 6, 7, 9, 10] rfl (σ' := [(0, s0 2 lh2_1.length), (1, ii (List.getD lh3_1 (Int.toNat x86_1) 0)), (2, ii (List.getD lh4_1 (Int.toNat x86_1) 0)), (6, s0 2 lh2_1.length), (7, ii (List.getD lh3_1 (Int.toNat x86_1) 0)), (9, .int .u64 (List.getD lh2_1 (Int.toNat (List.getD lh3_1 (Int.toNat x86_1) 0)) 0)), (10, ii (List.getD lh4_1 (Int.toNat x86_1) 0))]) (by kernel_rfl) ?_
       cases b6 : (decide (0 ≤ List.getD lh4_1 (Int.toNat x86_1) 0) : Bool) with
       | false => cases (cF b6 h)
       | true =>
        have h := cT b6 h
        have e7 : insV (headI ((gsOf E0 22 (opsOf (lft f30_C77))).drop 5) (trS 22 [(0, s0 2 lh2_1.length), (1, ii (List.getD lh3_1 (Int.toNat x86_1) 0)), (2, ii (List.getD lh4_1 (Int.toNat x86_1) 0)), (6, s0 2 lh2_1.length), (7, ii (List.getD lh3_1 (Int.toNat x86_1) 0)), (9, .int .u64 (List.getD lh2_1 (Int.toNat (List.getD lh3_1 (Int.toNat x86_1) 0)) 0)), (10, ii (List.getD lh4_1 (Int.toNat x86_1) 0))])) (trS 22 [(0, s0 2 lh2_1.length), (1, ii (List.getD lh3_1 (Int.toNat x86_1) 0)), (2, ii (List.getD lh4_1 (Int.toNat x86_1) 0)), (6, s0 2 lh2_1.length), (7, ii (List.getD lh3_1 (Int.toNat x86_1) 0)), (9, .int .u64 (List.getD lh2_1 (Int.toNat (List.getD lh3_1 (Int.toNat x86_1) 0)) 0)), (10, ii (List.getD lh4_1 (Int.toNat x86_1) 0))]) [(5, nP), (4, rc (encI .i64) lh4_1 0 55 0), (3, rc (encI .i64) lh3_1 0 55 0), (2, rc (encI .u64) lh2_1 0 117 1), (1, pN 5), (0, rc encP a_Tables z0 y0 2)] = (match (decide (0 ≤ List.getD lh4_1 (Int.toNat x86_1) 0) : Bool) with | true => some (.int .u64 (shV true .u64 1 (List.getD lh4_1 (Int.toNat x86_1) 0))) | false => none) := by kernel_rfl
        refine XS.rd E0_ok rfl [0, 1, 2, 6, 7, 9, 11] rfl (e7.trans (by rw [b6])) (σ' := [(0, s0 2 lh2_1.length), (1, ii (List.getD lh3_1 (Int.toNat x86_1) 0)), (2, ii (List.getD lh4_1 (Int.toNat x86_1) 0)), (6, s0 2 lh2_1.length), (7, ii (List.getD lh3_1 (Int.toNat x86_1) 0)), (9, .int .u64 (List.getD lh2_1 (Int.toNat (List.getD lh3_1 (Int.toNat x86_1) 0)) 0)), (11, .int .u64 (shV true .u64 1 (List.getD lh4_1 (Int.toNat x86_1) 0)))]) (by kernel_rfl) ?_
        refine XS.step E0_ok 1 rfl [0, 1, 2, 6, 7, 12] rfl (σ' := [(0, s0 2 lh2_1.length), (1, ii (List.getD lh3_1 (Int.toNat x86_1) 0)), (2, ii (List.getD lh4_1 (Int.toNat x86_1) 0)), (6, s0 2 lh2_1.length), (7, ii (List.getD lh3_1 (Int.toNat x86_1) 0)), (12, .int .u64 (xorV .u64 (List.getD lh2_1 (Int.toNat (List.getD lh3_1 (Int.toNat x86_1) 0)) 0) (shV true .u64 1 (List.getD lh4_1 (Int.toNat x86_1) 0))))]) (by kernel_rfl) ?_
        refine XS.rd E0_ok rfl [0, 1, 2, 12, 13] rfl (v := pp 2 ((Int.toNat (List.getD lh3_1 (Int.toNat x86_1) 0)) * 1)) (v_idx (s := 1) (x := (src 22 (.tmp 6))) (y := (src 22 (.tmp 7))) (b := 2) (o := 0) (len := lh2_1.length) (cap := lh2_1.length) (ik := .i64) (i := List.getD lh3_1 (Int.toNat x86_1) 0) (off := (Int.toNat (List.getD lh3_1 (Int.toNat x86_1) 0)) * 1) (d := (some (path 12 13))) (by kernel_rfl) (by kernel_rfl) (by kernel_rfl) b5 (by omega)) (σ' := [(0, s0 2 lh2_1.length), (1, ii (List.getD lh3_1 (Int.toNat x86_1) 0)), (2, ii (List.getD lh4_1 (Int.toNat x86_1) 0)), (12, .int .u64 (xorV .u64 (List.getD lh2_1 (Int.toNat (List.getD lh3_1 (Int.toNat x86_1) 0)) 0) (shV true .u64 1 (List.getD lh4_1 (Int.toNat x86_1) 0)))), (13, pp 2 ((Int.toNat (List.getD lh3_1 (Int.toNat x86_1) 0)) * 1))]) (by kernel_rfl) ?_
        refine XS.done (by kernel_rfl) ?_
        refine XR.ef E0_ok [0, 1, 2] rfl (e_store (encI_ok .u64) (size := 1) (x := (src 22 (.tmp 13))) (y := (src 22 (.tmp 12))) (b := 2) (off := (Int.toNat (List.getD lh3_1 (Int.toNat x86_1) 0)) * 1) (xs := lh2_1) (e := 117) (es := 1) (d := none) (h' := [(5, nP), (4, rc (encI .i64) lh4_1 0 55 0), (3, rc (encI .i64) lh3_1 0 55 0), (2, rc (encI .u64) (sB lh2_1 (List.getD lh3_1 (Int.toNat x86_1) 0) (List.getD lh4_1 (Int.toNat x86_1) 0)) 0 117 1), (1, pN 5), (0, rc encP a_Tables z0 y0 2)]) (w := .int .u64 (xorV .u64 (List.getD lh2_1 (Int.toNat (List.getD lh3_1 (Int.toNat x86_1) 0)) 0) (shV true .u64 1 (List.getD lh4_1 (Int.toNat x86_1) 0)))) (ws := [.int .u64 (xorV .u64 (List.getD lh2_1 (Int.toNat (List.getD lh3_1 (Int.toNat x86_1) 0)) 0) (shV true .u64 1 (List.getD lh4_1 (Int.toNat x86_1) 0)))]) (a := xorV .u64 (List.getD lh2_1 (Int.toNat (List.getD lh3_1 (Int.toNat x86_1) 0)) 0) (shV true .u64 1 (List.getD lh4_1 (Int.toNat x86_1) 0))) (by kernel_rfl) (by kernel_rfl) (by kernel_rfl) (Int.toNat (List.getD lh3_1 (Int.toNat x86_1) 0)) 0 0 (by first | rfl | omega) (row_len (inRow_toNat b5) (by simp)) (by kernel_rfl) rfl rfl rfl rfl rfl (by kernel_rfl)) (σ' := [(0, s0 2 lh2_1.length), (1, ii (List.getD lh3_1 (Int.toNat x86_1) 0)), (2, ii (List.getD lh4_1 (Int.toNat x86_1) 0))]) (by kernel_rfl) ?_
        refine dQ ?_
        show XQ _ _ _ _ _ _ _ _
        refine XQ.tail E0_ok 8 (by kernel_rfl) (by kernel_rfl) ?_
        refine XS.step E0_ok 2 rfl [1, 14, 15] rfl (σ' := [(1, ii (List.getD lh3_1 (Int.toNat x86_1) 0)), (14, s0 2 lh2_1.length), (15, ii (List.getD lh4_1 (Int.toNat x86_1) 0))]) (by kernel_rfl) ?_
        cases b8 : (inRow (List.getD lh4_1 (Int.toNat x86_1) 0) lh2_1.length : Bool) with
        | false => cases (cF b8 h)
        | true =>
         have h := cT b8 h
         refine XS.rd E0_ok rfl [1, 14, 15, 16] rfl (v := pp 2 ((Int.toNat (List.getD lh4_1 (Int.toNat x86_1) 0)) * 1)) (v_idx (s := 1) (x := (src 22 (.tmp 14))) (y := (src 22 (.tmp 15))) (b := 2) (o := 0) (len := lh2_1.length) (cap := lh2_1.length) (ik := .i64) (i := List.getD lh4_1 (Int.toNat x86_1) 0) (off := (Int.toNat (List.getD lh4_1 (Int.toNat x86_1) 0)) * 1) (d := (some (path 12 16))) (by kernel_rfl) (by kernel_rfl) (by kernel_rfl) b8 (by omega)) (σ' := [(1, ii (List.getD lh3_1 (Int.toNat x86_1) 0)), (14, s0 2 lh2_1.length), (15, ii (List.getD lh4_1 (Int.toNat x86_1) 0)), (16, pp 2 ((Int.toNat (List.getD lh4_1 (Int.toNat x86_1) 0)) * 1))]) (by kernel_rfl) ?_
         refine XS.rd E0_ok rfl [1, 14, 15, 17] rfl (v := .int .u64 (List.getD (sB lh2_1 (List.getD lh3_1 (Int.toNat x86_1) 0) (List.getD lh4_1 (Int.toNat x86_1) 0)) (Int.toNat (List.getD lh4_1 (Int.toNat x86_1) 0)) 0)) (v_load1 (encI_ok .u64) (x := (src 22 (.tmp 16))) (b := 2) (off := (Int.toNat (List.getD lh4_1 (Int.toNat x86_1) 0)) * 1) (xs := sB lh2_1 (List.getD lh3_1 (Int.toNat x86_1) 0) (List.getD lh4_1 (Int.toNat x86_1) 0)) (fz := 0) (e := 117) (es := 1) (d := (some (path 12 17))) (by kernel_rfl) (by kernel_rfl) (by kernel_rfl) (Int.toNat (List.getD lh4_1 (Int.toNat x86_1) 0)) 0 0 (by first | rfl | omega) (row_len (inRow_toNat b8) (by simp)) rfl rfl) (σ' := [(1, ii (List.getD lh3_1 (Int.toNat x86_1) 0)), (14, s0 2 lh2_1.length), (15, ii (List.getD lh4_1 (Int.toNat x86_1) 0)), (17, .int .u64 (List.getD (sB lh2_1 (List.getD lh3_1 (Int.toNat x86_1) 0) (List.getD lh4_1 (Int.toNat x86_1) 0)) (Int.toNat (List.getD lh4_1 (Int.toNat x86_1) 0)) 0))]) (by kernel_rfl) ?_
         refine XS.step E0_ok 1 rfl [14, 15, 17, 18] rfl (σ' := [(14, s0 2 lh2_1.length), (15, ii (List.getD lh4_1 (Int.toNat x86_1) 0)), (17, .int .u64 (List.getD (sB lh2_1 (List.getD lh3_1 (Int.toNat x86_1) 0) (List.getD lh4_1 (Int.toNat x86_1) 0)) (Int.toNat (List.getD lh4_1 (Int.toNat x86_1) 0)) 0)), (18, ii (List.getD lh3_1 (Int.toNat x86_1) 0))]) (by kernel_rfl) ?_
         cases b9 : (decide (0 ≤ List.getD lh3_1 (Int.toNat x86_1) 0) : Bool) with
         | false => cases (cF b9 h)
         | true =>
          have h := cT b9 h
          have e10 : insV (headI ((gsOf E0 22 (opsOf (rgt f30_C77))).drop 5) (trS 22 [(14, s0 2 lh2_1.length), (15, ii (List.getD lh4_1 (Int.toNat x86_1) 0)), (17, .int .u64 (List.getD (sB lh2_1 (List.getD lh3_1 (Int.toNat x86_1) 0) (List.getD lh4_1 (Int.toNat x86_1) 0)) (Int.toNat (List.getD lh4_1 (Int.toNat x86_1) 0)) 0)), (18, ii (List.getD lh3_1 (Int.toNat x86_1) 0))])) (trS 22 [(14, s0 2 lh2_1.length), (15, ii (List.getD lh4_1 (Int.toNat x86_1) 0)), (17, .int .u64 (List.getD (sB lh2_1 (List.getD lh3_1 (Int.toNat x86_1) 0) (List.getD lh4_1 (Int.toNat x86_1) 0)) (Int.toNat (List.getD lh4_1 (Int.toNat x86_1) 0)) 0)), (18, ii (List.getD lh3_1 (Int.toNat x86_1) 0))]) [(5, nP), (4, rc (encI .i64) lh4_1 0 55 0), (3, rc (encI .i64) lh3_1 0 55 0), (2, rc (encI .u64) (sB lh2_1 (List.getD lh3_1 (Int.toNat x86_1) 0) (List.getD lh4_1 (Int.toNat x86_1) 0)) 0 117 1), (1, pN 5), (0, rc encP a_Tables z0 y0 2)] = (match (decide (0 ≤ List.getD lh3_1 (Int.toNat x86_1) 0) : Bool) with | true => some (.int .u64 (shV true .u64 1 (List.getD lh3_1 (Int.toNat x86_1) 0))) | false => none) := by kernel_rfl
          refine XS.rd E0_ok rfl [14, 15, 17, 19] rfl (e10.trans (by rw [b9])) (σ' := [(14, s0 2 lh2_1.length), (15, ii (List.getD lh4_1 (Int.toNat x86_1) 0)), (17, .int .u64 (List.getD (sB lh2_1 (List.getD lh3_1 (Int.toNat x86_1) 0) (List.getD lh4_1 (Int.toNat x86_1) 0)) (Int.toNat (List.getD lh4_1 (Int.toNat x86_1) 0)) 0)), (19, .int .u64 (shV true .u64 1 (List.getD lh3_1 (Int.toNat x86_1) 0)))]) (by kernel_rfl) ?_
          refine XS.step E0_ok 1 rfl [14, 15, 20] rfl (σ' := [(14, s0 2 lh2_1.length), (15, ii (List.getD lh4_1 (Int.toNat x86_1) 0)), (20, .int .u64 (xorV .u64 (List.getD (sB lh2_1 (List.getD lh3_1 (Int.toNat x86_1) 0) (List.getD lh4_1 (Int.toNat x86_1) 0)) (Int.toNat (List.getD lh4_1 (Int.toNat x86_1) 0)) 0) (shV true .u64 1 (List.getD lh3_1 (Int.toNat x86_1) 0))))]) (by kernel_rfl) ?_
          refine XS.rd E0_ok rfl [20, 21] rfl (v := pp 2 ((Int.toNat (List.getD lh4_1 (Int.toNat x86_1) 0)) * 1)) (v_idx (s := 1) (x := (src 22 (.tmp 14))) (y := (src 22 (.tmp 15))) (b := 2) (o := 0) (len := lh2_1.length) (cap := lh2_1.length) (ik := .i64) (i := List.getD lh4_1 (Int.toNat x86_1) 0) (off := (Int.toNat (List.getD lh4_1 (Int.toNat x86_1) 0)) * 1) (d := (some (path 12 21))) (by kernel_rfl) (by kernel_rfl) (by kernel_rfl) b8 (by omega)) (σ' := [(20, .int .u64 (xorV .u64 (List.getD (sB lh2_1 (List.getD lh3_1 (Int.toNat x86_1) 0) (List.getD lh4_1 (Int.toNat x86_1) 0)) (Int.toNat (List.getD lh4_1 (Int.toNat x86_1) 0)) 0) (shV true .u64 1 (List.getD lh3_1 (Int.toNat x86_1) 0)))), (21, pp 2 ((Int.toNat (List.getD lh4_1 (Int.toNat x86_1) 0)) * 1))]) (by kernel_rfl) ?_
          refine XS.done (by kernel_rfl) ?_
          refine XR.ef E0_ok [] rfl (e_store (encI_ok .u64) (size := 1) (x := (src 22 (.tmp 21))) (y := (src 22 (.tmp 20))) (b := 2) (off := (Int.toNat (List.getD lh4_1 (Int.toNat x86_1) 0)) * 1) (xs := sB lh2_1 (List.getD lh3_1 (Int.toNat x86_1) 0) (List.getD lh4_1 (Int.toNat x86_1) 0)) (e := 117) (es := 1) (d := none) (h' := [(5, nP), (4, rc (encI .i64) lh4_1 0 55 0), (3, rc (encI .i64) lh3_1 0 55 0), (2, rc (encI .u64) (sB (sB lh2_1 (List.getD lh3_1 (Int.toNat x86_1) 0) (List.getD lh4_1 (Int.toNat x86_1) 0)) (List.getD lh4_1 (Int.toNat x86_1) 0) (List.getD lh3_1 (Int.toNat x86_1) 0)) 0 117 1), (1, pN 5), (0, rc encP a_Tables z0 y0 2)]) (w := .int .u64 (xorV .u64 (List.getD (sB lh2_1 (List.getD lh3_1 (Int.toNat x86_1) 0) (List.getD lh4_1 (Int.toNat x86_1) 0)) (Int.toNat (List.getD lh4_1 (Int.toNat x86_1) 0)) 0) (shV true .u64 1 (List.getD lh3_1 (Int.toNat x86_1) 0)))) (ws := [.int .u64 (xorV .u64 (List.getD (sB lh2_1 (List.getD lh3_1 (Int.toNat x86_1) 0) (List.getD lh4_1 (Int.toNat x86_1) 0)) (Int.toNat (List.getD lh4_1 (Int.toNat x86_1) 0)) 0) (shV true .u64 1 (List.getD lh3_1 (Int.toNat x86_1) 0)))]) (a := xorV .u64 (List.getD (sB lh2_1 (List.getD lh3_1 (Int.toNat x86_1) 0) (List.getD lh4_1 (Int.toNat x86_1) 0)) (Int.toNat (List.getD lh4_1 (Int.toNat x86_1) 0)) 0) (shV true .u64 1 (List.getD lh3_1 (Int.toNat x86_1) 0))) (by kernel_rfl) (by kernel_rfl) (by kernel_rfl) (Int.toNat (List.getD lh4_1 (Int.toNat x86_1) 0)) 0 0 (by first | rfl | omega) (row_len (inRow_toNat b8) (by simp)) (by kernel_rfl) rfl rfl rfl rfl rfl (by kernel_rfl)) (σ' := []) (by kernel_rfl) ?_
          refine dQ ?_
          refine ⟨fun i q => (by cases q), .tuple #[], (by kernel_rfl), ?_⟩
          refine XR.conv (σ' := [(8, pp 1 0), (10, s0 2 lh2_1.length), (12, pp 3 0), (13, pp 4 0), (86, ii x86_1)]) (h' := [(5, nP), (4, rc (encI .i64) lh4_1 0 55 0), (3, rc (encI .i64) lh3_1 0 55 0), (2, rc (encI .u64) (sB (sB lh2_1 (List.getD lh3_1 (Int.toNat x86_1) 0) (List.getD lh4_1 (Int.toNat x86_1) 0)) (List.getD lh4_1 (Int.toNat x86_1) 0) (List.getD lh3_1 (Int.toNat x86_1) 0)) 0 117 1), (1, pN 5), (0, rc encP a_Tables z0 y0 2)]) (c' := 6) ?_ (by kernel_rfl)
          refine dQ ?_
          show XQ _ _ _ _ _ _ _ _
          refine rQ ?_
          refine rS 2 [(8, pp 1 0), (10, s0 2 lh2_1.length), (12, pp 3 0), (13, pp 4 0), (86, ii (w64 (x86_1 + 1)))] ?_
          refine dQ ?_
          show XL _ _ _ _ _ _ _ _ _
          refine XL.ren (σ' := [(8, pp 1 0), (10, s0 2 lh2_1.length), (12, pp 3 0), (13, pp 4 0), (86, ii (w64 (x86_1 + 1)))]) (h' := [(5, nP), (4, rc (encI .i64) lh4_1 0 55 0), (3, rc (encI .i64) lh3_1 0 55 0), (2, rc (encI .u64) (sB (sB lh2_1 (List.getD lh3_1 (Int.toNat x86_1) 0) (List.getD lh4_1 (Int.toNat x86_1) 0)) (List.getD lh4_1 (Int.toNat x86_1) 0) (List.getD lh3_1 (Int.toNat x86_1) 0)) 0 117 1), (1, pN 5), (0, rc encP a_Tables z0 y0 2)]) (c' := 6) [0, 1, 2, 3, 4, 5] (by decide) rfl ⟨rfl, rfl, rfl, rfl, rfl, trivial⟩ ⟨⟨_, _, rfl, rfl, .inl ⟨rfl, rwP⟩⟩, ⟨_, _, rfl, rfl, .inl ⟨rfl, rwI⟩⟩, ⟨_, _, rfl, rfl, .inl ⟨rfl, rwI⟩⟩, ⟨_, _, rfl, rfl, .inl ⟨rfl, rowC_scal (encI_ok .u64) _⟩⟩, ⟨_, _, rfl, rfl, .inr ⟨_, _, _, _, rfl, rfl⟩⟩, ⟨_, _, rfl, rfl, .inl ⟨rfl, rwP⟩⟩, trivial⟩ rfl ?_
          refine XL.conv (f30_1_ok m fuel z0 y0 a_Tables (w64 (x86_1 + 1)) (sB (sB lh2_1 (List.getD lh3_1 (Int.toNat x86_1) 0) (List.getD lh4_1 (Int.toNat x86_1) 0)) (List.getD lh4_1 (Int.toNat x86_1) 0) (List.getD lh3_1 (Int.toNat x86_1) 0)) lh3_1 lh4_1 o h Q hQ) (by first | rfl | simp)
  | false =>
   have h := cF b1 h
   refine iF (.tmp 87) ?_
   refine XQ.ren (σ' := [(8, pp 1 0), (10, s0 2 lh2_1.length), (12, pp 3 0), (13, pp 4 0)]) (h' := [(5, nP), (4, rc (encI .i64) lh4_1 0 55 0), (3, rc (encI .i64) lh3_1 0 55 0), (2, rc (encI .u64) lh2_1 0 117 1), (1, pN 5), (0, rc encP a_Tables z0 y0 2)]) (c' := 6) [0, 1, 2, 3, 4, 5] (by decide) rfl ⟨rfl, rfl, rfl, rfl, trivial⟩ ⟨⟨_, _, rfl, rfl, .inl ⟨rfl, rwP⟩⟩, ⟨_, _, rfl, rfl, .inl ⟨rfl, rwI⟩⟩, ⟨_, _, rfl, rfl, .inl ⟨rfl, rwI⟩⟩, ⟨_, _, rfl, rfl, .inl ⟨rfl, rowC_scal (encI_ok .u64) _⟩⟩, ⟨_, _, rfl, rfl, .inr ⟨_, _, _, _, rfl, rfl⟩⟩, ⟨_, _, rfl, rfl, .inl ⟨rfl, rwP⟩⟩, trivial⟩ rfl ?_
   refine XQ.exit (i := 1) (by kernel_rfl) ?_
   cases h
   exact hQ

def f30 (m : Nat) (a_Sorters : Int) (a_Tables : List (Int × Int)) (b : Int) (c : Int) (d : Bool) : Option (Int × (List (Int × Int)) × Int) :=
 (f74 m a_Sorters a_Tables).bind fun r1 =>
  cond (r1.2 != 0) (
   some (0, [], r1.2)
  ) (
   (f65 m b 0 (w64 (((a_Tables.length : Nat) : Int) - 1))).bind fun r2 =>
    cond (!r2) (
     some (0, [], 2)
    ) (
     (f65 m c 0 (w64 (((a_Tables.length : Nat) : Int) - 1))).bind fun r3 =>
      cond (!r3) (
       some (0, [], 2)
      ) (
       cond (inRow b a_Tables.length) (
        cond (inRow c a_Tables.length) (
         cond (cutOK 0 ((2 : Nat) : Int) ((2 : Nat) : Int) 2) (
          (f75 m [(gT a_Tables c).1, (gT a_Tables c).2] ((gT a_Tables b).1)).bind fun r4 =>
           cond (r4) (
            some (0, [], 5)
           ) (
            (f75 m [(gT a_Tables c).1, (gT a_Tables c).2] ((gT a_Tables b).2)).bind fun r5 =>
             cond (r5) (
              some (0, [], 5)
             ) (
              cond (decide (0 < (cond (d) (List.set (List.set [(gT a_Tables c).1, (gT a_Tables c).2] 0 ((gT a_Tables c).2)) 1 ((gT a_Tables c).1)) [(gT a_Tables c).1, (gT a_Tables c).2]).length)) (
               cond (inRow ((gT a_Tables b).1) r1.1.length) (
                cond (decide (0 ≤ List.getD (cond (d) (List.set (List.set [(gT a_Tables c).1, (gT a_Tables c).2] 0 ((gT a_Tables c).2)) 1 ((gT a_Tables c).1)) [(gT a_Tables c).1, (gT a_Tables c).2]) 0 0)) (
                 cond ((andV .u64 (shV false .u64 (List.getD r1.1 (Int.toNat ((gT a_Tables b).1)) 0) (List.getD (cond (d) (List.set (List.set [(gT a_Tables c).1, (gT a_Tables c).2] 0 ((gT a_Tables c).2)) 1 ((gT a_Tables c).1)) [(gT a_Tables c).1, (gT a_Tables c).2]) 0 0)) 1 : Int) == 1) (
                  some (0, [], 6)
                 ) (
                  cond (decide (1 < (cond (d) (List.set (List.set [(gT a_Tables c).1, (gT a_Tables c).2] 0 ((gT a_Tables c).2)) 1 ((gT a_Tables c).1)) [(gT a_Tables c).1, (gT a_Tables c).2]).length)) (
                   cond (inRow ((gT a_Tables b).2) r1.1.length) (
                    cond (decide (0 ≤ List.getD (cond (d) (List.set (List.set [(gT a_Tables c).1, (gT a_Tables c).2] 0 ((gT a_Tables c).2)) 1 ((gT a_Tables c).1)) [(gT a_Tables c).1, (gT a_Tables c).2]) 1 0)) (
                     cond ((andV .u64 (shV false .u64 (List.getD r1.1 (Int.toNat ((gT a_Tables b).2)) 0) (List.getD (cond (d) (List.set (List.set [(gT a_Tables c).1, (gT a_Tables c).2] 0 ((gT a_Tables c).2)) 1 ((gT a_Tables c).1)) [(gT a_Tables c).1, (gT a_Tables c).2]) 1 0)) 1 : Int) == 1) (
                      some (0, [], 6)
                     ) (
                      (f30_1 m m a_Tables 0 r1.1 [(gT a_Tables b).1, (gT a_Tables b).2] (cond (d) (List.set (List.set [(gT a_Tables c).1, (gT a_Tables c).2] 0 ((gT a_Tables c).2)) 1 ((gT a_Tables c).1)) [(gT a_Tables c).1, (gT a_Tables c).2])).bind fun o1 =>
                       cond (decide (0 < o1.2.1.length)) (
                        cond (decide (1 < o1.2.1.length)) (
                         cond (inRow (List.getD o1.2.1 0 0) o1.1.length) (
                          cond (decide (0 ≤ List.getD o1.2.1 1 0)) (
                           cond (inRow (List.getD o1.2.1 1 0) o1.1.length) (
                            cond (decide (0 ≤ List.getD o1.2.1 0 0)) (
                             cond (decide (0 < o1.2.2.length)) (
                              cond (decide (1 < o1.2.2.length)) (
                               cond (inRow (List.getD o1.2.2 0 0) o1.1.length) (
                                cond (decide (0 ≤ List.getD o1.2.2 1 0)) (
                                 cond (inRow (List.getD o1.2.2 1 0) o1.1.length) (
                                  cond (decide (0 ≤ List.getD o1.2.2 0 0)) (
                                   (f78 m (sB (sB (sB (sB o1.1 (List.getD o1.2.1 0 0) (List.getD o1.2.1 1 0)) (List.getD o1.2.1 1 0) (List.getD o1.2.1 0 0)) (List.getD o1.2.2 0 0) (List.getD o1.2.2 1 0)) (List.getD o1.2.2 1 0) (List.getD o1.2.2 0 0))).bind fun r6 =>
                                    some (r6.1, r6.2, 0)
                                  ) none
                                 ) none
                                ) none
                               ) none
                              ) none
                             ) none
                            ) none
                           ) none
                          ) none
                         ) none
                        ) none
                       ) none
                     )
                    ) none
                   ) none
                  ) none
                 )
                ) none
               ) none
              ) none
             )
           )
         ) none
        ) none
       ) none
      )
    )
  )

set_option maxHeartbeats 8000000 in
theorem f30_ok (m : Nat) (z0 : Nat) (y0 : Nat) (a_Sorters : Int) (a_Tables : List (Int × Int)) (b : Int) (c : Int) (d : Bool) (o : Int × (List (Int × Int)) × Int) (h : f30 m a_Sorters a_Tables b c d = some o) : KC E0 30 [.agg #[ii a_Sorters, s0 0 a_Tables.length], ii b, ii c, .bool d] [(0, rc encP a_Tables z0 y0 2)] 1 (fun v h' c' => v = .tuple #[.agg #[ii o.1, s0 1 o.2.1.length], ii o.2.2] ∧ h' = [(1, rc encP o.2.1 0 55 2)] ++ [(0, rc encP a_Tables z0 y0 2)] ∧ c' = 2) := by
 refine KC.renO ?_
 refine KC.bodyN E0_ok (F := Proofs.Tryd.f30) (by kernel_rfl) (code := f30_C30) (by kernel_rfl) (nt := 112) (by kernel_rfl) (rs := [.cell 8 34, .tmp 9]) (by kernel_rfl) (by kernel_rfl) (σ := [(0, .agg #[ii a_Sorters, s0 0 a_Tables.length]), (1, ii b), (2, ii c), (3, .bool d)]) (by kernel_rfl) ?_
 unfold f30 at h
 refine qQ ?_
 refine rT 3 [(1, ii b), (2, ii c), (3, .bool d), (4, pp 1 0), (8, pp 2 0)] [(2, .cells [ii 0, .slice none 0 0] 0 34 0), (1, pO a_Sorters a_Tables), (0, rc encP a_Tables z0 y0 2)] 3 ?_
 refine dQ ?_
 show XQ _ _ _ _ _ _ _ _
 refine XQ.ghost 55 2 rfl (σ' := [(1, ii b), (2, ii c), (3, .bool d), (4, pp 1 0), (8, pp 2 0)]) (h' := [(2, pN 3), (1, pO a_Sorters a_Tables), (0, rc encP a_Tables z0 y0 2)]) ⟨rfl, rfl, rfl, rfl, rfl, trivial⟩ ⟨⟨_, rfl, .inr ⟨_, _, _, _, rfl, rfl⟩⟩, ⟨_, rfl, .inl rfl⟩, ⟨_, rfl, .inl rfl⟩, trivial⟩ ?_
 refine XQ.conv (σ' := [(1, ii b), (2, ii c), (3, .bool d), (4, pp 1 0), (8, pp 2 0)]) (h' := [(3, nP), (2, pN 3), (1, pO a_Sorters a_Tables), (0, rc encP a_Tables z0 y0 2)]) (c' := 4) ?_ (by kernel_rfl)
 refine qQ ?_
 refine rS 1 [(1, ii b), (2, ii c), (3, .bool d), (4, pp 1 0), (8, pp 2 0), (16, .agg #[ii a_Sorters, s0 0 a_Tables.length])] ?_
 obtain ⟨r1, r1_h, h⟩ := bS h
 refine XR.call E0_ok [1, 2, 3, 4, 8, 17] rfl (K := 74) (args := [.agg #[ii a_Sorters, s0 0 a_Tables.length]]) (d := (some (path 12 17))) (by kernel_rfl) (KC.liftH (n0 := 1) (m := 1) (args0 := [.agg #[ii a_Sorters, s0 0 a_Tables.length]]) (h0 := [(0, rc encP a_Tables (z0 + ((rowC encP a_Tables).length + 1)) y0 2)]) (V := .tuple #[s0 1 r1.1.length, ii r1.2]) (V2 := .tuple #[s0 4 r1.1.length, ii r1.2]) (H := [(1, rU r1.1)]) (H2 := [(4, rU r1.1)]) [0] [2, 3, 4, 5, 1] (f74_ok m (z0 + ((rowC encP a_Tables).length + 1)) y0 a_Sorters a_Tables r1 r1_h) (by rfl) (by decide) rfl (by kernel_rfl) ⟨⟨_, _, rfl, rfl, .inl ⟨rfl, rwP⟩⟩, trivial⟩ (by decide) (by decide) (by kernel_rfl) ⟨⟨_, _, rfl, rfl, .inl ⟨rfl, rowC_scal (encI_ok .u64) _⟩⟩, trivial⟩ (by rfl)) ?_
 rintro _ _ _ ⟨rfl, rfl, rfl⟩
 refine XR.conv (σ' := [(1, ii b), (2, ii c), (3, .bool d), (4, pp 1 0), (8, pp 2 0), (17, .tuple #[s0 4 r1.1.length, ii r1.2])]) (h' := [(4, rU r1.1), (3, nP), (2, pN 3), (1, pO a_Sorters a_Tables), (0, rc encP a_Tables z0 y0 2)]) (c' := 5) ?_ (by kernel_rfl)
 refine rS 5 [(1, ii b), (2, ii c), (3, .bool d), (4, pp 1 0), (8, pp 2 0), (10, s0 4 r1.1.length), (11, ii r1.2)] ?_
 refine dQ ?_
 show XQ _ _ _ _ _ _ _ _
 refine sQ ?_
 refine XQ.block (id := 0) (by kernel_rfl) ?_
 refine qQ ?_
 refine rS 3 [(1, ii b), (2, ii c), (3, .bool d), (4, pp 1 0), (8, pp 2 0), (10, s0 4 r1.1.length), (11, ii r1.2), (20, .bool (r1.2 != 0))] ?_
 refine dQ ?_
 show XQ _ _ _ _ _ _ _ _
 cases b1 : (r1.2 != 0 : Bool) with
 | true =>
  have h := cT b1 h
  refine iT (.tmp 20) ?_
  refine qQ ?_
  refine rT 4 [(8, pp 2 0), (9, ii r1.2)] [(4, rU r1.1), (3, nP), (2, .cells [ii 0, .slice none 0 0] 0 34 0), (1, pO a_Sorters a_Tables), (0, rc encP a_Tables z0 y0 2)] 5 ?_
  refine dQ ?_
  show XQ _ _ _ _ _ _ _ _
  refine XQ.ghost 55 2 rfl (σ' := [(8, pp 2 0), (9, ii r1.2)]) (h' := [(4, rU r1.1), (3, nP), (2, pN 5), (1, pO a_Sorters a_Tables), (0, rc encP a_Tables z0 y0 2)]) ⟨rfl, rfl, trivial⟩ ⟨⟨_, rfl, .inl rfl⟩, ⟨_, rfl, .inl rfl⟩, ⟨_, rfl, .inr ⟨_, _, _, _, rfl, rfl⟩⟩, ⟨_, rfl, .inl rfl⟩, ⟨_, rfl, .inl rfl⟩, trivial⟩ ?_
  refine XQ.conv (σ' := [(8, pp 2 0), (9, ii r1.2)]) (h' := [(5, nP), (4, rU r1.1), (3, nP), (2, pN 5), (1, pO a_Sorters a_Tables), (0, rc encP a_Tables z0 y0 2)]) (c' := 6) ?_ (by kernel_rfl)
  refine XQ.ren (σ' := [(8, pp 1 0), (9, ii r1.2)]) (h' := [(2, nP), (1, pN 2), (0, rc encP a_Tables z0 y0 2)]) (c' := 3) [0, 2, 5] (by decide) rfl ⟨rfl, rfl, trivial⟩ ⟨⟨_, _, rfl, rfl, .inl ⟨rfl, rwP⟩⟩, ⟨_, _, rfl, rfl, .inr ⟨_, _, _, _, rfl, rfl⟩⟩, ⟨_, _, rfl, rfl, .inl ⟨rfl, rwP⟩⟩, trivial⟩ rfl ?_
  refine XQ.ret (by kernel_rfl) ?_
  have h := Option.some.inj h
  subst h
  exact ⟨fun i q => (by cases q), .tuple #[.agg #[ii 0, s0 2 0], ii r1.2], (by kernel_rfl), [0, 2], .tuple #[.agg #[ii 0, s0 1 0], ii r1.2], [(1, nP), (0, rc encP a_Tables z0 y0 2)], (by decide), rfl, (by kernel_rfl), ⟨⟨_, _, rfl, rfl, .inl ⟨rfl, rwP⟩⟩, ⟨_, _, rfl, rfl, .inl ⟨rfl, rwP⟩⟩, trivial⟩, (by kernel_rfl), (by kernel_rfl), rfl⟩
 | false =>
  have h := cF b1 h
  refine iF (.tmp 20) ?_
  refine qQ ?_
  refine rS 5 [(1, ii b), (2, ii c), (3, .bool d), (4, pp 1 0), (8, pp 2 0), (10, s0 4 r1.1.length), (26, ii b), (30, ii (w64 (((a_Tables.length : Nat) : Int) - 1)))] ?_
  obtain ⟨r2, r2_h, h⟩ := bS h
  refine XR.call E0_ok [1, 2, 3, 4, 8, 10, 31] rfl (K := 65) (args := [ii b, ii 0, ii (w64 (((a_Tables.length : Nat) : Int) - 1))]) (d := (some (path 12 31))) (by kernel_rfl) (KC.of_calls E0_ok (F := Proofs.Tryd.f65) (v := .bool r2) (by kernel_rfl) rfl rfl (fun w hI => f65_ok m b 0 (w64 (((a_Tables.length : Nat) : Int) - 1)) r2 r2_h w hI)) ?_
  rintro _ _ _ ⟨rfl, rfl, rfl⟩
  refine XR.conv (σ' := [(1, ii b), (2, ii c), (3, .bool d), (4, pp 1 0), (8, pp 2 0), (10, s0 4 r1.1.length), (31, .bool r2)]) (h' := [(4, rU r1.1), (3, nP), (2, pN 3), (1, pO a_Sorters a_Tables), (0, rc encP a_Tables z0 y0 2)]) (c' := 5) ?_ (by kernel_rfl)
  refine rS 2 [(1, ii b), (2, ii c), (3, .bool d), (4, pp 1 0), (8, pp 2 0), (10, s0 4 r1.1.length), (33, .bool (!r2))] ?_
  cases b2 : (!r2 : Bool) with
  | true =>
   have h := cT b2 h
   refine rS 9 [(1, ii b), (2, ii c), (3, .bool d), (4, pp 1 0), (8, pp 2 0), (10, s0 4 r1.1.length), (25, .bool true)] ?_
   refine dQ ?_
   show XQ _ _ _ _ _ _ _ _
   refine iT (.tmp 25) ?_
   refine qQ ?_
   refine rT 3 [(8, pp 2 0), (9, ii 2)] [(4, rU r1.1), (3, nP), (2, .cells [ii 0, .slice none 0 0] 0 34 0), (1, pO a_Sorters a_Tables), (0, rc encP a_Tables z0 y0 2)] 5 ?_
   refine dQ ?_
   show XQ _ _ _ _ _ _ _ _
   refine XQ.ghost 55 2 rfl (σ' := [(8, pp 2 0), (9, ii 2)]) (h' := [(4, rU r1.1), (3, nP), (2, pN 5), (1, pO a_Sorters a_Tables), (0, rc encP a_Tables z0 y0 2)]) ⟨rfl, rfl, trivial⟩ ⟨⟨_, rfl, .inl rfl⟩, ⟨_, rfl, .inl rfl⟩, ⟨_, rfl, .inr ⟨_, _, _, _, rfl, rfl⟩⟩, ⟨_, rfl, .inl rfl⟩, ⟨_, rfl, .inl rfl⟩, trivial⟩ ?_
   refine XQ.conv (σ' := [(8, pp 2 0), (9, ii 2)]) (h' := [(5, nP), (4, rU r1.1), (3, nP), (2, pN 5), (1, pO a_Sorters a_Tables), (0, rc encP a_Tables z0 y0 2)]) (c' := 6) ?_ (by kernel_rfl)
   refine XQ.ren (σ' := [(8, pp 1 0), (9, ii 2)]) (h' := [(2, nP), (1, pN 2), (0, rc encP a_Tables z0 y0 2)]) (c' := 3) [0, 2, 5] (by decide) rfl ⟨rfl, rfl, trivial⟩ ⟨⟨_, _, rfl, rfl, .inl ⟨rfl, rwP⟩⟩, ⟨_, _, rfl, rfl, .inr ⟨_, _, _, _, rfl, rfl⟩⟩, ⟨_, _, rfl, rfl, .inl ⟨rfl, rwP⟩⟩, trivial⟩ rfl ?_
   refine XQ.ret (by kernel_rfl) ?_
   have h := Option.some.inj h
   subst h
   exact ⟨fun i q => (by cases q), .tuple #[.agg #[ii 0, s0 2 0], ii 2], (by kernel_rfl), [0, 2], .tuple #[.agg #[ii 0, s0 1 0], ii 2], [(1, nP), (0, rc encP a_Tables z0 y0 2)], (by decide), rfl, (by kernel_rfl), ⟨⟨_, _, rfl, rfl, .inl ⟨rfl, rwP⟩⟩, ⟨_, _, rfl, rfl, .inl ⟨rfl, rwP⟩⟩, trivial⟩, (by kernel_rfl), (by kernel_rfl), rfl⟩
  | false =>
   have h := cF b2 h
   refine rS 5 [(1, ii b), (2, ii c), (3, .bool d), (4, pp 1 0), (8, pp 2 0), (10, s0 4 r1.1.length), (33, .bool false), (34, ii c), (38, ii (w64 (((a_Tables.length : Nat) : Int) - 1)))] ?_
   obtain ⟨r3, r3_h, h⟩ := bS h
   refine XR.call E0_ok [1, 2, 3, 4, 8, 10, 33, 39] rfl (K := 65) (args := [ii c, ii 0, ii (w64 (((a_Tables.length : Nat) : Int) - 1))]) (d := (some (path 12 39))) (by kernel_rfl) (KC.of_calls E0_ok (F := Proofs.Tryd.f65) (v := .bool r3) (by kernel_rfl) rfl rfl (fun w hI => f65_ok m c 0 (w64 (((a_Tables.length : Nat) : Int) - 1)) r3 r3_h w hI)) ?_
   rintro _ _ _ ⟨rfl, rfl, rfl⟩
   refine XR.conv (σ' := [(1, ii b), (2, ii c), (3, .bool d), (4, pp 1 0), (8, pp 2 0), (10, s0 4 r1.1.length), (33, .bool false), (39, .bool r3)]) (h' := [(4, rU r1.1), (3, nP), (2, pN 3), (1, pO a_Sorters a_Tables), (0, rc encP a_Tables z0 y0 2)]) (c' := 5) ?_ (by kernel_rfl)
   refine rS 3 [(1, ii b), (2, ii c), (3, .bool d), (4, pp 1 0), (8, pp 2 0), (10, s0 4 r1.1.length), (25, .bool (!r3))] ?_
   refine dQ ?_
   show XQ _ _ _ _ _ _ _ _
   cases b3 : (!r3 : Bool) with
   | true =>
    have h := cT b3 h
    refine iT (.tmp 25) ?_
    refine qQ ?_
    refine rT 3 [(8, pp 2 0), (9, ii 2)] [(4, rU r1.1), (3, nP), (2, .cells [ii 0, .slice none 0 0] 0 34 0), (1, pO a_Sorters a_Tables), (0, rc encP a_Tables z0 y0 2)] 5 ?_
    refine dQ ?_
    show XQ _ _ _ _ _ _ _ _
    refine XQ.ghost 55 2 rfl (σ' := [(8, pp 2 0), (9, ii 2)]) (h' := [(4, rU r1.1), (3, nP), (2, pN 5), (1, pO a_Sorters a_Tables), (0, rc encP a_Tables z0 y0 2)]) ⟨rfl, rfl, trivial⟩ ⟨⟨_, rfl, .inl rfl⟩, ⟨_, rfl, .inl rfl⟩, ⟨_, rfl, .inr ⟨_, _, _, _, rfl, rfl⟩⟩, ⟨_, rfl, .inl rfl⟩, ⟨_, rfl, .inl rfl⟩, trivial⟩ ?_
    refine XQ.conv (σ' := [(8, pp 2 0), (9, ii 2)]) (h' := [(5, nP), (4, rU r1.1), (3, nP), (2, pN 5), (1, pO a_Sorters a_Tables), (0, rc encP a_Tables z0 y0 2)]) (c' := 6) ?_ (by kernel_rfl)
    refine XQ.ren (σ' := [(8, pp 1 0), (9, ii 2)]) (h' := [(2, nP), (1, pN 2), (0, rc encP a_Tables z0 y0 2)]) (c' := 3) [0, 2, 5] (by decide) rfl ⟨rfl, rfl, trivial⟩ ⟨⟨_, _, rfl, rfl, .inl ⟨rfl, rwP⟩⟩, ⟨_, _, rfl, rfl, .inr ⟨_, _, _, _, rfl, rfl⟩⟩, ⟨_, _, rfl, rfl, .inl ⟨rfl, rwP⟩⟩, trivial⟩ rfl ?_
    refine XQ.ret (by kernel_rfl) ?_
    have h := Option.some.inj h
    subst h
    exact ⟨fun i q => (by cases q), .tuple #[.agg #[ii 0, s0 2 0], ii 2], (by kernel_rfl), [0, 2], .tuple #[.agg #[ii 0, s0 1 0], ii 2], [(1, nP), (0, rc encP a_Tables z0 y0 2)], (by decide), rfl, (by kernel_rfl), ⟨⟨_, _, rfl, rfl, .inl ⟨rfl, rwP⟩⟩, ⟨_, _, rfl, rfl, .inl ⟨rfl, rwP⟩⟩, trivial⟩, (by kernel_rfl), (by kernel_rfl), rfl⟩
   | false =>
    have h := cF b3 h
    refine iF (.tmp 25) ?_
    refine kQ ?_
    show XQ _ _ _ _ _ _ _ _
    refine sQ ?_
    cases b4 : (inRow b a_Tables.length : Bool) with
    | false => cases (cF b4 h)
    | true =>
     have h := cT b4 h
     cases b5 : (inRow c a_Tables.length : Bool) with
     | false => cases (cF b5 h)
     | true =>
      have h := cT b5 h
      refine XQ.preA E0_ok [0, 2, 5, 7] (by kernel_rfl) (g := 10) (listed := #[true, false, true, false, false, true, false, true, false, false, false, false, false, false]) (by kernel_rfl) (by kernel_rfl) (by kernel_rfl) (by kernel_rfl) (by kernel_rfl) (σ' := [(3, .bool d), (8, pp 1 0), (10, s0 2 r1.1.length), (12, pp 3 0), (13, pp 4 0)]) (h' := [(5, nP), (4, .cells (t2 (gT a_Tables c)) 0 55 0), (3, .cells (t2 (gT a_Tables b)) 0 55 0), (2, rU r1.1), (1, pN 5), (0, rc encP a_Tables z0 y0 2)]) (c' := 6) ?_ ?_
      ·show XQ _ _ _ _ _ _ _ _
       refine sQ ?_
       refine sQ ?_
       refine XQ.quiet E0_ok (by kernel_rfl) (by kernel_rfl) ?_
       cases b6 : (cutOK 0 ((2 : Nat) : Int) ((2 : Nat) : Int) 2 : Bool) with
       | false => cases (cF b6 h)
       | true =>
        have h := cT b6 h
        refine XU.rd E0_ok [3, 8, 10, 12, 13, 53] rfl (v := s0 4 2) (v_cutA (nt := 112) (s := 1) (n := 2) (x := (src 112 (.tmp 13))) (lo := none) (hi := none) (b := 4) (o := 0) (l := none) (u := none) (cs := rowC (encI .i64) [(gT a_Tables c).1, (gT a_Tables c).2]) (fz := 0) (e := 55) (o' := 0) (len' := 2) (cap' := 2) (d := (some (path 12 53))) (by kernel_rfl) (by kernel_rfl) (by kernel_rfl) (by kernel_rfl) (by kernel_rfl) b6 (by simp only [Option.getD_none, Option.getD_some] <;> omega) (by simp only [Option.getD_none, Option.getD_some] <;> omega) (by simp only [Option.getD_none, Option.getD_some] <;> omega)) (σ' := [(3, .bool d), (8, pp 1 0), (10, s0 2 r1.1.length), (12, pp 3 0), (13, pp 4 0), (53, s0 4 2)]) (by kernel_rfl) ?_
        refine XU.run E0_ok 1 2 [3, 8, 10, 12, 13, 53, 55] rfl (σ' := [(3, .bool d), (8, pp 1 0), (10, s0 2 r1.1.length), (12, pp 3 0), (13, pp 4 0), (53, s0 4 2), (55, ii ((gT a_Tables b).1))]) (by kernel_rfl) ?_
        obtain ⟨r4, r4_h, h⟩ := bS h
        refine XU.callH E0_ok [3, 8, 10, 12, 13, 56] rfl (K := 75) (args := [s0 4 2, ii ((gT a_Tables b).1)]) (d := (some (path 12 56))) (V := .bool r4) (by kernel_rfl) rfl (KC.quiet E0_ok (args0 := [s0 0 2, ii ((gT a_Tables b).1)]) (h0 := [(0, rc (encI .i64) [(gT a_Tables c).1, (gT a_Tables c).2] (0 + ((rowC (encI .i64) [(gT a_Tables c).1, (gT a_Tables c).2]).length + 1)) 55 0)]) (n := 1) (V := .bool r4) [4] (f75_ok m (0 + ((rowC (encI .i64) [(gT a_Tables c).1, (gT a_Tables c).2]).length + 1)) 55 0 [(gT a_Tables c).1, (gT a_Tables c).2] ((gT a_Tables b).1) r4 r4_h) rfl (by rfl) (by decide) rfl (by kernel_rfl) ⟨⟨_, _, rfl, rfl, .inl ⟨rfl, rwI⟩⟩, trivial⟩) (σ' := [(3, .bool d), (8, pp 1 0), (10, s0 2 r1.1.length), (12, pp 3 0), (13, pp 4 0), (56, .bool r4)]) (by kernel_rfl) ?_
        refine XU.run E0_ok 1 1 [3, 8, 10, 12, 13, 57] rfl (σ' := [(3, .bool d), (8, pp 1 0), (10, s0 2 r1.1.length), (12, pp 3 0), (13, pp 4 0), (57, .bool r4)]) (by kernel_rfl) ?_
        cases b7 : (r4 : Bool) with
        | true =>
         have h := cT b7 h
         refine XU.run E0_ok 1 5 [3, 8, 10, 12, 13, 62] rfl (σ' := [(3, .bool d), (8, pp 1 0), (10, s0 2 r1.1.length), (12, pp 3 0), (13, pp 4 0), (62, .bool true)]) (by kernel_rfl) ?_
         refine XU.done (by kernel_rfl) ?_
         show XQ _ _ _ _ _ _ _ _
         refine iT (.tmp 62) ?_
         refine qQ ?_
         refine rT 3 [(8, pp 1 0), (9, ii 5)] [(5, nP), (4, rc (encI .i64) [(gT a_Tables c).1, (gT a_Tables c).2] 0 55 0), (3, .cells (t2 (gT a_Tables b)) 0 55 0), (2, rU r1.1), (1, .cells [ii 0, .slice none 0 0] 0 34 0), (0, rc encP a_Tables z0 y0 2)] 6 ?_
         refine dQ ?_
         show XQ _ _ _ _ _ _ _ _
         refine XQ.ghost 55 2 rfl (σ' := [(8, pp 1 0), (9, ii 5)]) (h' := [(5, nP), (4, rc (encI .i64) [(gT a_Tables c).1, (gT a_Tables c).2] 0 55 0), (3, .cells (t2 (gT a_Tables b)) 0 55 0), (2, rU r1.1), (1, pN 6), (0, rc encP a_Tables z0 y0 2)]) ⟨rfl, rfl, trivial⟩ ⟨⟨_, rfl, .inl rfl⟩, ⟨_, rfl, .inl rfl⟩, ⟨_, rfl, .inl rfl⟩, ⟨_, rfl, .inl rfl⟩, ⟨_, rfl, .inr ⟨_, _, _, _, rfl, rfl⟩⟩, ⟨_, rfl, .inl rfl⟩, trivial⟩ ?_
         refine XQ.conv (σ' := [(8, pp 1 0), (9, ii 5)]) (h' := [(6, nP), (5, nP), (4, rc (encI .i64) [(gT a_Tables c).1, (gT a_Tables c).2] 0 55 0), (3, .cells (t2 (gT a_Tables b)) 0 55 0), (2, rU r1.1), (1, pN 6), (0, rc encP a_Tables z0 y0 2)]) (c' := 7) ?_ (by kernel_rfl)
         refine XQ.ren (σ' := [(8, pp 1 0), (9, ii 5)]) (h' := [(2, nP), (1, pN 2), (0, rc encP a_Tables z0 y0 2)]) (c' := 3) [0, 1, 6] (by decide) rfl ⟨rfl, rfl, trivial⟩ ⟨⟨_, _, rfl, rfl, .inl ⟨rfl, rwP⟩⟩, ⟨_, _, rfl, rfl, .inr ⟨_, _, _, _, rfl, rfl⟩⟩, ⟨_, _, rfl, rfl, .inl ⟨rfl, rwP⟩⟩, trivial⟩ rfl ?_
         refine XQ.ret (by kernel_rfl) ?_
         have h := Option.some.inj h
         subst h
         exact ⟨fun i q => (by cases q), .tuple #[.agg #[ii 0, s0 2 0], ii 5], (by kernel_rfl), [0, 2], .tuple #[.agg #[ii 0, s0 1 0], ii 5], [(1, nP), (0, rc encP a_Tables z0 y0 2)], (by decide), rfl, (by kernel_rfl), ⟨⟨_, _, rfl, rfl, .inl ⟨rfl, rwP⟩⟩, ⟨_, _, rfl, rfl, .inl ⟨rfl, rwP⟩⟩, trivial⟩, (by kernel_rfl), (by kernel_rfl), rfl⟩
        | false =>
         have h := cF b7 h
         refine XU.rd E0_ok [3, 8, 10, 12, 13, 57, 58] rfl (v := s0 4 2) (v_cutA (nt := 112) (s := 1) (n := 2) (x := (src 112 (.tmp 13))) (lo := none) (hi := none) (b := 4) (o := 0) (l := none) (u := none) (cs := rowC (encI .i64) [(gT a_Tables c).1, (gT a_Tables c).2]) (fz := 0) (e := 55) (o' := 0) (len' := 2) (cap' := 2) (d := (some (path 12 58))) (by kernel_rfl) (by kernel_rfl) (by kernel_rfl) (by kernel_rfl) (by kernel_rfl) b6 (by simp only [Option.getD_none, Option.getD_some] <;> omega) (by simp only [Option.getD_none, Option.getD_some] <;> omega) (by simp only [Option.getD_none, Option.getD_some] <;> omega)) (σ' := [(3, .bool d), (8, pp 1 0), (10, s0 2 r1.1.length), (12, pp 3 0), (13, pp 4 0), (57, .bool false), (58, s0 4 2)]) (by kernel_rfl) ?_
         refine XU.run E0_ok 1 2 [3, 8, 10, 12, 13, 57, 58, 60] rfl (σ' := [(3, .bool d), (8, pp 1 0), (10, s0 2 r1.1.length), (12, pp 3 0), (13, pp 4 0), (57, .bool false), (58, s0 4 2), (60, ii ((gT a_Tables b).2))]) (by kernel_rfl) ?_
         obtain ⟨r5, r5_h, h⟩ := bS h
         refine XU.callH E0_ok [3, 8, 10, 12, 13, 57, 61] rfl (K := 75) (args := [s0 4 2, ii ((gT a_Tables b).2)]) (d := (some (path 12 61))) (V := .bool r5) (by kernel_rfl) rfl (KC.quiet E0_ok (args0 := [s0 0 2, ii ((gT a_Tables b).2)]) (h0 := [(0, rc (encI .i64) [(gT a_Tables c).1, (gT a_Tables c).2] (0 + ((rowC (encI .i64) [(gT a_Tables c).1, (gT a_Tables c).2]).length + 1)) 55 0)]) (n := 1) (V := .bool r5) [4] (f75_ok m (0 + ((rowC (encI .i64) [(gT a_Tables c).1, (gT a_Tables c).2]).length + 1)) 55 0 [(gT a_Tables c).1, (gT a_Tables c).2] ((gT a_Tables b).2) r5 r5_h) rfl (by rfl) (by decide) rfl (by kernel_rfl) ⟨⟨_, _, rfl, rfl, .inl ⟨rfl, rwI⟩⟩, trivial⟩) (σ' := [(3, .bool d), (8, pp 1 0), (10, s0 2 r1.1.length), (12, pp 3 0), (13, pp 4 0), (57, .bool false), (61, .bool r5)]) (by kernel_rfl) ?_
         refine XU.run E0_ok 1 1 [3, 8, 10, 12, 13, 62] rfl (σ' := [(3, .bool d), (8, pp 1 0), (10, s0 2 r1.1.length), (12, pp 3 0), (13, pp 4 0), (62, .bool r5)]) (by kernel_rfl) ?_
         refine XU.done (by kernel_rfl) ?_
         show XQ _ _ _ _ _ _ _ _
         cases b8 : (r5 : Bool) with
         | true =>
          have h := cT b8 h
          refine iT (.tmp 62) ?_
          refine qQ ?_
          refine rT 3 [(8, pp 1 0), (9, ii 5)] [(5, nP), (4, rc (encI .i64) [(gT a_Tables c).1, (gT a_Tables c).2] 0 55 0), (3, .cells (t2 (gT a_Tables b)) 0 55 0), (2, rU r1.1), (1, .cells [ii 0, .slice none 0 0] 0 34 0), (0, rc encP a_Tables z0 y0 2)] 6 ?_
          refine dQ ?_
          show XQ _ _ _ _ _ _ _ _
          refine XQ.ghost 55 2 rfl (σ' := [(8, pp 1 0), (9, ii 5)]) (h' := [(5, nP), (4, rc (encI .i64) [(gT a_Tables c).1, (gT a_Tables c).2] 0 55 0), (3, .cells (t2 (gT a_Tables b)) 0 55 0), (2, rU r1.1), (1, pN 6), (0, rc encP a_Tables z0 y0 2)]) ⟨rfl, rfl, trivial⟩ ⟨⟨_, rfl, .inl rfl⟩, ⟨_, rfl, .inl rfl⟩, ⟨_, rfl, .inl rfl⟩, ⟨_, rfl, .inl rfl⟩, ⟨_, rfl, .inr ⟨_, _, _, _, rfl, rfl⟩⟩, ⟨_, rfl, .inl rfl⟩, trivial⟩ ?_
          refine XQ.conv (σ' := [(8, pp 1 0), (9, ii 5)]) (h' := [(6, nP), (5, nP), (4, rc (encI .i64) [(gT a_Tables c).1, (gT a_Tables c).2] 0 55 0), (3, .cells (t2 (gT a_Tables b)) 0 55 0), (2, rU r1.1), (1, pN 6), (0, rc encP a_Tables z0 y0 2)]) (c' := 7) ?_ (by kernel_rfl)
          refine XQ.ren (σ' := [(8, pp 1 0), (9, ii 5)]) (h' := [(2, nP), (1, pN 2), (0, rc encP a_Tables z0 y0 2)]) (c' := 3) [0, 1, 6] (by decide) rfl ⟨rfl, rfl, trivial⟩ ⟨⟨_, _, rfl, rfl, .inl ⟨rfl, rwP⟩⟩, ⟨_, _, rfl, rfl, .inr ⟨_, _, _, _, rfl, rfl⟩⟩, ⟨_, _, rfl, rfl, .inl ⟨rfl, rwP⟩⟩, trivial⟩ rfl ?_
          refine XQ.ret (by kernel_rfl) ?_
          have h := Option.some.inj h
          subst h
          exact ⟨fun i q => (by cases q), .tuple #[.agg #[ii 0, s0 2 0], ii 5], (by kernel_rfl), [0, 2], .tuple #[.agg #[ii 0, s0 1 0], ii 5], [(1, nP), (0, rc encP a_Tables z0 y0 2)], (by decide), rfl, (by kernel_rfl), ⟨⟨_, _, rfl, rfl, .inl ⟨rfl, rwP⟩⟩, ⟨_, _, rfl, rfl, .inl ⟨rfl, rwP⟩⟩, trivial⟩, (by kernel_rfl), (by kernel_rfl), rfl⟩
         | false =>
          have h := cF b8 h
          refine iF (.tmp 62) ?_
          refine kQ ?_
          show XQ _ _ _ _ _ _ _ _
          refine sQ ?_
          refine qQ ?_
          refine rS 1 [(8, pp 1 0), (10, s0 2 r1.1.length), (12, pp 3 0), (13, pp 4 0), (64, .bool d)] ?_
          refine dQ ?_
          show XQ _ _ _ _ _ _ _ _
          refine XQ.meetC (σ' := [(8, pp 1 0), (10, s0 2 r1.1.length), (12, pp 3 0), (13, pp 4 0)]) (h' := [(5, nP), (4, rc (encI .i64) (cond (d) (List.set (List.set [(gT a_Tables c).1, (gT a_Tables c).2] 0 ((gT a_Tables c).2)) 1 ((gT a_Tables c).1)) [(gT a_Tables c).1, (gT a_Tables c).2]) 0 55 0), (3, .cells (t2 (gT a_Tables b)) 0 55 0), (2, rU r1.1), (1, pN 5), (0, rc encP a_Tables z0 y0 2)]) (c' := 6) ?_ ?_
          rotate_left
          ·refine XQ.cond (s := (.tmp 64)) (b := d) (by kernel_rfl) (by kernel_rfl) (fun b9 => ?_) (fun b9 => ?_)
           ·refine rQ ?_
            refine rS 1 [(8, pp 1 0), (10, s0 2 r1.1.length), (12, pp 3 0), (13, pp 4 0), (65, pp 4 1)] ?_
            refine XR.rd E0_ok [8, 10, 12, 13, 66] rfl (v := ii ((gT a_Tables c).2)) (v_load1 (encI_ok .i64) (x := (src 112 (.tmp 65))) (b := 4) (off := 1) (xs := [(gT a_Tables c).1, (gT a_Tables c).2]) (fz := 0) (e := 55) (es := 0) (d := (some (path 12 66))) (by kernel_rfl) (by kernel_rfl) (by kernel_rfl) 1 0 0 (by first | rfl | omega) (row_len (show (decide (1 < 2)) = true by first | rfl | simp) (by simp)) rfl rfl) (σ' := [(8, pp 1 0), (10, s0 2 r1.1.length), (12, pp 3 0), (13, pp 4 0), (66, ii ((gT a_Tables c).2))]) (by kernel_rfl) ?_
            refine rS 1 [(8, pp 1 0), (10, s0 2 r1.1.length), (12, pp 3 0), (13, pp 4 0), (66, ii ((gT a_Tables c).2)), (67, pp 4 0)] ?_
            refine XR.rd E0_ok [8, 10, 12, 13, 66, 68] rfl (v := ii ((gT a_Tables c).1)) (v_load1 (encI_ok .i64) (x := (src 112 (.tmp 67))) (b := 4) (off := 0) (xs := [(gT a_Tables c).1, (gT a_Tables c).2]) (fz := 0) (e := 55) (es := 0) (d := (some (path 12 68))) (by kernel_rfl) (by kernel_rfl) (by kernel_rfl) 0 0 0 (by first | rfl | omega) (row_len (show (decide (0 < 2)) = true by first | rfl | simp) (by simp)) rfl rfl) (σ' := [(8, pp 1 0), (10, s0 2 r1.1.length), (12, pp 3 0), (13, pp 4 0), (66, ii ((gT a_Tables c).2)), (68, ii ((gT a_Tables c).1))]) (by kernel_rfl) ?_
            refine rS 1 [(8, pp 1 0), (10, s0 2 r1.1.length), (12, pp 3 0), (13, pp 4 0), (66, ii ((gT a_Tables c).2)), (68, ii ((gT a_Tables c).1)), (69, pp 4 0)] ?_
            refine XR.ef E0_ok [8, 10, 12, 13, 68] rfl (e_store (encI_ok .i64) (size := 1) (x := (src 112 (.tmp 69))) (y := (src 112 (.tmp 66))) (b := 4) (off := 0) (xs := [(gT a_Tables c).1, (gT a_Tables c).2]) (e := 55) (es := 0) (d := none) (h' := [(5, nP), (4, rc (encI .i64) (List.set [(gT a_Tables c).1, (gT a_Tables c).2] 0 ((gT a_Tables c).2)) 0 55 0), (3, .cells (t2 (gT a_Tables b)) 0 55 0), (2, rU r1.1), (1, pN 5), (0, rc encP a_Tables z0 y0 2)]) (w := ii ((gT a_Tables c).2)) (ws := [ii ((gT a_Tables c).2)]) (a := (gT a_Tables c).2) (by kernel_rfl) (by kernel_rfl) (by kernel_rfl) 0 0 0 (by first | rfl | omega) (row_len (show (decide (0 < 2)) = true by first | rfl | simp) (by simp)) (by kernel_rfl) rfl rfl rfl rfl rfl (by kernel_rfl)) (σ' := [(8, pp 1 0), (10, s0 2 r1.1.length), (12, pp 3 0), (13, pp 4 0), (68, ii ((gT a_Tables c).1))]) (by kernel_rfl) ?_
            refine rS 1 [(8, pp 1 0), (10, s0 2 r1.1.length), (12, pp 3 0), (13, pp 4 0), (68, ii ((gT a_Tables c).1)), (70, pp 4 1)] ?_
            refine XR.ef E0_ok [8, 10, 12, 13] rfl (e_store (encI_ok .i64) (size := 1) (x := (src 112 (.tmp 70))) (y := (src 112 (.tmp 68))) (b := 4) (off := 1) (xs := List.set [(gT a_Tables c).1, (gT a_Tables c).2] 0 ((gT a_Tables c).2)) (e := 55) (es := 0) (d := none) (h' := [(5, nP), (4, rc (encI .i64) (List.set (List.set [(gT a_Tables c).1, (gT a_Tables c).2] 0 ((gT a_Tables c).2)) 1 ((gT a_Tables c).1)) 0 55 0), (3, .cells (t2 (gT a_Tables b)) 0 55 0), (2, rU r1.1), (1, pN 5), (0, rc encP a_Tables z0 y0 2)]) (w := ii ((gT a_Tables c).1)) (ws := [ii ((gT a_Tables c).1)]) (a := (gT a_Tables c).1) (by kernel_rfl) (by kernel_rfl) (by kernel_rfl) 1 0 0 (by first | rfl | omega) (row_len (show (decide (1 < 2)) = true by first | rfl | simp) (by simp)) (by kernel_rfl) rfl rfl rfl rfl rfl (by kernel_rfl)) (σ' := [(8, pp 1 0), (10, s0 2 r1.1.length), (12, pp 3 0), (13, pp 4 0)]) (by kernel_rfl) ?_
            refine dQ ?_
            refine ⟨rfl, ?_, ?_⟩
            ·try rw [b9]
             exact ⟨rfl, rfl, rfl, rfl, trivial⟩
            ·try rw [b9]
             kernel_rfl
           ·refine kQ ?_
            refine ⟨rfl, ?_, ?_⟩
            ·try rw [b9]
             exact ⟨rfl, rfl, rfl, rfl, trivial⟩
            ·try rw [b9]
             kernel_rfl
          show XQ _ _ _ _ _ _ _ _
          refine sQ ?_
          refine qQ ?_
          refine rS 4 [(8, pp 1 0), (10, s0 2 r1.1.length), (12, pp 3 0), (13, pp 4 0), (71, s0 2 r1.1.length), (73, ii ((gT a_Tables b).1)), (74, pp 4 0)] ?_
          cases b10 : (decide (0 < (cond (d) (List.set (List.set [(gT a_Tables c).1, (gT a_Tables c).2] 0 ((gT a_Tables c).2)) 1 ((gT a_Tables c).1)) [(gT a_Tables c).1, (gT a_Tables c).2]).length) : Bool) with
          | false => cases (cF b10 h)
          | true =>
           have h := cT b10 h
           refine XR.rd E0_ok [8, 10, 12, 13, 71, 73, 75] rfl (v := ii (List.getD (cond (d) (List.set (List.set [(gT a_Tables c).1, (gT a_Tables c).2] 0 ((gT a_Tables c).2)) 1 ((gT a_Tables c).1)) [(gT a_Tables c).1, (gT a_Tables c).2]) 0 0)) (v_load1 (encI_ok .i64) (x := (src 112 (.tmp 74))) (b := 4) (off := 0) (xs := cond (d) (List.set (List.set [(gT a_Tables c).1, (gT a_Tables c).2] 0 ((gT a_Tables c).2)) 1 ((gT a_Tables c).1)) [(gT a_Tables c).1, (gT a_Tables c).2]) (fz := 0) (e := 55) (es := 0) (d := (some (path 12 75))) (by kernel_rfl) (by kernel_rfl) (by kernel_rfl) 0 0 0 (by first | rfl | omega) (row_len b10 (by simp)) rfl rfl) (σ' := [(8, pp 1 0), (10, s0 2 r1.1.length), (12, pp 3 0), (13, pp 4 0), (71, s0 2 r1.1.length), (73, ii ((gT a_Tables b).1)), (75, ii (List.getD (cond (d) (List.set (List.set [(gT a_Tables c).1, (gT a_Tables c).2] 0 ((gT a_Tables c).2)) 1 ((gT a_Tables c).1)) [(gT a_Tables c).1, (gT a_Tables c).2]) 0 0))]) (by kernel_rfl) ?_
           refine XR.callK E0_ok [8, 10, 12, 13, 76] rfl (K := 76) (args := [s0 2 r1.1.length, ii ((gT a_Tables b).1), ii (List.getD (cond (d) (List.set (List.set [(gT a_Tables c).1, (gT a_Tables c).2] 0 ((gT a_Tables c).2)) 1 ((gT a_Tables c).1)) [(gT a_Tables c).1, (gT a_Tables c).2]) 0 0)]) (d := (some (path 12 76))) (by kernel_rfl) ?_
           refine KC.bodyN E0_ok (F := Proofs.Tryd.f76) (by kernel_rfl) (code := f30_C76) (by kernel_rfl) (nt := 15) (by kernel_rfl) (rs := [.tmp 6]) (by kernel_rfl) (by kernel_rfl) (σ := [(0, s0 2 r1.1.length), (1, ii ((gT a_Tables b).1)), (2, ii (List.getD (cond (d) (List.set (List.set [(gT a_Tables c).1, (gT a_Tables c).2] 0 ((gT a_Tables c).2)) 1 ((gT a_Tables c).1)) [(gT a_Tables c).1, (gT a_Tables c).2]) 0 0))]) (by kernel_rfl) ?_
           refine qQ ?_
           refine rS 1 [(0, s0 2 r1.1.length), (1, ii ((gT a_Tables b).1)), (2, ii (List.getD (cond (d) (List.set (List.set [(gT a_Tables c).1, (gT a_Tables c).2] 0 ((gT a_Tables c).2)) 1 ((gT a_Tables c).1)) [(gT a_Tables c).1, (gT a_Tables c).2]) 0 0))] ?_
           refine nQ id ?_
           refine rS 2 [(2, ii (List.getD (cond (d) (List.set (List.set [(gT a_Tables c).1, (gT a_Tables c).2] 0 ((gT a_Tables c).2)) 1 ((gT a_Tables c).1)) [(gT a_Tables c).1, (gT a_Tables c).2]) 0 0)), (7, s0 2 r1.1.length), (8, ii ((gT a_Tables b).1))] ?_
           cases b11 : (inRow ((gT a_Tables b).1) r1.1.length : Bool) with
           | false => cases (cF b11 h)
           | true =>
            have h := cT b11 h
            refine XR.rd E0_ok [2, 9] rfl (v := pp 2 ((Int.toNat ((gT a_Tables b).1)) * 1)) (v_idx (s := 1) (x := (src 15 (.tmp 7))) (y := (src 15 (.tmp 8))) (b := 2) (o := 0) (len := r1.1.length) (cap := r1.1.length) (ik := .i64) (i := (gT a_Tables b).1) (off := (Int.toNat ((gT a_Tables b).1)) * 1) (d := (some (path 12 9))) (by kernel_rfl) (by kernel_rfl) (by kernel_rfl) b11 (by omega)) (σ' := [(2, ii (List.getD (cond (d) (List.set (List.set [(gT a_Tables c).1, (gT a_Tables c).2] 0 ((gT a_Tables c).2)) 1 ((gT a_Tables c).1)) [(gT a_Tables c).1, (gT a_Tables c).2]) 0 0)), (9, pp 2 ((Int.toNat ((gT a_Tables b).1)) * 1))]) (by kernel_rfl) ?_
            refine XR.rd E0_ok [2, 10] rfl (v := .int .u64 (List.getD r1.1 (Int.toNat ((gT a_Tables b).1)) 0)) (v_load1 (encI_ok .u64) (x := (src 15 (.tmp 9))) (b := 2) (off := (Int.toNat ((gT a_Tables b).1)) * 1) (xs := r1.1) (fz := 0) (e := 117) (es := 1) (d := (some (path 12 10))) (by kernel_rfl) (by kernel_rfl) (by kernel_rfl) (Int.toNat ((gT a_Tables b).1)) 0 0 (by first | rfl | omega) (row_len (inRow_toNat b11) (by simp)) rfl rfl) (σ' := [(2, ii (List.getD (cond (d) (List.set (List.set [(gT a_Tables c).1, (gT a_Tables c).2] 0 ((gT a_Tables c).2)) 1 ((gT a_Tables c).1)) [(gT a_Tables c).1, (gT a_Tables c).2]) 0 0)), (10, .int .u64 (List.getD r1.1 (Int.toNat ((gT a_Tables b).1)) 0))]) (by kernel_rfl) ?_
            refine rS 1 [(10, .int .u64 (List.getD r1.1 (Int.toNat ((gT a_Tables b).1)) 0)), (11, ii (List.getD (cond (d) (List.set (List.set [(gT a_Tables c).1, (gT a_Tables c).2] 0 ((gT a_Tables c).2)) 1 ((gT a_Tables c).1)) [(gT a_Tables c).1, (gT a_Tables c).2]) 0 0))] ?_
            cases b12 : (decide (0 ≤ List.getD (cond (d) (List.set (List.set [(gT a_Tables c).1, (gT a_Tables c).2] 0 ((gT a_Tables c).2)) 1 ((gT a_Tables c).1)) [(gT a_Tables c).1, (gT a_Tables c).2]) 0 0) : Bool) with
            | false => cases (cF b12 h)
            | true =>
             have h := cT b12 h
             have e13 : insV (headI ((gsOf E0 15 (opsOf (lft (rgt f30_C76)))).drop 5) (trS 15 [(10, .int .u64 (List.getD r1.1 (Int.toNat ((gT a_Tables b).1)) 0)), (11, ii (List.getD (cond (d) (List.set (List.set [(gT a_Tables c).1, (gT a_Tables c).2] 0 ((gT a_Tables c).2)) 1 ((gT a_Tables c).1)) [(gT a_Tables c).1, (gT a_Tables c).2]) 0 0))])) (trS 15 [(10, .int .u64 (List.getD r1.1 (Int.toNat ((gT a_Tables b).1)) 0)), (11, ii (List.getD (cond (d) (List.set (List.set [(gT a_Tables c).1, (gT a_Tables c).2] 0 ((gT a_Tables c).2)) 1 ((gT a_Tables c).1)) [(gT a_Tables c).1, (gT a_Tables c).2]) 0 0))]) [(5, nP), (4, rc (encI .i64) (cond (d) (List.set (List.set [(gT a_Tables c).1, (gT a_Tables c).2] 0 ((gT a_Tables c).2)) 1 ((gT a_Tables c).1)) [(gT a_Tables c).1, (gT a_Tables c).2]) 0 55 0), (3, .cells (t2 (gT a_Tables b)) 0 55 0), (2, rU r1.1), (1, pN 5), (0, rc encP a_Tables z0 y0 2)] = (match (decide (0 ≤ List.getD (cond (d) (List.set (List.set [(gT a_Tables c).1, (gT a_Tables c).2] 0 ((gT a_Tables c).2)) 1 ((gT a_Tables c).1)) [(gT a_Tables c).1, (gT a_Tables c).2]) 0 0) : Bool) with | true => some (.int .u64 (shV false .u64 (List.getD r1.1 (Int.toNat ((gT a_Tables b).1)) 0) (List.getD (cond (d) (List.set (List.set [(gT a_Tables c).1, (gT a_Tables c).2] 0 ((gT a_Tables c).2)) 1 ((gT a_Tables c).1)) [(gT a_Tables c).1, (gT a_Tables c).2]) 0 0))) | false => none) := by kernel_rfl
             refine XR.rd E0_ok [12] rfl (e13.trans (by rw [b12])) (σ' := [(12, .int .u64 (shV false .u64 (List.getD r1.1 (Int.toNat ((gT a_Tables b).1)) 0) (List.getD (cond (d) (List.set (List.set [(gT a_Tables c).1, (gT a_Tables c).2] 0 ((gT a_Tables c).2)) 1 ((gT a_Tables c).1)) [(gT a_Tables c).1, (gT a_Tables c).2]) 0 0)))]) (by kernel_rfl) ?_
             refine rS 3 [(6, .bool ((andV .u64 (shV false .u64 (List.getD r1.1 (Int.toNat ((gT a_Tables b).1)) 0) (List.getD (cond (d) (List.set (List.set [(gT a_Tables c).1, (gT a_Tables c).2] 0 ((gT a_Tables c).2)) 1 ((gT a_Tables c).1)) [(gT a_Tables c).1, (gT a_Tables c).2]) 0 0)) 1 : Int) == 1))] ?_
             refine dQ ?_
             show XQ _ _ _ _ _ _ _ _
             refine XQ.ret (by kernel_rfl) ?_
             refine ⟨fun i q => (by cases q), .bool ((andV .u64 (shV false .u64 (List.getD r1.1 (Int.toNat ((gT a_Tables b).1)) 0) (List.getD (cond (d) (List.set (List.set [(gT a_Tables c).1, (gT a_Tables c).2] 0 ((gT a_Tables c).2)) 1 ((gT a_Tables c).1)) [(gT a_Tables c).1, (gT a_Tables c).2]) 0 0)) 1 : Int) == 1), (by kernel_rfl), ?_⟩
             refine XR.conv (σ' := [(8, pp 1 0), (10, s0 2 r1.1.length), (12, pp 3 0), (13, pp 4 0), (76, .bool ((andV .u64 (shV false .u64 (List.getD r1.1 (Int.toNat ((gT a_Tables b).1)) 0) (List.getD (cond (d) (List.set (List.set [(gT a_Tables c).1, (gT a_Tables c).2] 0 ((gT a_Tables c).2)) 1 ((gT a_Tables c).1)) [(gT a_Tables c).1, (gT a_Tables c).2]) 0 0)) 1 : Int) == 1))]) (h' := [(5, nP), (4, rc (encI .i64) (cond (d) (List.set (List.set [(gT a_Tables c).1, (gT a_Tables c).2] 0 ((gT a_Tables c).2)) 1 ((gT a_Tables c).1)) [(gT a_Tables c).1, (gT a_Tables c).2]) 0 55 0), (3, .cells (t2 (gT a_Tables b)) 0 55 0), (2, rU r1.1), (1, pN 5), (0, rc encP a_Tables z0 y0 2)]) (c' := 6) ?_ (by kernel_rfl)
             refine rS 1 [(8, pp 1 0), (10, s0 2 r1.1.length), (12, pp 3 0), (13, pp 4 0), (77, .bool ((andV .u64 (shV false .u64 (List.getD r1.1 (Int.toNat ((gT a_Tables b).1)) 0) (List.getD (cond (d) (List.set (List.set [(gT a_Tables c).1, (gT a_Tables c).2] 0 ((gT a_Tables c).2)) 1 ((gT a_Tables c).1)) [(gT a_Tables c).1, (gT a_Tables c).2]) 0 0)) 1 : Int) == 1))] ?_
             cases b14 : ((andV .u64 (shV false .u64 (List.getD r1.1 (Int.toNat ((gT a_Tables b).1)) 0) (List.getD (cond (d) (List.set (List.set [(gT a_Tables c).1, (gT a_Tables c).2] 0 ((gT a_Tables c).2)) 1 ((gT a_Tables c).1)) [(gT a_Tables c).1, (gT a_Tables c).2]) 0 0)) 1 : Int) == 1 : Bool) with
             | true =>
              have h := cT b14 h
              refine rS 7 [(8, pp 1 0), (10, s0 2 r1.1.length), (12, pp 3 0), (13, pp 4 0), (84, .bool true)] ?_
              refine dQ ?_
              show XQ _ _ _ _ _ _ _ _
              refine iT (.tmp 84) ?_
              refine qQ ?_
              refine rT 3 [(8, pp 1 0), (9, ii 6)] [(5, nP), (4, rc (encI .i64) (cond (d) (List.set (List.set [(gT a_Tables c).1, (gT a_Tables c).2] 0 ((gT a_Tables c).2)) 1 ((gT a_Tables c).1)) [(gT a_Tables c).1, (gT a_Tables c).2]) 0 55 0), (3, .cells (t2 (gT a_Tables b)) 0 55 0), (2, rU r1.1), (1, .cells [ii 0, .slice none 0 0] 0 34 0), (0, rc encP a_Tables z0 y0 2)] 6 ?_
              refine dQ ?_
              show XQ _ _ _ _ _ _ _ _
              refine XQ.ghost 55 2 rfl (σ' := [(8, pp 1 0), (9, ii 6)]) (h' := [(5, nP), (4, rc (encI .i64) (cond (d) (List.set (List.set [(gT a_Tables c).1, (gT a_Tables c).2] 0 ((gT a_Tables c).2)) 1 ((gT a_Tables c).1)) [(gT a_Tables c).1, (gT a_Tables c).2]) 0 55 0), (3, .cells (t2 (gT a_Tables b)) 0 55 0), (2, rU r1.1), (1, pN 6), (0, rc encP a_Tables z0 y0 2)]) ⟨rfl, rfl, trivial⟩ ⟨⟨_, rfl, .inl rfl⟩, ⟨_, rfl, .inl rfl⟩, ⟨_, rfl, .inl rfl⟩, ⟨_, rfl, .inl rfl⟩, ⟨_, rfl, .inr ⟨_, _, _, _, rfl, rfl⟩⟩, ⟨_, rfl, .inl rfl⟩, trivial⟩ ?_
              refine XQ.conv (σ' := [(8, pp 1 0), (9, ii 6)]) (h' := [(6, nP), (5, nP), (4, rc (encI .i64) (cond (d) (List.set (List.set [(gT a_Tables c).1, (gT a_Tables c).2] 0 ((gT a_Tables c).2)) 1 ((gT a_Tables c).1)) [(gT a_Tables c).1, (gT a_Tables c).2]) 0 55 0), (3, .cells (t2 (gT a_Tables b)) 0 55 0), (2, rU r1.1), (1, pN 6), (0, rc encP a_Tables z0 y0 2)]) (c' := 7) ?_ (by kernel_rfl)
              refine XQ.ren (σ' := [(8, pp 1 0), (9, ii 6)]) (h' := [(2, nP), (1, pN 2), (0, rc encP a_Tables z0 y0 2)]) (c' := 3) [0, 1, 6] (by decide) rfl ⟨rfl, rfl, trivial⟩ ⟨⟨_, _, rfl, rfl, .inl ⟨rfl, rwP⟩⟩, ⟨_, _, rfl, rfl, .inr ⟨_, _, _, _, rfl, rfl⟩⟩, ⟨_, _, rfl, rfl, .inl ⟨rfl, rwP⟩⟩, trivial⟩ rfl ?_
              refine XQ.ret (by kernel_rfl) ?_
              have h := Option.some.inj h
              subst h
              exact ⟨fun i q => (by cases q), .tuple #[.agg #[ii 0, s0 2 0], ii 6], (by kernel_rfl), [0, 2], .tuple #[.agg #[ii 0, s0 1 0], ii 6], [(1, nP), (0, rc encP a_Tables z0 y0 2)], (by decide), rfl, (by kernel_rfl), ⟨⟨_, _, rfl, rfl, .inl ⟨rfl, rwP⟩⟩, ⟨_, _, rfl, rfl, .inl ⟨rfl, rwP⟩⟩, trivial⟩, (by kernel_rfl), (by kernel_rfl), rfl⟩
             | false =>
              have h := cF b14 h
              refine rS 4 [(8, pp 1 0), (10, s0 2 r1.1.length), (12, pp 3 0), (13, pp 4 0), (77, .bool false), (78, s0 2 r1.1.length), (80, ii ((gT a_Tables b).2)), (81, pp 4 1)] ?_
              cases b15 : (decide (1 < (cond (d) (List.set (List.set [(gT a_Tables c).1, (gT a_Tables c).2] 0 ((gT a_Tables c).2)) 1 ((gT a_Tables c).1)) [(gT a_Tables c).1, (gT a_Tables c).2]).length) : Bool) with
              | false => cases (cF b15 h)
              | true =>
               have h := cT b15 h
               refine XR.rd E0_ok [8, 10, 12, 13, 77, 78, 80, 82] rfl (v := ii (List.getD (cond (d) (List.set (List.set [(gT a_Tables c).1, (gT a_Tables c).2] 0 ((gT a_Tables c).2)) 1 ((gT a_Tables c).1)) [(gT a_Tables c).1, (gT a_Tables c).2]) 1 0)) (v_load1 (encI_ok .i64) (x := (src 112 (.tmp 81))) (b := 4) (off := 1) (xs := cond (d) (List.set (List.set [(gT a_Tables c).1, (gT a_Tables c).2] 0 ((gT a_Tables c).2)) 1 ((gT a_Tables c).1)) [(gT a_Tables c).1, (gT a_Tables c).2]) (fz := 0) (e := 55) (es := 0) (d := (some (path 12 82))) (by kernel_rfl) (by kernel_rfl) (by kernel_rfl) 1 0 0 (by first | rfl | omega) (row_len b15 (by simp)) rfl rfl) (σ' := [(8, pp 1 0), (10, s0 2 r1.1.length), (12, pp 3 0), (13, pp 4 0), (77, .bool false), (78, s0 2 r1.1.length), (80, ii ((gT a_Tables b).2)), (82, ii (List.getD (cond (d) (List.set (List.set [(gT a_Tables c).1, (gT a_Tables c).2] 0 ((gT a_Tables c).2)) 1 ((gT a_Tables c).1)) [(gT a_Tables c).1, (gT a_Tables c).2]) 1 0))]) (by kernel_rfl) ?_
               refine XR.callK E0_ok [8, 10, 12, 13, 77, 83] rfl (K := 76) (args := [s0 2 r1.1.length, ii ((gT a_Tables b).2), ii (List.getD (cond (d) (List.set (List.set [(gT a_Tables c).1, (gT a_Tables c).2] 0 ((gT a_Tables c).2)) 1 ((gT a_Tables c).1)) [(gT a_Tables c).1, (gT a_Tables c).2]) 1 0)]) (d := (some (path 12 83))) (by kernel_rfl) ?_
               refine KC.bodyN E0_ok (F := Proofs.Tryd.f76) (by kernel_rfl) (code := f30_C76) (by kernel_rfl) (nt := 15) (by kernel_rfl) (rs := [.tmp 6]) (by kernel_rfl) (by kernel_rfl) (σ := [(0, s0 2 r1.1.length), (1, ii ((gT a_Tables b).2)), (2, ii (List.getD (cond (d) (List.set (List.set [(gT a_Tables c).1, (gT a_Tables c).2] 0 ((gT a_Tables c).2)) 1 ((gT a_Tables c).1)) [(gT a_Tables c).1, (gT a_Tables c).2]) 1 0))]) (by kernel_rfl) ?_
               refine qQ ?_
               refine rS 1 [(0, s0 2 r1.1.length), (1, ii ((gT a_Tables b).2)), (2, ii (List.getD (cond (d) (List.set (List.set [(gT a_Tables c).1, (gT a_Tables c).2] 0 ((gT a_Tables c).2)) 1 ((gT a_Tables c).1)) [(gT a_Tables c).1, (gT a_Tables c).2]) 1 0))] ?_
               refine nQ id ?_
               refine rS 2 [(2, ii (List.getD (cond (d) (List.set (List.set [(gT a_Tables c).1, (gT a_Tables c).2] 0 ((gT a_Tables c).2)) 1 ((gT a_Tables c).1)) [(gT a_Tables c).1, (gT a_Tables c).2]) 1 0)), (7, s0 2 r1.1.length), (8, ii ((gT a_Tables b).2))] ?_
               cases b16 : (inRow ((gT a_Tables b).2) r1.1.length : Bool) with
               | false => cases (cF b16 h)
               | true =>
                have h := cT b16 h
                refine XR.rd E0_ok [2, 9] rfl (v := pp 2 ((Int.toNat ((gT a_Tables b).2)) * 1)) (v_idx (s := 1) (x := (src 15 (.tmp 7))) (y := (src 15 (.tmp 8))) (b := 2) (o := 0) (len := r1.1.length) (cap := r1.1.length) (ik := .i64) (i := (gT a_Tables b).2) (off := (Int.toNat ((gT a_Tables b).2)) * 1) (d := (some (path 12 9))) (by kernel_rfl) (by kernel_rfl) (by kernel_rfl) b16 (by omega)) (σ' := [(2, ii (List.getD (cond (d) (List.set (List.set [(gT a_Tables c).1, (gT a_Tables c).2] 0 ((gT a_Tables c).2)) 1 ((gT a_Tables c).1)) [(gT a_Tables c).1, (gT a_Tables c).2]) 1 0)), (9, pp 2 ((Int.toNat ((gT a_Tables b).2)) * 1))]) (by kernel_rfl) ?_
                refine XR.rd E0_ok [2, 10] rfl (v := .int .u64 (List.getD r1.1 (Int.toNat ((gT a_Tables b).2)) 0)) (v_load1 (encI_ok .u64) (x := (src 15 (.tmp 9))) (b := 2) (off := (Int.toNat ((gT a_Tables b).2)) * 1) (xs := r1.1) (fz := 0) (e := 117) (es := 1) (d := (some (path 12 10))) (by kernel_rfl) (by kernel_rfl) (by kernel_rfl) (Int.toNat ((gT a_Tables b).2)) 0 0 (by first | rfl | omega) (row_len (inRow_toNat b16) (by simp)) rfl rfl) (σ' := [(2, ii (List.getD (cond (d) (List.set (List.set [(gT a_Tables c).1, (gT a_Tables c).2] 0 ((gT a_Tables c).2)) 1 ((gT a_Tables c).1)) [(gT a_Tables c).1, (gT a_Tables c).2]) 1 0)), (10, .int .u64 (List.getD r1.1 (Int.toNat ((gT a_Tables b).2)) 0))]) (by kernel_rfl) ?_
                refine rS 1 [(10, .int .u64 (List.getD r1.1 (Int.toNat ((gT a_Tables b).2)) 0)), (11, ii (List.getD (cond (d) (List.set (List.set [(gT a_Tables c).1, (gT a_Tables c).2] 0 ((gT a_Tables c).2)) 1 ((gT a_Tables c).1)) [(gT a_Tables c).1, (gT a_Tables c).2]) 1 0))] ?_
                cases b17 : (decide (0 ≤ List.getD (cond (d) (List.set (List.set [(gT a_Tables c).1, (gT a_Tables c).2] 0 ((gT a_Tables c).2)) 1 ((gT a_Tables c).1)) [(gT a_Tables c).1, (gT a_Tables c).2]) 1 0) : Bool) with
                | false => cases (cF b17 h)
                | true =>
                 have h := cT b17 h
                 have e18 : insV (headI ((gsOf E0 15 (opsOf (lft (rgt f30_C76)))).drop 5) (trS 15 [(10, .int .u64 (List.getD r1.1 (Int.toNat ((gT a_Tables b).2)) 0)), (11, ii (List.getD (cond (d) (List.set (List.set [(gT a_Tables c).1, (gT a_Tables c).2] 0 ((gT a_Tables c).2)) 1 ((gT a_Tables c).1)) [(gT a_Tables c).1, (gT a_Tables c).2]) 1 0))])) (trS 15 [(10, .int .u64 (List.getD r1.1 (Int.toNat ((gT a_Tables b).2)) 0)), (11, ii (List.getD (cond (d) (List.set (List.set [(gT a_Tables c).1, (gT a_Tables c).2] 0 ((gT a_Tables c).2)) 1 ((gT a_Tables c).1)) [(gT a_Tables c).1, (gT a_Tables c).2]) 1 0))]) [(5, nP), (4, rc (encI .i64) (cond (d) (List.set (List.set [(gT a_Tables c).1, (gT a_Tables c).2] 0 ((gT a_Tables c).2)) 1 ((gT a_Tables c).1)) [(gT a_Tables c).1, (gT a_Tables c).2]) 0 55 0), (3, .cells (t2 (gT a_Tables b)) 0 55 0), (2, rU r1.1), (1, pN 5), (0, rc encP a_Tables z0 y0 2)] = (match (decide (0 ≤ List.getD (cond (d) (List.set (List.set [(gT a_Tables c).1, (gT a_Tables c).2] 0 ((gT a_Tables c).2)) 1 ((gT a_Tables c).1)) [(gT a_Tables c).1, (gT a_Tables c).2]) 1 0) : Bool) with | true => some (.int .u64 (shV false .u64 (List.getD r1.1 (Int.toNat ((gT a_Tables b).2)) 0) (List.getD (cond (d) (List.set (List.set [(gT a_Tables c).1, (gT a_Tables c).2] 0 ((gT a_Tables c).2)) 1 ((gT a_Tables c).1)) [(gT a_Tables c).1, (gT a_Tables c).2]) 1 0))) | false => none) := by kernel_rfl
                 refine XR.rd E0_ok [12] rfl (e18.trans (by rw [b17])) (σ' := [(12, .int .u64 (shV false .u64 (List.getD r1.1 (Int.toNat ((gT a_Tables b).2)) 0) (List.getD (cond (d) (List.set (List.set [(gT a_Tables c).1, (gT a_Tables c).2] 0 ((gT a_Tables c).2)) 1 ((gT a_Tables c).1)) [(gT a_Tables c).1, (gT a_Tables c).2]) 1 0)))]) (by kernel_rfl) ?_
                 refine rS 3 [(6, .bool ((andV .u64 (shV false .u64 (List.getD r1.1 (Int.toNat ((gT a_Tables b).2)) 0) (List.getD (cond (d) (List.set (List.set [(gT a_Tables c).1, (gT a_Tables c).2] 0 ((gT a_Tables c).2)) 1 ((gT a_Tables c).1)) [(gT a_Tables c).1, (gT a_Tables c).2]) 1 0)) 1 : Int) == 1))] ?_
                 refine dQ ?_
                 show XQ _ _ _ _ _ _ _ _
                 refine XQ.ret (by kernel_rfl) ?_
                 refine ⟨fun i q => (by cases q), .bool ((andV .u64 (shV false .u64 (List.getD r1.1 (Int.toNat ((gT a_Tables b).2)) 0) (List.getD (cond (d) (List.set (List.set [(gT a_Tables c).1, (gT a_Tables c).2] 0 ((gT a_Tables c).2)) 1 ((gT a_Tables c).1)) [(gT a_Tables c).1, (gT a_Tables c).2]) 1 0)) 1 : Int) == 1), (by kernel_rfl), ?_⟩
                 refine XR.conv (σ' := [(8, pp 1 0), (10, s0 2 r1.1.length), (12, pp 3 0), (13, pp 4 0), (77, .bool false), (83, .bool ((andV .u64 (shV false .u64 (List.getD r1.1 (Int.toNat ((gT a_Tables b).2)) 0) (List.getD (cond (d) (List.set (List.set [(gT a_Tables c).1, (gT a_Tables c).2] 0 ((gT a_Tables c).2)) 1 ((gT a_Tables c).1)) [(gT a_Tables c).1, (gT a_Tables c).2]) 1 0)) 1 : Int) == 1))]) (h' := [(5, nP), (4, rc (encI .i64) (cond (d) (List.set (List.set [(gT a_Tables c).1, (gT a_Tables c).2] 0 ((gT a_Tables c).2)) 1 ((gT a_Tables c).1)) [(gT a_Tables c).1, (gT a_Tables c).2]) 0 55 0), (3, .cells (t2 (gT a_Tables b)) 0 55 0), (2, rU r1.1), (1, pN 5), (0, rc encP a_Tables z0 y0 2)]) (c' := 6) ?_ (by kernel_rfl)
                 refine rS 1 [(8, pp 1 0), (10, s0 2 r1.1.length), (12, pp 3 0), (13, pp 4 0), (84, .bool ((andV .u64 (shV false .u64 (List.getD r1.1 (Int.toNat ((gT a_Tables b).2)) 0) (List.getD (cond (d) (List.set (List.set [(gT a_Tables c).1, (gT a_Tables c).2] 0 ((gT a_Tables c).2)) 1 ((gT a_Tables c).1)) [(gT a_Tables c).1, (gT a_Tables c).2]) 1 0)) 1 : Int) == 1))] ?_
                 refine dQ ?_
                 show XQ _ _ _ _ _ _ _ _
                 cases b19 : ((andV .u64 (shV false .u64 (List.getD r1.1 (Int.toNat ((gT a_Tables b).2)) 0) (List.getD (cond (d) (List.set (List.set [(gT a_Tables c).1, (gT a_Tables c).2] 0 ((gT a_Tables c).2)) 1 ((gT a_Tables c).1)) [(gT a_Tables c).1, (gT a_Tables c).2]) 1 0)) 1 : Int) == 1 : Bool) with
                 | true =>
                  have h := cT b19 h
                  refine iT (.tmp 84) ?_
                  refine qQ ?_
                  refine rT 3 [(8, pp 1 0), (9, ii 6)] [(5, nP), (4, rc (encI .i64) (cond (d) (List.set (List.set [(gT a_Tables c).1, (gT a_Tables c).2] 0 ((gT a_Tables c).2)) 1 ((gT a_Tables c).1)) [(gT a_Tables c).1, (gT a_Tables c).2]) 0 55 0), (3, .cells (t2 (gT a_Tables b)) 0 55 0), (2, rU r1.1), (1, .cells [ii 0, .slice none 0 0] 0 34 0), (0, rc encP a_Tables z0 y0 2)] 6 ?_
                  refine dQ ?_
                  show XQ _ _ _ _ _ _ _ _
                  refine XQ.ghost 55 2 rfl (σ' := [(8, pp 1 0), (9, ii 6)]) (h' := [(5, nP), (4, rc (encI .i64) (cond (d) (List.set (List.set [(gT a_Tables c).1, (gT a_Tables c).2] 0 ((gT a_Tables c).2)) 1 ((gT a_Tables c).1)) [(gT a_Tables c).1, (gT a_Tables c).2]) 0 55 0), (3, .cells (t2 (gT a_Tables b)) 0 55 0), (2, rU r1.1), (1, pN 6), (0, rc encP a_Tables z0 y0 2)]) ⟨rfl, rfl, trivial⟩ ⟨⟨_, rfl, .inl rfl⟩, ⟨_, rfl, .inl rfl⟩, ⟨_, rfl, .inl rfl⟩, ⟨_, rfl, .inl rfl⟩, ⟨_, rfl, .inr ⟨_, _, _, _, rfl, rfl⟩⟩, ⟨_, rfl, .inl rfl⟩, trivial⟩ ?_
                  refine XQ.conv (σ' := [(8, pp 1 0), (9, ii 6)]) (h' := [(6, nP), (5, nP), (4, rc (encI .i64) (cond (d) (List.set (List.set [(gT a_Tables c).1, (gT a_Tables c).2] 0 ((gT a_Tables c).2)) 1 ((gT a_Tables c).1)) [(gT a_Tables c).1, (gT a_Tables c).2]) 0 55 0), (3, .cells (t2 (gT a_Tables b)) 0 55 0), (2, rU r1.1), (1, pN 6), (0, rc encP a_Tables z0 y0 2)]) (c' := 7) ?_ (by kernel_rfl)
                  refine XQ.ren (σ' := [(8, pp 1 0), (9, ii 6)]) (h' := [(2, nP), (1, pN 2), (0, rc encP a_Tables z0 y0 2)]) (c' := 3) [0, 1, 6] (by decide) rfl ⟨rfl, rfl, trivial⟩ ⟨⟨_, _, rfl, rfl, .inl ⟨rfl, rwP⟩⟩, ⟨_, _, rfl, rfl, .inr ⟨_, _, _, _, rfl, rfl⟩⟩, ⟨_, _, rfl, rfl, .inl ⟨rfl, rwP⟩⟩, trivial⟩ rfl ?_
                  refine XQ.ret (by kernel_rfl) ?_
                  have h := Option.some.inj h
                  subst h
                  exact ⟨fun i q => (by cases q), .tuple #[.agg #[ii 0, s0 2 0], ii 6], (by kernel_rfl), [0, 2], .tuple #[.agg #[ii 0, s0 1 0], ii 6], [(1, nP), (0, rc encP a_Tables z0 y0 2)], (by decide), rfl, (by kernel_rfl), ⟨⟨_, _, rfl, rfl, .inl ⟨rfl, rwP⟩⟩, ⟨_, _, rfl, rfl, .inl ⟨rfl, rwP⟩⟩, trivial⟩, (by kernel_rfl), (by kernel_rfl), rfl⟩
                 | false =>
                  have h := cF b19 h
                  refine iF (.tmp 84) ?_
                  refine kQ ?_
                  show XQ _ _ _ _ _ _ _ _
                  refine sQ ?_
                  refine qQ ?_
                  refine rS 1 [(8, pp 1 0), (10, s0 2 r1.1.length), (12, pp 3 0), (13, pp 4 0), (86, ii 0)] ?_
                  refine dQ ?_
                  show XQ _ _ _ _ _ _ _ _
                  refine XQ.block (id := 1) (by kernel_rfl) ?_
                  refine XQ.loop m (by kernel_rfl) ?_
                  obtain ⟨o1, o1_h, h⟩ := bS h
                  refine XL.ren (σ' := [(8, pp 1 0), (10, s0 2 r1.1.length), (12, pp 3 0), (13, pp 4 0), (86, ii 0)]) (h' := [(5, nP), (4, rc (encI .i64) (cond (d) (List.set (List.set [(gT a_Tables c).1, (gT a_Tables c).2] 0 ((gT a_Tables c).2)) 1 ((gT a_Tables c).1)) [(gT a_Tables c).1, (gT a_Tables c).2]) 0 55 0), (3, .cells (t2 (gT a_Tables b)) 0 55 0), (2, rU r1.1), (1, pN 5), (0, rc encP a_Tables z0 y0 2)]) (c' := 6) [0, 1, 2, 3, 4, 5] (by decide) rfl ⟨rfl, rfl, rfl, rfl, rfl, trivial⟩ ⟨⟨_, _, rfl, rfl, .inl ⟨rfl, rwP⟩⟩, ⟨_, _, rfl, rfl, .inl ⟨rfl, rwI⟩⟩, ⟨_, _, rfl, rfl, .inr ⟨_, _, _, _, rfl, rfl⟩⟩, ⟨_, _, rfl, rfl, .inl ⟨rfl, rowC_scal (encI_ok .u64) _⟩⟩, ⟨_, _, rfl, rfl, .inr ⟨_, _, _, _, rfl, rfl⟩⟩, ⟨_, _, rfl, rfl, .inl ⟨rfl, rwP⟩⟩, trivial⟩ rfl ?_
                  refine XL.conv (σ' := [(8, pp 1 0), (10, s0 2 r1.1.length), (12, pp 3 0), (13, pp 4 0), (86, ii 0)]) (h' := [(5, nP), (4, rc (encI .i64) (cond (d) (List.set (List.set [(gT a_Tables c).1, (gT a_Tables c).2] 0 ((gT a_Tables c).2)) 1 ((gT a_Tables c).1)) [(gT a_Tables c).1, (gT a_Tables c).2]) 0 55 0), (3, rc (encI .i64) [(gT a_Tables b).1, (gT a_Tables b).2] 0 55 0), (2, rU r1.1), (1, pN 5), (0, rc encP a_Tables z0 y0 2)]) (c' := 6) ?_ (by kernel_rfl)
                  refine XL.conv (f30_1_ok m m z0 y0 a_Tables 0 r1.1 [(gT a_Tables b).1, (gT a_Tables b).2] (cond (d) (List.set (List.set [(gT a_Tables c).1, (gT a_Tables c).2] 0 ((gT a_Tables c).2)) 1 ((gT a_Tables c).1)) [(gT a_Tables c).1, (gT a_Tables c).2]) o1 o1_h _ ?_) (by first | rfl | simp)
                  show XQ _ _ _ _ _ _ _ _
                  refine qQ ?_
                  refine rS 2 [(8, pp 1 0), (10, s0 2 o1.1.length), (12, pp 3 0), (13, pp 4 0), (98, s0 2 o1.1.length), (99, pp 3 0)] ?_
                  cases b21 : (decide (0 < o1.2.1.length) : Bool) with
                  | false => cases (cF b21 h)
                  | true =>
                   have h := cT b21 h
                   refine XR.rd E0_ok [8, 10, 12, 13, 98, 100] rfl (v := ii (List.getD o1.2.1 0 0)) (v_load1 (encI_ok .i64) (x := (src 112 (.tmp 99))) (b := 3) (off := 0) (xs := o1.2.1) (fz := 0) (e := 55) (es := 0) (d := (some (path 12 100))) (by kernel_rfl) (by kernel_rfl) (by kernel_rfl) 0 0 0 (by first | rfl | omega) (row_len b21 (by simp)) rfl rfl) (σ' := [(8, pp 1 0), (10, s0 2 o1.1.length), (12, pp 3 0), (13, pp 4 0), (98, s0 2 o1.1.length), (100, ii (List.getD o1.2.1 0 0))]) (by kernel_rfl) ?_
                   refine rS 1 [(8, pp 1 0), (10, s0 2 o1.1.length), (13, pp 4 0), (98, s0 2 o1.1.length), (100, ii (List.getD o1.2.1 0 0)), (101, pp 3 1)] ?_
                   cases b22 : (decide (1 < o1.2.1.length) : Bool) with
                   | false => cases (cF b22 h)
                   | true =>
                    have h := cT b22 h
                    refine XR.rd E0_ok [8, 10, 13, 98, 100, 102] rfl (v := ii (List.getD o1.2.1 1 0)) (v_load1 (encI_ok .i64) (x := (src 112 (.tmp 101))) (b := 3) (off := 1) (xs := o1.2.1) (fz := 0) (e := 55) (es := 0) (d := (some (path 12 102))) (by kernel_rfl) (by kernel_rfl) (by kernel_rfl) 1 0 0 (by first | rfl | omega) (row_len b22 (by simp)) rfl rfl) (σ' := [(8, pp 1 0), (10, s0 2 o1.1.length), (13, pp 4 0), (98, s0 2 o1.1.length), (100, ii (List.getD o1.2.1 0 0)), (102, ii (List.getD o1.2.1 1 0))]) (by kernel_rfl) ?_
                    refine XR.callK E0_ok [8, 10, 13] rfl (K := 77) (args := [s0 2 o1.1.length, ii (List.getD o1.2.1 0 0), ii (List.getD o1.2.1 1 0)]) (d := (some (path 12 103))) (by kernel_rfl) ?_
                    refine KC.bodyN E0_ok (F := Proofs.Tryd.f77) (by kernel_rfl) (code := f30_C77) (by kernel_rfl) (nt := 22) (by kernel_rfl) (rs := []) (by kernel_rfl) (by kernel_rfl) (σ := [(0, s0 2 o1.1.length), (1, ii (List.getD o1.2.1 0 0)), (2, ii (List.getD o1.2.1 1 0))]) (by kernel_rfl) ?_
                    refine sQ ?_
                    refine XQ.tail E0_ok 8 (by kernel_rfl) (by kernel_rfl) ?_
                    refine XS.step E0_ok 2 rfl [0, 1, 2, 6, 7] rfl (σ' := [(0, s0 2 o1.1.length), (1, ii (List.getD o1.2.1 0 0)), (2, ii (List.getD o1.2.1 1 0)), (6, s0 2 o1.1.length), (7, ii (List.getD o1.2.1 0 0))]) (by kernel_rfl) ?_
                    cases b23 : (inRow (List.getD o1.2.1 0 0) o1.1.length : Bool) with
                    | false => cases (cF b23 h)
                    | true =>
                     have h := cT b23 h
                     refine XS.rd E0_ok rfl [0, 1, 2, 6, 7, 8] rfl (v := pp 2 ((Int.toNat (List.getD o1.2.1 0 0)) * 1)) (v_idx (s := 1) (x := (src 22 (.tmp 6))) (y := (src 22 (.tmp 7))) (b := 2) (o := 0) (len := o1.1.length) (cap := o1.1.length) (ik := .i64) (i := List.getD o1.2.1 0 0) (off := (Int.toNat (List.getD o1.2.1 0 0)) * 1) (d := (some (path 12 8))) (by kernel_rfl) (by kernel_rfl) (by kernel_rfl) b23 (by omega)) (σ' := [(0, s0 2 o1.1.length), (1, ii (List.getD o1.2.1 0 0)), (2, ii (List.getD o1.2.1 1 0)), (6, s0 2 o1.1.length), (7, ii (List.getD o1.2.1 0 0)), (8, pp 2 ((Int.toNat (List.getD o1.2.1 0 0)) * 1))]) (by kernel_rfl) ?_
                     refine XS.rd E0_ok rfl [0, 1, 2, 6, 7, 9] rfl (v := .int .u64 (List.getD o1.1 (Int.toNat (List.getD o1.2.1 0 0)) 0)) (v_load1 (encI_ok .u64) (x := (src 22 (.tmp 8))) (b := 2) (off := (Int.toNat (List.getD o1.2.1 0 0)) * 1) (xs := o1.1) (fz := 0) (e := 117) (es := 1) (d := (some (path 12 9))) (by kernel_rfl) (by kernel_rfl) (by kernel_rfl) (Int.toNat (List.getD o1.2.1 0 0)) 0 0 (by first | rfl | omega) (row_len (inRow_toNat b23) (by simp)) rfl rfl) (σ' := [(0, s0 2 o1.1.length), (1, ii (List.getD o1.2.1 0 0)), (2, ii (List.getD o1.2.1 1 0)), (6, s0 2 o1.1.length), (7, ii (List.getD o1.2.1 0 0)), (9, .int .u64 (List.getD o1.1 (Int.toNat (List.getD o1.2.1 0 0)) 0))]) (by kernel_rfl) ?_
                     refine XS.step E0_ok 1 rfl [0, 1, 2, 6, 7, 9, 10] rfl (σ' := [(0, s0 2 o1.1.length), (1, ii (List.getD o1.2.1 0 0)), (2, ii (List.getD o1.2.1 1 0)), (6, s0 2 o1.1.length), (7, ii (List.getD o1.2.1 0 0)), (9, .int .u64 (List.getD o1.1 (Int.toNat (List.getD o1.2.1 0 0)) 0)), (10, ii (List.getD o1.2.1 1 0))]) (by kernel_rfl) ?_
                     cases b24 : (decide (0 ≤ List.getD o1.2.1 1 0) : Bool) with
                     | false => cases (cF b24 h)
                     | true =>
                      have h := cT b24 h
                      have e25 : insV (headI ((gsOf E0 22 (opsOf (lft f30_C77))).drop 5) (trS 22 [(0, s0 2 o1.1.length), (1, ii (List.getD o1.2.1 0 0)), (2, ii (List.getD o1.2.1 1 0)), (6, s0 2 o1.1.length), (7, ii (List.getD o1.2.1 0 0)), (9, .int .u64 (List.getD o1.1 (Int.toNat (List.getD o1.2.1 0 0)) 0)), (10, ii (List.getD o1.2.1 1 0))])) (trS 22 [(0, s0 2 o1.1.length), (1, ii (List.getD o1.2.1 0 0)), (2, ii (List.getD o1.2.1 1 0)), (6, s0 2 o1.1.length), (7, ii (List.getD o1.2.1 0 0)), (9, .int .u64 (List.getD o1.1 (Int.toNat (List.getD o1.2.1 0 0)) 0)), (10, ii (List.getD o1.2.1 1 0))]) [(5, nP), (4, rc (encI .i64) o1.2.2 0 55 0), (3, rc (encI .i64) o1.2.1 0 55 0), (2, rU o1.1), (1, pN 5), (0, rc encP a_Tables z0 y0 2)] = (match (decide (0 ≤ List.getD o1.2.1 1 0) : Bool) with | true => some (.int .u64 (shV true .u64 1 (List.getD o1.2.1 1 0))) | false => none) := by kernel_rfl
                      refine XS.rd E0_ok rfl [0, 1, 2, 6, 7, 9, 11] rfl (e25.trans (by rw [b24])) (σ' := [(0, s0 2 o1.1.length), (1, ii (List.getD o1.2.1 0 0)), (2, ii (List.getD o1.2.1 1 0)), (6, s0 2 o1.1.length), (7, ii (List.getD o1.2.1 0 0)), (9, .int .u64 (List.getD o1.1 (Int.toNat (List.getD o1.2.1 0 0)) 0)), (11, .int .u64 (shV true .u64 1 (List.getD o1.2.1 1 0)))]) (by kernel_rfl) ?_
                      refine XS.step E0_ok 1 rfl [0, 1, 2, 6, 7, 12] rfl (σ' := [(0, s0 2 o1.1.length), (1, ii (List.getD o1.2.1 0 0)), (2, ii (List.getD o1.2.1 1 0)), (6, s0 2 o1.1.length), (7, ii (List.getD o1.2.1 0 0)), (12, .int .u64 (xorV .u64 (List.getD o1.1 (Int.toNat (List.getD o1.2.1 0 0)) 0) (shV true .u64 1 (List.getD o1.2.1 1 0))))]) (by kernel_rfl) ?_
                      refine XS.rd E0_ok rfl [0, 1, 2, 12, 13] rfl (v := pp 2 ((Int.toNat (List.getD o1.2.1 0 0)) * 1)) (v_idx (s := 1) (x := (src 22 (.tmp 6))) (y := (src 22 (.tmp 7))) (b := 2) (o := 0) (len := o1.1.length) (cap := o1.1.length) (ik := .i64) (i := List.getD o1.2.1 0 0) (off := (Int.toNat (List.getD o1.2.1 0 0)) * 1) (d := (some (path 12 13))) (by kernel_rfl) (by kernel_rfl) (by kernel_rfl) b23 (by omega)) (σ' := [(0, s0 2 o1.1.length), (1, ii (List.getD o1.2.1 0 0)), (2, ii (List.getD o1.2.1 1 0)), (12, .int .u64 (xorV .u64 (List.getD o1.1 (Int.toNat (List.getD o1.2.1 0 0)) 0) (shV true .u64 1 (List.getD o1.2.1 1 0)))), (13, pp 2 ((Int.toNat (List.getD o1.2.1 0 0)) * 1))]) (by kernel_rfl) ?_
                      refine XS.done (by kernel_rfl) ?_
                      refine XR.ef E0_ok [0, 1, 2] rfl (e_store (encI_ok .u64) (size := 1) (x := (src 22 (.tmp 13))) (y := (src 22 (.tmp 12))) (b := 2) (off := (Int.toNat (List.getD o1.2.1 0 0)) * 1) (xs := o1.1) (e := 117) (es := 1) (d := none) (h' := [(5, nP), (4, rc (encI .i64) o1.2.2 0 55 0), (3, rc (encI .i64) o1.2.1 0 55 0), (2, rc (encI .u64) (sB o1.1 (List.getD o1.2.1 0 0) (List.getD o1.2.1 1 0)) 0 117 1), (1, pN 5), (0, rc encP a_Tables z0 y0 2)]) (w := .int .u64 (xorV .u64 (List.getD o1.1 (Int.toNat (List.getD o1.2.1 0 0)) 0) (shV true .u64 1 (List.getD o1.2.1 1 0)))) (ws := [.int .u64 (xorV .u64 (List.getD o1.1 (Int.toNat (List.getD o1.2.1 0 0)) 0) (shV true .u64 1 (List.getD o1.2.1 1 0)))]) (a := xorV .u64 (List.getD o1.1 (Int.toNat (List.getD o1.2.1 0 0)) 0) (shV true .u64 1 (List.getD o1.2.1 1 0))) (by kernel_rfl) (by kernel_rfl) (by kernel_rfl) (Int.toNat (List.getD o1.2.1 0 0)) 0 0 (by first | rfl | omega) (row_len (inRow_toNat b23) (by simp)) (by kernel_rfl) rfl rfl rfl rfl rfl (by kernel_rfl)) (σ' := [(0, s0 2 o1.1.length), (1, ii (List.getD o1.2.1 0 0)), (2, ii (List.getD o1.2.1 1 0))]) (by kernel_rfl) ?_
                      refine dQ ?_
                      show XQ _ _ _ _ _ _ _ _
                      refine XQ.tail E0_ok 8 (by kernel_rfl) (by kernel_rfl) ?_
                      refine XS.step E0_ok 2 rfl [1, 14, 15] rfl (σ' := [(1, ii (List.getD o1.2.1 0 0)), (14, s0 2 o1.1.length), (15, ii (List.getD o1.2.1 1 0))]) (by kernel_rfl) ?_
                      cases b26 : (inRow (List.getD o1.2.1 1 0) o1.1.length : Bool) with
                      | false => cases (cF b26 h)
                      | true =>
                       have h := cT b26 h
                       refine XS.rd E0_ok rfl [1, 14, 15, 16] rfl (v := pp 2 ((Int.toNat (List.getD o1.2.1 1 0)) * 1)) (v_idx (s := 1) (x := (src 22 (.tmp 14))) (y := (src 22 (.tmp 15))) (b := 2) (o := 0) (len := o1.1.length) (cap := o1.1.length) (ik := .i64) (i := List.getD o1.2.1 1 0) (off := (Int.toNat (List.getD o1.2.1 1 0)) * 1) (d := (some (path 12 16))) (by kernel_rfl) (by kernel_rfl) (by kernel_rfl) b26 (by omega)) (σ' := [(1, ii (List.getD o1.2.1 0 0)), (14, s0 2 o1.1.length), (15, ii (List.getD o1.2.1 1 0)), (16, pp 2 ((Int.toNat (List.getD o1.2.1 1 0)) * 1))]) (by kernel_rfl) ?_
                       refine XS.rd E0_ok rfl [1, 14, 15, 17] rfl (v := .int .u64 (List.getD (sB o1.1 (List.getD o1.2.1 0 0) (List.getD o1.2.1 1 0)) (Int.toNat (List.getD o1.2.1 1 0)) 0)) (v_load1 (encI_ok .u64) (x := (src 22 (.tmp 16))) (b := 2) (off := (Int.toNat (List.getD o1.2.1 1 0)) * 1) (xs := sB o1.1 (List.getD o1.2.1 0 0) (List.getD o1.2.1 1 0)) (fz := 0) (e := 117) (es := 1) (d := (some (path 12 17))) (by kernel_rfl) (by kernel_rfl) (by kernel_rfl) (Int.toNat (List.getD o1.2.1 1 0)) 0 0 (by first | rfl | omega) (row_len (inRow_toNat b26) (by simp)) rfl rfl) (σ' := [(1, ii (List.getD o1.2.1 0 0)), (14, s0 2 o1.1.length), (15, ii (List.getD o1.2.1 1 0)), (17, .int .u64 (List.getD (sB o1.1 (List.getD o1.2.1 0 0) (List.getD o1.2.1 1 0)) (Int.toNat (List.getD o1.2.1 1 0)) 0))]) (by kernel_rfl) ?_
                       refine XS.step E0_ok 1 rfl [14, 15, 17, 18] rfl (σ' := [(14, s0 2 o1.1.length), (15, ii (List.getD o1.2.1 1 0)), (17, .int .u64 (List.getD (sB o1.1 (List.getD o1.2.1 0 0) (List.getD o1.2.1 1 0)) (Int.toNat (List.getD o1.2.1 1 0)) 0)), (18, ii (List.getD o1.2.1 0 0))]) (by kernel_rfl) ?_
                       cases b27 : (decide (0 ≤ List.getD o1.2.1 0 0) : Bool) with
                       | false => cases (cF b27 h)
                       | true =>
                        have h := cT b27 h
                        have e28 : insV (headI ((gsOf E0 22 (opsOf (rgt f30_C77))).drop 5) (trS 22 [(14, s0 2 o1.1.length), (15, ii (List.getD o1.2.1 1 0)), (17, .int .u64 (List.getD (sB o1.1 (List.getD o1.2.1 0 0) (List.getD o1.2.1 1 0)) (Int.toNat (List.getD o1.2.1 1 0)) 0)), (18, ii (List.getD o1.2.1 0 0))])) (trS 22 [(14, s0 2 o1.1.length), (15, ii (List.getD o1.2.1 1 0)), (17, .int .u64 (List.getD (sB o1.1 (List.getD o1.2.1 0 0) (List.getD o1.2.1 1 0)) (Int.toNat (List.getD o1.2.1 1 0)) 0)), (18, ii (List.getD o1.2.1 0 0))]) [(5, nP), (4, rc (encI .i64) o1.2.2 0 55 0), (3, rc (encI .i64) o1.2.1 0 55 0), (2, rc (encI .u64) (sB o1.1 (List.getD o1.2.1 0 0) (List.getD o1.2.1 1 0)) 0 117 1), (1, pN 5), (0, rc encP a_Tables z0 y0 2)] = (match (decide (0 ≤ List.getD o1.2.1 0 0) : Bool) with | true => some (.int .u64 (shV true .u64 1 (List.getD o1.2.1 0 0))) | false => none) := by kernel_rfl
                        refine XS.rd E0_ok rfl [14, 15, 17, 19] rfl (e28.trans (by rw [b27])) (σ' := [(14, s0 2 o1.1.length), (15, ii (List.getD o1.2.1 1 0)), (17, .int .u64 (List.getD (sB o1.1 (List.getD o1.2.1 0 0) (List.getD o1.2.1 1 0)) (Int.toNat (List.getD o1.2.1 1 0)) 0)), (19, .int .u64 (shV true .u64 1 (List.getD o1.2.1 0 0)))]) (by kernel_rfl) ?_
                        refine XS.step E0_ok 1 rfl [14, 15, 20] rfl (σ' := [(14, s0 2 o1.1.length), (15, ii (List.getD o1.2.1 1 0)), (20, .int .u64 (xorV .u64 (List.getD (sB o1.1 (List.getD o1.2.1 0 0) (List.getD o1.2.1 1 0)) (Int.toNat (List.getD o1.2.1 1 0)) 0) (shV true .u64 1 (List.getD o1.2.1 0 0))))]) (by kernel_rfl) ?_
                        refine XS.rd E0_ok rfl [20, 21] rfl (v := pp 2 ((Int.toNat (List.getD o1.2.1 1 0)) * 1)) (v_idx (s := 1) (x := (src 22 (.tmp 14))) (y := (src 22 (.tmp 15))) (b := 2) (o := 0) (len := o1.1.length) (cap := o1.1.length) (ik := .i64) (i := List.getD o1.2.1 1 0) (off := (Int.toNat (List.getD o1.2.1 1 0)) * 1) (d := (some (path 12 21))) (by kernel_rfl) (by kernel_rfl) (by kernel_rfl) b26 (by omega)) (σ' := [(20, .int .u64 (xorV .u64 (List.getD (sB o1.1 (List.getD o1.2.1 0 0) (List.getD o1.2.1 1 0)) (Int.toNat (List.getD o1.2.1 1 0)) 0) (shV true .u64 1 (List.getD o1.2.1 0 0)))), (21, pp 2 ((Int.toNat (List.getD o1.2.1 1 0)) * 1))]) (by kernel_rfl) ?_
                        refine XS.done (by kernel_rfl) ?_
                        refine XR.ef E0_ok [] rfl (e_store (encI_ok .u64) (size := 1) (x := (src 22 (.tmp 21))) (y := (src 22 (.tmp 20))) (b := 2) (off := (Int.toNat (List.getD o1.2.1 1 0)) * 1) (xs := sB o1.1 (List.getD o1.2.1 0 0) (List.getD o1.2.1 1 0)) (e := 117) (es := 1) (d := none) (h' := [(5, nP), (4, rc (encI .i64) o1.2.2 0 55 0), (3, rc (encI .i64) o1.2.1 0 55 0), (2, rc (encI .u64) (sB (sB o1.1 (List.getD o1.2.1 0 0) (List.getD o1.2.1 1 0)) (List.getD o1.2.1 1 0) (List.getD o1.2.1 0 0)) 0 117 1), (1, pN 5), (0, rc encP a_Tables z0 y0 2)]) (w := .int .u64 (xorV .u64 (List.getD (sB o1.1 (List.getD o1.2.1 0 0) (List.getD o1.2.1 1 0)) (Int.toNat (List.getD o1.2.1 1 0)) 0) (shV true .u64 1 (List.getD o1.2.1 0 0)))) (ws := [.int .u64 (xorV .u64 (List.getD (sB o1.1 (List.getD o1.2.1 0 0) (List.getD o1.2.1 1 0)) (Int.toNat (List.getD o1.2.1 1 0)) 0) (shV true .u64 1 (List.getD o1.2.1 0 0)))]) (a := xorV .u64 (List.getD (sB o1.1 (List.getD o1.2.1 0 0) (List.getD o1.2.1 1 0)) (Int.toNat (List.getD o1.2.1 1 0)) 0) (shV true .u64 1 (List.getD o1.2.1 0 0))) (by kernel_rfl) (by kernel_rfl) (by kernel_rfl) (Int.toNat (List.getD o1.2.1 1 0)) 0 0 (by first | rfl | omega) (row_len (inRow_toNat b26) (by simp)) (by kernel_rfl) rfl rfl rfl rfl rfl (by kernel_rfl)) (σ' := []) (by kernel_rfl) ?_
                        refine dQ ?_
                        refine ⟨fun i q => (by cases q), .tuple #[], (by kernel_rfl), ?_⟩
                        refine XR.conv (σ' := [(8, pp 1 0), (10, s0 2 o1.1.length), (13, pp 4 0)]) (h' := [(5, nP), (4, rc (encI .i64) o1.2.2 0 55 0), (3, rc (encI .i64) o1.2.1 0 55 0), (2, rc (encI .u64) (sB (sB o1.1 (List.getD o1.2.1 0 0) (List.getD o1.2.1 1 0)) (List.getD o1.2.1 1 0) (List.getD o1.2.1 0 0)) 0 117 1), (1, pN 5), (0, rc encP a_Tables z0 y0 2)]) (c' := 6) ?_ (by kernel_rfl)
                        refine nQ id ?_
                        refine rS 2 [(8, pp 1 0), (10, s0 2 o1.1.length), (13, pp 4 0), (104, s0 2 o1.1.length), (105, pp 4 0)] ?_
                        cases b29 : (decide (0 < o1.2.2.length) : Bool) with
                        | false => cases (cF b29 h)
                        | true =>
                         have h := cT b29 h
                         refine XR.rd E0_ok [8, 10, 13, 104, 106] rfl (v := ii (List.getD o1.2.2 0 0)) (v_load1 (encI_ok .i64) (x := (src 112 (.tmp 105))) (b := 4) (off := 0) (xs := o1.2.2) (fz := 0) (e := 55) (es := 0) (d := (some (path 12 106))) (by kernel_rfl) (by kernel_rfl) (by kernel_rfl) 0 0 0 (by first | rfl | omega) (row_len b29 (by simp)) rfl rfl) (σ' := [(8, pp 1 0), (10, s0 2 o1.1.length), (13, pp 4 0), (104, s0 2 o1.1.length), (106, ii (List.getD o1.2.2 0 0))]) (by kernel_rfl) ?_
                         refine rS 1 [(8, pp 1 0), (10, s0 2 o1.1.length), (104, s0 2 o1.1.length), (106, ii (List.getD o1.2.2 0 0)), (107, pp 4 1)] ?_
                         cases b30 : (decide (1 < o1.2.2.length) : Bool) with
                         | false => cases (cF b30 h)
                         | true =>
                          have h := cT b30 h
                          refine XR.rd E0_ok [8, 10, 104, 106, 108] rfl (v := ii (List.getD o1.2.2 1 0)) (v_load1 (encI_ok .i64) (x := (src 112 (.tmp 107))) (b := 4) (off := 1) (xs := o1.2.2) (fz := 0) (e := 55) (es := 0) (d := (some (path 12 108))) (by kernel_rfl) (by kernel_rfl) (by kernel_rfl) 1 0 0 (by first | rfl | omega) (row_len b30 (by simp)) rfl rfl) (σ' := [(8, pp 1 0), (10, s0 2 o1.1.length), (104, s0 2 o1.1.length), (106, ii (List.getD o1.2.2 0 0)), (108, ii (List.getD o1.2.2 1 0))]) (by kernel_rfl) ?_
                          refine XR.callK E0_ok [8, 10] rfl (K := 77) (args := [s0 2 o1.1.length, ii (List.getD o1.2.2 0 0), ii (List.getD o1.2.2 1 0)]) (d := (some (path 12 109))) (by kernel_rfl) ?_
                          refine KC.bodyN E0_ok (F := Proofs.Tryd.f77) (by kernel_rfl) (code := f30_C77) (by kernel_rfl) (nt := 22) (by kernel_rfl) (rs := []) (by kernel_rfl) (by kernel_rfl) (σ := [(0, s0 2 o1.1.length), (1, ii (List.getD o1.2.2 0 0)), (2, ii (List.getD o1.2.2 1 0))]) (by kernel_rfl) ?_
                          refine sQ ?_
                          refine XQ.tail E0_ok 8 (by kernel_rfl) (by kernel_rfl) ?_
                          refine XS.step E0_ok 2 rfl [0, 1, 2, 6, 7] rfl (σ' := [(0, s0 2 o1.1.length), (1, ii (List.getD o1.2.2 0 0)), (2, ii (List.getD o1.2.2 1 0)), (6, s0 2 o1.1.length), (7, ii (List.getD o1.2.2 0 0))]) (by kernel_rfl) ?_
                          cases b31 : (inRow (List.getD o1.2.2 0 0) o1.1.length : Bool) with
                          | false => cases (cF b31 h)
                          | true =>
                           have h := cT b31 h
                           refine XS.rd E0_ok rfl [0, 1, 2, 6, 7, 8] rfl (v := pp 2 ((Int.toNat (List.getD o1.2.2 0 0)) * 1)) (v_idx (s := 1) (x := (src 22 (.tmp 6))) (y := (src 22 (.tmp 7))) (b := 2) (o := 0) (len := o1.1.length) (cap := o1.1.length) (ik := .i64) (i := List.getD o1.2.2 0 0) (off := (Int.toNat (List.getD o1.2.2 0 0)) * 1) (d := (some (path 12 8))) (by kernel_rfl) (by kernel_rfl) (by kernel_rfl) b31 (by omega)) (σ' := [(0, s0 2 o1.1.length), (1, ii (List.getD o1.2.2 0 0)), (2, ii (List.getD o1.2.2 1 0)), (6, s0 2 o1.1.length), (7, ii (List.getD o1.2.2 0 0)), (8, pp 2 ((Int.toNat (List.getD o1.2.2 0 0)) * 1))]) (by kernel_rfl) ?_
                           refine XS.rd E0_ok rfl [0, 1, 2, 6, 7, 9] rfl (v := .int .u64 (List.getD (sB (sB o1.1 (List.getD o1.2.1 0 0) (List.getD o1.2.1 1 0)) (List.getD o1.2.1 1 0) (List.getD o1.2.1 0 0)) (Int.toNat (List.getD o1.2.2 0 0)) 0)) (v_load1 (encI_ok .u64) (x := (src 22 (.tmp 8))) (b := 2) (off := (Int.toNat (List.getD o1.2.2 0 0)) * 1) (xs := sB (sB o1.1 (List.getD o1.2.1 0 0) (List.getD o1.2.1 1 0)) (List.getD o1.2.1 1 0) (List.getD o1.2.1 0 0)) (fz := 0) (e := 117) (es := 1) (d := (some (path 12 9))) (by kernel_rfl) (by kernel_rfl) (by kernel_rfl) (Int.toNat (List.getD o1.2.2 0 0)) 0 0 (by first | rfl | omega) (row_len (inRow_toNat b31) (by simp)) rfl rfl) (σ' := [(0, s0 2 o1.1.length), (1, ii (List.getD o1.2.2 0 0)), (2, ii (List.getD o1.2.2 1 0)), (6, s0 2 o1.1.length), (7, ii (List.getD o1.2.2 0 0)), (9, .int .u64 (List.getD (sB (sB o1.1 (List.getD o1.2.1 0 0) (List.getD o1.2.1 1 0)) (List.getD o1.2.1 1 0) (List.getD o1.2.1 0 0)) (Int.toNat (List.getD o1.2.2 0 0)) 0))]) (by kernel_rfl) ?_
                           refine XS.step E0_ok 1 rfl [0, 1, 2, 6, 7, 9, 10] rfl (σ' := [(0, s0 2 o1.1.length), (1, ii (List.getD o1.2.2 0 0)), (2, ii (List.getD o1.2.2 1 0)), (6, s0 2 o1.1.length), (7, ii (List.getD o1.2.2 0 0)), (9, .int .u64 (List.getD (sB (sB o1.1 (List.getD o1.2.1 0 0) (List.getD o1.2.1 1 0)) (List.getD o1.2.1 1 0) (List.getD o1.2.1 0 0)) (Int.toNat (List.getD o1.2.2 0 0)) 0)), (10, ii (List.getD o1.2.2 1 0))]) (by kernel_rfl) ?_
                           cases b32 : (decide (0 ≤ List.getD o1.2.2 1 0) : Bool) with
                           | false => cases (cF b32 h)
                           | true =>
                            have h := cT b32 h
                            have e33 : insV (headI ((gsOf E0 22 (opsOf (lft f30_C77))).drop 5) (trS 22 [(0, s0 2 o1.1.length), (1, ii (List.getD o1.2.2 0 0)), (2, ii (List.getD o1.2.2 1 0)), (6, s0 2 o1.1.length), (7, ii (List.getD o1.2.2 0 0)), (9, .int .u64 (List.getD (sB (sB o1.1 (List.getD o1.2.1 0 0) (List.getD o1.2.1 1 0)) (List.getD o1.2.1 1 0) (List.getD o1.2.1 0 0)) (Int.toNat (List.getD o1.2.2 0 0)) 0)), (10, ii (List.getD o1.2.2 1 0))])) (trS 22 [(0, s0 2 o1.1.length), (1, ii (List.getD o1.2.2 0 0)), (2, ii (List.getD o1.2.2 1 0)), (6, s0 2 o1.1.length), (7, ii (List.getD o1.2.2 0 0)), (9, .int .u64 (List.getD (sB (sB o1.1 (List.getD o1.2.1 0 0) (List.getD o1.2.1 1 0)) (List.getD o1.2.1 1 0) (List.getD o1.2.1 0 0)) (Int.toNat (List.getD o1.2.2 0 0)) 0)), (10, ii (List.getD o1.2.2 1 0))]) [(5, nP), (4, rc (encI .i64) o1.2.2 0 55 0), (3, rc (encI .i64) o1.2.1 0 55 0), (2, rc (encI .u64) (sB (sB o1.1 (List.getD o1.2.1 0 0) (List.getD o1.2.1 1 0)) (List.getD o1.2.1 1 0) (List.getD o1.2.1 0 0)) 0 117 1), (1, pN 5), (0, rc encP a_Tables z0 y0 2)] = (match (decide (0 ≤ List.getD o1.2.2 1 0) : Bool) with | true => some (.int .u64 (shV true .u64 1 (List.getD o1.2.2 1 0))) | false => none) := by kernel_rfl
                            refine XS.rd E0_ok rfl [0, 1, 2, 6, 7, 9, 11] rfl (e33.trans (by rw [b32])) (σ' := [(0, s0 2 o1.1.length), (1, ii (List.getD o1.2.2 0 0)), (2, ii (List.getD o1.2.2 1 0)), (6, s0 2 o1.1.length), (7, ii (List.getD o1.2.2 0 0)), (9, .int .u64 (List.getD (sB (sB o1.1 (List.getD o1.2.1 0 0) (List.getD o1.2.1 1 0)) (List.getD o1.2.1 1 0) (List.getD o1.2.1 0 0)) (Int.toNat (List.getD o1.2.2 0 0)) 0)), (11, .int .u64 (shV true .u64 1 (List.getD o1.2.2 1 0)))]) (by kernel_rfl) ?_
                            refine XS.step E0_ok 1 rfl [0, 1, 2, 6, 7, 12] rfl (σ' := [(0, s0 2 o1.1.length), (1, ii (List.getD o1.2.2 0 0)), (2, ii (List.getD o1.2.2 1 0)), (6, s0 2 o1.1.length), (7, ii (List.getD o1.2.2 0 0)), (12, .int .u64 (xorV .u64 (List.getD (sB (sB o1.1 (List.getD o1.2.1 0 0) (List.getD o1.2.1 1 0)) (List.getD o1.2.1 1 0) (List.getD o1.2.1 0 0)) (Int.toNat (List.getD o1.2.2 0 0)) 0) (shV true .u64 1 (List.getD o1.2.2 1 0))))]) (by kernel_rfl) ?_
                            refine XS.rd E0_ok rfl [0, 1, 2, 12, 13] rfl (v := pp 2 ((Int.toNat (List.getD o1.2.2 0 0)) * 1)) (v_idx (s := 1) (x := (src 22 (.tmp 6))) (y := (src 22 (.tmp 7))) (b := 2) (o := 0) (len := o1.1.length) (cap := o1.1.length) (ik := .i64) (i := List.getD o1.2.2 0 0) (off := (Int.toNat (List.getD o1.2.2 0 0)) * 1) (d := (some (path 12 13))) (by kernel_rfl) (by kernel_rfl) (by kernel_rfl) b31 (by omega)) (σ' := [(0, s0 2 o1.1.length), (1, ii (List.getD o1.2.2 0 0)), (2, ii (List.getD o1.2.2 1 0)), (12, .int .u64 (xorV .u64 (List.getD (sB (sB o1.1 (List.getD o1.2.1 0 0) (List.getD o1.2.1 1 0)) (List.getD o1.2.1 1 0) (List.getD o1.2.1 0 0)) (Int.toNat (List.getD o1.2.2 0 0)) 0) (shV true .u64 1 (List.getD o1.2.2 1 0)))), (13, pp 2 ((Int.toNat (List.getD o1.2.2 0 0)) * 1))]) (by kernel_rfl) ?_
                            refine XS.done (by kernel_rfl) ?_
                            refine XR.ef E0_ok [0, 1, 2] rfl (e_store (encI_ok .u64) (size := 1) (x := (src 22 (.tmp 13))) (y := (src 22 (.tmp 12))) (b := 2) (off := (Int.toNat (List.getD o1.2.2 0 0)) * 1) (xs := sB (sB o1.1 (List.getD o1.2.1 0 0) (List.getD o1.2.1 1 0)) (List.getD o1.2.1 1 0) (List.getD o1.2.1 0 0)) (e := 117) (es := 1) (d := none) (h' := [(5, nP), (4, rc (encI .i64) o1.2.2 0 55 0), (3, rc (encI .i64) o1.2.1 0 55 0), (2, rc (encI .u64) (sB (sB (sB o1.1 (List.getD o1.2.1 0 0) (List.getD o1.2.1 1 0)) (List.getD o1.2.1 1 0) (List.getD o1.2.1 0 0)) (List.getD o1.2.2 0 0) (List.getD o1.2.2 1 0)) 0 117 1), (1, pN 5), (0, rc encP a_Tables z0 y0 2)]) (w := .int .u64 (xorV .u64 (List.getD (sB (sB o1.1 (List.getD o1.2.1 0 0) (List.getD o1.2.1 1 0)) (List.getD o1.2.1 1 0) (List.getD o1.2.1 0 0)) (Int.toNat (List.getD o1.2.2 0 0)) 0) (shV true .u64 1 (List.getD o1.2.2 1 0)))) (ws := [.int .u64 (xorV .u64 (List.getD (sB (sB o1.1 (List.getD o1.2.1 0 0) (List.getD o1.2.1 1 0)) (List.getD o1.2.1 1 0) (List.getD o1.2.1 0 0)) (Int.toNat (List.getD o1.2.2 0 0)) 0) (shV true .u64 1 (List.getD o1.2.2 1 0)))]) (a := xorV .u64 (List.getD (sB (sB o1.1 (List.getD o1.2.1 0 0) (List.getD o1.2.1 1 0)) (List.getD o1.2.1 1 0) (List.getD o1.2.1 0 0)) (Int.toNat (List.getD o1.2.2 0 0)) 0) (shV true .u64 1 (List.getD o1.2.2 1 0))) (by kernel_rfl) (by kernel_rfl) (by kernel_rfl) (Int.toNat (List.getD o1.2.2 0 0)) 0 0 (by first | rfl | omega) (row_len (inRow_toNat b31) (by simp)) (by kernel_rfl) rfl rfl rfl rfl rfl (by kernel_rfl)) (σ' := [(0, s0 2 o1.1.length), (1, ii (List.getD o1.2.2 0 0)), (2, ii (List.getD o1.2.2 1 0))]) (by kernel_rfl) ?_
                            refine dQ ?_
                            show XQ _ _ _ _ _ _ _ _
                            refine XQ.tail E0_ok 8 (by kernel_rfl) (by kernel_rfl) ?_
                            refine XS.step E0_ok 2 rfl [1, 14, 15] rfl (σ' := [(1, ii (List.getD o1.2.2 0 0)), (14, s0 2 o1.1.length), (15, ii (List.getD o1.2.2 1 0))]) (by kernel_rfl) ?_
                            cases b34 : (inRow (List.getD o1.2.2 1 0) o1.1.length : Bool) with
                            | false => cases (cF b34 h)
                            | true =>
                             have h := cT b34 h
                             refine XS.rd E0_ok rfl [1, 14, 15, 16] rfl (v := pp 2 ((Int.toNat (List.getD o1.2.2 1 0)) * 1)) (v_idx (s := 1) (x := (src 22 (.tmp 14))) (y := (src 22 (.tmp 15))) (b := 2) (o := 0) (len := o1.1.length) (cap := o1.1.length) (ik := .i64) (i := List.getD o1.2.2 1 0) (off := (Int.toNat (List.getD o1.2.2 1 0)) * 1) (d := (some (path 12 16))) (by kernel_rfl) (by kernel_rfl) (by kernel_rfl) b34 (by omega)) (σ' := [(1, ii (List.getD o1.2.2 0 0)), (14, s0 2 o1.1.length), (15, ii (List.getD o1.2.2 1 0)), (16, pp 2 ((Int.toNat (List.getD o1.2.2 1 0)) * 1))]) (by kernel_rfl) ?_
                             refine XS.rd E0_ok rfl [1, 14, 15, 17] rfl (v := .int .u64 (List.getD (sB (sB (sB o1.1 (List.getD o1.2.1 0 0) (List.getD o1.2.1 1 0)) (List.getD o1.2.1 1 0) (List.getD o1.2.1 0 0)) (List.getD o1.2.2 0 0) (List.getD o1.2.2 1 0)) (Int.toNat (List.getD o1.2.2 1 0)) 0)) (v_load1 (encI_ok .u64) (x := (src 22 (.tmp 16))) (b := 2) (off := (Int.toNat (List.getD o1.2.2 1 0)) * 1) (xs := sB (sB (sB o1.1 (List.getD o1.2.1 0 0) (List.getD o1.2.1 1 0)) (List.getD o1.2.1 1 0) (List.getD o1.2.1 0 0)) (List.getD o1.2.2 0 0) (List.getD o1.2.2 1 0)) (fz := 0) (e := 117) (es := 1) (d := (some (path 12 17))) (by kernel_rfl) (by kernel_rfl) (by kernel_rfl) (Int.toNat (List.getD o1.2.2 1 0)) 0 0 (by first | rfl | omega) (row_len (inRow_toNat b34) (by simp)) rfl rfl) (σ' := [(1, ii (List.getD o1.2.2 0 0)), (14, s0 2 o1.1.length), (15, ii (List.getD o1.2.2 1 0)), (17, .int .u64 (List.getD (sB (sB (sB o1.1 (List.getD o1.2.1 0 0) (List.getD o1.2.1 1 0)) (List.getD o1.2.1 1 0) (List.getD o1.2.1 0 0)) (List.getD o1.2.2 0 0) (List.getD o1.2.2 1 0)) (Int.toNat (List.getD o1.2.2 1 0)) 0))]) (by kernel_rfl) ?_
                             refine XS.step E0_ok 1 rfl [14, 15, 17, 18] rfl (σ' := [(14, s0 2 o1.1.length), (15, ii (List.getD o1.2.2 1 0)), (17, .int .u64 (List.getD (sB (sB (sB o1.1 (List.getD o1.2.1 0 0) (List.getD o1.2.1 1 0)) (List.getD o1.2.1 1 0) (List.getD o1.2.1 0 0)) (List.getD o1.2.2 0 0) (List.getD o1.2.2 1 0)) (Int.toNat (List.getD o1.2.2 1 0)) 0)), (18, ii (List.getD o1.2.2 0 0))]) (by kernel_rfl) ?_
                             cases b35 : (decide (0 ≤ List.getD o1.2.2 0 0) : Bool) with
                             | false => cases (cF b35 h)
                             | true =>
                              have h := cT b35 h
                              have e36 : insV (headI ((gsOf E0 22 (opsOf (rgt f30_C77))).drop 5) (trS 22 [(14, s0 2 o1.1.length), (15, ii (List.getD o1.2.2 1 0)), (17, .int .u64 (List.getD (sB (sB (sB o1.1 (List.getD o1.2.1 0 0) (List.getD o1.2.1 1 0)) (List.getD o1.2.1 1 0) (List.getD o1.2.1 0 0)) (List.getD o1.2.2 0 0) (List.getD o1.2.2 1 0)) (Int.toNat (List.getD o1.2.2 1 0)) 0)), (18, ii (List.getD o1.2.2 0 0))])) (trS 22 [(14, s0 2 o1.1.length), (15, ii (List.getD o1.2.2 1 0)), (17, .int .u64 (List.getD (sB (sB (sB o1.1 (List.getD o1.2.1 0 0) (List.getD o1.2.1 1 0)) (List.getD o1.2.1 1 0) (List.getD o1.2.1 0 0)) (List.getD o1.2.2 0 0) (List.getD o1.2.2 1 0)) (Int.toNat (List.getD o1.2.2 1 0)) 0)), (18, ii (List.getD o1.2.2 0 0))]) [(5, nP), (4, rc (encI .i64) o1.2.2 0 55 0), (3, rc (encI .i64) o1.2.1 0 55 0), (2, rc (encI .u64) (sB (sB (sB o1.1 (List.getD o1.2.1 0 0) (List.getD o1.2.1 1 0)) (List.getD o1.2.1 1 0) (List.getD o1.2.1 0 0)) (List.getD o1.2.2 0 0) (List.getD o1.2.2 1 0)) 0 117 1), (1, pN 5), (0, rc encP a_Tables z0 y0 2)] = (match (decide (0 ≤ List.getD o1.2.2 0 0) : Bool) with | true => some (.int .u64 (shV true .u64 1 (List.getD o1.2.2 0 0))) | false => none) := by kernel_rfl
                              refine XS.rd E0_ok rfl [14, 15, 17, 19] rfl (e36.trans (by rw [b35])) (σ' := [(14, s0 2 o1.1.length), (15, ii (List.getD o1.2.2 1 0)), (17, .int .u64 (List.getD (sB (sB (sB o1.1 (List.getD o1.2.1 0 0) (List.getD o1.2.1 1 0)) (List.getD o1.2.1 1 0) (List.getD o1.2.1 0 0)) (List.getD o1.2.2 0 0) (List.getD o1.2.2 1 0)) (Int.toNat (List.getD o1.2.2 1 0)) 0)), (19, .int .u64 (shV true .u64 1 (List.getD o1.2.2 0 0)))]) (by kernel_rfl) ?_
                              refine XS.step E0_ok 1 rfl [14, 15, 20] rfl (σ' := [(14, s0 2 o1.1.length), (15, ii (List.getD o1.2.2 1 0)), (20, .int .u64 (xorV .u64 (List.getD (sB (sB (sB o1.1 (List.getD o1.2.1 0 0) (List.getD o1.2.1 1 0)) (List.getD o1.2.1 1 0) (List.getD o1.2.1 0 0)) (List.getD o1.2.2 0 0) (List.getD o1.2.2 1 0)) (Int.toNat (List.getD o1.2.2 1 0)) 0) (shV true .u64 1 (List.getD o1.2.2 0 0))))]) (by kernel_rfl) ?_
                              refine XS.rd E0_ok rfl [20, 21] rfl (v := pp 2 ((Int.toNat (List.getD o1.2.2 1 0)) * 1)) (v_idx (s := 1) (x := (src 22 (.tmp 14))) (y := (src 22 (.tmp 15))) (b := 2) (o := 0) (len := o1.1.length) (cap := o1.1.length) (ik := .i64) (i := List.getD o1.2.2 1 0) (off := (Int.toNat (List.getD o1.2.2 1 0)) * 1) (d := (some (path 12 21))) (by kernel_rfl) (by kernel_rfl) (by kernel_rfl) b34 (by omega)) (σ' := [(20, .int .u64 (xorV .u64 (List.getD (sB (sB (sB o1.1 (List.getD o1.2.1 0 0) (List.getD o1.2.1 1 0)) (List.getD o1.2.1 1 0) (List.getD o1.2.1 0 0)) (List.getD o1.2.2 0 0) (List.getD o1.2.2 1 0)) (Int.toNat (List.getD o1.2.2 1 0)) 0) (shV true .u64 1 (List.getD o1.2.2 0 0)))), (21, pp 2 ((Int.toNat (List.getD o1.2.2 1 0)) * 1))]) (by kernel_rfl) ?_
                              refine XS.done (by kernel_rfl) ?_
                              refine XR.ef E0_ok [] rfl (e_store (encI_ok .u64) (size := 1) (x := (src 22 (.tmp 21))) (y := (src 22 (.tmp 20))) (b := 2) (off := (Int.toNat (List.getD o1.2.2 1 0)) * 1) (xs := sB (sB (sB o1.1 (List.getD o1.2.1 0 0) (List.getD o1.2.1 1 0)) (List.getD o1.2.1 1 0) (List.getD o1.2.1 0 0)) (List.getD o1.2.2 0 0) (List.getD o1.2.2 1 0)) (e := 117) (es := 1) (d := none) (h' := [(5, nP), (4, rc (encI .i64) o1.2.2 0 55 0), (3, rc (encI .i64) o1.2.1 0 55 0), (2, rc (encI .u64) (sB (sB (sB (sB o1.1 (List.getD o1.2.1 0 0) (List.getD o1.2.1 1 0)) (List.getD o1.2.1 1 0) (List.getD o1.2.1 0 0)) (List.getD o1.2.2 0 0) (List.getD o1.2.2 1 0)) (List.getD o1.2.2 1 0) (List.getD o1.2.2 0 0)) 0 117 1), (1, pN 5), (0, rc encP a_Tables z0 y0 2)]) (w := .int .u64 (xorV .u64 (List.getD (sB (sB (sB o1.1 (List.getD o1.2.1 0 0) (List.getD o1.2.1 1 0)) (List.getD o1.2.1 1 0) (List.getD o1.2.1 0 0)) (List.getD o1.2.2 0 0) (List.getD o1.2.2 1 0)) (Int.toNat (List.getD o1.2.2 1 0)) 0) (shV true .u64 1 (List.getD o1.2.2 0 0)))) (ws := [.int .u64 (xorV .u64 (List.getD (sB (sB (sB o1.1 (List.getD o1.2.1 0 0) (List.getD o1.2.1 1 0)) (List.getD o1.2.1 1 0) (List.getD o1.2.1 0 0)) (List.getD o1.2.2 0 0) (List.getD o1.2.2 1 0)) (Int.toNat (List.getD o1.2.2 1 0)) 0) (shV true .u64 1 (List.getD o1.2.2 0 0)))]) (a := xorV .u64 (List.getD (sB (sB (sB o1.1 (List.getD o1.2.1 0 0) (List.getD o1.2.1 1 0)) (List.getD o1.2.1 1 0) (List.getD o1.2.1 0 0)) (List.getD o1.2.2 0 0) (List.getD o1.2.2 1 0)) (Int.toNat (List.getD o1.2.2 1 0)) 0) (shV true .u64 1 (List.getD o1.2.2 0 0))) (by kernel_rfl) (by kernel_rfl) (by kernel_rfl) (Int.toNat (List.getD o1.2.2 1 0)) 0 0 (by first | rfl | omega) (row_len (inRow_toNat b34) (by simp)) (by kernel_rfl) rfl rfl rfl rfl rfl (by kernel_rfl)) (σ' := []) (by kernel_rfl) ?_
                              refine dQ ?_
                              refine ⟨fun i q => (by cases q), .tuple #[], (by kernel_rfl), ?_⟩
                              refine XR.conv (σ' := [(8, pp 1 0), (10, s0 2 o1.1.length)]) (h' := [(5, nP), (4, rc (encI .i64) o1.2.2 0 55 0), (3, rc (encI .i64) o1.2.1 0 55 0), (2, rc (encI .u64) (sB (sB (sB (sB o1.1 (List.getD o1.2.1 0 0) (List.getD o1.2.1 1 0)) (List.getD o1.2.1 1 0) (List.getD o1.2.1 0 0)) (List.getD o1.2.2 0 0) (List.getD o1.2.2 1 0)) (List.getD o1.2.2 1 0) (List.getD o1.2.2 0 0)) 0 117 1), (1, pN 5), (0, rc encP a_Tables z0 y0 2)]) (c' := 6) ?_ (by kernel_rfl)
                              refine nQ id ?_
                              refine rS 1 [(8, pp 1 0), (110, s0 2 o1.1.length)] ?_
                              obtain ⟨r6, r6_h, h⟩ := bS h
                              refine XR.call E0_ok [8, 111] rfl (K := 78) (args := [s0 2 o1.1.length]) (d := (some (path 12 111))) (by kernel_rfl) (KC.liftH (n0 := 1) (m := 1) (args0 := [s0 0 o1.1.length]) (h0 := [(0, rc (encI .u64) (sB (sB (sB (sB o1.1 (List.getD o1.2.1 0 0) (List.getD o1.2.1 1 0)) (List.getD o1.2.1 1 0) (List.getD o1.2.1 0 0)) (List.getD o1.2.2 0 0) (List.getD o1.2.2 1 0)) (List.getD o1.2.2 1 0) (List.getD o1.2.2 0 0)) (0 + ((rowC (encI .u64) (sB (sB (sB (sB o1.1 (List.getD o1.2.1 0 0) (List.getD o1.2.1 1 0)) (List.getD o1.2.1 1 0) (List.getD o1.2.1 0 0)) (List.getD o1.2.2 0 0) (List.getD o1.2.2 1 0)) (List.getD o1.2.2 1 0) (List.getD o1.2.2 0 0))).length + 1)) 117 1)]) (V := .agg #[ii r6.1, s0 1 r6.2.length]) (V2 := .agg #[ii r6.1, s0 6 r6.2.length]) (H := [(1, rc encP r6.2 0 55 2)]) (H2 := [(6, rc encP r6.2 0 55 2)]) [2] [2, 3, 4, 5, 6, 7, 1] (by have q := (f78_ok m (0 + ((rowC (encI .u64) (sB (sB (sB (sB o1.1 (List.getD o1.2.1 0 0) (List.getD o1.2.1 1 0)) (List.getD o1.2.1 1 0) (List.getD o1.2.1 0 0)) (List.getD o1.2.2 0 0) (List.getD o1.2.2 1 0)) (List.getD o1.2.2 1 0) (List.getD o1.2.2 0 0))).length + 1)) 117 (sB (sB (sB (sB o1.1 (List.getD o1.2.1 0 0) (List.getD o1.2.1 1 0)) (List.getD o1.2.1 1 0) (List.getD o1.2.1 0 0)) (List.getD o1.2.2 0 0) (List.getD o1.2.2 1 0)) (List.getD o1.2.2 1 0) (List.getD o1.2.2 0 0)) r6 r6_h); simp only [List.length_set] at q; exact q) (by rfl) (by decide) rfl (by kernel_rfl) ⟨⟨_, _, rfl, rfl, .inl ⟨rfl, rowC_scal (encI_ok .u64) _⟩⟩, trivial⟩ (by decide) (by decide) (by kernel_rfl) ⟨⟨_, _, rfl, rfl, .inl ⟨rfl, rwP⟩⟩, trivial⟩ (by rfl)) ?_
                              rintro _ _ _ ⟨rfl, rfl, rfl⟩
                              refine XR.conv (σ' := [(8, pp 1 0), (111, .agg #[ii r6.1, s0 6 r6.2.length])]) (h' := [(6, rc encP r6.2 0 55 2), (5, nP), (4, rc (encI .i64) o1.2.2 0 55 0), (3, rc (encI .i64) o1.2.1 0 55 0), (2, rc (encI .u64) (sB (sB (sB (sB o1.1 (List.getD o1.2.1 0 0) (List.getD o1.2.1 1 0)) (List.getD o1.2.1 1 0) (List.getD o1.2.1 0 0)) (List.getD o1.2.2 0 0) (List.getD o1.2.2 1 0)) (List.getD o1.2.2 1 0) (List.getD o1.2.2 0 0)) 0 117 1), (1, pN 5), (0, rc encP a_Tables z0 y0 2)]) (c' := 7) ?_ (by kernel_rfl)
                              refine rT 2 [(8, pp 1 0), (9, ii 0)] [(6, rc encP r6.2 0 55 2), (5, nP), (4, rc (encI .i64) o1.2.2 0 55 0), (3, rc (encI .i64) o1.2.1 0 55 0), (2, rc (encI .u64) (sB (sB (sB (sB o1.1 (List.getD o1.2.1 0 0) (List.getD o1.2.1 1 0)) (List.getD o1.2.1 1 0) (List.getD o1.2.1 0 0)) (List.getD o1.2.2 0 0) (List.getD o1.2.2 1 0)) (List.getD o1.2.2 1 0) (List.getD o1.2.2 0 0)) 0 117 1), (1, .cells [ii r6.1, s0 6 r6.2.length] 0 34 0), (0, rc encP a_Tables z0 y0 2)] 7 ?_
                              refine dQ ?_
                              show XQ _ _ _ _ _ _ _ _
                              refine XQ.ren (σ' := [(8, pp 1 0), (9, ii 0)]) (h' := [(2, rc encP r6.2 0 55 2), (1, .cells [ii r6.1, s0 2 r6.2.length] 0 34 0), (0, rc encP a_Tables z0 y0 2)]) (c' := 3) [0, 1, 6] (by decide) rfl ⟨rfl, rfl, trivial⟩ ⟨⟨_, _, rfl, rfl, .inl ⟨rfl, rwP⟩⟩, ⟨_, _, rfl, rfl, .inr ⟨_, _, _, _, rfl, rfl⟩⟩, ⟨_, _, rfl, rfl, .inl ⟨rfl, rwP⟩⟩, trivial⟩ rfl ?_
                              refine XQ.ret (by kernel_rfl) ?_
                              have h := Option.some.inj h
                              subst h
                              exact ⟨fun i q => (by cases q), .tuple #[.agg #[ii r6.1, s0 2 r6.2.length], ii 0], (by kernel_rfl), [0, 2], .tuple #[.agg #[ii r6.1, s0 1 r6.2.length], ii 0], [(1, rc encP r6.2 0 55 2), (0, rc encP a_Tables z0 y0 2)], (by decide), rfl, (by kernel_rfl), ⟨⟨_, _, rfl, rfl, .inl ⟨rfl, rwP⟩⟩, ⟨_, _, rfl, rfl, .inl ⟨rfl, rwP⟩⟩, trivial⟩, (by kernel_rfl), (by kernel_rfl), rfl⟩
      ·have xa10 : XA E0 112 1 (opsOf (lft (rgt (rgt (rgt f30_C30))))) 0 #[true, true, true, true, true, true, true, true, true, true, true, true, true, true] [(3, .bool d), (8, pp 1 0), (10, s0 2 r1.1.length), (12, pp 3 0), (13, pp 4 0)] [(5, nP), (4, .cells (t2 (gT a_Tables c)) 0 55 0), (3, .cells (t2 (gT a_Tables b)) 0 55 0), (2, rU r1.1), (1, pN 5), (0, rc encP a_Tables z0 y0 2)] 6 (qD a_Tables b c d z0 y0 r1) := by
        exact XA.done (by kernel_rfl) ⟨rfl, rfl⟩
       have xa9 : XA E0 112 1 (opsOf (lft (rgt (rgt (rgt f30_C30))))) 1 #[true, true, true, true, true, true, true, true, true, true, true, true, true, false] [(3, .bool d), (8, pp 1 0), (10, s0 2 r1.1.length), (12, pp 3 0), (13, pp 4 0), (52, aT (gT a_Tables c))] [(5, nP), (4, z2), (3, .cells (t2 (gT a_Tables b)) 0 55 0), (2, rU r1.1), (1, pN 5), (0, rc encP a_Tables z0 y0 2)] 6 (qD a_Tables b c d z0 y0 r1) := by
        refine XA.step E0_ok [13] (by kernel_rfl) rfl (by kernel_rfl) ⟨?_, trivial⟩
        ·refine rT 1 [(3, .bool d), (8, pp 1 0), (10, s0 2 r1.1.length), (12, pp 3 0), (13, pp 4 0)] [(5, nP), (4, .cells (t2 (gT a_Tables c)) 0 55 0), (3, .cells (t2 (gT a_Tables b)) 0 55 0), (2, rU r1.1), (1, pN 5), (0, rc encP a_Tables z0 y0 2)] 6 ?_
         refine dQ ?_
         refine ⟨rfl, ?_⟩
         show XA _ _ _ _ _ _ _ _ _ _
         exact xa10
       have xa8 : XA E0 112 1 (opsOf (lft (rgt (rgt (rgt f30_C30))))) 2 #[true, true, true, true, true, true, true, true, true, true, true, true, false, false] [(3, .bool d), (8, pp 1 0), (10, s0 2 r1.1.length), (12, pp 3 0), (13, pp 4 0), (47, aT (gT a_Tables b)), (52, aT (gT a_Tables c))] [(5, nP), (4, z2), (3, z2), (2, rU r1.1), (1, pN 5), (0, rc encP a_Tables z0 y0 2)] 6 (qD a_Tables b c d z0 y0 r1) := by
        refine XA.step E0_ok [12] (by kernel_rfl) rfl (by kernel_rfl) ⟨?_, trivial⟩
        ·refine rT 1 [(3, .bool d), (8, pp 1 0), (10, s0 2 r1.1.length), (12, pp 3 0), (13, pp 4 0), (52, aT (gT a_Tables c))] [(5, nP), (4, z2), (3, .cells (t2 (gT a_Tables b)) 0 55 0), (2, rU r1.1), (1, pN 5), (0, rc encP a_Tables z0 y0 2)] 6 ?_
         refine dQ ?_
         refine ⟨rfl, ?_⟩
         show XA _ _ _ _ _ _ _ _ _ _
         exact xa9
       have xa7 : XA E0 112 1 (opsOf (lft (rgt (rgt (rgt f30_C30))))) 3 #[true, true, true, true, true, true, true, true, true, true, true, false, false, false] [(3, .bool d), (8, pp 1 0), (10, s0 2 r1.1.length), (12, pp 3 0), (47, aT (gT a_Tables b)), (52, aT (gT a_Tables c))] [(4, nP), (3, z2), (2, rU r1.1), (1, pN 4), (0, rc encP a_Tables z0 y0 2)] 5 (qD a_Tables b c d z0 y0 r1) := by
        refine XA.step E0_ok [11] (by kernel_rfl) rfl (by kernel_rfl) ⟨?_, trivial⟩
        ·refine rT 1 [(3, .bool d), (8, pp 1 0), (10, s0 2 r1.1.length), (12, pp 3 0), (13, pp 5 0), (47, aT (gT a_Tables b)), (52, aT (gT a_Tables c))] [(5, z2), (4, nP), (3, z2), (2, rU r1.1), (1, pN 4), (0, rc encP a_Tables z0 y0 2)] 6 ?_
         refine dQ ?_
         refine ⟨rfl, ?_⟩
         show XA _ _ _ _ _ _ _ _ _ _
         refine XA.ren (σ' := [(3, .bool d), (8, pp 1 0), (10, s0 2 r1.1.length), (12, pp 3 0), (13, pp 4 0), (47, aT (gT a_Tables b)), (52, aT (gT a_Tables c))]) (h' := [(5, nP), (4, z2), (3, z2), (2, rU r1.1), (1, pN 5), (0, rc encP a_Tables z0 y0 2)]) (c' := 6) [0, 1, 2, 3, 5, 4] (by decide) rfl ⟨rfl, rfl, rfl, rfl, rfl, rfl, rfl, trivial⟩ ⟨⟨_, _, rfl, rfl, .inl ⟨rfl, rwP⟩⟩, ⟨_, _, rfl, rfl, .inr ⟨_, _, _, _, rfl, rfl⟩⟩, ⟨_, _, rfl, rfl, .inr ⟨_, _, _, _, rfl, rfl⟩⟩, ⟨_, _, rfl, rfl, .inl ⟨rfl, rowC_scal (encI_ok .u64) _⟩⟩, ⟨_, _, rfl, rfl, .inr ⟨_, _, _, _, rfl, rfl⟩⟩, ⟨_, _, rfl, rfl, .inl ⟨rfl, rwP⟩⟩, trivial⟩ rfl ?_
         exact xa8
       have xa11 : XA E0 112 1 (opsOf (lft (rgt (rgt (rgt f30_C30))))) 3 #[true, true, true, true, true, true, true, true, true, true, false, true, false, false] [(3, .bool d), (8, pp 1 0), (10, s0 2 r1.1.length), (13, pp 3 0), (47, aT (gT a_Tables b)), (52, aT (gT a_Tables c))] [(4, nP), (3, z2), (2, rU r1.1), (1, pN 4), (0, rc encP a_Tables z0 y0 2)] 5 (qD a_Tables b c d z0 y0 r1) := by
        refine XA.step E0_ok [10] (by kernel_rfl) rfl (by kernel_rfl) ⟨?_, trivial⟩
        ·refine rT 1 [(3, .bool d), (8, pp 1 0), (10, s0 2 r1.1.length), (12, pp 5 0), (13, pp 3 0), (47, aT (gT a_Tables b)), (52, aT (gT a_Tables c))] [(5, z2), (4, nP), (3, z2), (2, rU r1.1), (1, pN 4), (0, rc encP a_Tables z0 y0 2)] 6 ?_
         refine dQ ?_
         refine ⟨rfl, ?_⟩
         show XA _ _ _ _ _ _ _ _ _ _
         refine XA.ren (σ' := [(3, .bool d), (8, pp 1 0), (10, s0 2 r1.1.length), (12, pp 3 0), (13, pp 4 0), (47, aT (gT a_Tables b)), (52, aT (gT a_Tables c))]) (h' := [(5, nP), (4, z2), (3, z2), (2, rU r1.1), (1, pN 5), (0, rc encP a_Tables z0 y0 2)]) (c' := 6) [0, 1, 2, 5, 3, 4] (by decide) rfl ⟨rfl, rfl, rfl, rfl, rfl, rfl, rfl, trivial⟩ ⟨⟨_, _, rfl, rfl, .inl ⟨rfl, rwP⟩⟩, ⟨_, _, rfl, rfl, .inr ⟨_, _, _, _, rfl, rfl⟩⟩, ⟨_, _, rfl, rfl, .inr ⟨_, _, _, _, rfl, rfl⟩⟩, ⟨_, _, rfl, rfl, .inl ⟨rfl, rowC_scal (encI_ok .u64) _⟩⟩, ⟨_, _, rfl, rfl, .inr ⟨_, _, _, _, rfl, rfl⟩⟩, ⟨_, _, rfl, rfl, .inl ⟨rfl, rwP⟩⟩, trivial⟩ rfl ?_
         exact xa8
       have xa6 : XA E0 112 1 (opsOf (lft (rgt (rgt (rgt f30_C30))))) 4 #[true, true, true, true, true, true, true, true, true, true, false, false, false, false] [(3, .bool d), (8, pp 1 0), (10, s0 2 r1.1.length), (47, aT (gT a_Tables b)), (52, aT (gT a_Tables c))] [(3, nP), (2, rU r1.1), (1, pN 3), (0, rc encP a_Tables z0 y0 2)] 4 (qD a_Tables b c d z0 y0 r1) := by
        refine XA.step E0_ok [10, 11] (by kernel_rfl) rfl (by kernel_rfl) ⟨?_, ?_, trivial⟩
        ·refine rT 1 [(3, .bool d), (8, pp 1 0), (10, s0 2 r1.1.length), (12, pp 4 0), (47, aT (gT a_Tables b)), (52, aT (gT a_Tables c))] [(4, z2), (3, nP), (2, rU r1.1), (1, pN 3), (0, rc encP a_Tables z0 y0 2)] 5 ?_
         refine dQ ?_
         refine ⟨rfl, ?_⟩
         show XA _ _ _ _ _ _ _ _ _ _
         refine XA.ren (σ' := [(3, .bool d), (8, pp 1 0), (10, s0 2 r1.1.length), (12, pp 3 0), (47, aT (gT a_Tables b)), (52, aT (gT a_Tables c))]) (h' := [(4, nP), (3, z2), (2, rU r1.1), (1, pN 4), (0, rc encP a_Tables z0 y0 2)]) (c' := 5) [0, 1, 2, 4, 3] (by decide) rfl ⟨rfl, rfl, rfl, rfl, rfl, rfl, trivial⟩ ⟨⟨_, _, rfl, rfl, .inl ⟨rfl, rwP⟩⟩, ⟨_, _, rfl, rfl, .inr ⟨_, _, _, _, rfl, rfl⟩⟩, ⟨_, _, rfl, rfl, .inl ⟨rfl, rowC_scal (encI_ok .u64) _⟩⟩, ⟨_, _, rfl, rfl, .inr ⟨_, _, _, _, rfl, rfl⟩⟩, ⟨_, _, rfl, rfl, .inl ⟨rfl, rwP⟩⟩, trivial⟩ rfl ?_
         exact xa7
        ·refine rT 1 [(3, .bool d), (8, pp 1 0), (10, s0 2 r1.1.length), (13, pp 4 0), (47, aT (gT a_Tables b)), (52, aT (gT a_Tables c))] [(4, z2), (3, nP), (2, rU r1.1), (1, pN 3), (0, rc encP a_Tables z0 y0 2)] 5 ?_
         refine dQ ?_
         refine ⟨rfl, ?_⟩
         show XA _ _ _ _ _ _ _ _ _ _
         refine XA.ren (σ' := [(3, .bool d), (8, pp 1 0), (10, s0 2 r1.1.length), (13, pp 3 0), (47, aT (gT a_Tables b)), (52, aT (gT a_Tables c))]) (h' := [(4, nP), (3, z2), (2, rU r1.1), (1, pN 4), (0, rc encP a_Tables z0 y0 2)]) (c' := 5) [0, 1, 2, 4, 3] (by decide) rfl ⟨rfl, rfl, rfl, rfl, rfl, rfl, trivial⟩ ⟨⟨_, _, rfl, rfl, .inl ⟨rfl, rwP⟩⟩, ⟨_, _, rfl, rfl, .inr ⟨_, _, _, _, rfl, rfl⟩⟩, ⟨_, _, rfl, rfl, .inl ⟨rfl, rowC_scal (encI_ok .u64) _⟩⟩, ⟨_, _, rfl, rfl, .inr ⟨_, _, _, _, rfl, rfl⟩⟩, ⟨_, _, rfl, rfl, .inl ⟨rfl, rwP⟩⟩, trivial⟩ rfl ?_
         exact xa11
       have xa14 : XA E0 112 1 (opsOf (lft (rgt (rgt (rgt f30_C30))))) 2 #[true, true, true, true, true, true, true, true, true, false, true, true, true, false] [(3, .bool d), (8, pp 1 0), (10, s0 2 r1.1.length), (12, pp 3 0), (13, pp 4 0), (51, pp 0 ((Int.toNat c) * 2))] [(5, nP), (4, z2), (3, .cells (t2 (gT a_Tables b)) 0 55 0), (2, rU r1.1), (1, pN 5), (0, rc encP a_Tables z0 y0 2)] 6 (qD a_Tables b c d z0 y0 r1) := by
        refine XA.step E0_ok [9] (by kernel_rfl) rfl (by kernel_rfl) ⟨?_, trivial⟩
        ·refine XR.rd E0_ok [3, 8, 10, 12, 13, 52] rfl (v := aT (gT a_Tables c)) (v_loadN encP_ok (x := (src 112 (.tmp 51))) (b := 0) (off := (Int.toNat c) * 2) (xs := a_Tables) (fz := z0) (e := y0) (es := 2) (d := (some (path 12 52))) (by kernel_rfl) (by kernel_rfl) (by kernel_rfl) (Int.toNat c) (0, 0) (by first | rfl | omega) (row_len (inRow_toNat b5) (by simp)) rfl) (σ' := [(3, .bool d), (8, pp 1 0), (10, s0 2 r1.1.length), (12, pp 3 0), (13, pp 4 0), (52, aT (gT a_Tables c))]) (by kernel_rfl) ?_
         refine dQ ?_
         refine ⟨rfl, ?_⟩
         show XA _ _ _ _ _ _ _ _ _ _
         exact xa9
       have xa13 : XA E0 112 1 (opsOf (lft (rgt (rgt (rgt f30_C30))))) 3 #[true, true, true, true, true, true, true, true, true, false, true, true, false, false] [(3, .bool d), (8, pp 1 0), (10, s0 2 r1.1.length), (12, pp 3 0), (13, pp 4 0), (47, aT (gT a_Tables b)), (51, pp 0 ((Int.toNat c) * 2))] [(5, nP), (4, z2), (3, z2), (2, rU r1.1), (1, pN 5), (0, rc encP a_Tables z0 y0 2)] 6 (qD a_Tables b c d z0 y0 r1) := by
        refine XA.step E0_ok [9, 12] (by kernel_rfl) rfl (by kernel_rfl) ⟨?_, ?_, trivial⟩
        ·refine XR.rd E0_ok [3, 8, 10, 12, 13, 47, 52] rfl (v := aT (gT a_Tables c)) (v_loadN encP_ok (x := (src 112 (.tmp 51))) (b := 0) (off := (Int.toNat c) * 2) (xs := a_Tables) (fz := z0) (e := y0) (es := 2) (d := (some (path 12 52))) (by kernel_rfl) (by kernel_rfl) (by kernel_rfl) (Int.toNat c) (0, 0) (by first | rfl | omega) (row_len (inRow_toNat b5) (by simp)) rfl) (σ' := [(3, .bool d), (8, pp 1 0), (10, s0 2 r1.1.length), (12, pp 3 0), (13, pp 4 0), (47, aT (gT a_Tables b)), (52, aT (gT a_Tables c))]) (by kernel_rfl) ?_
         refine dQ ?_
         refine ⟨rfl, ?_⟩
         show XA _ _ _ _ _ _ _ _ _ _
         exact xa8
        ·refine rT 1 [(3, .bool d), (8, pp 1 0), (10, s0 2 r1.1.length), (12, pp 3 0), (13, pp 4 0), (51, pp 0 ((Int.toNat c) * 2))] [(5, nP), (4, z2), (3, .cells (t2 (gT a_Tables b)) 0 55 0), (2, rU r1.1), (1, pN 5), (0, rc encP a_Tables z0 y0 2)] 6 ?_
         refine dQ ?_
         refine ⟨rfl, ?_⟩
         show XA _ _ _ _ _ _ _ _ _ _
         exact xa14
       have xa12 : XA E0 112 1 (opsOf (lft (rgt (rgt (rgt f30_C30))))) 4 #[true, true, true, true, true, true, true, true, true, false, true, false, false, false] [(3, .bool d), (8, pp 1 0), (10, s0 2 r1.1.length), (12, pp 3 0), (47, aT (gT a_Tables b)), (51, pp 0 ((Int.toNat c) * 2))] [(4, nP), (3, z2), (2, rU r1.1), (1, pN 4), (0, rc encP a_Tables z0 y0 2)] 5 (qD a_Tables b c d z0 y0 r1) := by
        refine XA.step E0_ok [9, 11] (by kernel_rfl) rfl (by kernel_rfl) ⟨?_, ?_, trivial⟩
        ·refine XR.rd E0_ok [3, 8, 10, 12, 47, 52] rfl (v := aT (gT a_Tables c)) (v_loadN encP_ok (x := (src 112 (.tmp 51))) (b := 0) (off := (Int.toNat c) * 2) (xs := a_Tables) (fz := z0) (e := y0) (es := 2) (d := (some (path 12 52))) (by kernel_rfl) (by kernel_rfl) (by kernel_rfl) (Int.toNat c) (0, 0) (by first | rfl | omega) (row_len (inRow_toNat b5) (by simp)) rfl) (σ' := [(3, .bool d), (8, pp 1 0), (10, s0 2 r1.1.length), (12, pp 3 0), (47, aT (gT a_Tables b)), (52, aT (gT a_Tables c))]) (by kernel_rfl) ?_
         refine dQ ?_
         refine ⟨rfl, ?_⟩
         show XA _ _ _ _ _ _ _ _ _ _
         exact xa7
        ·refine rT 1 [(3, .bool d), (8, pp 1 0), (10, s0 2 r1.1.length), (12, pp 3 0), (13, pp 5 0), (47, aT (gT a_Tables b)), (51, pp 0 ((Int.toNat c) * 2))] [(5, z2), (4, nP), (3, z2), (2, rU r1.1), (1, pN 4), (0, rc encP a_Tables z0 y0 2)] 6 ?_
         refine dQ ?_
         refine ⟨rfl, ?_⟩
         show XA _ _ _ _ _ _ _ _ _ _
         refine XA.ren (σ' := [(3, .bool d), (8, pp 1 0), (10, s0 2 r1.1.length), (12, pp 3 0), (13, pp 4 0), (47, aT (gT a_Tables b)), (51, pp 0 ((Int.toNat c) * 2))]) (h' := [(5, nP), (4, z2), (3, z2), (2, rU r1.1), (1, pN 5), (0, rc encP a_Tables z0 y0 2)]) (c' := 6) [0, 1, 2, 3, 5, 4] (by decide) rfl ⟨rfl, rfl, rfl, rfl, rfl, rfl, rfl, trivial⟩ ⟨⟨_, _, rfl, rfl, .inl ⟨rfl, rwP⟩⟩, ⟨_, _, rfl, rfl, .inr ⟨_, _, _, _, rfl, rfl⟩⟩, ⟨_, _, rfl, rfl, .inr ⟨_, _, _, _, rfl, rfl⟩⟩, ⟨_, _, rfl, rfl, .inl ⟨rfl, rowC_scal (encI_ok .u64) _⟩⟩, ⟨_, _, rfl, rfl, .inr ⟨_, _, _, _, rfl, rfl⟩⟩, ⟨_, _, rfl, rfl, .inl ⟨rfl, rwP⟩⟩, trivial⟩ rfl ?_
         exact xa13
       have xa15 : XA E0 112 1 (opsOf (lft (rgt (rgt (rgt f30_C30))))) 4 #[true, true, true, true, true, true, true, true, true, false, false, true, false, false] [(3, .bool d), (8, pp 1 0), (10, s0 2 r1.1.length), (13, pp 3 0), (47, aT (gT a_Tables b)), (51, pp 0 ((Int.toNat c) * 2))] [(4, nP), (3, z2), (2, rU r1.1), (1, pN 4), (0, rc encP a_Tables z0 y0 2)] 5 (qD a_Tables b c d z0 y0 r1) := by
        refine XA.step E0_ok [9, 10] (by kernel_rfl) rfl (by kernel_rfl) ⟨?_, ?_, trivial⟩
        ·refine XR.rd E0_ok [3, 8, 10, 13, 47, 52] rfl (v := aT (gT a_Tables c)) (v_loadN encP_ok (x := (src 112 (.tmp 51))) (b := 0) (off := (Int.toNat c) * 2) (xs := a_Tables) (fz := z0) (e := y0) (es := 2) (d := (some (path 12 52))) (by kernel_rfl) (by kernel_rfl) (by kernel_rfl) (Int.toNat c) (0, 0) (by first | rfl | omega) (row_len (inRow_toNat b5) (by simp)) rfl) (σ' := [(3, .bool d), (8, pp 1 0), (10, s0 2 r1.1.length), (13, pp 3 0), (47, aT (gT a_Tables b)), (52, aT (gT a_Tables c))]) (by kernel_rfl) ?_
         refine dQ ?_
         refine ⟨rfl, ?_⟩
         show XA _ _ _ _ _ _ _ _ _ _
         exact xa11
        ·refine rT 1 [(3, .bool d), (8, pp 1 0), (10, s0 2 r1.1.length), (12, pp 5 0), (13, pp 3 0), (47, aT (gT a_Tables b)), (51, pp 0 ((Int.toNat c) * 2))] [(5, z2), (4, nP), (3, z2), (2, rU r1.1), (1, pN 4), (0, rc encP a_Tables z0 y0 2)] 6 ?_
         refine dQ ?_
         refine ⟨rfl, ?_⟩
         show XA _ _ _ _ _ _ _ _ _ _
         refine XA.ren (σ' := [(3, .bool d), (8, pp 1 0), (10, s0 2 r1.1.length), (12, pp 3 0), (13, pp 4 0), (47, aT (gT a_Tables b)), (51, pp 0 ((Int.toNat c) * 2))]) (h' := [(5, nP), (4, z2), (3, z2), (2, rU r1.1), (1, pN 5), (0, rc encP a_Tables z0 y0 2)]) (c' := 6) [0, 1, 2, 5, 3, 4] (by decide) rfl ⟨rfl, rfl, rfl, rfl, rfl, rfl, rfl, trivial⟩ ⟨⟨_, _, rfl, rfl, .inl ⟨rfl, rwP⟩⟩, ⟨_, _, rfl, rfl, .inr ⟨_, _, _, _, rfl, rfl⟩⟩, ⟨_, _, rfl, rfl, .inr ⟨_, _, _, _, rfl, rfl⟩⟩, ⟨_, _, rfl, rfl, .inl ⟨rfl, rowC_scal (encI_ok .u64) _⟩⟩, ⟨_, _, rfl, rfl, .inr ⟨_, _, _, _, rfl, rfl⟩⟩, ⟨_, _, rfl, rfl, .inl ⟨rfl, rwP⟩⟩, trivial⟩ rfl ?_
         exact xa13
       have xa5 : XA E0 112 1 (opsOf (lft (rgt (rgt (rgt f30_C30))))) 5 #[true, true, true, true, true, true, true, true, true, false, false, false, false, false] [(3, .bool d), (8, pp 1 0), (10, s0 2 r1.1.length), (47, aT (gT a_Tables b)), (51, pp 0 ((Int.toNat c) * 2))] [(3, nP), (2, rU r1.1), (1, pN 3), (0, rc encP a_Tables z0 y0 2)] 4 (qD a_Tables b c d z0 y0 r1) := by
        refine XA.step E0_ok [9, 10, 11] (by kernel_rfl) rfl (by kernel_rfl) ⟨?_, ?_, ?_, trivial⟩
        ·refine XR.rd E0_ok [3, 8, 10, 47, 52] rfl (v := aT (gT a_Tables c)) (v_loadN encP_ok (x := (src 112 (.tmp 51))) (b := 0) (off := (Int.toNat c) * 2) (xs := a_Tables) (fz := z0) (e := y0) (es := 2) (d := (some (path 12 52))) (by kernel_rfl) (by kernel_rfl) (by kernel_rfl) (Int.toNat c) (0, 0) (by first | rfl | omega) (row_len (inRow_toNat b5) (by simp)) rfl) (σ' := [(3, .bool d), (8, pp 1 0), (10, s0 2 r1.1.length), (47, aT (gT a_Tables b)), (52, aT (gT a_Tables c))]) (by kernel_rfl) ?_
         refine dQ ?_
         refine ⟨rfl, ?_⟩
         show XA _ _ _ _ _ _ _ _ _ _
         exact xa6
        ·refine rT 1 [(3, .bool d), (8, pp 1 0), (10, s0 2 r1.1.length), (12, pp 4 0), (47, aT (gT a_Tables b)), (51, pp 0 ((Int.toNat c) * 2))] [(4, z2), (3, nP), (2, rU r1.1), (1, pN 3), (0, rc encP a_Tables z0 y0 2)] 5 ?_
         refine dQ ?_
         refine ⟨rfl, ?_⟩
         show XA _ _ _ _ _ _ _ _ _ _
         refine XA.ren (σ' := [(3, .bool d), (8, pp 1 0), (10, s0 2 r1.1.length), (12, pp 3 0), (47, aT (gT a_Tables b)), (51, pp 0 ((Int.toNat c) * 2))]) (h' := [(4, nP), (3, z2), (2, rU r1.1), (1, pN 4), (0, rc encP a_Tables z0 y0 2)]) (c' := 5) [0, 1, 2, 4, 3] (by decide) rfl ⟨rfl, rfl, rfl, rfl, rfl, rfl, trivial⟩ ⟨⟨_, _, rfl, rfl, .inl ⟨rfl, rwP⟩⟩, ⟨_, _, rfl, rfl, .inr ⟨_, _, _, _, rfl, rfl⟩⟩, ⟨_, _, rfl, rfl, .inl ⟨rfl, rowC_scal (encI_ok .u64) _⟩⟩, ⟨_, _, rfl, rfl, .inr ⟨_, _, _, _, rfl, rfl⟩⟩, ⟨_, _, rfl, rfl, .inl ⟨rfl, rwP⟩⟩, trivial⟩ rfl ?_
         exact xa12
        ·refine rT 1 [(3, .bool d), (8, pp 1 0), (10, s0 2 r1.1.length), (13, pp 4 0), (47, aT (gT a_Tables b)), (51, pp 0 ((Int.toNat c) * 2))] [(4, z2), (3, nP), (2, rU r1.1), (1, pN 3), (0, rc encP a_Tables z0 y0 2)] 5 ?_
         refine dQ ?_
         refine ⟨rfl, ?_⟩
         show XA _ _ _ _ _ _ _ _ _ _
         refine XA.ren (σ' := [(3, .bool d), (8, pp 1 0), (10, s0 2 r1.1.length), (13, pp 3 0), (47, aT (gT a_Tables b)), (51, pp 0 ((Int.toNat c) * 2))]) (h' := [(4, nP), (3, z2), (2, rU r1.1), (1, pN 4), (0, rc encP a_Tables z0 y0 2)]) (c' := 5) [0, 1, 2, 4, 3] (by decide) rfl ⟨rfl, rfl, rfl, rfl, rfl, rfl, trivial⟩ ⟨⟨_, _, rfl, rfl, .inl ⟨rfl, rwP⟩⟩, ⟨_, _, rfl, rfl, .inr ⟨_, _, _, _, rfl, rfl⟩⟩, ⟨_, _, rfl, rfl, .inl ⟨rfl, rowC_scal (encI_ok .u64) _⟩⟩, ⟨_, _, rfl, rfl, .inr ⟨_, _, _, _, rfl, rfl⟩⟩, ⟨_, _, rfl, rfl, .inl ⟨rfl, rwP⟩⟩, trivial⟩ rfl ?_
         exact xa15
       have xa18 : XA E0 112 1 (opsOf (lft (rgt (rgt (rgt f30_C30))))) 3 #[true, true, true, true, true, true, true, true, false, false, true, true, true, false] [(3, .bool d), (8, pp 1 0), (10, s0 2 r1.1.length), (12, pp 3 0), (13, pp 4 0), (49, s0 0 a_Tables.length), (50, ii c)] [(5, nP), (4, z2), (3, .cells (t2 (gT a_Tables b)) 0 55 0), (2, rU r1.1), (1, pN 5), (0, rc encP a_Tables z0 y0 2)] 6 (qD a_Tables b c d z0 y0 r1) := by
        refine XA.step E0_ok [8] (by kernel_rfl) rfl (by kernel_rfl) ⟨?_, trivial⟩
        ·refine XR.rd E0_ok [3, 8, 10, 12, 13, 51] rfl (v := pp 0 ((Int.toNat c) * 2)) (v_idx (s := 2) (x := (src 112 (.tmp 49))) (y := (src 112 (.tmp 50))) (b := 0) (o := 0) (len := a_Tables.length) (cap := a_Tables.length) (ik := .i64) (i := c) (off := (Int.toNat c) * 2) (d := (some (path 12 51))) (by kernel_rfl) (by kernel_rfl) (by kernel_rfl) b5 (by omega)) (σ' := [(3, .bool d), (8, pp 1 0), (10, s0 2 r1.1.length), (12, pp 3 0), (13, pp 4 0), (51, pp 0 ((Int.toNat c) * 2))]) (by kernel_rfl) ?_
         refine dQ ?_
         refine ⟨rfl, ?_⟩
         show XA _ _ _ _ _ _ _ _ _ _
         exact xa14
       have xa17 : XA E0 112 1 (opsOf (lft (rgt (rgt (rgt f30_C30))))) 4 #[true, true, true, true, true, true, true, true, false, false, true, true, false, false] [(3, .bool d), (8, pp 1 0), (10, s0 2 r1.1.length), (12, pp 3 0), (13, pp 4 0), (47, aT (gT a_Tables b)), (49, s0 0 a_Tables.length), (50, ii c)] [(5, nP), (4, z2), (3, z2), (2, rU r1.1), (1, pN 5), (0, rc encP a_Tables z0 y0 2)] 6 (qD a_Tables b c d z0 y0 r1) := by
        refine XA.step E0_ok [8, 12] (by kernel_rfl) rfl (by kernel_rfl) ⟨?_, ?_, trivial⟩
        ·refine XR.rd E0_ok [3, 8, 10, 12, 13, 47, 51] rfl (v := pp 0 ((Int.toNat c) * 2)) (v_idx (s := 2) (x := (src 112 (.tmp 49))) (y := (src 112 (.tmp 50))) (b := 0) (o := 0) (len := a_Tables.length) (cap := a_Tables.length) (ik := .i64) (i := c) (off := (Int.toNat c) * 2) (d := (some (path 12 51))) (by kernel_rfl) (by kernel_rfl) (by kernel_rfl) b5 (by omega)) (σ' := [(3, .bool d), (8, pp 1 0), (10, s0 2 r1.1.length), (12, pp 3 0), (13, pp 4 0), (47, aT (gT a_Tables b)), (51, pp 0 ((Int.toNat c) * 2))]) (by kernel_rfl) ?_
         refine dQ ?_
         refine ⟨rfl, ?_⟩
         show XA _ _ _ _ _ _ _ _ _ _
         exact xa13
        ·refine rT 1 [(3, .bool d), (8, pp 1 0), (10, s0 2 r1.1.length), (12, pp 3 0), (13, pp 4 0), (49, s0 0 a_Tables.length), (50, ii c)] [(5, nP), (4, z2), (3, .cells (t2 (gT a_Tables b)) 0 55 0), (2, rU r1.1), (1, pN 5), (0, rc encP a_Tables z0 y0 2)] 6 ?_
         refine dQ ?_
         refine ⟨rfl, ?_⟩
         show XA _ _ _ _ _ _ _ _ _ _
         exact xa18
       have xa16 : XA E0 112 1 (opsOf (lft (rgt (rgt (rgt f30_C30))))) 5 #[true, true, true, true, true, true, true, true, false, false, true, false, false, false] [(3, .bool d), (8, pp 1 0), (10, s0 2 r1.1.length), (12, pp 3 0), (47, aT (gT a_Tables b)), (49, s0 0 a_Tables.length), (50, ii c)] [(4, nP), (3, z2), (2, rU r1.1), (1, pN 4), (0, rc encP a_Tables z0 y0 2)] 5 (qD a_Tables b c d z0 y0 r1) := by
        refine XA.step E0_ok [8, 11] (by kernel_rfl) rfl (by kernel_rfl) ⟨?_, ?_, trivial⟩
        ·refine XR.rd E0_ok [3, 8, 10, 12, 47, 51] rfl (v := pp 0 ((Int.toNat c) * 2)) (v_idx (s := 2) (x := (src 112 (.tmp 49))) (y := (src 112 (.tmp 50))) (b := 0) (o := 0) (len := a_Tables.length) (cap := a_Tables.length) (ik := .i64) (i := c) (off := (Int.toNat c) * 2) (d := (some (path 12 51))) (by kernel_rfl) (by kernel_rfl) (by kernel_rfl) b5 (by omega)) (σ' := [(3, .bool d), (8, pp 1 0), (10, s0 2 r1.1.length), (12, pp 3 0), (47, aT (gT a_Tables b)), (51, pp 0 ((Int.toNat c) * 2))]) (by kernel_rfl) ?_
         refine dQ ?_
         refine ⟨rfl, ?_⟩
         show XA _ _ _ _ _ _ _ _ _ _
         exact xa12
        ·refine rT 1 [(3, .bool d), (8, pp 1 0), (10, s0 2 r1.1.length), (12, pp 3 0), (13, pp 5 0), (47, aT (gT a_Tables b)), (49, s0 0 a_Tables.length), (50, ii c)] [(5, z2), (4, nP), (3, z2), (2, rU r1.1), (1, pN 4), (0, rc encP a_Tables z0 y0 2)] 6 ?_
         refine dQ ?_
         refine ⟨rfl, ?_⟩
         show XA _ _ _ _ _ _ _ _ _ _
         refine XA.ren (σ' := [(3, .bool d), (8, pp 1 0), (10, s0 2 r1.1.length), (12, pp 3 0), (13, pp 4 0), (47, aT (gT a_Tables b)), (49, s0 0 a_Tables.length), (50, ii c)]) (h' := [(5, nP), (4, z2), (3, z2), (2, rU r1.1), (1, pN 5), (0, rc encP a_Tables z0 y0 2)]) (c' := 6) [0, 1, 2, 3, 5, 4] (by decide) rfl ⟨rfl, rfl, rfl, rfl, rfl, rfl, rfl, rfl, trivial⟩ ⟨⟨_, _, rfl, rfl, .inl ⟨rfl, rwP⟩⟩, ⟨_, _, rfl, rfl, .inr ⟨_, _, _, _, rfl, rfl⟩⟩, ⟨_, _, rfl, rfl, .inr ⟨_, _, _, _, rfl, rfl⟩⟩, ⟨_, _, rfl, rfl, .inl ⟨rfl, rowC_scal (encI_ok .u64) _⟩⟩, ⟨_, _, rfl, rfl, .inr ⟨_, _, _, _, rfl, rfl⟩⟩, ⟨_, _, rfl, rfl, .inl ⟨rfl, rwP⟩⟩, trivial⟩ rfl ?_
         exact xa17
       have xa19 : XA E0 112 1 (opsOf (lft (rgt (rgt (rgt f30_C30))))) 5 #[true, true, true, true, true, true, true, true, false, false, false, true, false, false] [(3, .bool d), (8, pp 1 0), (10, s0 2 r1.1.length), (13, pp 3 0), (47, aT (gT a_Tables b)), (49, s0 0 a_Tables.length), (50, ii c)] [(4, nP), (3, z2), (2, rU r1.1), (1, pN 4), (0, rc encP a_Tables z0 y0 2)] 5 (qD a_Tables b c d z0 y0 r1) := by
        refine XA.step E0_ok [8, 10] (by kernel_rfl) rfl (by kernel_rfl) ⟨?_, ?_, trivial⟩
        ·refine XR.rd E0_ok [3, 8, 10, 13, 47, 51] rfl (v := pp 0 ((Int.toNat c) * 2)) (v_idx (s := 2) (x := (src 112 (.tmp 49))) (y := (src 112 (.tmp 50))) (b := 0) (o := 0) (len := a_Tables.length) (cap := a_Tables.length) (ik := .i64) (i := c) (off := (Int.toNat c) * 2) (d := (some (path 12 51))) (by kernel_rfl) (by kernel_rfl) (by kernel_rfl) b5 (by omega)) (σ' := [(3, .bool d), (8, pp 1 0), (10, s0 2 r1.1.length), (13, pp 3 0), (47, aT (gT a_Tables b)), (51, pp 0 ((Int.toNat c) * 2))]) (by kernel_rfl) ?_
         refine dQ ?_
         refine ⟨rfl, ?_⟩
         show XA _ _ _ _ _ _ _ _ _ _
         exact xa15
        ·refine rT 1 [(3, .bool d), (8, pp 1 0), (10, s0 2 r1.1.length), (12, pp 5 0), (13, pp 3 0), (47, aT (gT a_Tables b)), (49, s0 0 a_Tables.length), (50, ii c)] [(5, z2), (4, nP), (3, z2), (2, rU r1.1), (1, pN 4), (0, rc encP a_Tables z0 y0 2)] 6 ?_
         refine dQ ?_
         refine ⟨rfl, ?_⟩
         show XA _ _ _ _ _ _ _ _ _ _
         refine XA.ren (σ' := [(3, .bool d), (8, pp 1 0), (10, s0 2 r1.1.length), (12, pp 3 0), (13, pp 4 0), (47, aT (gT a_Tables b)), (49, s0 0 a_Tables.length), (50, ii c)]) (h' := [(5, nP), (4, z2), (3, z2), (2, rU r1.1), (1, pN 5), (0, rc encP a_Tables z0 y0 2)]) (c' := 6) [0, 1, 2, 5, 3, 4] (by decide) rfl ⟨rfl, rfl, rfl, rfl, rfl, rfl, rfl, rfl, trivial⟩ ⟨⟨_, _, rfl, rfl, .inl ⟨rfl, rwP⟩⟩, ⟨_, _, rfl, rfl, .inr ⟨_, _, _, _, rfl, rfl⟩⟩, ⟨_, _, rfl, rfl, .inr ⟨_, _, _, _, rfl, rfl⟩⟩, ⟨_, _, rfl, rfl, .inl ⟨rfl, rowC_scal (encI_ok .u64) _⟩⟩, ⟨_, _, rfl, rfl, .inr ⟨_, _, _, _, rfl, rfl⟩⟩, ⟨_, _, rfl, rfl, .inl ⟨rfl, rwP⟩⟩, trivial⟩ rfl ?_
         exact xa17
       have xa4 : XA E0 112 1 (opsOf (lft (rgt (rgt (rgt f30_C30))))) 6 #[true, true, true, true, true, true, true, true, false, false, false, false, false, false] [(3, .bool d), (8, pp 1 0), (10, s0 2 r1.1.length), (47, aT (gT a_Tables b)), (49, s0 0 a_Tables.length), (50, ii c)] [(3, nP), (2, rU r1.1), (1, pN 3), (0, rc encP a_Tables z0 y0 2)] 4 (qD a_Tables b c d z0 y0 r1) := by
        refine XA.step E0_ok [8, 10, 11] (by kernel_rfl) rfl (by kernel_rfl) ⟨?_, ?_, ?_, trivial⟩
        ·refine XR.rd E0_ok [3, 8, 10, 47, 51] rfl (v := pp 0 ((Int.toNat c) * 2)) (v_idx (s := 2) (x := (src 112 (.tmp 49))) (y := (src 112 (.tmp 50))) (b := 0) (o := 0) (len := a_Tables.length) (cap := a_Tables.length) (ik := .i64) (i := c) (off := (Int.toNat c) * 2) (d := (some (path 12 51))) (by kernel_rfl) (by kernel_rfl) (by kernel_rfl) b5 (by omega)) (σ' := [(3, .bool d), (8, pp 1 0), (10, s0 2 r1.1.length), (47, aT (gT a_Tables b)), (51, pp 0 ((Int.toNat c) * 2))]) (by kernel_rfl) ?_
         refine dQ ?_
         refine ⟨rfl, ?_⟩
         show XA _ _ _ _ _ _ _ _ _ _
         exact xa5
        ·refine rT 1 [(3, .bool d), (8, pp 1 0), (10, s0 2 r1.1.length), (12, pp 4 0), (47, aT (gT a_Tables b)), (49, s0 0 a_Tables.length), (50, ii c)] [(4, z2), (3, nP), (2, rU r1.1), (1, pN 3), (0, rc encP a_Tables z0 y0 2)] 5 ?_
         refine dQ ?_
         refine ⟨rfl, ?_⟩
         show XA _ _ _ _ _ _ _ _ _ _
         refine XA.ren (σ' := [(3, .bool d), (8, pp 1 0), (10, s0 2 r1.1.length), (12, pp 3 0), (47, aT (gT a_Tables b)), (49, s0 0 a_Tables.length), (50, ii c)]) (h' := [(4, nP), (3, z2), (2, rU r1.1), (1, pN 4), (0, rc encP a_Tables z0 y0 2)]) (c' := 5) [0, 1, 2, 4, 3] (by decide) rfl ⟨rfl, rfl, rfl, rfl, rfl, rfl, rfl, trivial⟩ ⟨⟨_, _, rfl, rfl, .inl ⟨rfl, rwP⟩⟩, ⟨_, _, rfl, rfl, .inr ⟨_, _, _, _, rfl, rfl⟩⟩, ⟨_, _, rfl, rfl, .inl ⟨rfl, rowC_scal (encI_ok .u64) _⟩⟩, ⟨_, _, rfl, rfl, .inr ⟨_, _, _, _, rfl, rfl⟩⟩, ⟨_, _, rfl, rfl, .inl ⟨rfl, rwP⟩⟩, trivial⟩ rfl ?_
         exact xa16
        ·refine rT 1 [(3, .bool d), (8, pp 1 0), (10, s0 2 r1.1.length), (13, pp 4 0), (47, aT (gT a_Tables b)), (49, s0 0 a_Tables.length), (50, ii c)] [(4, z2), (3, nP), (2, rU r1.1), (1, pN 3), (0, rc encP a_Tables z0 y0 2)] 5 ?_
         refine dQ ?_
         refine ⟨rfl, ?_⟩
         show XA _ _ _ _ _ _ _ _ _ _
         refine XA.ren (σ' := [(3, .bool d), (8, pp 1 0), (10, s0 2 r1.1.length), (13, pp 3 0), (47, aT (gT a_Tables b)), (49, s0 0 a_Tables.length), (50, ii c)]) (h' := [(4, nP), (3, z2), (2, rU r1.1), (1, pN 4), (0, rc encP a_Tables z0 y0 2)]) (c' := 5) [0, 1, 2, 4, 3] (by decide) rfl ⟨rfl, rfl, rfl, rfl, rfl, rfl, rfl, trivial⟩ ⟨⟨_, _, rfl, rfl, .inl ⟨rfl, rwP⟩⟩, ⟨_, _, rfl, rfl, .inr ⟨_, _, _, _, rfl, rfl⟩⟩, ⟨_, _, rfl, rfl, .inl ⟨rfl, rowC_scal (encI_ok .u64) _⟩⟩, ⟨_, _, rfl, rfl, .inr ⟨_, _, _, _, rfl, rfl⟩⟩, ⟨_, _, rfl, rfl, .inl ⟨rfl, rwP⟩⟩, trivial⟩ rfl ?_
         exact xa19
       have xa22 : XA E0 112 1 (opsOf (lft (rgt (rgt (rgt f30_C30))))) 4 #[true, true, true, true, true, true, false, true, false, false, true, true, true, false] [(3, .bool d), (8, pp 1 0), (10, s0 2 r1.1.length), (12, pp 3 0), (13, pp 4 0), (48, pp 5 1), (50, ii c)] [(6, nP), (5, pO a_Sorters a_Tables), (4, z2), (3, .cells (t2 (gT a_Tables b)) 0 55 0), (2, rU r1.1), (1, pN 6), (0, rc encP a_Tables z0 y0 2)] 7 (qD a_Tables b c d z0 y0 r1) := by
        refine XA.step E0_ok [6] (by kernel_rfl) rfl (by kernel_rfl) ⟨?_, trivial⟩
        ·refine rS 1 [(3, .bool d), (8, pp 1 0), (10, s0 2 r1.1.length), (12, pp 3 0), (13, pp 4 0), (49, s0 0 a_Tables.length), (50, ii c)] ?_
         refine dQ ?_
         refine ⟨rfl, ?_⟩
         show XA _ _ _ _ _ _ _ _ _ _
         refine XA.ren (σ' := [(3, .bool d), (8, pp 1 0), (10, s0 2 r1.1.length), (12, pp 3 0), (13, pp 4 0), (49, s0 0 a_Tables.length), (50, ii c)]) (h' := [(5, nP), (4, z2), (3, .cells (t2 (gT a_Tables b)) 0 55 0), (2, rU r1.1), (1, pN 5), (0, rc encP a_Tables z0 y0 2)]) (c' := 6) [0, 1, 2, 3, 4, 6] (by decide) rfl ⟨rfl, rfl, rfl, rfl, rfl, rfl, rfl, trivial⟩ ⟨⟨_, _, rfl, rfl, .inl ⟨rfl, rwP⟩⟩, ⟨_, _, rfl, rfl, .inr ⟨_, _, _, _, rfl, rfl⟩⟩, ⟨_, _, rfl, rfl, .inr ⟨_, _, _, _, rfl, rfl⟩⟩, ⟨_, _, rfl, rfl, .inl ⟨rfl, rowC_scal (encI_ok .u64) _⟩⟩, ⟨_, _, rfl, rfl, .inr ⟨_, _, _, _, rfl, rfl⟩⟩, ⟨_, _, rfl, rfl, .inl ⟨rfl, rwP⟩⟩, trivial⟩ rfl ?_
         exact xa18
       have xa21 : XA E0 112 1 (opsOf (lft (rgt (rgt (rgt f30_C30))))) 5 #[true, true, true, true, true, true, false, true, false, false, true, true, false, false] [(3, .bool d), (8, pp 1 0), (10, s0 2 r1.1.length), (12, pp 3 0), (13, pp 4 0), (47, aT (gT a_Tables b)), (48, pp 5 1), (50, ii c)] [(6, nP), (5, pO a_Sorters a_Tables), (4, z2), (3, z2), (2, rU r1.1), (1, pN 6), (0, rc encP a_Tables z0 y0 2)] 7 (qD a_Tables b c d z0 y0 r1) := by
        refine XA.step E0_ok [6, 12] (by kernel_rfl) rfl (by kernel_rfl) ⟨?_, ?_, trivial⟩
        ·refine rS 1 [(3, .bool d), (8, pp 1 0), (10, s0 2 r1.1.length), (12, pp 3 0), (13, pp 4 0), (47, aT (gT a_Tables b)), (49, s0 0 a_Tables.length), (50, ii c)] ?_
         refine dQ ?_
         refine ⟨rfl, ?_⟩
         show XA _ _ _ _ _ _ _ _ _ _
         refine XA.ren (σ' := [(3, .bool d), (8, pp 1 0), (10, s0 2 r1.1.length), (12, pp 3 0), (13, pp 4 0), (47, aT (gT a_Tables b)), (49, s0 0 a_Tables.length), (50, ii c)]) (h' := [(5, nP), (4, z2), (3, z2), (2, rU r1.1), (1, pN 5), (0, rc encP a_Tables z0 y0 2)]) (c' := 6) [0, 1, 2, 3, 4, 6] (by decide) rfl ⟨rfl, rfl, rfl, rfl, rfl, rfl, rfl, rfl, trivial⟩ ⟨⟨_, _, rfl, rfl, .inl ⟨rfl, rwP⟩⟩, ⟨_, _, rfl, rfl, .inr ⟨_, _, _, _, rfl, rfl⟩⟩, ⟨_, _, rfl, rfl, .inr ⟨_, _, _, _, rfl, rfl⟩⟩, ⟨_, _, rfl, rfl, .inl ⟨rfl, rowC_scal (encI_ok .u64) _⟩⟩, ⟨_, _, rfl, rfl, .inr ⟨_, _, _, _, rfl, rfl⟩⟩, ⟨_, _, rfl, rfl, .inl ⟨rfl, rwP⟩⟩, trivial⟩ rfl ?_
         exact xa17
        ·refine rT 1 [(3, .bool d), (8, pp 1 0), (10, s0 2 r1.1.length), (12, pp 3 0), (13, pp 4 0), (48, pp 5 1), (50, ii c)] [(6, nP), (5, pO a_Sorters a_Tables), (4, z2), (3, .cells (t2 (gT a_Tables b)) 0 55 0), (2, rU r1.1), (1, pN 6), (0, rc encP a_Tables z0 y0 2)] 7 ?_
         refine dQ ?_
         refine ⟨rfl, ?_⟩
         show XA _ _ _ _ _ _ _ _ _ _
         exact xa22
       have xa20 : XA E0 112 1 (opsOf (lft (rgt (rgt (rgt f30_C30))))) 6 #[true, true, true, true, true, true, false, true, false, false, true, false, false, false] [(3, .bool d), (8, pp 1 0), (10, s0 2 r1.1.length), (12, pp 3 0), (47, aT (gT a_Tables b)), (48, pp 4 1), (50, ii c)] [(5, nP), (4, pO a_Sorters a_Tables), (3, z2), (2, rU r1.1), (1, pN 5), (0, rc encP a_Tables z0 y0 2)] 6 (qD a_Tables b c d z0 y0 r1) := by
        refine XA.step E0_ok [6, 11] (by kernel_rfl) rfl (by kernel_rfl) ⟨?_, ?_, trivial⟩
        ·refine rS 1 [(3, .bool d), (8, pp 1 0), (10, s0 2 r1.1.length), (12, pp 3 0), (47, aT (gT a_Tables b)), (49, s0 0 a_Tables.length), (50, ii c)] ?_
         refine dQ ?_
         refine ⟨rfl, ?_⟩
         show XA _ _ _ _ _ _ _ _ _ _
         refine XA.ren (σ' := [(3, .bool d), (8, pp 1 0), (10, s0 2 r1.1.length), (12, pp 3 0), (47, aT (gT a_Tables b)), (49, s0 0 a_Tables.length), (50, ii c)]) (h' := [(4, nP), (3, z2), (2, rU r1.1), (1, pN 4), (0, rc encP a_Tables z0 y0 2)]) (c' := 5) [0, 1, 2, 3, 5] (by decide) rfl ⟨rfl, rfl, rfl, rfl, rfl, rfl, rfl, trivial⟩ ⟨⟨_, _, rfl, rfl, .inl ⟨rfl, rwP⟩⟩, ⟨_, _, rfl, rfl, .inr ⟨_, _, _, _, rfl, rfl⟩⟩, ⟨_, _, rfl, rfl, .inl ⟨rfl, rowC_scal (encI_ok .u64) _⟩⟩, ⟨_, _, rfl, rfl, .inr ⟨_, _, _, _, rfl, rfl⟩⟩, ⟨_, _, rfl, rfl, .inl ⟨rfl, rwP⟩⟩, trivial⟩ rfl ?_
         exact xa16
        ·refine rT 1 [(3, .bool d), (8, pp 1 0), (10, s0 2 r1.1.length), (12, pp 3 0), (13, pp 6 0), (47, aT (gT a_Tables b)), (48, pp 4 1), (50, ii c)] [(6, z2), (5, nP), (4, pO a_Sorters a_Tables), (3, z2), (2, rU r1.1), (1, pN 5), (0, rc encP a_Tables z0 y0 2)] 7 ?_
         refine dQ ?_
         refine ⟨rfl, ?_⟩
         show XA _ _ _ _ _ _ _ _ _ _
         refine XA.ren (σ' := [(3, .bool d), (8, pp 1 0), (10, s0 2 r1.1.length), (12, pp 3 0), (13, pp 4 0), (47, aT (gT a_Tables b)), (48, pp 5 1), (50, ii c)]) (h' := [(6, nP), (5, pO a_Sorters a_Tables), (4, z2), (3, z2), (2, rU r1.1), (1, pN 6), (0, rc encP a_Tables z0 y0 2)]) (c' := 7) [0, 1, 2, 3, 6, 4, 5] (by decide) rfl ⟨rfl, rfl, rfl, rfl, rfl, rfl, rfl, rfl, trivial⟩ ⟨⟨_, _, rfl, rfl, .inl ⟨rfl, rwP⟩⟩, ⟨_, _, rfl, rfl, .inr ⟨_, _, _, _, rfl, rfl⟩⟩, ⟨_, _, rfl, rfl, .inr ⟨_, _, _, _, rfl, rfl⟩⟩, ⟨_, _, rfl, rfl, .inr ⟨_, _, _, _, rfl, rfl⟩⟩, ⟨_, _, rfl, rfl, .inl ⟨rfl, rowC_scal (encI_ok .u64) _⟩⟩, ⟨_, _, rfl, rfl, .inr ⟨_, _, _, _, rfl, rfl⟩⟩, ⟨_, _, rfl, rfl, .inl ⟨rfl, rwP⟩⟩, trivial⟩ rfl ?_
         exact xa21
       have xa23 : XA E0 112 1 (opsOf (lft (rgt (rgt (rgt f30_C30))))) 6 #[true, true, true, true, true, true, false, true, false, false, false, true, false, false] [(3, .bool d), (8, pp 1 0), (10, s0 2 r1.1.length), (13, pp 3 0), (47, aT (gT a_Tables b)), (48, pp 4 1), (50, ii c)] [(5, nP), (4, pO a_Sorters a_Tables), (3, z2), (2, rU r1.1), (1, pN 5), (0, rc encP a_Tables z0 y0 2)] 6 (qD a_Tables b c d z0 y0 r1) := by
        refine XA.step E0_ok [6, 10] (by kernel_rfl) rfl (by kernel_rfl) ⟨?_, ?_, trivial⟩
        ·refine rS 1 [(3, .bool d), (8, pp 1 0), (10, s0 2 r1.1.length), (13, pp 3 0), (47, aT (gT a_Tables b)), (49, s0 0 a_Tables.length), (50, ii c)] ?_
         refine dQ ?_
         refine ⟨rfl, ?_⟩
         show XA _ _ _ _ _ _ _ _ _ _
         refine XA.ren (σ' := [(3, .bool d), (8, pp 1 0), (10, s0 2 r1.1.length), (13, pp 3 0), (47, aT (gT a_Tables b)), (49, s0 0 a_Tables.length), (50, ii c)]) (h' := [(4, nP), (3, z2), (2, rU r1.1), (1, pN 4), (0, rc encP a_Tables z0 y0 2)]) (c' := 5) [0, 1, 2, 3, 5] (by decide) rfl ⟨rfl, rfl, rfl, rfl, rfl, rfl, rfl, trivial⟩ ⟨⟨_, _, rfl, rfl, .inl ⟨rfl, rwP⟩⟩, ⟨_, _, rfl, rfl, .inr ⟨_, _, _, _, rfl, rfl⟩⟩, ⟨_, _, rfl, rfl, .inl ⟨rfl, rowC_scal (encI_ok .u64) _⟩⟩, ⟨_, _, rfl, rfl, .inr ⟨_, _, _, _, rfl, rfl⟩⟩, ⟨_, _, rfl, rfl, .inl ⟨rfl, rwP⟩⟩, trivial⟩ rfl ?_
         exact xa19
        ·refine rT 1 [(3, .bool d), (8, pp 1 0), (10, s0 2 r1.1.length), (12, pp 6 0), (13, pp 3 0), (47, aT (gT a_Tables b)), (48, pp 4 1), (50, ii c)] [(6, z2), (5, nP), (4, pO a_Sorters a_Tables), (3, z2), (2, rU r1.1), (1, pN 5), (0, rc encP a_Tables z0 y0 2)] 7 ?_
         refine dQ ?_
         refine ⟨rfl, ?_⟩
         show XA _ _ _ _ _ _ _ _ _ _
         refine XA.ren (σ' := [(3, .bool d), (8, pp 1 0), (10, s0 2 r1.1.length), (12, pp 3 0), (13, pp 4 0), (47, aT (gT a_Tables b)), (48, pp 5 1), (50, ii c)]) (h' := [(6, nP), (5, pO a_Sorters a_Tables), (4, z2), (3, z2), (2, rU r1.1), (1, pN 6), (0, rc encP a_Tables z0 y0 2)]) (c' := 7) [0, 1, 2, 6, 3, 4, 5] (by decide) rfl ⟨rfl, rfl, rfl, rfl, rfl, rfl, rfl, rfl, trivial⟩ ⟨⟨_, _, rfl, rfl, .inl ⟨rfl, rwP⟩⟩, ⟨_, _, rfl, rfl, .inr ⟨_, _, _, _, rfl, rfl⟩⟩, ⟨_, _, rfl, rfl, .inr ⟨_, _, _, _, rfl, rfl⟩⟩, ⟨_, _, rfl, rfl, .inr ⟨_, _, _, _, rfl, rfl⟩⟩, ⟨_, _, rfl, rfl, .inl ⟨rfl, rowC_scal (encI_ok .u64) _⟩⟩, ⟨_, _, rfl, rfl, .inr ⟨_, _, _, _, rfl, rfl⟩⟩, ⟨_, _, rfl, rfl, .inl ⟨rfl, rwP⟩⟩, trivial⟩ rfl ?_
         exact xa21
       have xa3 : XA E0 112 1 (opsOf (lft (rgt (rgt (rgt f30_C30))))) 7 #[true, true, true, true, true, true, false, true, false, false, false, false, false, false] [(3, .bool d), (8, pp 1 0), (10, s0 2 r1.1.length), (47, aT (gT a_Tables b)), (48, pp 3 1), (50, ii c)] [(4, nP), (3, pO a_Sorters a_Tables), (2, rU r1.1), (1, pN 4), (0, rc encP a_Tables z0 y0 2)] 5 (qD a_Tables b c d z0 y0 r1) := by
        refine XA.step E0_ok [6, 10, 11] (by kernel_rfl) rfl (by kernel_rfl) ⟨?_, ?_, ?_, trivial⟩
        ·refine rS 1 [(3, .bool d), (8, pp 1 0), (10, s0 2 r1.1.length), (47, aT (gT a_Tables b)), (49, s0 0 a_Tables.length), (50, ii c)] ?_
         refine dQ ?_
         refine ⟨rfl, ?_⟩
         show XA _ _ _ _ _ _ _ _ _ _
         refine XA.ren (σ' := [(3, .bool d), (8, pp 1 0), (10, s0 2 r1.1.length), (47, aT (gT a_Tables b)), (49, s0 0 a_Tables.length), (50, ii c)]) (h' := [(3, nP), (2, rU r1.1), (1, pN 3), (0, rc encP a_Tables z0 y0 2)]) (c' := 4) [0, 1, 2, 4] (by decide) rfl ⟨rfl, rfl, rfl, rfl, rfl, rfl, trivial⟩ ⟨⟨_, _, rfl, rfl, .inl ⟨rfl, rwP⟩⟩, ⟨_, _, rfl, rfl, .inl ⟨rfl, rowC_scal (encI_ok .u64) _⟩⟩, ⟨_, _, rfl, rfl, .inr ⟨_, _, _, _, rfl, rfl⟩⟩, ⟨_, _, rfl, rfl, .inl ⟨rfl, rwP⟩⟩, trivial⟩ rfl ?_
         exact xa4
        ·refine rT 1 [(3, .bool d), (8, pp 1 0), (10, s0 2 r1.1.length), (12, pp 5 0), (47, aT (gT a_Tables b)), (48, pp 3 1), (50, ii c)] [(5, z2), (4, nP), (3, pO a_Sorters a_Tables), (2, rU r1.1), (1, pN 4), (0, rc encP a_Tables z0 y0 2)] 6 ?_
         refine dQ ?_
         refine ⟨rfl, ?_⟩
         show XA _ _ _ _ _ _ _ _ _ _
         refine XA.ren (σ' := [(3, .bool d), (8, pp 1 0), (10, s0 2 r1.1.length), (12, pp 3 0), (47, aT (gT a_Tables b)), (48, pp 4 1), (50, ii c)]) (h' := [(5, nP), (4, pO a_Sorters a_Tables), (3, z2), (2, rU r1.1), (1, pN 5), (0, rc encP a_Tables z0 y0 2)]) (c' := 6) [0, 1, 2, 5, 3, 4] (by decide) rfl ⟨rfl, rfl, rfl, rfl, rfl, rfl, rfl, trivial⟩ ⟨⟨_, _, rfl, rfl, .inl ⟨rfl, rwP⟩⟩, ⟨_, _, rfl, rfl, .inr ⟨_, _, _, _, rfl, rfl⟩⟩, ⟨_, _, rfl, rfl, .inr ⟨_, _, _, _, rfl, rfl⟩⟩, ⟨_, _, rfl, rfl, .inl ⟨rfl, rowC_scal (encI_ok .u64) _⟩⟩, ⟨_, _, rfl, rfl, .inr ⟨_, _, _, _, rfl, rfl⟩⟩, ⟨_, _, rfl, rfl, .inl ⟨rfl, rwP⟩⟩, trivial⟩ rfl ?_
         exact xa20
        ·refine rT 1 [(3, .bool d), (8, pp 1 0), (10, s0 2 r1.1.length), (13, pp 5 0), (47, aT (gT a_Tables b)), (48, pp 3 1), (50, ii c)] [(5, z2), (4, nP), (3, pO a_Sorters a_Tables), (2, rU r1.1), (1, pN 4), (0, rc encP a_Tables z0 y0 2)] 6 ?_
         refine dQ ?_
         refine ⟨rfl, ?_⟩
         show XA _ _ _ _ _ _ _ _ _ _
         refine XA.ren (σ' := [(3, .bool d), (8, pp 1 0), (10, s0 2 r1.1.length), (13, pp 3 0), (47, aT (gT a_Tables b)), (48, pp 4 1), (50, ii c)]) (h' := [(5, nP), (4, pO a_Sorters a_Tables), (3, z2), (2, rU r1.1), (1, pN 5), (0, rc encP a_Tables z0 y0 2)]) (c' := 6) [0, 1, 2, 5, 3, 4] (by decide) rfl ⟨rfl, rfl, rfl, rfl, rfl, rfl, rfl, trivial⟩ ⟨⟨_, _, rfl, rfl, .inl ⟨rfl, rwP⟩⟩, ⟨_, _, rfl, rfl, .inr ⟨_, _, _, _, rfl, rfl⟩⟩, ⟨_, _, rfl, rfl, .inr ⟨_, _, _, _, rfl, rfl⟩⟩, ⟨_, _, rfl, rfl, .inl ⟨rfl, rowC_scal (encI_ok .u64) _⟩⟩, ⟨_, _, rfl, rfl, .inr ⟨_, _, _, _, rfl, rfl⟩⟩, ⟨_, _, rfl, rfl, .inl ⟨rfl, rwP⟩⟩, trivial⟩ rfl ?_
         exact xa23
       have xa28 : XA E0 112 1 (opsOf (lft (rgt (rgt (rgt f30_C30))))) 3 #[true, true, true, true, false, true, true, true, true, true, true, true, false, false] [(3, .bool d), (8, pp 1 0), (10, s0 2 r1.1.length), (12, pp 3 0), (13, pp 4 0), (46, pp 0 ((Int.toNat b) * 2)), (52, aT (gT a_Tables c))] [(5, nP), (4, z2), (3, z2), (2, rU r1.1), (1, pN 5), (0, rc encP a_Tables z0 y0 2)] 6 (qD a_Tables b c d z0 y0 r1) := by
        refine XA.step E0_ok [4] (by kernel_rfl) rfl (by kernel_rfl) ⟨?_, trivial⟩
        ·refine XR.rd E0_ok [3, 8, 10, 12, 13, 47, 52] rfl (v := aT (gT a_Tables b)) (v_loadN encP_ok (x := (src 112 (.tmp 46))) (b := 0) (off := (Int.toNat b) * 2) (xs := a_Tables) (fz := z0) (e := y0) (es := 2) (d := (some (path 12 47))) (by kernel_rfl) (by kernel_rfl) (by kernel_rfl) (Int.toNat b) (0, 0) (by first | rfl | omega) (row_len (inRow_toNat b4) (by simp)) rfl) (σ' := [(3, .bool d), (8, pp 1 0), (10, s0 2 r1.1.length), (12, pp 3 0), (13, pp 4 0), (47, aT (gT a_Tables b)), (52, aT (gT a_Tables c))]) (by kernel_rfl) ?_
         refine dQ ?_
         refine ⟨rfl, ?_⟩
         show XA _ _ _ _ _ _ _ _ _ _
         exact xa8
       have xa27 : XA E0 112 1 (opsOf (lft (rgt (rgt (rgt f30_C30))))) 4 #[true, true, true, true, false, true, true, true, true, true, true, false, false, false] [(3, .bool d), (8, pp 1 0), (10, s0 2 r1.1.length), (12, pp 3 0), (46, pp 0 ((Int.toNat b) * 2)), (52, aT (gT a_Tables c))] [(4, nP), (3, z2), (2, rU r1.1), (1, pN 4), (0, rc encP a_Tables z0 y0 2)] 5 (qD a_Tables b c d z0 y0 r1) := by
        refine XA.step E0_ok [4, 11] (by kernel_rfl) rfl (by kernel_rfl) ⟨?_, ?_, trivial⟩
        ·refine XR.rd E0_ok [3, 8, 10, 12, 47, 52] rfl (v := aT (gT a_Tables b)) (v_loadN encP_ok (x := (src 112 (.tmp 46))) (b := 0) (off := (Int.toNat b) * 2) (xs := a_Tables) (fz := z0) (e := y0) (es := 2) (d := (some (path 12 47))) (by kernel_rfl) (by kernel_rfl) (by kernel_rfl) (Int.toNat b) (0, 0) (by first | rfl | omega) (row_len (inRow_toNat b4) (by simp)) rfl) (σ' := [(3, .bool d), (8, pp 1 0), (10, s0 2 r1.1.length), (12, pp 3 0), (47, aT (gT a_Tables b)), (52, aT (gT a_Tables c))]) (by kernel_rfl) ?_
         refine dQ ?_
         refine ⟨rfl, ?_⟩
         show XA _ _ _ _ _ _ _ _ _ _
         exact xa7
        ·refine rT 1 [(3, .bool d), (8, pp 1 0), (10, s0 2 r1.1.length), (12, pp 3 0), (13, pp 5 0), (46, pp 0 ((Int.toNat b) * 2)), (52, aT (gT a_Tables c))] [(5, z2), (4, nP), (3, z2), (2, rU r1.1), (1, pN 4), (0, rc encP a_Tables z0 y0 2)] 6 ?_
         refine dQ ?_
         refine ⟨rfl, ?_⟩
         show XA _ _ _ _ _ _ _ _ _ _
         refine XA.ren (σ' := [(3, .bool d), (8, pp 1 0), (10, s0 2 r1.1.length), (12, pp 3 0), (13, pp 4 0), (46, pp 0 ((Int.toNat b) * 2)), (52, aT (gT a_Tables c))]) (h' := [(5, nP), (4, z2), (3, z2), (2, rU r1.1), (1, pN 5), (0, rc encP a_Tables z0 y0 2)]) (c' := 6) [0, 1, 2, 3, 5, 4] (by decide) rfl ⟨rfl, rfl, rfl, rfl, rfl, rfl, rfl, trivial⟩ ⟨⟨_, _, rfl, rfl, .inl ⟨rfl, rwP⟩⟩, ⟨_, _, rfl, rfl, .inr ⟨_, _, _, _, rfl, rfl⟩⟩, ⟨_, _, rfl, rfl, .inr ⟨_, _, _, _, rfl, rfl⟩⟩, ⟨_, _, rfl, rfl, .inl ⟨rfl, rowC_scal (encI_ok .u64) _⟩⟩, ⟨_, _, rfl, rfl, .inr ⟨_, _, _, _, rfl, rfl⟩⟩, ⟨_, _, rfl, rfl, .inl ⟨rfl, rwP⟩⟩, trivial⟩ rfl ?_
         exact xa28
       have xa29 : XA E0 112 1 (opsOf (lft (rgt (rgt (rgt f30_C30))))) 4 #[true, true, true, true, false, true, true, true, true, true, false, true, false, false] [(3, .bool d), (8, pp 1 0), (10, s0 2 r1.1.length), (13, pp 3 0), (46, pp 0 ((Int.toNat b) * 2)), (52, aT (gT a_Tables c))] [(4, nP), (3, z2), (2, rU r1.1), (1, pN 4), (0, rc encP a_Tables z0 y0 2)] 5 (qD a_Tables b c d z0 y0 r1) := by
        refine XA.step E0_ok [4, 10] (by kernel_rfl) rfl (by kernel_rfl) ⟨?_, ?_, trivial⟩
        ·refine XR.rd E0_ok [3, 8, 10, 13, 47, 52] rfl (v := aT (gT a_Tables b)) (v_loadN encP_ok (x := (src 112 (.tmp 46))) (b := 0) (off := (Int.toNat b) * 2) (xs := a_Tables) (fz := z0) (e := y0) (es := 2) (d := (some (path 12 47))) (by kernel_rfl) (by kernel_rfl) (by kernel_rfl) (Int.toNat b) (0, 0) (by first | rfl | omega) (row_len (inRow_toNat b4) (by simp)) rfl) (σ' := [(3, .bool d), (8, pp 1 0), (10, s0 2 r1.1.length), (13, pp 3 0), (47, aT (gT a_Tables b)), (52, aT (gT a_Tables c))]) (by kernel_rfl) ?_
         refine dQ ?_
         refine ⟨rfl, ?_⟩
         show XA _ _ _ _ _ _ _ _ _ _
         exact xa11
        ·refine rT 1 [(3, .bool d), (8, pp 1 0), (10, s0 2 r1.1.length), (12, pp 5 0), (13, pp 3 0), (46, pp 0 ((Int.toNat b) * 2)), (52, aT (gT a_Tables c))] [(5, z2), (4, nP), (3, z2), (2, rU r1.1), (1, pN 4), (0, rc encP a_Tables z0 y0 2)] 6 ?_
         refine dQ ?_
         refine ⟨rfl, ?_⟩
         show XA _ _ _ _ _ _ _ _ _ _
         refine XA.ren (σ' := [(3, .bool d), (8, pp 1 0), (10, s0 2 r1.1.length), (12, pp 3 0), (13, pp 4 0), (46, pp 0 ((Int.toNat b) * 2)), (52, aT (gT a_Tables c))]) (h' := [(5, nP), (4, z2), (3, z2), (2, rU r1.1), (1, pN 5), (0, rc encP a_Tables z0 y0 2)]) (c' := 6) [0, 1, 2, 5, 3, 4] (by decide) rfl ⟨rfl, rfl, rfl, rfl, rfl, rfl, rfl, trivial⟩ ⟨⟨_, _, rfl, rfl, .inl ⟨rfl, rwP⟩⟩, ⟨_, _, rfl, rfl, .inr ⟨_, _, _, _, rfl, rfl⟩⟩, ⟨_, _, rfl, rfl, .inr ⟨_, _, _, _, rfl, rfl⟩⟩, ⟨_, _, rfl, rfl, .inl ⟨rfl, rowC_scal (encI_ok .u64) _⟩⟩, ⟨_, _, rfl, rfl, .inr ⟨_, _, _, _, rfl, rfl⟩⟩, ⟨_, _, rfl, rfl, .inl ⟨rfl, rwP⟩⟩, trivial⟩ rfl ?_
         exact xa28
       have xa26 : XA E0 112 1 (opsOf (lft (rgt (rgt (rgt f30_C30))))) 5 #[true, true, true, true, false, true, true, true, true, true, false, false, false, false] [(3, .bool d), (8, pp 1 0), (10, s0 2 r1.1.length), (46, pp 0 ((Int.toNat b) * 2)), (52, aT (gT a_Tables c))] [(3, nP), (2, rU r1.1), (1, pN 3), (0, rc encP a_Tables z0 y0 2)] 4 (qD a_Tables b c d z0 y0 r1) := by
        refine XA.step E0_ok [4, 10, 11] (by kernel_rfl) rfl (by kernel_rfl) ⟨?_, ?_, ?_, trivial⟩
        ·refine XR.rd E0_ok [3, 8, 10, 47, 52] rfl (v := aT (gT a_Tables b)) (v_loadN encP_ok (x := (src 112 (.tmp 46))) (b := 0) (off := (Int.toNat b) * 2) (xs := a_Tables) (fz := z0) (e := y0) (es := 2) (d := (some (path 12 47))) (by kernel_rfl) (by kernel_rfl) (by kernel_rfl) (Int.toNat b) (0, 0) (by first | rfl | omega) (row_len (inRow_toNat b4) (by simp)) rfl) (σ' := [(3, .bool d), (8, pp 1 0), (10, s0 2 r1.1.length), (47, aT (gT a_Tables b)), (52, aT (gT a_Tables c))]) (by kernel_rfl) ?_
         refine dQ ?_
         refine ⟨rfl, ?_⟩
         show XA _ _ _ _ _ _ _ _ _ _
         exact xa6
        ·refine rT 1 [(3, .bool d), (8, pp 1 0), (10, s0 2 r1.1.length), (12, pp 4 0), (46, pp 0 ((Int.toNat b) * 2)), (52, aT (gT a_Tables c))] [(4, z2), (3, nP), (2, rU r1.1), (1, pN 3), (0, rc encP a_Tables z0 y0 2)] 5 ?_
         refine dQ ?_
         refine ⟨rfl, ?_⟩
         show XA _ _ _ _ _ _ _ _ _ _
         refine XA.ren (σ' := [(3, .bool d), (8, pp 1 0), (10, s0 2 r1.1.length), (12, pp 3 0), (46, pp 0 ((Int.toNat b) * 2)), (52, aT (gT a_Tables c))]) (h' := [(4, nP), (3, z2), (2, rU r1.1), (1, pN 4), (0, rc encP a_Tables z0 y0 2)]) (c' := 5) [0, 1, 2, 4, 3] (by decide) rfl ⟨rfl, rfl, rfl, rfl, rfl, rfl, trivial⟩ ⟨⟨_, _, rfl, rfl, .inl ⟨rfl, rwP⟩⟩, ⟨_, _, rfl, rfl, .inr ⟨_, _, _, _, rfl, rfl⟩⟩, ⟨_, _, rfl, rfl, .inl ⟨rfl, rowC_scal (encI_ok .u64) _⟩⟩, ⟨_, _, rfl, rfl, .inr ⟨_, _, _, _, rfl, rfl⟩⟩, ⟨_, _, rfl, rfl, .inl ⟨rfl, rwP⟩⟩, trivial⟩ rfl ?_
         exact xa27
        ·refine rT 1 [(3, .bool d), (8, pp 1 0), (10, s0 2 r1.1.length), (13, pp 4 0), (46, pp 0 ((Int.toNat b) * 2)), (52, aT (gT a_Tables c))] [(4, z2), (3, nP), (2, rU r1.1), (1, pN 3), (0, rc encP a_Tables z0 y0 2)] 5 ?_
         refine dQ ?_
         refine ⟨rfl, ?_⟩
         show XA _ _ _ _ _ _ _ _ _ _
         refine XA.ren (σ' := [(3, .bool d), (8, pp 1 0), (10, s0 2 r1.1.length), (13, pp 3 0), (46, pp 0 ((Int.toNat b) * 2)), (52, aT (gT a_Tables c))]) (h' := [(4, nP), (3, z2), (2, rU r1.1), (1, pN 4), (0, rc encP a_Tables z0 y0 2)]) (c' := 5) [0, 1, 2, 4, 3] (by decide) rfl ⟨rfl, rfl, rfl, rfl, rfl, rfl, trivial⟩ ⟨⟨_, _, rfl, rfl, .inl ⟨rfl, rwP⟩⟩, ⟨_, _, rfl, rfl, .inr ⟨_, _, _, _, rfl, rfl⟩⟩, ⟨_, _, rfl, rfl, .inl ⟨rfl, rowC_scal (encI_ok .u64) _⟩⟩, ⟨_, _, rfl, rfl, .inr ⟨_, _, _, _, rfl, rfl⟩⟩, ⟨_, _, rfl, rfl, .inl ⟨rfl, rwP⟩⟩, trivial⟩ rfl ?_
         exact xa29
       have xa31 : XA E0 112 1 (opsOf (lft (rgt (rgt (rgt f30_C30))))) 4 #[true, true, true, true, false, true, true, true, true, false, true, true, false, false] [(3, .bool d), (8, pp 1 0), (10, s0 2 r1.1.length), (12, pp 3 0), (13, pp 4 0), (46, pp 0 ((Int.toNat b) * 2)), (51, pp 0 ((Int.toNat c) * 2))] [(5, nP), (4, z2), (3, z2), (2, rU r1.1), (1, pN 5), (0, rc encP a_Tables z0 y0 2)] 6 (qD a_Tables b c d z0 y0 r1) := by
        refine XA.step E0_ok [4, 9] (by kernel_rfl) rfl (by kernel_rfl) ⟨?_, ?_, trivial⟩
        ·refine XR.rd E0_ok [3, 8, 10, 12, 13, 47, 51] rfl (v := aT (gT a_Tables b)) (v_loadN encP_ok (x := (src 112 (.tmp 46))) (b := 0) (off := (Int.toNat b) * 2) (xs := a_Tables) (fz := z0) (e := y0) (es := 2) (d := (some (path 12 47))) (by kernel_rfl) (by kernel_rfl) (by kernel_rfl) (Int.toNat b) (0, 0) (by first | rfl | omega) (row_len (inRow_toNat b4) (by simp)) rfl) (σ' := [(3, .bool d), (8, pp 1 0), (10, s0 2 r1.1.length), (12, pp 3 0), (13, pp 4 0), (47, aT (gT a_Tables b)), (51, pp 0 ((Int.toNat c) * 2))]) (by kernel_rfl) ?_
         refine dQ ?_
         refine ⟨rfl, ?_⟩
         show XA _ _ _ _ _ _ _ _ _ _
         exact xa13
        ·refine XR.rd E0_ok [3, 8, 10, 12, 13, 46, 52] rfl (v := aT (gT a_Tables c)) (v_loadN encP_ok (x := (src 112 (.tmp 51))) (b := 0) (off := (Int.toNat c) * 2) (xs := a_Tables) (fz := z0) (e := y0) (es := 2) (d := (some (path 12 52))) (by kernel_rfl) (by kernel_rfl) (by kernel_rfl) (Int.toNat c) (0, 0) (by first | rfl | omega) (row_len (inRow_toNat b5) (by simp)) rfl) (σ' := [(3, .bool d), (8, pp 1 0), (10, s0 2 r1.1.length), (12, pp 3 0), (13, pp 4 0), (46, pp 0 ((Int.toNat b) * 2)), (52, aT (gT a_Tables c))]) (by kernel_rfl) ?_
         refine dQ ?_
         refine ⟨rfl, ?_⟩
         show XA _ _ _ _ _ _ _ _ _ _
         exact xa28
       have xa30 : XA E0 112 1 (opsOf (lft (rgt (rgt (rgt f30_C30))))) 5 #[true, true, true, true, false, true, true, true, true, false, true, false, false, false] [(3, .bool d), (8, pp 1 0), (10, s0 2 r1.1.length), (12, pp 3 0), (46, pp 0 ((Int.toNat b) * 2)), (51, pp 0 ((Int.toNat c) * 2))] [(4, nP), (3, z2), (2, rU r1.1), (1, pN 4), (0, rc encP a_Tables z0 y0 2)] 5 (qD a_Tables b c d z0 y0 r1) := by
        refine XA.step E0_ok [4, 9, 11] (by kernel_rfl) rfl (by kernel_rfl) ⟨?_, ?_, ?_, trivial⟩
        ·refine XR.rd E0_ok [3, 8, 10, 12, 47, 51] rfl (v := aT (gT a_Tables b)) (v_loadN encP_ok (x := (src 112 (.tmp 46))) (b := 0) (off := (Int.toNat b) * 2) (xs := a_Tables) (fz := z0) (e := y0) (es := 2) (d := (some (path 12 47))) (by kernel_rfl) (by kernel_rfl) (by kernel_rfl) (Int.toNat b) (0, 0) (by first | rfl | omega) (row_len (inRow_toNat b4) (by simp)) rfl) (σ' := [(3, .bool d), (8, pp 1 0), (10, s0 2 r1.1.length), (12, pp 3 0), (47, aT (gT a_Tables b)), (51, pp 0 ((Int.toNat c) * 2))]) (by kernel_rfl) ?_
         refine dQ ?_
         refine ⟨rfl, ?_⟩
         show XA _ _ _ _ _ _ _ _ _ _
         exact xa12
        ·refine XR.rd E0_ok [3, 8, 10, 12, 46, 52] rfl (v := aT (gT a_Tables c)) (v_loadN encP_ok (x := (src 112 (.tmp 51))) (b := 0) (off := (Int.toNat c) * 2) (xs := a_Tables) (fz := z0) (e := y0) (es := 2) (d := (some (path 12 52))) (by kernel_rfl) (by kernel_rfl) (by kernel_rfl) (Int.toNat c) (0, 0) (by first | rfl | omega) (row_len (inRow_toNat b5) (by simp)) rfl) (σ' := [(3, .bool d), (8, pp 1 0), (10, s0 2 r1.1.length), (12, pp 3 0), (46, pp 0 ((Int.toNat b) * 2)), (52, aT (gT a_Tables c))]) (by kernel_rfl) ?_
         refine dQ ?_
         refine ⟨rfl, ?_⟩
         show XA _ _ _ _ _ _ _ _ _ _
         exact xa27
        ·refine rT 1 [(3, .bool d), (8, pp 1 0), (10, s0 2 r1.1.length), (12, pp 3 0), (13, pp 5 0), (46, pp 0 ((Int.toNat b) * 2)), (51, pp 0 ((Int.toNat c) * 2))] [(5, z2), (4, nP), (3, z2), (2, rU r1.1), (1, pN 4), (0, rc encP a_Tables z0 y0 2)] 6 ?_
         refine dQ ?_
         refine ⟨rfl, ?_⟩
         show XA _ _ _ _ _ _ _ _ _ _
         refine XA.ren (σ' := [(3, .bool d), (8, pp 1 0), (10, s0 2 r1.1.length), (12, pp 3 0), (13, pp 4 0), (46, pp 0 ((Int.toNat b) * 2)), (51, pp 0 ((Int.toNat c) * 2))]) (h' := [(5, nP), (4, z2), (3, z2), (2, rU r1.1), (1, pN 5), (0, rc encP a_Tables z0 y0 2)]) (c' := 6) [0, 1, 2, 3, 5, 4] (by decide) rfl ⟨rfl, rfl, rfl, rfl, rfl, rfl, rfl, trivial⟩ ⟨⟨_, _, rfl, rfl, .inl ⟨rfl, rwP⟩⟩, ⟨_, _, rfl, rfl, .inr ⟨_, _, _, _, rfl, rfl⟩⟩, ⟨_, _, rfl, rfl, .inr ⟨_, _, _, _, rfl, rfl⟩⟩, ⟨_, _, rfl, rfl, .inl ⟨rfl, rowC_scal (encI_ok .u64) _⟩⟩, ⟨_, _, rfl, rfl, .inr ⟨_, _, _, _, rfl, rfl⟩⟩, ⟨_, _, rfl, rfl, .inl ⟨rfl, rwP⟩⟩, trivial⟩ rfl ?_
         exact xa31
       have xa32 : XA E0 112 1 (opsOf (lft (rgt (rgt (rgt f30_C30))))) 5 #[true, true, true, true, false, true, true, true, true, false, false, true, false, false] [(3, .bool d), (8, pp 1 0), (10, s0 2 r1.1.length), (13, pp 3 0), (46, pp 0 ((Int.toNat b) * 2)), (51, pp 0 ((Int.toNat c) * 2))] [(4, nP), (3, z2), (2, rU r1.1), (1, pN 4), (0, rc encP a_Tables z0 y0 2)] 5 (qD a_Tables b c d z0 y0 r1) := by
        refine XA.step E0_ok [4, 9, 10] (by kernel_rfl) rfl (by kernel_rfl) ⟨?_, ?_, ?_, trivial⟩
        ·refine XR.rd E0_ok [3, 8, 10, 13, 47, 51] rfl (v := aT (gT a_Tables b)) (v_loadN encP_ok (x := (src 112 (.tmp 46))) (b := 0) (off := (Int.toNat b) * 2) (xs := a_Tables) (fz := z0) (e := y0) (es := 2) (d := (some (path 12 47))) (by kernel_rfl) (by kernel_rfl) (by kernel_rfl) (Int.toNat b) (0, 0) (by first | rfl | omega) (row_len (inRow_toNat b4) (by simp)) rfl) (σ' := [(3, .bool d), (8, pp 1 0), (10, s0 2 r1.1.length), (13, pp 3 0), (47, aT (gT a_Tables b)), (51, pp 0 ((Int.toNat c) * 2))]) (by kernel_rfl) ?_
         refine dQ ?_
         refine ⟨rfl, ?_⟩
         show XA _ _ _ _ _ _ _ _ _ _
         exact xa15
        ·refine XR.rd E0_ok [3, 8, 10, 13, 46, 52] rfl (v := aT (gT a_Tables c)) (v_loadN encP_ok (x := (src 112 (.tmp 51))) (b := 0) (off := (Int.toNat c) * 2) (xs := a_Tables) (fz := z0) (e := y0) (es := 2) (d := (some (path 12 52))) (by kernel_rfl) (by kernel_rfl) (by kernel_rfl) (Int.toNat c) (0, 0) (by first | rfl | omega) (row_len (inRow_toNat b5) (by simp)) rfl) (σ' := [(3, .bool d), (8, pp 1 0), (10, s0 2 r1.1.length), (13, pp 3 0), (46, pp 0 ((Int.toNat b) * 2)), (52, aT (gT a_Tables c))]) (by kernel_rfl) ?_
         refine dQ ?_
         refine ⟨rfl, ?_⟩
         show XA _ _ _ _ _ _ _ _ _ _
         exact xa29
        ·refine rT 1 [(3, .bool d), (8, pp 1 0), (10, s0 2 r1.1.length), (12, pp 5 0), (13, pp 3 0), (46, pp 0 ((Int.toNat b) * 2)), (51, pp 0 ((Int.toNat c) * 2))] [(5, z2), (4, nP), (3, z2), (2, rU r1.1), (1, pN 4), (0, rc encP a_Tables z0 y0 2)] 6 ?_
         refine dQ ?_
         refine ⟨rfl, ?_⟩
         show XA _ _ _ _ _ _ _ _ _ _
         refine XA.ren (σ' := [(3, .bool d), (8, pp 1 0), (10, s0 2 r1.1.length), (12, pp 3 0), (13, pp 4 0), (46, pp 0 ((Int.toNat b) * 2)), (51, pp 0 ((Int.toNat c) * 2))]) (h' := [(5, nP), (4, z2), (3, z2), (2, rU r1.1), (1, pN 5), (0, rc encP a_Tables z0 y0 2)]) (c' := 6) [0, 1, 2, 5, 3, 4] (by decide) rfl ⟨rfl, rfl, rfl, rfl, rfl, rfl, rfl, trivial⟩ ⟨⟨_, _, rfl, rfl, .inl ⟨rfl, rwP⟩⟩, ⟨_, _, rfl, rfl, .inr ⟨_, _, _, _, rfl, rfl⟩⟩, ⟨_, _, rfl, rfl, .inr ⟨_, _, _, _, rfl, rfl⟩⟩, ⟨_, _, rfl, rfl, .inl ⟨rfl, rowC_scal (encI_ok .u64) _⟩⟩, ⟨_, _, rfl, rfl, .inr ⟨_, _, _, _, rfl, rfl⟩⟩, ⟨_, _, rfl, rfl, .inl ⟨rfl, rwP⟩⟩, trivial⟩ rfl ?_
         exact xa31
       have xa25 : XA E0 112 1 (opsOf (lft (rgt (rgt (rgt f30_C30))))) 6 #[true, true, true, true, false, true, true, true, true, false, false, false, false, false] [(3, .bool d), (8, pp 1 0), (10, s0 2 r1.1.length), (46, pp 0 ((Int.toNat b) * 2)), (51, pp 0 ((Int.toNat c) * 2))] [(3, nP), (2, rU r1.1), (1, pN 3), (0, rc encP a_Tables z0 y0 2)] 4 (qD a_Tables b c d z0 y0 r1) := by
        refine XA.step E0_ok [4, 9, 10, 11] (by kernel_rfl) rfl (by kernel_rfl) ⟨?_, ?_, ?_, ?_, trivial⟩
        ·refine XR.rd E0_ok [3, 8, 10, 47, 51] rfl (v := aT (gT a_Tables b)) (v_loadN encP_ok (x := (src 112 (.tmp 46))) (b := 0) (off := (Int.toNat b) * 2) (xs := a_Tables) (fz := z0) (e := y0) (es := 2) (d := (some (path 12 47))) (by kernel_rfl) (by kernel_rfl) (by kernel_rfl) (Int.toNat b) (0, 0) (by first | rfl | omega) (row_len (inRow_toNat b4) (by simp)) rfl) (σ' := [(3, .bool d), (8, pp 1 0), (10, s0 2 r1.1.length), (47, aT (gT a_Tables b)), (51, pp 0 ((Int.toNat c) * 2))]) (by kernel_rfl) ?_
         refine dQ ?_
         refine ⟨rfl, ?_⟩
         show XA _ _ _ _ _ _ _ _ _ _
         exact xa5
        ·refine XR.rd E0_ok [3, 8, 10, 46, 52] rfl (v := aT (gT a_Tables c)) (v_loadN encP_ok (x := (src 112 (.tmp 51))) (b := 0) (off := (Int.toNat c) * 2) (xs := a_Tables) (fz := z0) (e := y0) (es := 2) (d := (some (path 12 52))) (by kernel_rfl) (by kernel_rfl) (by kernel_rfl) (Int.toNat c) (0, 0) (by first | rfl | omega) (row_len (inRow_toNat b5) (by simp)) rfl) (σ' := [(3, .bool d), (8, pp 1 0), (10, s0 2 r1.1.length), (46, pp 0 ((Int.toNat b) * 2)), (52, aT (gT a_Tables c))]) (by kernel_rfl) ?_
         refine dQ ?_
         refine ⟨rfl, ?_⟩
         show XA _ _ _ _ _ _ _ _ _ _
         exact xa26
        ·refine rT 1 [(3, .bool d), (8, pp 1 0), (10, s0 2 r1.1.length), (12, pp 4 0), (46, pp 0 ((Int.toNat b) * 2)), (51, pp 0 ((Int.toNat c) * 2))] [(4, z2), (3, nP), (2, rU r1.1), (1, pN 3), (0, rc encP a_Tables z0 y0 2)] 5 ?_
         refine dQ ?_
         refine ⟨rfl, ?_⟩
         show XA _ _ _ _ _ _ _ _ _ _
         refine XA.ren (σ' := [(3, .bool d), (8, pp 1 0), (10, s0 2 r1.1.length), (12, pp 3 0), (46, pp 0 ((Int.toNat b) * 2)), (51, pp 0 ((Int.toNat c) * 2))]) (h' := [(4, nP), (3, z2), (2, rU r1.1), (1, pN 4), (0, rc encP a_Tables z0 y0 2)]) (c' := 5) [0, 1, 2, 4, 3] (by decide) rfl ⟨rfl, rfl, rfl, rfl, rfl, rfl, trivial⟩ ⟨⟨_, _, rfl, rfl, .inl ⟨rfl, rwP⟩⟩, ⟨_, _, rfl, rfl, .inr ⟨_, _, _, _, rfl, rfl⟩⟩, ⟨_, _, rfl, rfl, .inl ⟨rfl, rowC_scal (encI_ok .u64) _⟩⟩, ⟨_, _, rfl, rfl, .inr ⟨_, _, _, _, rfl, rfl⟩⟩, ⟨_, _, rfl, rfl, .inl ⟨rfl, rwP⟩⟩, trivial⟩ rfl ?_
         exact xa30
        ·refine rT 1 [(3, .bool d), (8, pp 1 0), (10, s0 2 r1.1.length), (13, pp 4 0), (46, pp 0 ((Int.toNat b) * 2)), (51, pp 0 ((Int.toNat c) * 2))] [(4, z2), (3, nP), (2, rU r1.1), (1, pN 3), (0, rc encP a_Tables z0 y0 2)] 5 ?_
         refine dQ ?_
         refine ⟨rfl, ?_⟩
         show XA _ _ _ _ _ _ _ _ _ _
         refine XA.ren (σ' := [(3, .bool d), (8, pp 1 0), (10, s0 2 r1.1.length), (13, pp 3 0), (46, pp 0 ((Int.toNat b) * 2)), (51, pp 0 ((Int.toNat c) * 2))]) (h' := [(4, nP), (3, z2), (2, rU r1.1), (1, pN 4), (0, rc encP a_Tables z0 y0 2)]) (c' := 5) [0, 1, 2, 4, 3] (by decide) rfl ⟨rfl, rfl, rfl, rfl, rfl, rfl, trivial⟩ ⟨⟨_, _, rfl, rfl, .inl ⟨rfl, rwP⟩⟩, ⟨_, _, rfl, rfl, .inr ⟨_, _, _, _, rfl, rfl⟩⟩, ⟨_, _, rfl, rfl, .inl ⟨rfl, rowC_scal (encI_ok .u64) _⟩⟩, ⟨_, _, rfl, rfl, .inr ⟨_, _, _, _, rfl, rfl⟩⟩, ⟨_, _, rfl, rfl, .inl ⟨rfl, rwP⟩⟩, trivial⟩ rfl ?_
         exact xa32
       have xa34 : XA E0 112 1 (opsOf (lft (rgt (rgt (rgt f30_C30))))) 5 #[true, true, true, true, false, true, true, true, false, false, true, true, false, false] [(3, .bool d), (8, pp 1 0), (10, s0 2 r1.1.length), (12, pp 3 0), (13, pp 4 0), (46, pp 0 ((Int.toNat b) * 2)), (49, s0 0 a_Tables.length), (50, ii c)] [(5, nP), (4, z2), (3, z2), (2, rU r1.1), (1, pN 5), (0, rc encP a_Tables z0 y0 2)] 6 (qD a_Tables b c d z0 y0 r1) := by
        refine XA.step E0_ok [4, 8] (by kernel_rfl) rfl (by kernel_rfl) ⟨?_, ?_, trivial⟩
        ·refine XR.rd E0_ok [3, 8, 10, 12, 13, 47, 49, 50] rfl (v := aT (gT a_Tables b)) (v_loadN encP_ok (x := (src 112 (.tmp 46))) (b := 0) (off := (Int.toNat b) * 2) (xs := a_Tables) (fz := z0) (e := y0) (es := 2) (d := (some (path 12 47))) (by kernel_rfl) (by kernel_rfl) (by kernel_rfl) (Int.toNat b) (0, 0) (by first | rfl | omega) (row_len (inRow_toNat b4) (by simp)) rfl) (σ' := [(3, .bool d), (8, pp 1 0), (10, s0 2 r1.1.length), (12, pp 3 0), (13, pp 4 0), (47, aT (gT a_Tables b)), (49, s0 0 a_Tables.length), (50, ii c)]) (by kernel_rfl) ?_
         refine dQ ?_
         refine ⟨rfl, ?_⟩
         show XA _ _ _ _ _ _ _ _ _ _
         exact xa17
        ·refine XR.rd E0_ok [3, 8, 10, 12, 13, 46, 51] rfl (v := pp 0 ((Int.toNat c) * 2)) (v_idx (s := 2) (x := (src 112 (.tmp 49))) (y := (src 112 (.tmp 50))) (b := 0) (o := 0) (len := a_Tables.length) (cap := a_Tables.length) (ik := .i64) (i := c) (off := (Int.toNat c) * 2) (d := (some (path 12 51))) (by kernel_rfl) (by kernel_rfl) (by kernel_rfl) b5 (by omega)) (σ' := [(3, .bool d), (8, pp 1 0), (10, s0 2 r1.1.length), (12, pp 3 0), (13, pp 4 0), (46, pp 0 ((Int.toNat b) * 2)), (51, pp 0 ((Int.toNat c) * 2))]) (by kernel_rfl) ?_
         refine dQ ?_
         refine ⟨rfl, ?_⟩
         show XA _ _ _ _ _ _ _ _ _ _
         exact xa31
       have xa33 : XA E0 112 1 (opsOf (lft (rgt (rgt (rgt f30_C30))))) 6 #[true, true, true, true, false, true, true, true, false, false, true, false, false, false] [(3, .bool d), (8, pp 1 0), (10, s0 2 r1.1.length), (12, pp 3 0), (46, pp 0 ((Int.toNat b) * 2)), (49, s0 0 a_Tables.length), (50, ii c)] [(4, nP), (3, z2), (2, rU r1.1), (1, pN 4), (0, rc encP a_Tables z0 y0 2)] 5 (qD a_Tables b c d z0 y0 r1) := by
        refine XA.step E0_ok [4, 8, 11] (by kernel_rfl) rfl (by kernel_rfl) ⟨?_, ?_, ?_, trivial⟩
        ·refine XR.rd E0_ok [3, 8, 10, 12, 47, 49, 50] rfl (v := aT (gT a_Tables b)) (v_loadN encP_ok (x := (src 112 (.tmp 46))) (b := 0) (off := (Int.toNat b) * 2) (xs := a_Tables) (fz := z0) (e := y0) (es := 2) (d := (some (path 12 47))) (by kernel_rfl) (by kernel_rfl) (by kernel_rfl) (Int.toNat b) (0, 0) (by first | rfl | omega) (row_len (inRow_toNat b4) (by simp)) rfl) (σ' := [(3, .bool d), (8, pp 1 0), (10, s0 2 r1.1.length), (12, pp 3 0), (47, aT (gT a_Tables b)), (49, s0 0 a_Tables.length), (50, ii c)]) (by kernel_rfl) ?_
         refine dQ ?_
         refine ⟨rfl, ?_⟩
         show XA _ _ _ _ _ _ _ _ _ _
         exact xa16
        ·refine XR.rd E0_ok [3, 8, 10, 12, 46, 51] rfl (v := pp 0 ((Int.toNat c) * 2)) (v_idx (s := 2) (x := (src 112 (.tmp 49))) (y := (src 112 (.tmp 50))) (b := 0) (o := 0) (len := a_Tables.length) (cap := a_Tables.length) (ik := .i64) (i := c) (off := (Int.toNat c) * 2) (d := (some (path 12 51))) (by kernel_rfl) (by kernel_rfl) (by kernel_rfl) b5 (by omega)) (σ' := [(3, .bool d), (8, pp 1 0), (10, s0 2 r1.1.length), (12, pp 3 0), (46, pp 0 ((Int.toNat b) * 2)), (51, pp 0 ((Int.toNat c) * 2))]) (by kernel_rfl) ?_
         refine dQ ?_
         refine ⟨rfl, ?_⟩
         show XA _ _ _ _ _ _ _ _ _ _
         exact xa30
        ·refine rT 1 [(3, .bool d), (8, pp 1 0), (10, s0 2 r1.1.length), (12, pp 3 0), (13, pp 5 0), (46, pp 0 ((Int.toNat b) * 2)), (49, s0 0 a_Tables.length), (50, ii c)] [(5, z2), (4, nP), (3, z2), (2, rU r1.1), (1, pN 4), (0, rc encP a_Tables z0 y0 2)] 6 ?_
         refine dQ ?_
         refine ⟨rfl, ?_⟩
         show XA _ _ _ _ _ _ _ _ _ _
         refine XA.ren (σ' := [(3, .bool d), (8, pp 1 0), (10, s0 2 r1.1.length), (12, pp 3 0), (13, pp 4 0), (46, pp 0 ((Int.toNat b) * 2)), (49, s0 0 a_Tables.length), (50, ii c)]) (h' := [(5, nP), (4, z2), (3, z2), (2, rU r1.1), (1, pN 5), (0, rc encP a_Tables z0 y0 2)]) (c' := 6) [0, 1, 2, 3, 5, 4] (by decide) rfl ⟨rfl, rfl, rfl, rfl, rfl, rfl, rfl, rfl, trivial⟩ ⟨⟨_, _, rfl, rfl, .inl ⟨rfl, rwP⟩⟩, ⟨_, _, rfl, rfl, .inr ⟨_, _, _, _, rfl, rfl⟩⟩, ⟨_, _, rfl, rfl, .inr ⟨_, _, _, _, rfl, rfl⟩⟩, ⟨_, _, rfl, rfl, .inl ⟨rfl, rowC_scal (encI_ok .u64) _⟩⟩, ⟨_, _, rfl, rfl, .inr ⟨_, _, _, _, rfl, rfl⟩⟩, ⟨_, _, rfl, rfl, .inl ⟨rfl, rwP⟩⟩, trivial⟩ rfl ?_
         exact xa34
       have xa35 : XA E0 112 1 (opsOf (lft (rgt (rgt (rgt f30_C30))))) 6 #[true, true, true, true, false, true, true, true, false, false, false, true, false, false] [(3, .bool d), (8, pp 1 0), (10, s0 2 r1.1.length), (13, pp 3 0), (46, pp 0 ((Int.toNat b) * 2)), (49, s0 0 a_Tables.length), (50, ii c)] [(4, nP), (3, z2), (2, rU r1.1), (1, pN 4), (0, rc encP a_Tables z0 y0 2)] 5 (qD a_Tables b c d z0 y0 r1) := by
        refine XA.step E0_ok [4, 8, 10] (by kernel_rfl) rfl (by kernel_rfl) ⟨?_, ?_, ?_, trivial⟩
        ·refine XR.rd E0_ok [3, 8, 10, 13, 47, 49, 50] rfl (v := aT (gT a_Tables b)) (v_loadN encP_ok (x := (src 112 (.tmp 46))) (b := 0) (off := (Int.toNat b) * 2) (xs := a_Tables) (fz := z0) (e := y0) (es := 2) (d := (some (path 12 47))) (by kernel_rfl) (by kernel_rfl) (by kernel_rfl) (Int.toNat b) (0, 0) (by first | rfl | omega) (row_len (inRow_toNat b4) (by simp)) rfl) (σ' := [(3, .bool d), (8, pp 1 0), (10, s0 2 r1.1.length), (13, pp 3 0), (47, aT (gT a_Tables b)), (49, s0 0 a_Tables.length), (50, ii c)]) (by kernel_rfl) ?_
         refine dQ ?_
         refine ⟨rfl, ?_⟩
         show XA _ _ _ _ _ _ _ _ _ _
         exact xa19
        ·refine XR.rd E0_ok [3, 8, 10, 13, 46, 51] rfl (v := pp 0 ((Int.toNat c) * 2)) (v_idx (s := 2) (x := (src 112 (.tmp 49))) (y := (src 112 (.tmp 50))) (b := 0) (o := 0) (len := a_Tables.length) (cap := a_Tables.length) (ik := .i64) (i := c) (off := (Int.toNat c) * 2) (d := (some (path 12 51))) (by kernel_rfl) (by kernel_rfl) (by kernel_rfl) b5 (by omega)) (σ' := [(3, .bool d), (8, pp 1 0), (10, s0 2 r1.1.length), (13, pp 3 0), (46, pp 0 ((Int.toNat b) * 2)), (51, pp 0 ((Int.toNat c) * 2))]) (by kernel_rfl) ?_
         refine dQ ?_
         refine ⟨rfl, ?_⟩
         show XA _ _ _ _ _ _ _ _ _ _
         exact xa32
        ·refine rT 1 [(3, .bool d), (8, pp 1 0), (10, s0 2 r1.1.length), (12, pp 5 0), (13, pp 3 0), (46, pp 0 ((Int.toNat b) * 2)), (49, s0 0 a_Tables.length), (50, ii c)] [(5, z2), (4, nP), (3, z2), (2, rU r1.1), (1, pN 4), (0, rc encP a_Tables z0 y0 2)] 6 ?_
         refine dQ ?_
         refine ⟨rfl, ?_⟩
         show XA _ _ _ _ _ _ _ _ _ _
         refine XA.ren (σ' := [(3, .bool d), (8, pp 1 0), (10, s0 2 r1.1.length), (12, pp 3 0), (13, pp 4 0), (46, pp 0 ((Int.toNat b) * 2)), (49, s0 0 a_Tables.length), (50, ii c)]) (h' := [(5, nP), (4, z2), (3, z2), (2, rU r1.1), (1, pN 5), (0, rc encP a_Tables z0 y0 2)]) (c' := 6) [0, 1, 2, 5, 3, 4] (by decide) rfl ⟨rfl, rfl, rfl, rfl, rfl, rfl, rfl, rfl, trivial⟩ ⟨⟨_, _, rfl, rfl, .inl ⟨rfl, rwP⟩⟩, ⟨_, _, rfl, rfl, .inr ⟨_, _, _, _, rfl, rfl⟩⟩, ⟨_, _, rfl, rfl, .inr ⟨_, _, _, _, rfl, rfl⟩⟩, ⟨_, _, rfl, rfl, .inl ⟨rfl, rowC_scal (encI_ok .u64) _⟩⟩, ⟨_, _, rfl, rfl, .inr ⟨_, _, _, _, rfl, rfl⟩⟩, ⟨_, _, rfl, rfl, .inl ⟨rfl, rwP⟩⟩, trivial⟩ rfl ?_
         exact xa34
       have xa24 : XA E0 112 1 (opsOf (lft (rgt (rgt (rgt f30_C30))))) 7 #[true, true, true, true, false, true, true, true, false, false, false, false, false, false] [(3, .bool d), (8, pp 1 0), (10, s0 2 r1.1.length), (46, pp 0 ((Int.toNat b) * 2)), (49, s0 0 a_Tables.length), (50, ii c)] [(3, nP), (2, rU r1.1), (1, pN 3), (0, rc encP a_Tables z0 y0 2)] 4 (qD a_Tables b c d z0 y0 r1) := by
        refine XA.step E0_ok [4, 8, 10, 11] (by kernel_rfl) rfl (by kernel_rfl) ⟨?_, ?_, ?_, ?_, trivial⟩
        ·refine XR.rd E0_ok [3, 8, 10, 47, 49, 50] rfl (v := aT (gT a_Tables b)) (v_loadN encP_ok (x := (src 112 (.tmp 46))) (b := 0) (off := (Int.toNat b) * 2) (xs := a_Tables) (fz := z0) (e := y0) (es := 2) (d := (some (path 12 47))) (by kernel_rfl) (by kernel_rfl) (by kernel_rfl) (Int.toNat b) (0, 0) (by first | rfl | omega) (row_len (inRow_toNat b4) (by simp)) rfl) (σ' := [(3, .bool d), (8, pp 1 0), (10, s0 2 r1.1.length), (47, aT (gT a_Tables b)), (49, s0 0 a_Tables.length), (50, ii c)]) (by kernel_rfl) ?_
         refine dQ ?_
         refine ⟨rfl, ?_⟩
         show XA _ _ _ _ _ _ _ _ _ _
         exact xa4
        ·refine XR.rd E0_ok [3, 8, 10, 46, 51] rfl (v := pp 0 ((Int.toNat c) * 2)) (v_idx (s := 2) (x := (src 112 (.tmp 49))) (y := (src 112 (.tmp 50))) (b := 0) (o := 0) (len := a_Tables.length) (cap := a_Tables.length) (ik := .i64) (i := c) (off := (Int.toNat c) * 2) (d := (some (path 12 51))) (by kernel_rfl) (by kernel_rfl) (by kernel_rfl) b5 (by omega)) (σ' := [(3, .bool d), (8, pp 1 0), (10, s0 2 r1.1.length), (46, pp 0 ((Int.toNat b) * 2)), (51, pp 0 ((Int.toNat c) * 2))]) (by kernel_rfl) ?_
         refine dQ ?_
         refine ⟨rfl, ?_⟩
         show XA _ _ _ _ _ _ _ _ _ _
         exact xa25
        ·refine rT 1 [(3, .bool d), (8, pp 1 0), (10, s0 2 r1.1.length), (12, pp 4 0), (46, pp 0 ((Int.toNat b) * 2)), (49, s0 0 a_Tables.length), (50, ii c)] [(4, z2), (3, nP), (2, rU r1.1), (1, pN 3), (0, rc encP a_Tables z0 y0 2)] 5 ?_
         refine dQ ?_
         refine ⟨rfl, ?_⟩
         show XA _ _ _ _ _ _ _ _ _ _
         refine XA.ren (σ' := [(3, .bool d), (8, pp 1 0), (10, s0 2 r1.1.length), (12, pp 3 0), (46, pp 0 ((Int.toNat b) * 2)), (49, s0 0 a_Tables.length), (50, ii c)]) (h' := [(4, nP), (3, z2), (2, rU r1.1), (1, pN 4), (0, rc encP a_Tables z0 y0 2)]) (c' := 5) [0, 1, 2, 4, 3] (by decide) rfl ⟨rfl, rfl, rfl, rfl, rfl, rfl, rfl, trivial⟩ ⟨⟨_, _, rfl, rfl, .inl ⟨rfl, rwP⟩⟩, ⟨_, _, rfl, rfl, .inr ⟨_, _, _, _, rfl, rfl⟩⟩, ⟨_, _, rfl, rfl, .inl ⟨rfl, rowC_scal (encI_ok .u64) _⟩⟩, ⟨_, _, rfl, rfl, .inr ⟨_, _, _, _, rfl, rfl⟩⟩, ⟨_, _, rfl, rfl, .inl ⟨rfl, rwP⟩⟩, trivial⟩ rfl ?_
         exact xa33
        ·refine rT 1 [(3, .bool d), (8, pp 1 0), (10, s0 2 r1.1.length), (13, pp 4 0), (46, pp 0 ((Int.toNat b) * 2)), (49, s0 0 a_Tables.length), (50, ii c)] [(4, z2), (3, nP), (2, rU r1.1), (1, pN 3), (0, rc encP a_Tables z0 y0 2)] 5 ?_
         refine dQ ?_
         refine ⟨rfl, ?_⟩
         show XA _ _ _ _ _ _ _ _ _ _
         refine XA.ren (σ' := [(3, .bool d), (8, pp 1 0), (10, s0 2 r1.1.length), (13, pp 3 0), (46, pp 0 ((Int.toNat b) * 2)), (49, s0 0 a_Tables.length), (50, ii c)]) (h' := [(4, nP), (3, z2), (2, rU r1.1), (1, pN 4), (0, rc encP a_Tables z0 y0 2)]) (c' := 5) [0, 1, 2, 4, 3] (by decide) rfl ⟨rfl, rfl, rfl, rfl, rfl, rfl, rfl, trivial⟩ ⟨⟨_, _, rfl, rfl, .inl ⟨rfl, rwP⟩⟩, ⟨_, _, rfl, rfl, .inr ⟨_, _, _, _, rfl, rfl⟩⟩, ⟨_, _, rfl, rfl, .inl ⟨rfl, rowC_scal (encI_ok .u64) _⟩⟩, ⟨_, _, rfl, rfl, .inr ⟨_, _, _, _, rfl, rfl⟩⟩, ⟨_, _, rfl, rfl, .inl ⟨rfl, rwP⟩⟩, trivial⟩ rfl ?_
         exact xa35
       have xa37 : XA E0 112 1 (opsOf (lft (rgt (rgt (rgt f30_C30))))) 6 #[true, true, true, true, false, true, false, true, false, false, true, true, false, false] [(3, .bool d), (8, pp 1 0), (10, s0 2 r1.1.length), (12, pp 3 0), (13, pp 4 0), (46, pp 0 ((Int.toNat b) * 2)), (48, pp 5 1), (50, ii c)] [(6, nP), (5, pO a_Sorters a_Tables), (4, z2), (3, z2), (2, rU r1.1), (1, pN 6), (0, rc encP a_Tables z0 y0 2)] 7 (qD a_Tables b c d z0 y0 r1) := by
        refine XA.step E0_ok [4, 6] (by kernel_rfl) rfl (by kernel_rfl) ⟨?_, ?_, trivial⟩
        ·refine XR.rd E0_ok [3, 8, 10, 12, 13, 47, 48, 50] rfl (v := aT (gT a_Tables b)) (v_loadN encP_ok (x := (src 112 (.tmp 46))) (b := 0) (off := (Int.toNat b) * 2) (xs := a_Tables) (fz := z0) (e := y0) (es := 2) (d := (some (path 12 47))) (by kernel_rfl) (by kernel_rfl) (by kernel_rfl) (Int.toNat b) (0, 0) (by first | rfl | omega) (row_len (inRow_toNat b4) (by simp)) rfl) (σ' := [(3, .bool d), (8, pp 1 0), (10, s0 2 r1.1.length), (12, pp 3 0), (13, pp 4 0), (47, aT (gT a_Tables b)), (48, pp 5 1), (50, ii c)]) (by kernel_rfl) ?_
         refine dQ ?_
         refine ⟨rfl, ?_⟩
         show XA _ _ _ _ _ _ _ _ _ _
         exact xa21
        ·refine rS 1 [(3, .bool d), (8, pp 1 0), (10, s0 2 r1.1.length), (12, pp 3 0), (13, pp 4 0), (46, pp 0 ((Int.toNat b) * 2)), (49, s0 0 a_Tables.length), (50, ii c)] ?_
         refine dQ ?_
         refine ⟨rfl, ?_⟩
         show XA _ _ _ _ _ _ _ _ _ _
         refine XA.ren (σ' := [(3, .bool d), (8, pp 1 0), (10, s0 2 r1.1.length), (12, pp 3 0), (13, pp 4 0), (46, pp 0 ((Int.toNat b) * 2)), (49, s0 0 a_Tables.length), (50, ii c)]) (h' := [(5, nP), (4, z2), (3, z2), (2, rU r1.1), (1, pN 5), (0, rc encP a_Tables z0 y0 2)]) (c' := 6) [0, 1, 2, 3, 4, 6] (by decide) rfl ⟨rfl, rfl, rfl, rfl, rfl, rfl, rfl, rfl, trivial⟩ ⟨⟨_, _, rfl, rfl, .inl ⟨rfl, rwP⟩⟩, ⟨_, _, rfl, rfl, .inr ⟨_, _, _, _, rfl, rfl⟩⟩, ⟨_, _, rfl, rfl, .inr ⟨_, _, _, _, rfl, rfl⟩⟩, ⟨_, _, rfl, rfl, .inl ⟨rfl, rowC_scal (encI_ok .u64) _⟩⟩, ⟨_, _, rfl, rfl, .inr ⟨_, _, _, _, rfl, rfl⟩⟩, ⟨_, _, rfl, rfl, .inl ⟨rfl, rwP⟩⟩, trivial⟩ rfl ?_
         exact xa34
       have xa36 : XA E0 112 1 (opsOf (lft (rgt (rgt (rgt f30_C30))))) 7 #[true, true, true, true, false, true, false, true, false, false, true, false, false, false] [(3, .bool d), (8, pp 1 0), (10, s0 2 r1.1.length), (12, pp 3 0), (46, pp 0 ((Int.toNat b) * 2)), (48, pp 4 1), (50, ii c)] [(5, nP), (4, pO a_Sorters a_Tables), (3, z2), (2, rU r1.1), (1, pN 5), (0, rc encP a_Tables z0 y0 2)] 6 (qD a_Tables b c d z0 y0 r1) := by
        refine XA.step E0_ok [4, 6, 11] (by kernel_rfl) rfl (by kernel_rfl) ⟨?_, ?_, ?_, trivial⟩
        ·refine XR.rd E0_ok [3, 8, 10, 12, 47, 48, 50] rfl (v := aT (gT a_Tables b)) (v_loadN encP_ok (x := (src 112 (.tmp 46))) (b := 0) (off := (Int.toNat b) * 2) (xs := a_Tables) (fz := z0) (e := y0) (es := 2) (d := (some (path 12 47))) (by kernel_rfl) (by kernel_rfl) (by kernel_rfl) (Int.toNat b) (0, 0) (by first | rfl | omega) (row_len (inRow_toNat b4) (by simp)) rfl) (σ' := [(3, .bool d), (8, pp 1 0), (10, s0 2 r1.1.length), (12, pp 3 0), (47, aT (gT a_Tables b)), (48, pp 4 1), (50, ii c)]) (by kernel_rfl) ?_
         refine dQ ?_
         refine ⟨rfl, ?_⟩
         show XA _ _ _ _ _ _ _ _ _ _
         exact xa20
        ·refine rS 1 [(3, .bool d), (8, pp 1 0), (10, s0 2 r1.1.length), (12, pp 3 0), (46, pp 0 ((Int.toNat b) * 2)), (49, s0 0 a_Tables.length), (50, ii c)] ?_
         refine dQ ?_
         refine ⟨rfl, ?_⟩
         show XA _ _ _ _ _ _ _ _ _ _
         refine XA.ren (σ' := [(3, .bool d), (8, pp 1 0), (10, s0 2 r1.1.length), (12, pp 3 0), (46, pp 0 ((Int.toNat b) * 2)), (49, s0 0 a_Tables.length), (50, ii c)]) (h' := [(4, nP), (3, z2), (2, rU r1.1), (1, pN 4), (0, rc encP a_Tables z0 y0 2)]) (c' := 5) [0, 1, 2, 3, 5] (by decide) rfl ⟨rfl, rfl, rfl, rfl, rfl, rfl, rfl, trivial⟩ ⟨⟨_, _, rfl, rfl, .inl ⟨rfl, rwP⟩⟩, ⟨_, _, rfl, rfl, .inr ⟨_, _, _, _, rfl, rfl⟩⟩, ⟨_, _, rfl, rfl, .inl ⟨rfl, rowC_scal (encI_ok .u64) _⟩⟩, ⟨_, _, rfl, rfl, .inr ⟨_, _, _, _, rfl, rfl⟩⟩, ⟨_, _, rfl, rfl, .inl ⟨rfl, rwP⟩⟩, trivial⟩ rfl ?_
         exact xa33
        ·refine rT 1 [(3, .bool d), (8, pp 1 0), (10, s0 2 r1.1.length), (12, pp 3 0), (13, pp 6 0), (46, pp 0 ((Int.toNat b) * 2)), (48, pp 4 1), (50, ii c)] [(6, z2), (5, nP), (4, pO a_Sorters a_Tables), (3, z2), (2, rU r1.1), (1, pN 5), (0, rc encP a_Tables z0 y0 2)] 7 ?_
         refine dQ ?_
         refine ⟨rfl, ?_⟩
         show XA _ _ _ _ _ _ _ _ _ _
         refine XA.ren (σ' := [(3, .bool d), (8, pp 1 0), (10, s0 2 r1.1.length), (12, pp 3 0), (13, pp 4 0), (46, pp 0 ((Int.toNat b) * 2)), (48, pp 5 1), (50, ii c)]) (h' := [(6, nP), (5, pO a_Sorters a_Tables), (4, z2), (3, z2), (2, rU r1.1), (1, pN 6), (0, rc encP a_Tables z0 y0 2)]) (c' := 7) [0, 1, 2, 3, 6, 4, 5] (by decide) rfl ⟨rfl, rfl, rfl, rfl, rfl, rfl, rfl, rfl, trivial⟩ ⟨⟨_, _, rfl, rfl, .inl ⟨rfl, rwP⟩⟩, ⟨_, _, rfl, rfl, .inr ⟨_, _, _, _, rfl, rfl⟩⟩, ⟨_, _, rfl, rfl, .inr ⟨_, _, _, _, rfl, rfl⟩⟩, ⟨_, _, rfl, rfl, .inr ⟨_, _, _, _, rfl, rfl⟩⟩, ⟨_, _, rfl, rfl, .inl ⟨rfl, rowC_scal (encI_ok .u64) _⟩⟩, ⟨_, _, rfl, rfl, .inr ⟨_, _, _, _, rfl, rfl⟩⟩, ⟨_, _, rfl, rfl, .inl ⟨rfl, rwP⟩⟩, trivial⟩ rfl ?_
         exact xa37
       have xa38 : XA E0 112 1 (opsOf (lft (rgt (rgt (rgt f30_C30))))) 7 #[true, true, true, true, false, true, false, true, false, false, false, true, false, false] [(3, .bool d), (8, pp 1 0), (10, s0 2 r1.1.length), (13, pp 3 0), (46, pp 0 ((Int.toNat b) * 2)), (48, pp 4 1), (50, ii c)] [(5, nP), (4, pO a_Sorters a_Tables), (3, z2), (2, rU r1.1), (1, pN 5), (0, rc encP a_Tables z0 y0 2)] 6 (qD a_Tables b c d z0 y0 r1) := by
        refine XA.step E0_ok [4, 6, 10] (by kernel_rfl) rfl (by kernel_rfl) ⟨?_, ?_, ?_, trivial⟩
        ·refine XR.rd E0_ok [3, 8, 10, 13, 47, 48, 50] rfl (v := aT (gT a_Tables b)) (v_loadN encP_ok (x := (src 112 (.tmp 46))) (b := 0) (off := (Int.toNat b) * 2) (xs := a_Tables) (fz := z0) (e := y0) (es := 2) (d := (some (path 12 47))) (by kernel_rfl) (by kernel_rfl) (by kernel_rfl) (Int.toNat b) (0, 0) (by first | rfl | omega) (row_len (inRow_toNat b4) (by simp)) rfl) (σ' := [(3, .bool d), (8, pp 1 0), (10, s0 2 r1.1.length), (13, pp 3 0), (47, aT (gT a_Tables b)), (48, pp 4 1), (50, ii c)]) (by kernel_rfl) ?_
         refine dQ ?_
         refine ⟨rfl, ?_⟩
         show XA _ _ _ _ _ _ _ _ _ _
         exact xa23
        ·refine rS 1 [(3, .bool d), (8, pp 1 0), (10, s0 2 r1.1.length), (13, pp 3 0), (46, pp 0 ((Int.toNat b) * 2)), (49, s0 0 a_Tables.length), (50, ii c)] ?_
         refine dQ ?_
         refine ⟨rfl, ?_⟩
         show XA _ _ _ _ _ _ _ _ _ _
         refine XA.ren (σ' := [(3, .bool d), (8, pp 1 0), (10, s0 2 r1.1.length), (13, pp 3 0), (46, pp 0 ((Int.toNat b) * 2)), (49, s0 0 a_Tables.length), (50, ii c)]) (h' := [(4, nP), (3, z2), (2, rU r1.1), (1, pN 4), (0, rc encP a_Tables z0 y0 2)]) (c' := 5) [0, 1, 2, 3, 5] (by decide) rfl ⟨rfl, rfl, rfl, rfl, rfl, rfl, rfl, trivial⟩ ⟨⟨_, _, rfl, rfl, .inl ⟨rfl, rwP⟩⟩, ⟨_, _, rfl, rfl, .inr ⟨_, _, _, _, rfl, rfl⟩⟩, ⟨_, _, rfl, rfl, .inl ⟨rfl, rowC_scal (encI_ok .u64) _⟩⟩, ⟨_, _, rfl, rfl, .inr ⟨_, _, _, _, rfl, rfl⟩⟩, ⟨_, _, rfl, rfl, .inl ⟨rfl, rwP⟩⟩, trivial⟩ rfl ?_
         exact xa35
        ·refine rT 1 [(3, .bool d), (8, pp 1 0), (10, s0 2 r1.1.length), (12, pp 6 0), (13, pp 3 0), (46, pp 0 ((Int.toNat b) * 2)), (48, pp 4 1), (50, ii c)] [(6, z2), (5, nP), (4, pO a_Sorters a_Tables), (3, z2), (2, rU r1.1), (1, pN 5), (0, rc encP a_Tables z0 y0 2)] 7 ?_
         refine dQ ?_
         refine ⟨rfl, ?_⟩
         show XA _ _ _ _ _ _ _ _ _ _
         refine XA.ren (σ' := [(3, .bool d), (8, pp 1 0), (10, s0 2 r1.1.length), (12, pp 3 0), (13, pp 4 0), (46, pp 0 ((Int.toNat b) * 2)), (48, pp 5 1), (50, ii c)]) (h' := [(6, nP), (5, pO a_Sorters a_Tables), (4, z2), (3, z2), (2, rU r1.1), (1, pN 6), (0, rc encP a_Tables z0 y0 2)]) (c' := 7) [0, 1, 2, 6, 3, 4, 5] (by decide) rfl ⟨rfl, rfl, rfl, rfl, rfl, rfl, rfl, rfl, trivial⟩ ⟨⟨_, _, rfl, rfl, .inl ⟨rfl, rwP⟩⟩, ⟨_, _, rfl, rfl, .inr ⟨_, _, _, _, rfl, rfl⟩⟩, ⟨_, _, rfl, rfl, .inr ⟨_, _, _, _, rfl, rfl⟩⟩, ⟨_, _, rfl, rfl, .inr ⟨_, _, _, _, rfl, rfl⟩⟩, ⟨_, _, rfl, rfl, .inl ⟨rfl, rowC_scal (encI_ok .u64) _⟩⟩, ⟨_, _, rfl, rfl, .inr ⟨_, _, _, _, rfl, rfl⟩⟩, ⟨_, _, rfl, rfl, .inl ⟨rfl, rwP⟩⟩, trivial⟩ rfl ?_
         exact xa37
       have xa2 : XA E0 112 1 (opsOf (lft (rgt (rgt (rgt f30_C30))))) 8 #[true, true, true, true, false, true, false, true, false, false, false, false, false, false] [(3, .bool d), (8, pp 1 0), (10, s0 2 r1.1.length), (46, pp 0 ((Int.toNat b) * 2)), (48, pp 3 1), (50, ii c)] [(4, nP), (3, pO a_Sorters a_Tables), (2, rU r1.1), (1, pN 4), (0, rc encP a_Tables z0 y0 2)] 5 (qD a_Tables b c d z0 y0 r1) := by
        refine XA.step E0_ok [4, 6, 10, 11] (by kernel_rfl) rfl (by kernel_rfl) ⟨?_, ?_, ?_, ?_, trivial⟩
        ·refine XR.rd E0_ok [3, 8, 10, 47, 48, 50] rfl (v := aT (gT a_Tables b)) (v_loadN encP_ok (x := (src 112 (.tmp 46))) (b := 0) (off := (Int.toNat b) * 2) (xs := a_Tables) (fz := z0) (e := y0) (es := 2) (d := (some (path 12 47))) (by kernel_rfl) (by kernel_rfl) (by kernel_rfl) (Int.toNat b) (0, 0) (by first | rfl | omega) (row_len (inRow_toNat b4) (by simp)) rfl) (σ' := [(3, .bool d), (8, pp 1 0), (10, s0 2 r1.1.length), (47, aT (gT a_Tables b)), (48, pp 3 1), (50, ii c)]) (by kernel_rfl) ?_
         refine dQ ?_
         refine ⟨rfl, ?_⟩
         show XA _ _ _ _ _ _ _ _ _ _
         exact xa3
        ·refine rS 1 [(3, .bool d), (8, pp 1 0), (10, s0 2 r1.1.length), (46, pp 0 ((Int.toNat b) * 2)), (49, s0 0 a_Tables.length), (50, ii c)] ?_
         refine dQ ?_
         refine ⟨rfl, ?_⟩
         show XA _ _ _ _ _ _ _ _ _ _
         refine XA.ren (σ' := [(3, .bool d), (8, pp 1 0), (10, s0 2 r1.1.length), (46, pp 0 ((Int.toNat b) * 2)), (49, s0 0 a_Tables.length), (50, ii c)]) (h' := [(3, nP), (2, rU r1.1), (1, pN 3), (0, rc encP a_Tables z0 y0 2)]) (c' := 4) [0, 1, 2, 4] (by decide) rfl ⟨rfl, rfl, rfl, rfl, rfl, rfl, trivial⟩ ⟨⟨_, _, rfl, rfl, .inl ⟨rfl, rwP⟩⟩, ⟨_, _, rfl, rfl, .inl ⟨rfl, rowC_scal (encI_ok .u64) _⟩⟩, ⟨_, _, rfl, rfl, .inr ⟨_, _, _, _, rfl, rfl⟩⟩, ⟨_, _, rfl, rfl, .inl ⟨rfl, rwP⟩⟩, trivial⟩ rfl ?_
         exact xa24
        ·refine rT 1 [(3, .bool d), (8, pp 1 0), (10, s0 2 r1.1.length), (12, pp 5 0), (46, pp 0 ((Int.toNat b) * 2)), (48, pp 3 1), (50, ii c)] [(5, z2), (4, nP), (3, pO a_Sorters a_Tables), (2, rU r1.1), (1, pN 4), (0, rc encP a_Tables z0 y0 2)] 6 ?_
         refine dQ ?_
         refine ⟨rfl, ?_⟩
         show XA _ _ _ _ _ _ _ _ _ _
         refine XA.ren (σ' := [(3, .bool d), (8, pp 1 0), (10, s0 2 r1.1.length), (12, pp 3 0), (46, pp 0 ((Int.toNat b) * 2)), (48, pp 4 1), (50, ii c)]) (h' := [(5, nP), (4, pO a_Sorters a_Tables), (3, z2), (2, rU r1.1), (1, pN 5), (0, rc encP a_Tables z0 y0 2)]) (c' := 6) [0, 1, 2, 5, 3, 4] (by decide) rfl ⟨rfl, rfl, rfl, rfl, rfl, rfl, rfl, trivial⟩ ⟨⟨_, _, rfl, rfl, .inl ⟨rfl, rwP⟩⟩, ⟨_, _, rfl, rfl, .inr ⟨_, _, _, _, rfl, rfl⟩⟩, ⟨_, _, rfl, rfl, .inr ⟨_, _, _, _, rfl, rfl⟩⟩, ⟨_, _, rfl, rfl, .inl ⟨rfl, rowC_scal (encI_ok .u64) _⟩⟩, ⟨_, _, rfl, rfl, .inr ⟨_, _, _, _, rfl, rfl⟩⟩, ⟨_, _, rfl, rfl, .inl ⟨rfl, rwP⟩⟩, trivial⟩ rfl ?_
         exact xa36
        ·refine rT 1 [(3, .bool d), (8, pp 1 0), (10, s0 2 r1.1.length), (13, pp 5 0), (46, pp 0 ((Int.toNat b) * 2)), (48, pp 3 1), (50, ii c)] [(5, z2), (4, nP), (3, pO a_Sorters a_Tables), (2, rU r1.1), (1, pN 4), (0, rc encP a_Tables z0 y0 2)] 6 ?_
         refine dQ ?_
         refine ⟨rfl, ?_⟩
         show XA _ _ _ _ _ _ _ _ _ _
         refine XA.ren (σ' := [(3, .bool d), (8, pp 1 0), (10, s0 2 r1.1.length), (13, pp 3 0), (46, pp 0 ((Int.toNat b) * 2)), (48, pp 4 1), (50, ii c)]) (h' := [(5, nP), (4, pO a_Sorters a_Tables), (3, z2), (2, rU r1.1), (1, pN 5), (0, rc encP a_Tables z0 y0 2)]) (c' := 6) [0, 1, 2, 5, 3, 4] (by decide) rfl ⟨rfl, rfl, rfl, rfl, rfl, rfl, rfl, trivial⟩ ⟨⟨_, _, rfl, rfl, .inl ⟨rfl, rwP⟩⟩, ⟨_, _, rfl, rfl, .inr ⟨_, _, _, _, rfl, rfl⟩⟩, ⟨_, _, rfl, rfl, .inr ⟨_, _, _, _, rfl, rfl⟩⟩, ⟨_, _, rfl, rfl, .inl ⟨rfl, rowC_scal (encI_ok .u64) _⟩⟩, ⟨_, _, rfl, rfl, .inr ⟨_, _, _, _, rfl, rfl⟩⟩, ⟨_, _, rfl, rfl, .inl ⟨rfl, rwP⟩⟩, trivial⟩ rfl ?_
         exact xa38
       have xa43 : XA E0 112 1 (opsOf (lft (rgt (rgt (rgt f30_C30))))) 4 #[true, true, true, false, false, true, true, true, true, true, true, true, false, false] [(3, .bool d), (8, pp 1 0), (10, s0 2 r1.1.length), (12, pp 3 0), (13, pp 4 0), (44, s0 0 a_Tables.length), (45, ii b), (52, aT (gT a_Tables c))] [(5, nP), (4, z2), (3, z2), (2, rU r1.1), (1, pN 5), (0, rc encP a_Tables z0 y0 2)] 6 (qD a_Tables b c d z0 y0 r1) := by
        refine XA.step E0_ok [3] (by kernel_rfl) rfl (by kernel_rfl) ⟨?_, trivial⟩
        ·refine XR.rd E0_ok [3, 8, 10, 12, 13, 46, 52] rfl (v := pp 0 ((Int.toNat b) * 2)) (v_idx (s := 2) (x := (src 112 (.tmp 44))) (y := (src 112 (.tmp 45))) (b := 0) (o := 0) (len := a_Tables.length) (cap := a_Tables.length) (ik := .i64) (i := b) (off := (Int.toNat b) * 2) (d := (some (path 12 46))) (by kernel_rfl) (by kernel_rfl) (by kernel_rfl) b4 (by omega)) (σ' := [(3, .bool d), (8, pp 1 0), (10, s0 2 r1.1.length), (12, pp 3 0), (13, pp 4 0), (46, pp 0 ((Int.toNat b) * 2)), (52, aT (gT a_Tables c))]) (by kernel_rfl) ?_
         refine dQ ?_
         refine ⟨rfl, ?_⟩
         show XA _ _ _ _ _ _ _ _ _ _
         exact xa28
       have xa42 : XA E0 112 1 (opsOf (lft (rgt (rgt (rgt f30_C30))))) 5 #[true, true, true, false, false, true, true, true, true, true, true, false, false, false] [(3, .bool d), (8, pp 1 0), (10, s0 2 r1.1.length), (12, pp 3 0), (44, s0 0 a_Tables.length), (45, ii b), (52, aT (gT a_Tables c))] [(4, nP), (3, z2), (2, rU r1.1), (1, pN 4), (0, rc encP a_Tables z0 y0 2)] 5 (qD a_Tables b c d z0 y0 r1) := by
        refine XA.step E0_ok [3, 11] (by kernel_rfl) rfl (by kernel_rfl) ⟨?_, ?_, trivial⟩
        ·refine XR.rd E0_ok [3, 8, 10, 12, 46, 52] rfl (v := pp 0 ((Int.toNat b) * 2)) (v_idx (s := 2) (x := (src 112 (.tmp 44))) (y := (src 112 (.tmp 45))) (b := 0) (o := 0) (len := a_Tables.length) (cap := a_Tables.length) (ik := .i64) (i := b) (off := (Int.toNat b) * 2) (d := (some (path 12 46))) (by kernel_rfl) (by kernel_rfl) (by kernel_rfl) b4 (by omega)) (σ' := [(3, .bool d), (8, pp 1 0), (10, s0 2 r1.1.length), (12, pp 3 0), (46, pp 0 ((Int.toNat b) * 2)), (52, aT (gT a_Tables c))]) (by kernel_rfl) ?_
         refine dQ ?_
         refine ⟨rfl, ?_⟩
         show XA _ _ _ _ _ _ _ _ _ _
         exact xa27
        ·refine rT 1 [(3, .bool d), (8, pp 1 0), (10, s0 2 r1.1.length), (12, pp 3 0), (13, pp 5 0), (44, s0 0 a_Tables.length), (45, ii b), (52, aT (gT a_Tables c))] [(5, z2), (4, nP), (3, z2), (2, rU r1.1), (1, pN 4), (0, rc encP a_Tables z0 y0 2)] 6 ?_
         refine dQ ?_
         refine ⟨rfl, ?_⟩
         show XA _ _ _ _ _ _ _ _ _ _
         refine XA.ren (σ' := [(3, .bool d), (8, pp 1 0), (10, s0 2 r1.1.length), (12, pp 3 0), (13, pp 4 0), (44, s0 0 a_Tables.length), (45, ii b), (52, aT (gT a_Tables c))]) (h' := [(5, nP), (4, z2), (3, z2), (2, rU r1.1), (1, pN 5), (0, rc encP a_Tables z0 y0 2)]) (c' := 6) [0, 1, 2, 3, 5, 4] (by decide) rfl ⟨rfl, rfl, rfl, rfl, rfl, rfl, rfl, rfl, trivial⟩ ⟨⟨_, _, rfl, rfl, .inl ⟨rfl, rwP⟩⟩, ⟨_, _, rfl, rfl, .inr ⟨_, _, _, _, rfl, rfl⟩⟩, ⟨_, _, rfl, rfl, .inr ⟨_, _, _, _, rfl, rfl⟩⟩, ⟨_, _, rfl, rfl, .inl ⟨rfl, rowC_scal (encI_ok .u64) _⟩⟩, ⟨_, _, rfl, rfl, .inr ⟨_, _, _, _, rfl, rfl⟩⟩, ⟨_, _, rfl, rfl, .inl ⟨rfl, rwP⟩⟩, trivial⟩ rfl ?_
         exact xa43
       have xa44 : XA E0 112 1 (opsOf (lft (rgt (rgt (rgt f30_C30))))) 5 #[true, true, true, false, false, true, true, true, true, true, false, true, false, false] [(3, .bool d), (8, pp 1 0), (10, s0 2 r1.1.length), (13, pp 3 0), (44, s0 0 a_Tables.length), (45, ii b), (52, aT (gT a_Tables c))] [(4, nP), (3, z2), (2, rU r1.1), (1, pN 4), (0, rc encP a_Tables z0 y0 2)] 5 (qD a_Tables b c d z0 y0 r1) := by
        refine XA.step E0_ok [3, 10] (by kernel_rfl) rfl (by kernel_rfl) ⟨?_, ?_, trivial⟩
        ·refine XR.rd E0_ok [3, 8, 10, 13, 46, 52] rfl (v := pp 0 ((Int.toNat b) * 2)) (v_idx (s := 2) (x := (src 112 (.tmp 44))) (y := (src 112 (.tmp 45))) (b := 0) (o := 0) (len := a_Tables.length) (cap := a_Tables.length) (ik := .i64) (i := b) (off := (Int.toNat b) * 2) (d := (some (path 12 46))) (by kernel_rfl) (by kernel_rfl) (by kernel_rfl) b4 (by omega)) (σ' := [(3, .bool d), (8, pp 1 0), (10, s0 2 r1.1.length), (13, pp 3 0), (46, pp 0 ((Int.toNat b) * 2)), (52, aT (gT a_Tables c))]) (by kernel_rfl) ?_
         refine dQ ?_
         refine ⟨rfl, ?_⟩
         show XA _ _ _ _ _ _ _ _ _ _
         exact xa29
        ·refine rT 1 [(3, .bool d), (8, pp 1 0), (10, s0 2 r1.1.length), (12, pp 5 0), (13, pp 3 0), (44, s0 0 a_Tables.length), (45, ii b), (52, aT (gT a_Tables c))] [(5, z2), (4, nP), (3, z2), (2, rU r1.1), (1, pN 4), (0, rc encP a_Tables z0 y0 2)] 6 ?_
         refine dQ ?_
         refine ⟨rfl, ?_⟩
         show XA _ _ _ _ _ _ _ _ _ _
         refine XA.ren (σ' := [(3, .bool d), (8, pp 1 0), (10, s0 2 r1.1.length), (12, pp 3 0), (13, pp 4 0), (44, s0 0 a_Tables.length), (45, ii b), (52, aT (gT a_Tables c))]) (h' := [(5, nP), (4, z2), (3, z2), (2, rU r1.1), (1, pN 5), (0, rc encP a_Tables z0 y0 2)]) (c' := 6) [0, 1, 2, 5, 3, 4] (by decide) rfl ⟨rfl, rfl, rfl, rfl, rfl, rfl, rfl, rfl, trivial⟩ ⟨⟨_, _, rfl, rfl, .inl ⟨rfl, rwP⟩⟩, ⟨_, _, rfl, rfl, .inr ⟨_, _, _, _, rfl, rfl⟩⟩, ⟨_, _, rfl, rfl, .inr ⟨_, _, _, _, rfl, rfl⟩⟩, ⟨_, _, rfl, rfl, .inl ⟨rfl, rowC_scal (encI_ok .u64) _⟩⟩, ⟨_, _, rfl, rfl, .inr ⟨_, _, _, _, rfl, rfl⟩⟩, ⟨_, _, rfl, rfl, .inl ⟨rfl, rwP⟩⟩, trivial⟩ rfl ?_
         exact xa43
       have xa41 : XA E0 112 1 (opsOf (lft (rgt (rgt (rgt f30_C30))))) 6 #[true, true, true, false, false, true, true, true, true, true, false, false, false, false] [(3, .bool d), (8, pp 1 0), (10, s0 2 r1.1.length), (44, s0 0 a_Tables.length), (45, ii b), (52, aT (gT a_Tables c))] [(3, nP), (2, rU r1.1), (1, pN 3), (0, rc encP a_Tables z0 y0 2)] 4 (qD a_Tables b c d z0 y0 r1) := by
        refine XA.step E0_ok [3, 10, 11] (by kernel_rfl) rfl (by kernel_rfl) ⟨?_, ?_, ?_, trivial⟩
        ·refine XR.rd E0_ok [3, 8, 10, 46, 52] rfl (v := pp 0 ((Int.toNat b) * 2)) (v_idx (s := 2) (x := (src 112 (.tmp 44))) (y := (src 112 (.tmp 45))) (b := 0) (o := 0) (len := a_Tables.length) (cap := a_Tables.length) (ik := .i64) (i := b) (off := (Int.toNat b) * 2) (d := (some (path 12 46))) (by kernel_rfl) (by kernel_rfl) (by kernel_rfl) b4 (by omega)) (σ' := [(3, .bool d), (8, pp 1 0), (10, s0 2 r1.1.length), (46, pp 0 ((Int.toNat b) * 2)), (52, aT (gT a_Tables c))]) (by kernel_rfl) ?_
         refine dQ ?_
         refine ⟨rfl, ?_⟩
         show XA _ _ _ _ _ _ _ _ _ _
         exact xa26
        ·refine rT 1 [(3, .bool d), (8, pp 1 0), (10, s0 2 r1.1.length), (12, pp 4 0), (44, s0 0 a_Tables.length), (45, ii b), (52, aT (gT a_Tables c))] [(4, z2), (3, nP), (2, rU r1.1), (1, pN 3), (0, rc encP a_Tables z0 y0 2)] 5 ?_
         refine dQ ?_
         refine ⟨rfl, ?_⟩
         show XA _ _ _ _ _ _ _ _ _ _
         refine XA.ren (σ' := [(3, .bool d), (8, pp 1 0), (10, s0 2 r1.1.length), (12, pp 3 0), (44, s0 0 a_Tables.length), (45, ii b), (52, aT (gT a_Tables c))]) (h' := [(4, nP), (3, z2), (2, rU r1.1), (1, pN 4), (0, rc encP a_Tables z0 y0 2)]) (c' := 5) [0, 1, 2, 4, 3] (by decide) rfl ⟨rfl, rfl, rfl, rfl, rfl, rfl, rfl, trivial⟩ ⟨⟨_, _, rfl, rfl, .inl ⟨rfl, rwP⟩⟩, ⟨_, _, rfl, rfl, .inr ⟨_, _, _, _, rfl, rfl⟩⟩, ⟨_, _, rfl, rfl, .inl ⟨rfl, rowC_scal (encI_ok .u64) _⟩⟩, ⟨_, _, rfl, rfl, .inr ⟨_, _, _, _, rfl, rfl⟩⟩, ⟨_, _, rfl, rfl, .inl ⟨rfl, rwP⟩⟩, trivial⟩ rfl ?_
         exact xa42
        ·refine rT 1 [(3, .bool d), (8, pp 1 0), (10, s0 2 r1.1.length), (13, pp 4 0), (44, s0 0 a_Tables.length), (45, ii b), (52, aT (gT a_Tables c))] [(4, z2), (3, nP), (2, rU r1.1), (1, pN 3), (0, rc encP a_Tables z0 y0 2)] 5 ?_
         refine dQ ?_
         refine ⟨rfl, ?_⟩
         show XA _ _ _ _ _ _ _ _ _ _
         refine XA.ren (σ' := [(3, .bool d), (8, pp 1 0), (10, s0 2 r1.1.length), (13, pp 3 0), (44, s0 0 a_Tables.length), (45, ii b), (52, aT (gT a_Tables c))]) (h' := [(4, nP), (3, z2), (2, rU r1.1), (1, pN 4), (0, rc encP a_Tables z0 y0 2)]) (c' := 5) [0, 1, 2, 4, 3] (by decide) rfl ⟨rfl, rfl, rfl, rfl, rfl, rfl, rfl, trivial⟩ ⟨⟨_, _, rfl, rfl, .inl ⟨rfl, rwP⟩⟩, ⟨_, _, rfl, rfl, .inr ⟨_, _, _, _, rfl, rfl⟩⟩, ⟨_, _, rfl, rfl, .inl ⟨rfl, rowC_scal (encI_ok .u64) _⟩⟩, ⟨_, _, rfl, rfl, .inr ⟨_, _, _, _, rfl, rfl⟩⟩, ⟨_, _, rfl, rfl, .inl ⟨rfl, rwP⟩⟩, trivial⟩ rfl ?_
         exact xa44
       have xa46 : XA E0 112 1 (opsOf (lft (rgt (rgt (rgt f30_C30))))) 5 #[true, true, true, false, false, true, true, true, true, false, true, true, false, false] [(3, .bool d), (8, pp 1 0), (10, s0 2 r1.1.length), (12, pp 3 0), (13, pp 4 0), (44, s0 0 a_Tables.length), (45, ii b), (51, pp 0 ((Int.toNat c) * 2))] [(5, nP), (4, z2), (3, z2), (2, rU r1.1), (1, pN 5), (0, rc encP a_Tables z0 y0 2)] 6 (qD a_Tables b c d z0 y0 r1) := by
        refine XA.step E0_ok [3, 9] (by kernel_rfl) rfl (by kernel_rfl) ⟨?_, ?_, trivial⟩
        ·refine XR.rd E0_ok [3, 8, 10, 12, 13, 46, 51] rfl (v := pp 0 ((Int.toNat b) * 2)) (v_idx (s := 2) (x := (src 112 (.tmp 44))) (y := (src 112 (.tmp 45))) (b := 0) (o := 0) (len := a_Tables.length) (cap := a_Tables.length) (ik := .i64) (i := b) (off := (Int.toNat b) * 2) (d := (some (path 12 46))) (by kernel_rfl) (by kernel_rfl) (by kernel_rfl) b4 (by omega)) (σ' := [(3, .bool d), (8, pp 1 0), (10, s0 2 r1.1.length), (12, pp 3 0), (13, pp 4 0), (46, pp 0 ((Int.toNat b) * 2)), (51, pp 0 ((Int.toNat c) * 2))]) (by kernel_rfl) ?_
         refine dQ ?_
         refine ⟨rfl, ?_⟩
         show XA _ _ _ _ _ _ _ _ _ _
         exact xa31
        ·refine XR.rd E0_ok [3, 8, 10, 12, 13, 44, 45, 52] rfl (v := aT (gT a_Tables c)) (v_loadN encP_ok (x := (src 112 (.tmp 51))) (b := 0) (off := (Int.toNat c) * 2) (xs := a_Tables) (fz := z0) (e := y0) (es := 2) (d := (some (path 12 52))) (by kernel_rfl) (by kernel_rfl) (by kernel_rfl) (Int.toNat c) (0, 0) (by first | rfl | omega) (row_len (inRow_toNat b5) (by simp)) rfl) (σ' := [(3, .bool d), (8, pp 1 0), (10, s0 2 r1.1.length), (12, pp 3 0), (13, pp 4 0), (44, s0 0 a_Tables.length), (45, ii b), (52, aT (gT a_Tables c))]) (by kernel_rfl) ?_
         refine dQ ?_
         refine ⟨rfl, ?_⟩
         show XA _ _ _ _ _ _ _ _ _ _
         exact xa43
       have xa45 : XA E0 112 1 (opsOf (lft (rgt (rgt (rgt f30_C30))))) 6 #[true, true, true, false, false, true, true, true, true, false, true, false, false, false] [(3, .bool d), (8, pp 1 0), (10, s0 2 r1.1.length), (12, pp 3 0), (44, s0 0 a_Tables.length), (45, ii b), (51, pp 0 ((Int.toNat c) * 2))] [(4, nP), (3, z2), (2, rU r1.1), (1, pN 4), (0, rc encP a_Tables z0 y0 2)] 5 (qD a_Tables b c d z0 y0 r1) := by
        refine XA.step E0_ok [3, 9, 11] (by kernel_rfl) rfl (by kernel_rfl) ⟨?_, ?_, ?_, trivial⟩
        ·refine XR.rd E0_ok [3, 8, 10, 12, 46, 51] rfl (v := pp 0 ((Int.toNat b) * 2)) (v_idx (s := 2) (x := (src 112 (.tmp 44))) (y := (src 112 (.tmp 45))) (b := 0) (o := 0) (len := a_Tables.length) (cap := a_Tables.length) (ik := .i64) (i := b) (off := (Int.toNat b) * 2) (d := (some (path 12 46))) (by kernel_rfl) (by kernel_rfl) (by kernel_rfl) b4 (by omega)) (σ' := [(3, .bool d), (8, pp 1 0), (10, s0 2 r1.1.length), (12, pp 3 0), (46, pp 0 ((Int.toNat b) * 2)), (51, pp 0 ((Int.toNat c) * 2))]) (by kernel_rfl) ?_
         refine dQ ?_
         refine ⟨rfl, ?_⟩
         show XA _ _ _ _ _ _ _ _ _ _
         exact xa30
        ·refine XR.rd E0_ok [3, 8, 10, 12, 44, 45, 52] rfl (v := aT (gT a_Tables c)) (v_loadN encP_ok (x := (src 112 (.tmp 51))) (b := 0) (off := (Int.toNat c) * 2) (xs := a_Tables) (fz := z0) (e := y0) (es := 2) (d := (some (path 12 52))) (by kernel_rfl) (by kernel_rfl) (by kernel_rfl) (Int.toNat c) (0, 0) (by first | rfl | omega) (row_len (inRow_toNat b5) (by simp)) rfl) (σ' := [(3, .bool d), (8, pp 1 0), (10, s0 2 r1.1.length), (12, pp 3 0), (44, s0 0 a_Tables.length), (45, ii b), (52, aT (gT a_Tables c))]) (by kernel_rfl) ?_
         refine dQ ?_
         refine ⟨rfl, ?_⟩
         show XA _ _ _ _ _ _ _ _ _ _
         exact xa42
        ·refine rT 1 [(3, .bool d), (8, pp 1 0), (10, s0 2 r1.1.length), (12, pp 3 0), (13, pp 5 0), (44, s0 0 a_Tables.length), (45, ii b), (51, pp 0 ((Int.toNat c) * 2))] [(5, z2), (4, nP), (3, z2), (2, rU r1.1), (1, pN 4), (0, rc encP a_Tables z0 y0 2)] 6 ?_
         refine dQ ?_
         refine ⟨rfl, ?_⟩
         show XA _ _ _ _ _ _ _ _ _ _
         refine XA.ren (σ' := [(3, .bool d), (8, pp 1 0), (10, s0 2 r1.1.length), (12, pp 3 0), (13, pp 4 0), (44, s0 0 a_Tables.length), (45, ii b), (51, pp 0 ((Int.toNat c) * 2))]) (h' := [(5, nP), (4, z2), (3, z2), (2, rU r1.1), (1, pN 5), (0, rc encP a_Tables z0 y0 2)]) (c' := 6) [0, 1, 2, 3, 5, 4] (by decide) rfl ⟨rfl, rfl, rfl, rfl, rfl, rfl, rfl, rfl, trivial⟩ ⟨⟨_, _, rfl, rfl, .inl ⟨rfl, rwP⟩⟩, ⟨_, _, rfl, rfl, .inr ⟨_, _, _, _, rfl, rfl⟩⟩, ⟨_, _, rfl, rfl, .inr ⟨_, _, _, _, rfl, rfl⟩⟩, ⟨_, _, rfl, rfl, .inl ⟨rfl, rowC_scal (encI_ok .u64) _⟩⟩, ⟨_, _, rfl, rfl, .inr ⟨_, _, _, _, rfl, rfl⟩⟩, ⟨_, _, rfl, rfl, .inl ⟨rfl, rwP⟩⟩, trivial⟩ rfl ?_
         exact xa46
       have xa47 : XA E0 112 1 (opsOf (lft (rgt (rgt (rgt f30_C30))))) 6 #[true, true, true, false, false, true, true, true, true, false, false, true, false, false] [(3, .bool d), (8, pp 1 0), (10, s0 2 r1.1.length), (13, pp 3 0), (44, s0 0 a_Tables.length), (45, ii b), (51, pp 0 ((Int.toNat c) * 2))] [(4, nP), (3, z2), (2, rU r1.1), (1, pN 4), (0, rc encP a_Tables z0 y0 2)] 5 (qD a_Tables b c d z0 y0 r1) := by
        refine XA.step E0_ok [3, 9, 10] (by kernel_rfl) rfl (by kernel_rfl) ⟨?_, ?_, ?_, trivial⟩
        ·refine XR.rd E0_ok [3, 8, 10, 13, 46, 51] rfl (v := pp 0 ((Int.toNat b) * 2)) (v_idx (s := 2) (x := (src 112 (.tmp 44))) (y := (src 112 (.tmp 45))) (b := 0) (o := 0) (len := a_Tables.length) (cap := a_Tables.length) (ik := .i64) (i := b) (off := (Int.toNat b) * 2) (d := (some (path 12 46))) (by kernel_rfl) (by kernel_rfl) (by kernel_rfl) b4 (by omega)) (σ' := [(3, .bool d), (8, pp 1 0), (10, s0 2 r1.1.length), (13, pp 3 0), (46, pp 0 ((Int.toNat b) * 2)), (51, pp 0 ((Int.toNat c) * 2))]) (by kernel_rfl) ?_
         refine dQ ?_
         refine ⟨rfl, ?_⟩
         show XA _ _ _ _ _ _ _ _ _ _
         exact xa32
        ·refine XR.rd E0_ok [3, 8, 10, 13, 44, 45, 52] rfl (v := aT (gT a_Tables c)) (v_loadN encP_ok (x := (src 112 (.tmp 51))) (b := 0) (off := (Int.toNat c) * 2) (xs := a_Tables) (fz := z0) (e := y0) (es := 2) (d := (some (path 12 52))) (by kernel_rfl) (by kernel_rfl) (by kernel_rfl) (Int.toNat c) (0, 0) (by first | rfl | omega) (row_len (inRow_toNat b5) (by simp)) rfl) (σ' := [(3, .bool d), (8, pp 1 0), (10, s0 2 r1.1.length), (13, pp 3 0), (44, s0 0 a_Tables.length), (45, ii b), (52, aT (gT a_Tables c))]) (by kernel_rfl) ?_
         refine dQ ?_
         refine ⟨rfl, ?_⟩
         show XA _ _ _ _ _ _ _ _ _ _
         exact xa44
        ·refine rT 1 [(3, .bool d), (8, pp 1 0), (10, s0 2 r1.1.length), (12, pp 5 0), (13, pp 3 0), (44, s0 0 a_Tables.length), (45, ii b), (51, pp 0 ((Int.toNat c) * 2))] [(5, z2), (4, nP), (3, z2), (2, rU r1.1), (1, pN 4), (0, rc encP a_Tables z0 y0 2)] 6 ?_
         refine dQ ?_
         refine ⟨rfl, ?_⟩
         show XA _ _ _ _ _ _ _ _ _ _
         refine XA.ren (σ' := [(3, .bool d), (8, pp 1 0), (10, s0 2 r1.1.length), (12, pp 3 0), (13, pp 4 0), (44, s0 0 a_Tables.length), (45, ii b), (51, pp 0 ((Int.toNat c) * 2))]) (h' := [(5, nP), (4, z2), (3, z2), (2, rU r1.1), (1, pN 5), (0, rc encP a_Tables z0 y0 2)]) (c' := 6) [0, 1, 2, 5, 3, 4] (by decide) rfl ⟨rfl, rfl, rfl, rfl, rfl, rfl, rfl, rfl, trivial⟩ ⟨⟨_, _, rfl, rfl, .inl ⟨rfl, rwP⟩⟩, ⟨_, _, rfl, rfl, .inr ⟨_, _, _, _, rfl, rfl⟩⟩, ⟨_, _, rfl, rfl, .inr ⟨_, _, _, _, rfl, rfl⟩⟩, ⟨_, _, rfl, rfl, .inl ⟨rfl, rowC_scal (encI_ok .u64) _⟩⟩, ⟨_, _, rfl, rfl, .inr ⟨_, _, _, _, rfl, rfl⟩⟩, ⟨_, _, rfl, rfl, .inl ⟨rfl, rwP⟩⟩, trivial⟩ rfl ?_
         exact xa46
       have xa40 : XA E0 112 1 (opsOf (lft (rgt (rgt (rgt f30_C30))))) 7 #[true, true, true, false, false, true, true, true, true, false, false, false, false, false] [(3, .bool d), (8, pp 1 0), (10, s0 2 r1.1.length), (44, s0 0 a_Tables.length), (45, ii b), (51, pp 0 ((Int.toNat c) * 2))] [(3, nP), (2, rU r1.1), (1, pN 3), (0, rc encP a_Tables z0 y0 2)] 4 (qD a_Tables b c d z0 y0 r1) := by
        refine XA.step E0_ok [3, 9, 10, 11] (by kernel_rfl) rfl (by kernel_rfl) ⟨?_, ?_, ?_, ?_, trivial⟩
        ·refine XR.rd E0_ok [3, 8, 10, 46, 51] rfl (v := pp 0 ((Int.toNat b) * 2)) (v_idx (s := 2) (x := (src 112 (.tmp 44))) (y := (src 112 (.tmp 45))) (b := 0) (o := 0) (len := a_Tables.length) (cap := a_Tables.length) (ik := .i64) (i := b) (off := (Int.toNat b) * 2) (d := (some (path 12 46))) (by kernel_rfl) (by kernel_rfl) (by kernel_rfl) b4 (by omega)) (σ' := [(3, .bool d), (8, pp 1 0), (10, s0 2 r1.1.length), (46, pp 0 ((Int.toNat b) * 2)), (51, pp 0 ((Int.toNat c) * 2))]) (by kernel_rfl) ?_
         refine dQ ?_
         refine ⟨rfl, ?_⟩
         show XA _ _ _ _ _ _ _ _ _ _
         exact xa25
        ·refine XR.rd E0_ok [3, 8, 10, 44, 45, 52] rfl (v := aT (gT a_Tables c)) (v_loadN encP_ok (x := (src 112 (.tmp 51))) (b := 0) (off := (Int.toNat c) * 2) (xs := a_Tables) (fz := z0) (e := y0) (es := 2) (d := (some (path 12 52))) (by kernel_rfl) (by kernel_rfl) (by kernel_rfl) (Int.toNat c) (0, 0) (by first | rfl | omega) (row_len (inRow_toNat b5) (by simp)) rfl) (σ' := [(3, .bool d), (8, pp 1 0), (10, s0 2 r1.1.length), (44, s0 0 a_Tables.length), (45, ii b), (52, aT (gT a_Tables c))]) (by kernel_rfl) ?_
         refine dQ ?_
         refine ⟨rfl, ?_⟩
         show XA _ _ _ _ _ _ _ _ _ _
         exact xa41
        ·refine rT 1 [(3, .bool d), (8, pp 1 0), (10, s0 2 r1.1.length), (12, pp 4 0), (44, s0 0 a_Tables.length), (45, ii b), (51, pp 0 ((Int.toNat c) * 2))] [(4, z2), (3, nP), (2, rU r1.1), (1, pN 3), (0, rc encP a_Tables z0 y0 2)] 5 ?_
         refine dQ ?_
         refine ⟨rfl, ?_⟩
         show XA _ _ _ _ _ _ _ _ _ _
         refine XA.ren (σ' := [(3, .bool d), (8, pp 1 0), (10, s0 2 r1.1.length), (12, pp 3 0), (44, s0 0 a_Tables.length), (45, ii b), (51, pp 0 ((Int.toNat c) * 2))]) (h' := [(4, nP), (3, z2), (2, rU r1.1), (1, pN 4), (0, rc encP a_Tables z0 y0 2)]) (c' := 5) [0, 1, 2, 4, 3] (by decide) rfl ⟨rfl, rfl, rfl, rfl, rfl, rfl, rfl, trivial⟩ ⟨⟨_, _, rfl, rfl, .inl ⟨rfl, rwP⟩⟩, ⟨_, _, rfl, rfl, .inr ⟨_, _, _, _, rfl, rfl⟩⟩, ⟨_, _, rfl, rfl, .inl ⟨rfl, rowC_scal (encI_ok .u64) _⟩⟩, ⟨_, _, rfl, rfl, .inr ⟨_, _, _, _, rfl, rfl⟩⟩, ⟨_, _, rfl, rfl, .inl ⟨rfl, rwP⟩⟩, trivial⟩ rfl ?_
         exact xa45
        ·refine rT 1 [(3, .bool d), (8, pp 1 0), (10, s0 2 r1.1.length), (13, pp 4 0), (44, s0 0 a_Tables.length), (45, ii b), (51, pp 0 ((Int.toNat c) * 2))] [(4, z2), (3, nP), (2, rU r1.1), (1, pN 3), (0, rc encP a_Tables z0 y0 2)] 5 ?_
         refine dQ ?_
         refine ⟨rfl, ?_⟩
         show XA _ _ _ _ _ _ _ _ _ _
         refine XA.ren (σ' := [(3, .bool d), (8, pp 1 0), (10, s0 2 r1.1.length), (13, pp 3 0), (44, s0 0 a_Tables.length), (45, ii b), (51, pp 0 ((Int.toNat c) * 2))]) (h' := [(4, nP), (3, z2), (2, rU r1.1), (1, pN 4), (0, rc encP a_Tables z0 y0 2)]) (c' := 5) [0, 1, 2, 4, 3] (by decide) rfl ⟨rfl, rfl, rfl, rfl, rfl, rfl, rfl, trivial⟩ ⟨⟨_, _, rfl, rfl, .inl ⟨rfl, rwP⟩⟩, ⟨_, _, rfl, rfl, .inr ⟨_, _, _, _, rfl, rfl⟩⟩, ⟨_, _, rfl, rfl, .inl ⟨rfl, rowC_scal (encI_ok .u64) _⟩⟩, ⟨_, _, rfl, rfl, .inr ⟨_, _, _, _, rfl, rfl⟩⟩, ⟨_, _, rfl, rfl, .inl ⟨rfl, rwP⟩⟩, trivial⟩ rfl ?_
         exact xa47
       have xa49 : XA E0 112 1 (opsOf (lft (rgt (rgt (rgt f30_C30))))) 6 #[true, true, true, false, false, true, true, true, false, false, true, true, false, false] [(3, .bool d), (8, pp 1 0), (10, s0 2 r1.1.length), (12, pp 3 0), (13, pp 4 0), (44, s0 0 a_Tables.length), (45, ii b), (49, s0 0 a_Tables.length), (50, ii c)] [(5, nP), (4, z2), (3, z2), (2, rU r1.1), (1, pN 5), (0, rc encP a_Tables z0 y0 2)] 6 (qD a_Tables b c d z0 y0 r1) := by
        refine XA.step E0_ok [3, 8] (by kernel_rfl) rfl (by kernel_rfl) ⟨?_, ?_, trivial⟩
        ·refine XR.rd E0_ok [3, 8, 10, 12, 13, 46, 49, 50] rfl (v := pp 0 ((Int.toNat b) * 2)) (v_idx (s := 2) (x := (src 112 (.tmp 44))) (y := (src 112 (.tmp 45))) (b := 0) (o := 0) (len := a_Tables.length) (cap := a_Tables.length) (ik := .i64) (i := b) (off := (Int.toNat b) * 2) (d := (some (path 12 46))) (by kernel_rfl) (by kernel_rfl) (by kernel_rfl) b4 (by omega)) (σ' := [(3, .bool d), (8, pp 1 0), (10, s0 2 r1.1.length), (12, pp 3 0), (13, pp 4 0), (46, pp 0 ((Int.toNat b) * 2)), (49, s0 0 a_Tables.length), (50, ii c)]) (by kernel_rfl) ?_
         refine dQ ?_
         refine ⟨rfl, ?_⟩
         show XA _ _ _ _ _ _ _ _ _ _
         exact xa34
        ·refine XR.rd E0_ok [3, 8, 10, 12, 13, 44, 45, 51] rfl (v := pp 0 ((Int.toNat c) * 2)) (v_idx (s := 2) (x := (src 112 (.tmp 49))) (y := (src 112 (.tmp 50))) (b := 0) (o := 0) (len := a_Tables.length) (cap := a_Tables.length) (ik := .i64) (i := c) (off := (Int.toNat c) * 2) (d := (some (path 12 51))) (by kernel_rfl) (by kernel_rfl) (by kernel_rfl) b5 (by omega)) (σ' := [(3, .bool d), (8, pp 1 0), (10, s0 2 r1.1.length), (12, pp 3 0), (13, pp 4 0), (44, s0 0 a_Tables.length), (45, ii b), (51, pp 0 ((Int.toNat c) * 2))]) (by kernel_rfl) ?_
         refine dQ ?_
         refine ⟨rfl, ?_⟩
         show XA _ _ _ _ _ _ _ _ _ _
         exact xa46
       have xa48 : XA E0 112 1 (opsOf (lft (rgt (rgt (rgt f30_C30))))) 7 #[true, true, true, false, false, true, true, true, false, false, true, false, false, false] [(3, .bool d), (8, pp 1 0), (10, s0 2 r1.1.length), (12, pp 3 0), (44, s0 0 a_Tables.length), (45, ii b), (49, s0 0 a_Tables.length), (50, ii c)] [(4, nP), (3, z2), (2, rU r1.1), (1, pN 4), (0, rc encP a_Tables z0 y0 2)] 5 (qD a_Tables b c d z0 y0 r1) := by
        refine XA.step E0_ok [3, 8, 11] (by kernel_rfl) rfl (by kernel_rfl) ⟨?_, ?_, ?_, trivial⟩
        ·refine XR.rd E0_ok [3, 8, 10, 12, 46, 49, 50] rfl (v := pp 0 ((Int.toNat b) * 2)) (v_idx (s := 2) (x := (src 112 (.tmp 44))) (y := (src 112 (.tmp 45))) (b := 0) (o := 0) (len := a_Tables.length) (cap := a_Tables.length) (ik := .i64) (i := b) (off := (Int.toNat b) * 2) (d := (some (path 12 46))) (by kernel_rfl) (by kernel_rfl) (by kernel_rfl) b4 (by omega)) (σ' := [(3, .bool d), (8, pp 1 0), (10, s0 2 r1.1.length), (12, pp 3 0), (46, pp 0 ((Int.toNat b) * 2)), (49, s0 0 a_Tables.length), (50, ii c)]) (by kernel_rfl) ?_
         refine dQ ?_
         refine ⟨rfl, ?_⟩
         show XA _ _ _ _ _ _ _ _ _ _
         exact xa33
        ·refine XR.rd E0_ok [3, 8, 10, 12, 44, 45, 51] rfl (v := pp 0 ((Int.toNat c) * 2)) (v_idx (s := 2) (x := (src 112 (.tmp 49))) (y := (src 112 (.tmp 50))) (b := 0) (o := 0) (len := a_Tables.length) (cap := a_Tables.length) (ik := .i64) (i := c) (off := (Int.toNat c) * 2) (d := (some (path 12 51))) (by kernel_rfl) (by kernel_rfl) (by kernel_rfl) b5 (by omega)) (σ' := [(3, .bool d), (8, pp 1 0), (10, s0 2 r1.1.length), (12, pp 3 0), (44, s0 0 a_Tables.length), (45, ii b), (51, pp 0 ((Int.toNat c) * 2))]) (by kernel_rfl) ?_
         refine dQ ?_
         refine ⟨rfl, ?_⟩
         show XA _ _ _ _ _ _ _ _ _ _
         exact xa45
        ·refine rT 1 [(3, .bool d), (8, pp 1 0), (10, s0 2 r1.1.length), (12, pp 3 0), (13, pp 5 0), (44, s0 0 a_Tables.length), (45, ii b), (49, s0 0 a_Tables.length), (50, ii c)] [(5, z2), (4, nP), (3, z2), (2, rU r1.1), (1, pN 4), (0, rc encP a_Tables z0 y0 2)] 6 ?_
         refine dQ ?_
         refine ⟨rfl, ?_⟩
         show XA _ _ _ _ _ _ _ _ _ _
         refine XA.ren (σ' := [(3, .bool d), (8, pp 1 0), (10, s0 2 r1.1.length), (12, pp 3 0), (13, pp 4 0), (44, s0 0 a_Tables.length), (45, ii b), (49, s0 0 a_Tables.length), (50, ii c)]) (h' := [(5, nP), (4, z2), (3, z2), (2, rU r1.1), (1, pN 5), (0, rc encP a_Tables z0 y0 2)]) (c' := 6) [0, 1, 2, 3, 5, 4] (by decide) rfl ⟨rfl, rfl, rfl, rfl, rfl, rfl, rfl, rfl, rfl, trivial⟩ ⟨⟨_, _, rfl, rfl, .inl ⟨rfl, rwP⟩⟩, ⟨_, _, rfl, rfl, .inr ⟨_, _, _, _, rfl, rfl⟩⟩, ⟨_, _, rfl, rfl, .inr ⟨_, _, _, _, rfl, rfl⟩⟩, ⟨_, _, rfl, rfl, .inl ⟨rfl, rowC_scal (encI_ok .u64) _⟩⟩, ⟨_, _, rfl, rfl, .inr ⟨_, _, _, _, rfl, rfl⟩⟩, ⟨_, _, rfl, rfl, .inl ⟨rfl, rwP⟩⟩, trivial⟩ rfl ?_
         exact xa49
       have xa50 : XA E0 112 1 (opsOf (lft (rgt (rgt (rgt f30_C30))))) 7 #[true, true, true, false, false, true, true, true, false, false, false, true, false, false] [(3, .bool d), (8, pp 1 0), (10, s0 2 r1.1.length), (13, pp 3 0), (44, s0 0 a_Tables.length), (45, ii b), (49, s0 0 a_Tables.length), (50, ii c)] [(4, nP), (3, z2), (2, rU r1.1), (1, pN 4), (0, rc encP a_Tables z0 y0 2)] 5 (qD a_Tables b c d z0 y0 r1) := by
        refine XA.step E0_ok [3, 8, 10] (by kernel_rfl) rfl (by kernel_rfl) ⟨?_, ?_, ?_, trivial⟩
        ·refine XR.rd E0_ok [3, 8, 10, 13, 46, 49, 50] rfl (v := pp 0 ((Int.toNat b) * 2)) (v_idx (s := 2) (x := (src 112 (.tmp 44))) (y := (src 112 (.tmp 45))) (b := 0) (o := 0) (len := a_Tables.length) (cap := a_Tables.length) (ik := .i64) (i := b) (off := (Int.toNat b) * 2) (d := (some (path 12 46))) (by kernel_rfl) (by kernel_rfl) (by kernel_rfl) b4 (by omega)) (σ' := [(3, .bool d), (8, pp 1 0), (10, s0 2 r1.1.length), (13, pp 3 0), (46, pp 0 ((Int.toNat b) * 2)), (49, s0 0 a_Tables.length), (50, ii c)]) (by kernel_rfl) ?_
         refine dQ ?_
         refine ⟨rfl, ?_⟩
         show XA _ _ _ _ _ _ _ _ _ _
         exact xa35
        ·refine XR.rd E0_ok [3, 8, 10, 13, 44, 45, 51] rfl (v := pp 0 ((Int.toNat c) * 2)) (v_idx (s := 2) (x := (src 112 (.tmp 49))) (y := (src 112 (.tmp 50))) (b := 0) (o := 0) (len := a_Tables.length) (cap := a_Tables.length) (ik := .i64) (i := c) (off := (Int.toNat c) * 2) (d := (some (path 12 51))) (by kernel_rfl) (by kernel_rfl) (by kernel_rfl) b5 (by omega)) (σ' := [(3, .bool d), (8, pp 1 0), (10, s0 2 r1.1.length), (13, pp 3 0), (44, s0 0 a_Tables.length), (45, ii b), (51, pp 0 ((Int.toNat c) * 2))]) (by kernel_rfl) ?_
         refine dQ ?_
         refine ⟨rfl, ?_⟩
         show XA _ _ _ _ _ _ _ _ _ _
         exact xa47
        ·refine rT 1 [(3, .bool d), (8, pp 1 0), (10, s0 2 r1.1.length), (12, pp 5 0), (13, pp 3 0), (44, s0 0 a_Tables.length), (45, ii b), (49, s0 0 a_Tables.length), (50, ii c)] [(5, z2), (4, nP), (3, z2), (2, rU r1.1), (1, pN 4), (0, rc encP a_Tables z0 y0 2)] 6 ?_
         refine dQ ?_
         refine ⟨rfl, ?_⟩
         show XA _ _ _ _ _ _ _ _ _ _
         refine XA.ren (σ' := [(3, .bool d), (8, pp 1 0), (10, s0 2 r1.1.length), (12, pp 3 0), (13, pp 4 0), (44, s0 0 a_Tables.length), (45, ii b), (49, s0 0 a_Tables.length), (50, ii c)]) (h' := [(5, nP), (4, z2), (3, z2), (2, rU r1.1), (1, pN 5), (0, rc encP a_Tables z0 y0 2)]) (c' := 6) [0, 1, 2, 5, 3, 4] (by decide) rfl ⟨rfl, rfl, rfl, rfl, rfl, rfl, rfl, rfl, rfl, trivial⟩ ⟨⟨_, _, rfl, rfl, .inl ⟨rfl, rwP⟩⟩, ⟨_, _, rfl, rfl, .inr ⟨_, _, _, _, rfl, rfl⟩⟩, ⟨_, _, rfl, rfl, .inr ⟨_, _, _, _, rfl, rfl⟩⟩, ⟨_, _, rfl, rfl, .inl ⟨rfl, rowC_scal (encI_ok .u64) _⟩⟩, ⟨_, _, rfl, rfl, .inr ⟨_, _, _, _, rfl, rfl⟩⟩, ⟨_, _, rfl, rfl, .inl ⟨rfl, rwP⟩⟩, trivial⟩ rfl ?_
         exact xa49
       have xa39 : XA E0 112 1 (opsOf (lft (rgt (rgt (rgt f30_C30))))) 8 #[true, true, true, false, false, true, true, true, false, false, false, false, false, false] [(3, .bool d), (8, pp 1 0), (10, s0 2 r1.1.length), (44, s0 0 a_Tables.length), (45, ii b), (49, s0 0 a_Tables.length), (50, ii c)] [(3, nP), (2, rU r1.1), (1, pN 3), (0, rc encP a_Tables z0 y0 2)] 4 (qD a_Tables b c d z0 y0 r1) := by
        refine XA.step E0_ok [3, 8, 10, 11] (by kernel_rfl) rfl (by kernel_rfl) ⟨?_, ?_, ?_, ?_, trivial⟩
        ·refine XR.rd E0_ok [3, 8, 10, 46, 49, 50] rfl (v := pp 0 ((Int.toNat b) * 2)) (v_idx (s := 2) (x := (src 112 (.tmp 44))) (y := (src 112 (.tmp 45))) (b := 0) (o := 0) (len := a_Tables.length) (cap := a_Tables.length) (ik := .i64) (i := b) (off := (Int.toNat b) * 2) (d := (some (path 12 46))) (by kernel_rfl) (by kernel_rfl) (by kernel_rfl) b4 (by omega)) (σ' := [(3, .bool d), (8, pp 1 0), (10, s0 2 r1.1.length), (46, pp 0 ((Int.toNat b) * 2)), (49, s0 0 a_Tables.length), (50, ii c)]) (by kernel_rfl) ?_
         refine dQ ?_
         refine ⟨rfl, ?_⟩
         show XA _ _ _ _ _ _ _ _ _ _
         exact xa24
        ·refine XR.rd E0_ok [3, 8, 10, 44, 45, 51] rfl (v := pp 0 ((Int.toNat c) * 2)) (v_idx (s := 2) (x := (src 112 (.tmp 49))) (y := (src 112 (.tmp 50))) (b := 0) (o := 0) (len := a_Tables.length) (cap := a_Tables.length) (ik := .i64) (i := c) (off := (Int.toNat c) * 2) (d := (some (path 12 51))) (by kernel_rfl) (by kernel_rfl) (by kernel_rfl) b5 (by omega)) (σ' := [(3, .bool d), (8, pp 1 0), (10, s0 2 r1.1.length), (44, s0 0 a_Tables.length), (45, ii b), (51, pp 0 ((Int.toNat c) * 2))]) (by kernel_rfl) ?_
         refine dQ ?_
         refine ⟨rfl, ?_⟩
         show XA _ _ _ _ _ _ _ _ _ _
         exact xa40
        ·refine rT 1 [(3, .bool d), (8, pp 1 0), (10, s0 2 r1.1.length), (12, pp 4 0), (44, s0 0 a_Tables.length), (45, ii b), (49, s0 0 a_Tables.length), (50, ii c)] [(4, z2), (3, nP), (2, rU r1.1), (1, pN 3), (0, rc encP a_Tables z0 y0 2)] 5 ?_
         refine dQ ?_
         refine ⟨rfl, ?_⟩
         show XA _ _ _ _ _ _ _ _ _ _
         refine XA.ren (σ' := [(3, .bool d), (8, pp 1 0), (10, s0 2 r1.1.length), (12, pp 3 0), (44, s0 0 a_Tables.length), (45, ii b), (49, s0 0 a_Tables.length), (50, ii c)]) (h' := [(4, nP), (3, z2), (2, rU r1.1), (1, pN 4), (0, rc encP a_Tables z0 y0 2)]) (c' := 5) [0, 1, 2, 4, 3] (by decide) rfl ⟨rfl, rfl, rfl, rfl, rfl, rfl, rfl, rfl, trivial⟩ ⟨⟨_, _, rfl, rfl, .inl ⟨rfl, rwP⟩⟩, ⟨_, _, rfl, rfl, .inr ⟨_, _, _, _, rfl, rfl⟩⟩, ⟨_, _, rfl, rfl, .inl ⟨rfl, rowC_scal (encI_ok .u64) _⟩⟩, ⟨_, _, rfl, rfl, .inr ⟨_, _, _, _, rfl, rfl⟩⟩, ⟨_, _, rfl, rfl, .inl ⟨rfl, rwP⟩⟩, trivial⟩ rfl ?_
         exact xa48
        ·refine rT 1 [(3, .bool d), (8, pp 1 0), (10, s0 2 r1.1.length), (13, pp 4 0), (44, s0 0 a_Tables.length), (45, ii b), (49, s0 0 a_Tables.length), (50, ii c)] [(4, z2), (3, nP), (2, rU r1.1), (1, pN 3), (0, rc encP a_Tables z0 y0 2)] 5 ?_
         refine dQ ?_
         refine ⟨rfl, ?_⟩
         show XA _ _ _ _ _ _ _ _ _ _
         refine XA.ren (σ' := [(3, .bool d), (8, pp 1 0), (10, s0 2 r1.1.length), (13, pp 3 0), (44, s0 0 a_Tables.length), (45, ii b), (49, s0 0 a_Tables.length), (50, ii c)]) (h' := [(4, nP), (3, z2), (2, rU r1.1), (1, pN 4), (0, rc encP a_Tables z0 y0 2)]) (c' := 5) [0, 1, 2, 4, 3] (by decide) rfl ⟨rfl, rfl, rfl, rfl, rfl, rfl, rfl, rfl, trivial⟩ ⟨⟨_, _, rfl, rfl, .inl ⟨rfl, rwP⟩⟩, ⟨_, _, rfl, rfl, .inr ⟨_, _, _, _, rfl, rfl⟩⟩, ⟨_, _, rfl, rfl, .inl ⟨rfl, rowC_scal (encI_ok .u64) _⟩⟩, ⟨_, _, rfl, rfl, .inr ⟨_, _, _, _, rfl, rfl⟩⟩, ⟨_, _, rfl, rfl, .inl ⟨rfl, rwP⟩⟩, trivial⟩ rfl ?_
         exact xa50
       have xa52 : XA E0 112 1 (opsOf (lft (rgt (rgt (rgt f30_C30))))) 7 #[true, true, true, false, false, true, false, true, false, false, true, true, false, false] [(3, .bool d), (8, pp 1 0), (10, s0 2 r1.1.length), (12, pp 3 0), (13, pp 4 0), (44, s0 0 a_Tables.length), (45, ii b), (48, pp 5 1), (50, ii c)] [(6, nP), (5, pO a_Sorters a_Tables), (4, z2), (3, z2), (2, rU r1.1), (1, pN 6), (0, rc encP a_Tables z0 y0 2)] 7 (qD a_Tables b c d z0 y0 r1) := by
        refine XA.step E0_ok [3, 6] (by kernel_rfl) rfl (by kernel_rfl) ⟨?_, ?_, trivial⟩
        ·refine XR.rd E0_ok [3, 8, 10, 12, 13, 46, 48, 50] rfl (v := pp 0 ((Int.toNat b) * 2)) (v_idx (s := 2) (x := (src 112 (.tmp 44))) (y := (src 112 (.tmp 45))) (b := 0) (o := 0) (len := a_Tables.length) (cap := a_Tables.length) (ik := .i64) (i := b) (off := (Int.toNat b) * 2) (d := (some (path 12 46))) (by kernel_rfl) (by kernel_rfl) (by kernel_rfl) b4 (by omega)) (σ' := [(3, .bool d), (8, pp 1 0), (10, s0 2 r1.1.length), (12, pp 3 0), (13, pp 4 0), (46, pp 0 ((Int.toNat b) * 2)), (48, pp 5 1), (50, ii c)]) (by kernel_rfl) ?_
         refine dQ ?_
         refine ⟨rfl, ?_⟩
         show XA _ _ _ _ _ _ _ _ _ _
         exact xa37
        ·refine rS 1 [(3, .bool d), (8, pp 1 0), (10, s0 2 r1.1.length), (12, pp 3 0), (13, pp 4 0), (44, s0 0 a_Tables.length), (45, ii b), (49, s0 0 a_Tables.length), (50, ii c)] ?_
         refine dQ ?_
         refine ⟨rfl, ?_⟩
         show XA _ _ _ _ _ _ _ _ _ _
         refine XA.ren (σ' := [(3, .bool d), (8, pp 1 0), (10, s0 2 r1.1.length), (12, pp 3 0), (13, pp 4 0), (44, s0 0 a_Tables.length), (45, ii b), (49, s0 0 a_Tables.length), (50, ii c)]) (h' := [(5, nP), (4, z2), (3, z2), (2, rU r1.1), (1, pN 5), (0, rc encP a_Tables z0 y0 2)]) (c' := 6) [0, 1, 2, 3, 4, 6] (by decide) rfl ⟨rfl, rfl, rfl, rfl, rfl, rfl, rfl, rfl, rfl, trivial⟩ ⟨⟨_, _, rfl, rfl, .inl ⟨rfl, rwP⟩⟩, ⟨_, _, rfl, rfl, .inr ⟨_, _, _, _, rfl, rfl⟩⟩, ⟨_, _, rfl, rfl, .inr ⟨_, _, _, _, rfl, rfl⟩⟩, ⟨_, _, rfl, rfl, .inl ⟨rfl, rowC_scal (encI_ok .u64) _⟩⟩, ⟨_, _, rfl, rfl, .inr ⟨_, _, _, _, rfl, rfl⟩⟩, ⟨_, _, rfl, rfl, .inl ⟨rfl, rwP⟩⟩, trivial⟩ rfl ?_
         exact xa49
       have xa51 : XA E0 112 1 (opsOf (lft (rgt (rgt (rgt f30_C30))))) 8 #[true, true, true, false, false, true, false, true, false, false, true, false, false, false] [(3, .bool d), (8, pp 1 0), (10, s0 2 r1.1.length), (12, pp 3 0), (44, s0 0 a_Tables.length), (45, ii b), (48, pp 4 1), (50, ii c)] [(5, nP), (4, pO a_Sorters a_Tables), (3, z2), (2, rU r1.1), (1, pN 5), (0, rc encP a_Tables z0 y0 2)] 6 (qD a_Tables b c d z0 y0 r1) := by
        refine XA.step E0_ok [3, 6, 11] (by kernel_rfl) rfl (by kernel_rfl) ⟨?_, ?_, ?_, trivial⟩
        ·refine XR.rd E0_ok [3, 8, 10, 12, 46, 48, 50] rfl (v := pp 0 ((Int.toNat b) * 2)) (v_idx (s := 2) (x := (src 112 (.tmp 44))) (y := (src 112 (.tmp 45))) (b := 0) (o := 0) (len := a_Tables.length) (cap := a_Tables.length) (ik := .i64) (i := b) (off := (Int.toNat b) * 2) (d := (some (path 12 46))) (by kernel_rfl) (by kernel_rfl) (by kernel_rfl) b4 (by omega)) (σ' := [(3, .bool d), (8, pp 1 0), (10, s0 2 r1.1.length), (12, pp 3 0), (46, pp 0 ((Int.toNat b) * 2)), (48, pp 4 1), (50, ii c)]) (by kernel_rfl) ?_
         refine dQ ?_
         refine ⟨rfl, ?_⟩
         show XA _ _ _ _ _ _ _ _ _ _
         exact xa36
        ·refine rS 1 [(3, .bool d), (8, pp 1 0), (10, s0 2 r1.1.length), (12, pp 3 0), (44, s0 0 a_Tables.length), (45, ii b), (49, s0 0 a_Tables.length), (50, ii c)] ?_
         refine dQ ?_
         refine ⟨rfl, ?_⟩
         show XA _ _ _ _ _ _ _ _ _ _
         refine XA.ren (σ' := [(3, .bool d), (8, pp 1 0), (10, s0 2 r1.1.length), (12, pp 3 0), (44, s0 0 a_Tables.length), (45, ii b), (49, s0 0 a_Tables.length), (50, ii c)]) (h' := [(4, nP), (3, z2), (2, rU r1.1), (1, pN 4), (0, rc encP a_Tables z0 y0 2)]) (c' := 5) [0, 1, 2, 3, 5] (by decide) rfl ⟨rfl, rfl, rfl, rfl, rfl, rfl, rfl, rfl, trivial⟩ ⟨⟨_, _, rfl, rfl, .inl ⟨rfl, rwP⟩⟩, ⟨_, _, rfl, rfl, .inr ⟨_, _, _, _, rfl, rfl⟩⟩, ⟨_, _, rfl, rfl, .inl ⟨rfl, rowC_scal (encI_ok .u64) _⟩⟩, ⟨_, _, rfl, rfl, .inr ⟨_, _, _, _, rfl, rfl⟩⟩, ⟨_, _, rfl, rfl, .inl ⟨rfl, rwP⟩⟩, trivial⟩ rfl ?_
         exact xa48
        ·refine rT 1 [(3, .bool d), (8, pp 1 0), (10, s0 2 r1.1.length), (12, pp 3 0), (13, pp 6 0), (44, s0 0 a_Tables.length), (45, ii b), (48, pp 4 1), (50, ii c)] [(6, z2), (5, nP), (4, pO a_Sorters a_Tables), (3, z2), (2, rU r1.1), (1, pN 5), (0, rc encP a_Tables z0 y0 2)] 7 ?_
         refine dQ ?_
         refine ⟨rfl, ?_⟩
         show XA _ _ _ _ _ _ _ _ _ _
         refine XA.ren (σ' := [(3, .bool d), (8, pp 1 0), (10, s0 2 r1.1.length), (12, pp 3 0), (13, pp 4 0), (44, s0 0 a_Tables.length), (45, ii b), (48, pp 5 1), (50, ii c)]) (h' := [(6, nP), (5, pO a_Sorters a_Tables), (4, z2), (3, z2), (2, rU r1.1), (1, pN 6), (0, rc encP a_Tables z0 y0 2)]) (c' := 7) [0, 1, 2, 3, 6, 4, 5] (by decide) rfl ⟨rfl, rfl, rfl, rfl, rfl, rfl, rfl, rfl, rfl, trivial⟩ ⟨⟨_, _, rfl, rfl, .inl ⟨rfl, rwP⟩⟩, ⟨_, _, rfl, rfl, .inr ⟨_, _, _, _, rfl, rfl⟩⟩, ⟨_, _, rfl, rfl, .inr ⟨_, _, _, _, rfl, rfl⟩⟩, ⟨_, _, rfl, rfl, .inr ⟨_, _, _, _, rfl, rfl⟩⟩, ⟨_, _, rfl, rfl, .inl ⟨rfl, rowC_scal (encI_ok .u64) _⟩⟩, ⟨_, _, rfl, rfl, .inr ⟨_, _, _, _, rfl, rfl⟩⟩, ⟨_, _, rfl, rfl, .inl ⟨rfl, rwP⟩⟩, trivial⟩ rfl ?_
         exact xa52
       have xa53 : XA E0 112 1 (opsOf (lft (rgt (rgt (rgt f30_C30))))) 8 #[true, true, true, false, false, true, false, true, false, false, false, true, false, false] [(3, .bool d), (8, pp 1 0), (10, s0 2 r1.1.length), (13, pp 3 0), (44, s0 0 a_Tables.length), (45, ii b), (48, pp 4 1), (50, ii c)] [(5, nP), (4, pO a_Sorters a_Tables), (3, z2), (2, rU r1.1), (1, pN 5), (0, rc encP a_Tables z0 y0 2)] 6 (qD a_Tables b c d z0 y0 r1) := by
        refine XA.step E0_ok [3, 6, 10] (by kernel_rfl) rfl (by kernel_rfl) ⟨?_, ?_, ?_, trivial⟩
        ·refine XR.rd E0_ok [3, 8, 10, 13, 46, 48, 50] rfl (v := pp 0 ((Int.toNat b) * 2)) (v_idx (s := 2) (x := (src 112 (.tmp 44))) (y := (src 112 (.tmp 45))) (b := 0) (o := 0) (len := a_Tables.length) (cap := a_Tables.length) (ik := .i64) (i := b) (off := (Int.toNat b) * 2) (d := (some (path 12 46))) (by kernel_rfl) (by kernel_rfl) (by kernel_rfl) b4 (by omega)) (σ' := [(3, .bool d), (8, pp 1 0), (10, s0 2 r1.1.length), (13, pp 3 0), (46, pp 0 ((Int.toNat b) * 2)), (48, pp 4 1), (50, ii c)]) (by kernel_rfl) ?_
         refine dQ ?_
         refine ⟨rfl, ?_⟩
         show XA _ _ _ _ _ _ _ _ _ _
         exact xa38
        ·refine rS 1 [(3, .bool d), (8, pp 1 0), (10, s0 2 r1.1.length), (13, pp 3 0), (44, s0 0 a_Tables.length), (45, ii b), (49, s0 0 a_Tables.length), (50, ii c)] ?_
         refine dQ ?_
         refine ⟨rfl, ?_⟩
         show XA _ _ _ _ _ _ _ _ _ _
         refine XA.ren (σ' := [(3, .bool d), (8, pp 1 0), (10, s0 2 r1.1.length), (13, pp 3 0), (44, s0 0 a_Tables.length), (45, ii b), (49, s0 0 a_Tables.length), (50, ii c)]) (h' := [(4, nP), (3, z2), (2, rU r1.1), (1, pN 4), (0, rc encP a_Tables z0 y0 2)]) (c' := 5) [0, 1, 2, 3, 5] (by decide) rfl ⟨rfl, rfl, rfl, rfl, rfl, rfl, rfl, rfl, trivial⟩ ⟨⟨_, _, rfl, rfl, .inl ⟨rfl, rwP⟩⟩, ⟨_, _, rfl, rfl, .inr ⟨_, _, _, _, rfl, rfl⟩⟩, ⟨_, _, rfl, rfl, .inl ⟨rfl, rowC_scal (encI_ok .u64) _⟩⟩, ⟨_, _, rfl, rfl, .inr ⟨_, _, _, _, rfl, rfl⟩⟩, ⟨_, _, rfl, rfl, .inl ⟨rfl, rwP⟩⟩, trivial⟩ rfl ?_
         exact xa50
        ·refine rT 1 [(3, .bool d), (8, pp 1 0), (10, s0 2 r1.1.length), (12, pp 6 0), (13, pp 3 0), (44, s0 0 a_Tables.length), (45, ii b), (48, pp 4 1), (50, ii c)] [(6, z2), (5, nP), (4, pO a_Sorters a_Tables), (3, z2), (2, rU r1.1), (1, pN 5), (0, rc encP a_Tables z0 y0 2)] 7 ?_
         refine dQ ?_
         refine ⟨rfl, ?_⟩
         show XA _ _ _ _ _ _ _ _ _ _
         refine XA.ren (σ' := [(3, .bool d), (8, pp 1 0), (10, s0 2 r1.1.length), (12, pp 3 0), (13, pp 4 0), (44, s0 0 a_Tables.length), (45, ii b), (48, pp 5 1), (50, ii c)]) (h' := [(6, nP), (5, pO a_Sorters a_Tables), (4, z2), (3, z2), (2, rU r1.1), (1, pN 6), (0, rc encP a_Tables z0 y0 2)]) (c' := 7) [0, 1, 2, 6, 3, 4, 5] (by decide) rfl ⟨rfl, rfl, rfl, rfl, rfl, rfl, rfl, rfl, rfl, trivial⟩ ⟨⟨_, _, rfl, rfl, .inl ⟨rfl, rwP⟩⟩, ⟨_, _, rfl, rfl, .inr ⟨_, _, _, _, rfl, rfl⟩⟩, ⟨_, _, rfl, rfl, .inr ⟨_, _, _, _, rfl, rfl⟩⟩, ⟨_, _, rfl, rfl, .inr ⟨_, _, _, _, rfl, rfl⟩⟩, ⟨_, _, rfl, rfl, .inl ⟨rfl, rowC_scal (encI_ok .u64) _⟩⟩, ⟨_, _, rfl, rfl, .inr ⟨_, _, _, _, rfl, rfl⟩⟩, ⟨_, _, rfl, rfl, .inl ⟨rfl, rwP⟩⟩, trivial⟩ rfl ?_
         exact xa52
       have xa1 : XA E0 112 1 (opsOf (lft (rgt (rgt (rgt f30_C30))))) 9 #[true, true, true, false, false, true, false, true, false, false, false, false, false, false] [(3, .bool d), (8, pp 1 0), (10, s0 2 r1.1.length), (44, s0 0 a_Tables.length), (45, ii b), (48, pp 3 1), (50, ii c)] [(4, nP), (3, pO a_Sorters a_Tables), (2, rU r1.1), (1, pN 4), (0, rc encP a_Tables z0 y0 2)] 5 (qD a_Tables b c d z0 y0 r1) := by
        refine XA.step E0_ok [3, 6, 10, 11] (by kernel_rfl) rfl (by kernel_rfl) ⟨?_, ?_, ?_, ?_, trivial⟩
        ·refine XR.rd E0_ok [3, 8, 10, 46, 48, 50] rfl (v := pp 0 ((Int.toNat b) * 2)) (v_idx (s := 2) (x := (src 112 (.tmp 44))) (y := (src 112 (.tmp 45))) (b := 0) (o := 0) (len := a_Tables.length) (cap := a_Tables.length) (ik := .i64) (i := b) (off := (Int.toNat b) * 2) (d := (some (path 12 46))) (by kernel_rfl) (by kernel_rfl) (by kernel_rfl) b4 (by omega)) (σ' := [(3, .bool d), (8, pp 1 0), (10, s0 2 r1.1.length), (46, pp 0 ((Int.toNat b) * 2)), (48, pp 3 1), (50, ii c)]) (by kernel_rfl) ?_
         refine dQ ?_
         refine ⟨rfl, ?_⟩
         show XA _ _ _ _ _ _ _ _ _ _
         exact xa2
        ·refine rS 1 [(3, .bool d), (8, pp 1 0), (10, s0 2 r1.1.length), (44, s0 0 a_Tables.length), (45, ii b), (49, s0 0 a_Tables.length), (50, ii c)] ?_
         refine dQ ?_
         refine ⟨rfl, ?_⟩
         show XA _ _ _ _ _ _ _ _ _ _
         refine XA.ren (σ' := [(3, .bool d), (8, pp 1 0), (10, s0 2 r1.1.length), (44, s0 0 a_Tables.length), (45, ii b), (49, s0 0 a_Tables.length), (50, ii c)]) (h' := [(3, nP), (2, rU r1.1), (1, pN 3), (0, rc encP a_Tables z0 y0 2)]) (c' := 4) [0, 1, 2, 4] (by decide) rfl ⟨rfl, rfl, rfl, rfl, rfl, rfl, rfl, trivial⟩ ⟨⟨_, _, rfl, rfl, .inl ⟨rfl, rwP⟩⟩, ⟨_, _, rfl, rfl, .inl ⟨rfl, rowC_scal (encI_ok .u64) _⟩⟩, ⟨_, _, rfl, rfl, .inr ⟨_, _, _, _, rfl, rfl⟩⟩, ⟨_, _, rfl, rfl, .inl ⟨rfl, rwP⟩⟩, trivial⟩ rfl ?_
         exact xa39
        ·refine rT 1 [(3, .bool d), (8, pp 1 0), (10, s0 2 r1.1.length), (12, pp 5 0), (44, s0 0 a_Tables.length), (45, ii b), (48, pp 3 1), (50, ii c)] [(5, z2), (4, nP), (3, pO a_Sorters a_Tables), (2, rU r1.1), (1, pN 4), (0, rc encP a_Tables z0 y0 2)] 6 ?_
         refine dQ ?_
         refine ⟨rfl, ?_⟩
         show XA _ _ _ _ _ _ _ _ _ _
         refine XA.ren (σ' := [(3, .bool d), (8, pp 1 0), (10, s0 2 r1.1.length), (12, pp 3 0), (44, s0 0 a_Tables.length), (45, ii b), (48, pp 4 1), (50, ii c)]) (h' := [(5, nP), (4, pO a_Sorters a_Tables), (3, z2), (2, rU r1.1), (1, pN 5), (0, rc encP a_Tables z0 y0 2)]) (c' := 6) [0, 1, 2, 5, 3, 4] (by decide) rfl ⟨rfl, rfl, rfl, rfl, rfl, rfl, rfl, rfl, trivial⟩ ⟨⟨_, _, rfl, rfl, .inl ⟨rfl, rwP⟩⟩, ⟨_, _, rfl, rfl, .inr ⟨_, _, _, _, rfl, rfl⟩⟩, ⟨_, _, rfl, rfl, .inr ⟨_, _, _, _, rfl, rfl⟩⟩, ⟨_, _, rfl, rfl, .inl ⟨rfl, rowC_scal (encI_ok .u64) _⟩⟩, ⟨_, _, rfl, rfl, .inr ⟨_, _, _, _, rfl, rfl⟩⟩, ⟨_, _, rfl, rfl, .inl ⟨rfl, rwP⟩⟩, trivial⟩ rfl ?_
         exact xa51
        ·refine rT 1 [(3, .bool d), (8, pp 1 0), (10, s0 2 r1.1.length), (13, pp 5 0), (44, s0 0 a_Tables.length), (45, ii b), (48, pp 3 1), (50, ii c)] [(5, z2), (4, nP), (3, pO a_Sorters a_Tables), (2, rU r1.1), (1, pN 4), (0, rc encP a_Tables z0 y0 2)] 6 ?_
         refine dQ ?_
         refine ⟨rfl, ?_⟩
         show XA _ _ _ _ _ _ _ _ _ _
         refine XA.ren (σ' := [(3, .bool d), (8, pp 1 0), (10, s0 2 r1.1.length), (13, pp 3 0), (44, s0 0 a_Tables.length), (45, ii b), (48, pp 4 1), (50, ii c)]) (h' := [(5, nP), (4, pO a_Sorters a_Tables), (3, z2), (2, rU r1.1), (1, pN 5), (0, rc encP a_Tables z0 y0 2)]) (c' := 6) [0, 1, 2, 5, 3, 4] (by decide) rfl ⟨rfl, rfl, rfl, rfl, rfl, rfl, rfl, rfl, trivial⟩ ⟨⟨_, _, rfl, rfl, .inl ⟨rfl, rwP⟩⟩, ⟨_, _, rfl, rfl, .inr ⟨_, _, _, _, rfl, rfl⟩⟩, ⟨_, _, rfl, rfl, .inr ⟨_, _, _, _, rfl, rfl⟩⟩, ⟨_, _, rfl, rfl, .inl ⟨rfl, rowC_scal (encI_ok .u64) _⟩⟩, ⟨_, _, rfl, rfl, .inr ⟨_, _, _, _, rfl, rfl⟩⟩, ⟨_, _, rfl, rfl, .inl ⟨rfl, rwP⟩⟩, trivial⟩ rfl ?_
         exact xa53
       have xa58 : XA E0 112 1 (opsOf (lft (rgt (rgt (rgt f30_C30))))) 5 #[true, false, true, false, false, true, true, true, true, true, true, true, false, false] [(3, .bool d), (8, pp 1 0), (10, s0 2 r1.1.length), (12, pp 3 0), (13, pp 4 0), (43, pp 5 1), (45, ii b), (52, aT (gT a_Tables c))] [(6, nP), (5, pO a_Sorters a_Tables), (4, z2), (3, z2), (2, rU r1.1), (1, pN 6), (0, rc encP a_Tables z0 y0 2)] 7 (qD a_Tables b c d z0 y0 r1) := by
        refine XA.step E0_ok [1] (by kernel_rfl) rfl (by kernel_rfl) ⟨?_, trivial⟩
        ·refine rS 1 [(3, .bool d), (8, pp 1 0), (10, s0 2 r1.1.length), (12, pp 3 0), (13, pp 4 0), (44, s0 0 a_Tables.length), (45, ii b), (52, aT (gT a_Tables c))] ?_
         refine dQ ?_
         refine ⟨rfl, ?_⟩
         show XA _ _ _ _ _ _ _ _ _ _
         refine XA.ren (σ' := [(3, .bool d), (8, pp 1 0), (10, s0 2 r1.1.length), (12, pp 3 0), (13, pp 4 0), (44, s0 0 a_Tables.length), (45, ii b), (52, aT (gT a_Tables c))]) (h' := [(5, nP), (4, z2), (3, z2), (2, rU r1.1), (1, pN 5), (0, rc encP a_Tables z0 y0 2)]) (c' := 6) [0, 1, 2, 3, 4, 6] (by decide) rfl ⟨rfl, rfl, rfl, rfl, rfl, rfl, rfl, rfl, trivial⟩ ⟨⟨_, _, rfl, rfl, .inl ⟨rfl, rwP⟩⟩, ⟨_, _, rfl, rfl, .inr ⟨_, _, _, _, rfl, rfl⟩⟩, ⟨_, _, rfl, rfl, .inr ⟨_, _, _, _, rfl, rfl⟩⟩, ⟨_, _, rfl, rfl, .inl ⟨rfl, rowC_scal (encI_ok .u64) _⟩⟩, ⟨_, _, rfl, rfl, .inr ⟨_, _, _, _, rfl, rfl⟩⟩, ⟨_, _, rfl, rfl, .inl ⟨rfl, rwP⟩⟩, trivial⟩ rfl ?_
         exact xa43
       have xa57 : XA E0 112 1 (opsOf (lft (rgt (rgt (rgt f30_C30))))) 6 #[true, false, true, false, false, true, true, true, true, true, true, false, false, false] [(3, .bool d), (8, pp 1 0), (10, s0 2 r1.1.length), (12, pp 3 0), (43, pp 4 1), (45, ii b), (52, aT (gT a_Tables c))] [(5, nP), (4, pO a_Sorters a_Tables), (3, z2), (2, rU r1.1), (1, pN 5), (0, rc encP a_Tables z0 y0 2)] 6 (qD a_Tables b c d z0 y0 r1) := by
        refine XA.step E0_ok [1, 11] (by kernel_rfl) rfl (by kernel_rfl) ⟨?_, ?_, trivial⟩
        ·refine rS 1 [(3, .bool d), (8, pp 1 0), (10, s0 2 r1.1.length), (12, pp 3 0), (44, s0 0 a_Tables.length), (45, ii b), (52, aT (gT a_Tables c))] ?_
         refine dQ ?_
         refine ⟨rfl, ?_⟩
         show XA _ _ _ _ _ _ _ _ _ _
         refine XA.ren (σ' := [(3, .bool d), (8, pp 1 0), (10, s0 2 r1.1.length), (12, pp 3 0), (44, s0 0 a_Tables.length), (45, ii b), (52, aT (gT a_Tables c))]) (h' := [(4, nP), (3, z2), (2, rU r1.1), (1, pN 4), (0, rc encP a_Tables z0 y0 2)]) (c' := 5) [0, 1, 2, 3, 5] (by decide) rfl ⟨rfl, rfl, rfl, rfl, rfl, rfl, rfl, trivial⟩ ⟨⟨_, _, rfl, rfl, .inl ⟨rfl, rwP⟩⟩, ⟨_, _, rfl, rfl, .inr ⟨_, _, _, _, rfl, rfl⟩⟩, ⟨_, _, rfl, rfl, .inl ⟨rfl, rowC_scal (encI_ok .u64) _⟩⟩, ⟨_, _, rfl, rfl, .inr ⟨_, _, _, _, rfl, rfl⟩⟩, ⟨_, _, rfl, rfl, .inl ⟨rfl, rwP⟩⟩, trivial⟩ rfl ?_
         exact xa42
        ·refine rT 1 [(3, .bool d), (8, pp 1 0), (10, s0 2 r1.1.length), (12, pp 3 0), (13, pp 6 0), (43, pp 4 1), (45, ii b), (52, aT (gT a_Tables c))] [(6, z2), (5, nP), (4, pO a_Sorters a_Tables), (3, z2), (2, rU r1.1), (1, pN 5), (0, rc encP a_Tables z0 y0 2)] 7 ?_
         refine dQ ?_
         refine ⟨rfl, ?_⟩
         show XA _ _ _ _ _ _ _ _ _ _
         refine XA.ren (σ' := [(3, .bool d), (8, pp 1 0), (10, s0 2 r1.1.length), (12, pp 3 0), (13, pp 4 0), (43, pp 5 1), (45, ii b), (52, aT (gT a_Tables c))]) (h' := [(6, nP), (5, pO a_Sorters a_Tables), (4, z2), (3, z2), (2, rU r1.1), (1, pN 6), (0, rc encP a_Tables z0 y0 2)]) (c' := 7) [0, 1, 2, 3, 6, 4, 5] (by decide) rfl ⟨rfl, rfl, rfl, rfl, rfl, rfl, rfl, rfl, trivial⟩ ⟨⟨_, _, rfl, rfl, .inl ⟨rfl, rwP⟩⟩, ⟨_, _, rfl, rfl, .inr ⟨_, _, _, _, rfl, rfl⟩⟩, ⟨_, _, rfl, rfl, .inr ⟨_, _, _, _, rfl, rfl⟩⟩, ⟨_, _, rfl, rfl, .inr ⟨_, _, _, _, rfl, rfl⟩⟩, ⟨_, _, rfl, rfl, .inl ⟨rfl, rowC_scal (encI_ok .u64) _⟩⟩, ⟨_, _, rfl, rfl, .inr ⟨_, _, _, _, rfl, rfl⟩⟩, ⟨_, _, rfl, rfl, .inl ⟨rfl, rwP⟩⟩, trivial⟩ rfl ?_
         exact xa58
       have xa59 : XA E0 112 1 (opsOf (lft (rgt (rgt (rgt f30_C30))))) 6 #[true, false, true, false, false, true, true, true, true, true, false, true, false, false] [(3, .bool d), (8, pp 1 0), (10, s0 2 r1.1.length), (13, pp 3 0), (43, pp 4 1), (45, ii b), (52, aT (gT a_Tables c))] [(5, nP), (4, pO a_Sorters a_Tables), (3, z2), (2, rU r1.1), (1, pN 5), (0, rc encP a_Tables z0 y0 2)] 6 (qD a_Tables b c d z0 y0 r1) := by
        refine XA.step E0_ok [1, 10] (by kernel_rfl) rfl (by kernel_rfl) ⟨?_, ?_, trivial⟩
        ·refine rS 1 [(3, .bool d), (8, pp 1 0), (10, s0 2 r1.1.length), (13, pp 3 0), (44, s0 0 a_Tables.length), (45, ii b), (52, aT (gT a_Tables c))] ?_
         refine dQ ?_
         refine ⟨rfl, ?_⟩
         show XA _ _ _ _ _ _ _ _ _ _
         refine XA.ren (σ' := [(3, .bool d), (8, pp 1 0), (10, s0 2 r1.1.length), (13, pp 3 0), (44, s0 0 a_Tables.length), (45, ii b), (52, aT (gT a_Tables c))]) (h' := [(4, nP), (3, z2), (2, rU r1.1), (1, pN 4), (0, rc encP a_Tables z0 y0 2)]) (c' := 5) [0, 1, 2, 3, 5] (by decide) rfl ⟨rfl, rfl, rfl, rfl, rfl, rfl, rfl, trivial⟩ ⟨⟨_, _, rfl, rfl, .inl ⟨rfl, rwP⟩⟩, ⟨_, _, rfl, rfl, .inr ⟨_, _, _, _, rfl, rfl⟩⟩, ⟨_, _, rfl, rfl, .inl ⟨rfl, rowC_scal (encI_ok .u64) _⟩⟩, ⟨_, _, rfl, rfl, .inr ⟨_, _, _, _, rfl, rfl⟩⟩, ⟨_, _, rfl, rfl, .inl ⟨rfl, rwP⟩⟩, trivial⟩ rfl ?_
         exact xa44
        ·refine rT 1 [(3, .bool d), (8, pp 1 0), (10, s0 2 r1.1.length), (12, pp 6 0), (13, pp 3 0), (43, pp 4 1), (45, ii b), (52, aT (gT a_Tables c))] [(6, z2), (5, nP), (4, pO a_Sorters a_Tables), (3, z2), (2, rU r1.1), (1, pN 5), (0, rc encP a_Tables z0 y0 2)] 7 ?_
         refine dQ ?_
         refine ⟨rfl, ?_⟩
         show XA _ _ _ _ _ _ _ _ _ _
         refine XA.ren (σ' := [(3, .bool d), (8, pp 1 0), (10, s0 2 r1.1.length), (12, pp 3 0), (13, pp 4 0), (43, pp 5 1), (45, ii b), (52, aT (gT a_Tables c))]) (h' := [(6, nP), (5, pO a_Sorters a_Tables), (4, z2), (3, z2), (2, rU r1.1), (1, pN 6), (0, rc encP a_Tables z0 y0 2)]) (c' := 7) [0, 1, 2, 6, 3, 4, 5] (by decide) rfl ⟨rfl, rfl, rfl, rfl, rfl, rfl, rfl, rfl, trivial⟩ ⟨⟨_, _, rfl, rfl, .inl ⟨rfl, rwP⟩⟩, ⟨_, _, rfl, rfl, .inr ⟨_, _, _, _, rfl, rfl⟩⟩, ⟨_, _, rfl, rfl, .inr ⟨_, _, _, _, rfl, rfl⟩⟩, ⟨_, _, rfl, rfl, .inr ⟨_, _, _, _, rfl, rfl⟩⟩, ⟨_, _, rfl, rfl, .inl ⟨rfl, rowC_scal (encI_ok .u64) _⟩⟩, ⟨_, _, rfl, rfl, .inr ⟨_, _, _, _, rfl, rfl⟩⟩, ⟨_, _, rfl, rfl, .inl ⟨rfl, rwP⟩⟩, trivial⟩ rfl ?_
         exact xa58
       have xa56 : XA E0 112 1 (opsOf (lft (rgt (rgt (rgt f30_C30))))) 7 #[true, false, true, false, false, true, true, true, true, true, false, false, false, false] [(3, .bool d), (8, pp 1 0), (10, s0 2 r1.1.length), (43, pp 3 1), (45, ii b), (52, aT (gT a_Tables c))] [(4, nP), (3, pO a_Sorters a_Tables), (2, rU r1.1), (1, pN 4), (0, rc encP a_Tables z0 y0 2)] 5 (qD a_Tables b c d z0 y0 r1) := by
        refine XA.step E0_ok [1, 10, 11] (by kernel_rfl) rfl (by kernel_rfl) ⟨?_, ?_, ?_, trivial⟩
        ·refine rS 1 [(3, .bool d), (8, pp 1 0), (10, s0 2 r1.1.length), (44, s0 0 a_Tables.length), (45, ii b), (52, aT (gT a_Tables c))] ?_
         refine dQ ?_
         refine ⟨rfl, ?_⟩
         show XA _ _ _ _ _ _ _ _ _ _
         refine XA.ren (σ' := [(3, .bool d), (8, pp 1 0), (10, s0 2 r1.1.length), (44, s0 0 a_Tables.length), (45, ii b), (52, aT (gT a_Tables c))]) (h' := [(3, nP), (2, rU r1.1), (1, pN 3), (0, rc encP a_Tables z0 y0 2)]) (c' := 4) [0, 1, 2, 4] (by decide) rfl ⟨rfl, rfl, rfl, rfl, rfl, rfl, trivial⟩ ⟨⟨_, _, rfl, rfl, .inl ⟨rfl, rwP⟩⟩, ⟨_, _, rfl, rfl, .inl ⟨rfl, rowC_scal (encI_ok .u64) _⟩⟩, ⟨_, _, rfl, rfl, .inr ⟨_, _, _, _, rfl, rfl⟩⟩, ⟨_, _, rfl, rfl, .inl ⟨rfl, rwP⟩⟩, trivial⟩ rfl ?_
         exact xa41
        ·refine rT 1 [(3, .bool d), (8, pp 1 0), (10, s0 2 r1.1.length), (12, pp 5 0), (43, pp 3 1), (45, ii b), (52, aT (gT a_Tables c))] [(5, z2), (4, nP), (3, pO a_Sorters a_Tables), (2, rU r1.1), (1, pN 4), (0, rc encP a_Tables z0 y0 2)] 6 ?_
         refine dQ ?_
         refine ⟨rfl, ?_⟩
         show XA _ _ _ _ _ _ _ _ _ _
         refine XA.ren (σ' := [(3, .bool d), (8, pp 1 0), (10, s0 2 r1.1.length), (12, pp 3 0), (43, pp 4 1), (45, ii b), (52, aT (gT a_Tables c))]) (h' := [(5, nP), (4, pO a_Sorters a_Tables), (3, z2), (2, rU r1.1), (1, pN 5), (0, rc encP a_Tables z0 y0 2)]) (c' := 6) [0, 1, 2, 5, 3, 4] (by decide) rfl ⟨rfl, rfl, rfl, rfl, rfl, rfl, rfl, trivial⟩ ⟨⟨_, _, rfl, rfl, .inl ⟨rfl, rwP⟩⟩, ⟨_, _, rfl, rfl, .inr ⟨_, _, _, _, rfl, rfl⟩⟩, ⟨_, _, rfl, rfl, .inr ⟨_, _, _, _, rfl, rfl⟩⟩, ⟨_, _, rfl, rfl, .inl ⟨rfl, rowC_scal (encI_ok .u64) _⟩⟩, ⟨_, _, rfl, rfl, .inr ⟨_, _, _, _, rfl, rfl⟩⟩, ⟨_, _, rfl, rfl, .inl ⟨rfl, rwP⟩⟩, trivial⟩ rfl ?_
         exact xa57
        ·refine rT 1 [(3, .bool d), (8, pp 1 0), (10, s0 2 r1.1.length), (13, pp 5 0), (43, pp 3 1), (45, ii b), (52, aT (gT a_Tables c))] [(5, z2), (4, nP), (3, pO a_Sorters a_Tables), (2, rU r1.1), (1, pN 4), (0, rc encP a_Tables z0 y0 2)] 6 ?_
         refine dQ ?_
         refine ⟨rfl, ?_⟩
         show XA _ _ _ _ _ _ _ _ _ _
         refine XA.ren (σ' := [(3, .bool d), (8, pp 1 0), (10, s0 2 r1.1.length), (13, pp 3 0), (43, pp 4 1), (45, ii b), (52, aT (gT a_Tables c))]) (h' := [(5, nP), (4, pO a_Sorters a_Tables), (3, z2), (2, rU r1.1), (1, pN 5), (0, rc encP a_Tables z0 y0 2)]) (c' := 6) [0, 1, 2, 5, 3, 4] (by decide) rfl ⟨rfl, rfl, rfl, rfl, rfl, rfl, rfl, trivial⟩ ⟨⟨_, _, rfl, rfl, .inl ⟨rfl, rwP⟩⟩, ⟨_, _, rfl, rfl, .inr ⟨_, _, _, _, rfl, rfl⟩⟩, ⟨_, _, rfl, rfl, .inr ⟨_, _, _, _, rfl, rfl⟩⟩, ⟨_, _, rfl, rfl, .inl ⟨rfl, rowC_scal (encI_ok .u64) _⟩⟩, ⟨_, _, rfl, rfl, .inr ⟨_, _, _, _, rfl, rfl⟩⟩, ⟨_, _, rfl, rfl, .inl ⟨rfl, rwP⟩⟩, trivial⟩ rfl ?_
         exact xa59
       have xa61 : XA E0 112 1 (opsOf (lft (rgt (rgt (rgt f30_C30))))) 6 #[true, false, true, false, false, true, true, true, true, false, true, true, false, false] [(3, .bool d), (8, pp 1 0), (10, s0 2 r1.1.length), (12, pp 3 0), (13, pp 4 0), (43, pp 5 1), (45, ii b), (51, pp 0 ((Int.toNat c) * 2))] [(6, nP), (5, pO a_Sorters a_Tables), (4, z2), (3, z2), (2, rU r1.1), (1, pN 6), (0, rc encP a_Tables z0 y0 2)] 7 (qD a_Tables b c d z0 y0 r1) := by
        refine XA.step E0_ok [1, 9] (by kernel_rfl) rfl (by kernel_rfl) ⟨?_, ?_, trivial⟩
        ·refine rS 1 [(3, .bool d), (8, pp 1 0), (10, s0 2 r1.1.length), (12, pp 3 0), (13, pp 4 0), (44, s0 0 a_Tables.length), (45, ii b), (51, pp 0 ((Int.toNat c) * 2))] ?_
         refine dQ ?_
         refine ⟨rfl, ?_⟩
         show XA _ _ _ _ _ _ _ _ _ _
         refine XA.ren (σ' := [(3, .bool d), (8, pp 1 0), (10, s0 2 r1.1.length), (12, pp 3 0), (13, pp 4 0), (44, s0 0 a_Tables.length), (45, ii b), (51, pp 0 ((Int.toNat c) * 2))]) (h' := [(5, nP), (4, z2), (3, z2), (2, rU r1.1), (1, pN 5), (0, rc encP a_Tables z0 y0 2)]) (c' := 6) [0, 1, 2, 3, 4, 6] (by decide) rfl ⟨rfl, rfl, rfl, rfl, rfl, rfl, rfl, rfl, trivial⟩ ⟨⟨_, _, rfl, rfl, .inl ⟨rfl, rwP⟩⟩, ⟨_, _, rfl, rfl, .inr ⟨_, _, _, _, rfl, rfl⟩⟩, ⟨_, _, rfl, rfl, .inr ⟨_, _, _, _, rfl, rfl⟩⟩, ⟨_, _, rfl, rfl, .inl ⟨rfl, rowC_scal (encI_ok .u64) _⟩⟩, ⟨_, _, rfl, rfl, .inr ⟨_, _, _, _, rfl, rfl⟩⟩, ⟨_, _, rfl, rfl, .inl ⟨rfl, rwP⟩⟩, trivial⟩ rfl ?_
         exact xa46
        ·refine XR.rd E0_ok [3, 8, 10, 12, 13, 43, 45, 52] rfl (v := aT (gT a_Tables c)) (v_loadN encP_ok (x := (src 112 (.tmp 51))) (b := 0) (off := (Int.toNat c) * 2) (xs := a_Tables) (fz := z0) (e := y0) (es := 2) (d := (some (path 12 52))) (by kernel_rfl) (by kernel_rfl) (by kernel_rfl) (Int.toNat c) (0, 0) (by first | rfl | omega) (row_len (inRow_toNat b5) (by simp)) rfl) (σ' := [(3, .bool d), (8, pp 1 0), (10, s0 2 r1.1.length), (12, pp 3 0), (13, pp 4 0), (43, pp 5 1), (45, ii b), (52, aT (gT a_Tables c))]) (by kernel_rfl) ?_
         refine dQ ?_
         refine ⟨rfl, ?_⟩
         show XA _ _ _ _ _ _ _ _ _ _
         exact xa58
       have xa60 : XA E0 112 1 (opsOf (lft (rgt (rgt (rgt f30_C30))))) 7 #[true, false, true, false, false, true, true, true, true, false, true, false, false, false] [(3, .bool d), (8, pp 1 0), (10, s0 2 r1.1.length), (12, pp 3 0), (43, pp 4 1), (45, ii b), (51, pp 0 ((Int.toNat c) * 2))] [(5, nP), (4, pO a_Sorters a_Tables), (3, z2), (2, rU r1.1), (1, pN 5), (0, rc encP a_Tables z0 y0 2)] 6 (qD a_Tables b c d z0 y0 r1) := by
        refine XA.step E0_ok [1, 9, 11] (by kernel_rfl) rfl (by kernel_rfl) ⟨?_, ?_, ?_, trivial⟩
        ·refine rS 1 [(3, .bool d), (8, pp 1 0), (10, s0 2 r1.1.length), (12, pp 3 0), (44, s0 0 a_Tables.length), (45, ii b), (51, pp 0 ((Int.toNat c) * 2))] ?_
         refine dQ ?_
         refine ⟨rfl, ?_⟩
         show XA _ _ _ _ _ _ _ _ _ _
         refine XA.ren (σ' := [(3, .bool d), (8, pp 1 0), (10, s0 2 r1.1.length), (12, pp 3 0), (44, s0 0 a_Tables.length), (45, ii b), (51, pp 0 ((Int.toNat c) * 2))]) (h' := [(4, nP), (3, z2), (2, rU r1.1), (1, pN 4), (0, rc encP a_Tables z0 y0 2)]) (c' := 5) [0, 1, 2, 3, 5] (by decide) rfl ⟨rfl, rfl, rfl, rfl, rfl, rfl, rfl, trivial⟩ ⟨⟨_, _, rfl, rfl, .inl ⟨rfl, rwP⟩⟩, ⟨_, _, rfl, rfl, .inr ⟨_, _, _, _, rfl, rfl⟩⟩, ⟨_, _, rfl, rfl, .inl ⟨rfl, rowC_scal (encI_ok .u64) _⟩⟩, ⟨_, _, rfl, rfl, .inr ⟨_, _, _, _, rfl, rfl⟩⟩, ⟨_, _, rfl, rfl, .inl ⟨rfl, rwP⟩⟩, trivial⟩ rfl ?_
         exact xa45
        ·refine XR.rd E0_ok [3, 8, 10, 12, 43, 45, 52] rfl (v := aT (gT a_Tables c)) (v_loadN encP_ok (x := (src 112 (.tmp 51))) (b := 0) (off := (Int.toNat c) * 2) (xs := a_Tables) (fz := z0) (e := y0) (es := 2) (d := (some (path 12 52))) (by kernel_rfl) (by kernel_rfl) (by kernel_rfl) (Int.toNat c) (0, 0) (by first | rfl | omega) (row_len (inRow_toNat b5) (by simp)) rfl) (σ' := [(3, .bool d), (8, pp 1 0), (10, s0 2 r1.1.length), (12, pp 3 0), (43, pp 4 1), (45, ii b), (52, aT (gT a_Tables c))]) (by kernel_rfl) ?_
         refine dQ ?_
         refine ⟨rfl, ?_⟩
         show XA _ _ _ _ _ _ _ _ _ _
         exact xa57
        ·refine rT 1 [(3, .bool d), (8, pp 1 0), (10, s0 2 r1.1.length), (12, pp 3 0), (13, pp 6 0), (43, pp 4 1), (45, ii b), (51, pp 0 ((Int.toNat c) * 2))] [(6, z2), (5, nP), (4, pO a_Sorters a_Tables), (3, z2), (2, rU r1.1), (1, pN 5), (0, rc encP a_Tables z0 y0 2)] 7 ?_
         refine dQ ?_
         refine ⟨rfl, ?_⟩
         show XA _ _ _ _ _ _ _ _ _ _
         refine XA.ren (σ' := [(3, .bool d), (8, pp 1 0), (10, s0 2 r1.1.length), (12, pp 3 0), (13, pp 4 0), (43, pp 5 1), (45, ii b), (51, pp 0 ((Int.toNat c) * 2))]) (h' := [(6, nP), (5, pO a_Sorters a_Tables), (4, z2), (3, z2), (2, rU r1.1), (1, pN 6), (0, rc encP a_Tables z0 y0 2)]) (c' := 7) [0, 1, 2, 3, 6, 4, 5] (by decide) rfl ⟨rfl, rfl, rfl, rfl, rfl, rfl, rfl, rfl, trivial⟩ ⟨⟨_, _, rfl, rfl, .inl ⟨rfl, rwP⟩⟩, ⟨_, _, rfl, rfl, .inr ⟨_, _, _, _, rfl, rfl⟩⟩, ⟨_, _, rfl, rfl, .inr ⟨_, _, _, _, rfl, rfl⟩⟩, ⟨_, _, rfl, rfl, .inr ⟨_, _, _, _, rfl, rfl⟩⟩, ⟨_, _, rfl, rfl, .inl ⟨rfl, rowC_scal (encI_ok .u64) _⟩⟩, ⟨_, _, rfl, rfl, .inr ⟨_, _, _, _, rfl, rfl⟩⟩, ⟨_, _, rfl, rfl, .inl ⟨rfl, rwP⟩⟩, trivial⟩ rfl ?_
         exact xa61
       have xa62 : XA E0 112 1 (opsOf (lft (rgt (rgt (rgt f30_C30))))) 7 #[true, false, true, false, false, true, true, true, true, false, false, true, false, false] [(3, .bool d), (8, pp 1 0), (10, s0 2 r1.1.length), (13, pp 3 0), (43, pp 4 1), (45, ii b), (51, pp 0 ((Int.toNat c) * 2))] [(5, nP), (4, pO a_Sorters a_Tables), (3, z2), (2, rU r1.1), (1, pN 5), (0, rc encP a_Tables z0 y0 2)] 6 (qD a_Tables b c d z0 y0 r1) := by
        refine XA.step E0_ok [1, 9, 10] (by kernel_rfl) rfl (by kernel_rfl) ⟨?_, ?_, ?_, trivial⟩
        ·refine rS 1 [(3, .bool d), (8, pp 1 0), (10, s0 2 r1.1.length), (13, pp 3 0), (44, s0 0 a_Tables.length), (45, ii b), (51, pp 0 ((Int.toNat c) * 2))] ?_
         refine dQ ?_
         refine ⟨rfl, ?_⟩
         show XA _ _ _ _ _ _ _ _ _ _
         refine XA.ren (σ' := [(3, .bool d), (8, pp 1 0), (10, s0 2 r1.1.length), (13, pp 3 0), (44, s0 0 a_Tables.length), (45, ii b), (51, pp 0 ((Int.toNat c) * 2))]) (h' := [(4, nP), (3, z2), (2, rU r1.1), (1, pN 4), (0, rc encP a_Tables z0 y0 2)]) (c' := 5) [0, 1, 2, 3, 5] (by decide) rfl ⟨rfl, rfl, rfl, rfl, rfl, rfl, rfl, trivial⟩ ⟨⟨_, _, rfl, rfl, .inl ⟨rfl, rwP⟩⟩, ⟨_, _, rfl, rfl, .inr ⟨_, _, _, _, rfl, rfl⟩⟩, ⟨_, _, rfl, rfl, .inl ⟨rfl, rowC_scal (encI_ok .u64) _⟩⟩, ⟨_, _, rfl, rfl, .inr ⟨_, _, _, _, rfl, rfl⟩⟩, ⟨_, _, rfl, rfl, .inl ⟨rfl, rwP⟩⟩, trivial⟩ rfl ?_
         exact xa47
        ·refine XR.rd E0_ok [3, 8, 10, 13, 43, 45, 52] rfl (v := aT (gT a_Tables c)) (v_loadN encP_ok (x := (src 112 (.tmp 51))) (b := 0) (off := (Int.toNat c) * 2) (xs := a_Tables) (fz := z0) (e := y0) (es := 2) (d := (some (path 12 52))) (by kernel_rfl) (by kernel_rfl) (by kernel_rfl) (Int.toNat c) (0, 0) (by first | rfl | omega) (row_len (inRow_toNat b5) (by simp)) rfl) (σ' := [(3, .bool d), (8, pp 1 0), (10, s0 2 r1.1.length), (13, pp 3 0), (43, pp 4 1), (45, ii b), (52, aT (gT a_Tables c))]) (by kernel_rfl) ?_
         refine dQ ?_
         refine ⟨rfl, ?_⟩
         show XA _ _ _ _ _ _ _ _ _ _
         exact xa59
        ·refine rT 1 [(3, .bool d), (8, pp 1 0), (10, s0 2 r1.1.length), (12, pp 6 0), (13, pp 3 0), (43, pp 4 1), (45, ii b), (51, pp 0 ((Int.toNat c) * 2))] [(6, z2), (5, nP), (4, pO a_Sorters a_Tables), (3, z2), (2, rU r1.1), (1, pN 5), (0, rc encP a_Tables z0 y0 2)] 7 ?_
         refine dQ ?_
         refine ⟨rfl, ?_⟩
         show XA _ _ _ _ _ _ _ _ _ _
         refine XA.ren (σ' := [(3, .bool d), (8, pp 1 0), (10, s0 2 r1.1.length), (12, pp 3 0), (13, pp 4 0), (43, pp 5 1), (45, ii b), (51, pp 0 ((Int.toNat c) * 2))]) (h' := [(6, nP), (5, pO a_Sorters a_Tables), (4, z2), (3, z2), (2, rU r1.1), (1, pN 6), (0, rc encP a_Tables z0 y0 2)]) (c' := 7) [0, 1, 2, 6, 3, 4, 5] (by decide) rfl ⟨rfl, rfl, rfl, rfl, rfl, rfl, rfl, rfl, trivial⟩ ⟨⟨_, _, rfl, rfl, .inl ⟨rfl, rwP⟩⟩, ⟨_, _, rfl, rfl, .inr ⟨_, _, _, _, rfl, rfl⟩⟩, ⟨_, _, rfl, rfl, .inr ⟨_, _, _, _, rfl, rfl⟩⟩, ⟨_, _, rfl, rfl, .inr ⟨_, _, _, _, rfl, rfl⟩⟩, ⟨_, _, rfl, rfl, .inl ⟨rfl, rowC_scal (encI_ok .u64) _⟩⟩, ⟨_, _, rfl, rfl, .inr ⟨_, _, _, _, rfl, rfl⟩⟩, ⟨_, _, rfl, rfl, .inl ⟨rfl, rwP⟩⟩, trivial⟩ rfl ?_
         exact xa61
       have xa55 : XA E0 112 1 (opsOf (lft (rgt (rgt (rgt f30_C30))))) 8 #[true, false, true, false, false, true, true, true, true, false, false, false, false, false] [(3, .bool d), (8, pp 1 0), (10, s0 2 r1.1.length), (43, pp 3 1), (45, ii b), (51, pp 0 ((Int.toNat c) * 2))] [(4, nP), (3, pO a_Sorters a_Tables), (2, rU r1.1), (1, pN 4), (0, rc encP a_Tables z0 y0 2)] 5 (qD a_Tables b c d z0 y0 r1) := by
        refine XA.step E0_ok [1, 9, 10, 11] (by kernel_rfl) rfl (by kernel_rfl) ⟨?_, ?_, ?_, ?_, trivial⟩
        ·refine rS 1 [(3, .bool d), (8, pp 1 0), (10, s0 2 r1.1.length), (44, s0 0 a_Tables.length), (45, ii b), (51, pp 0 ((Int.toNat c) * 2))] ?_
         refine dQ ?_
         refine ⟨rfl, ?_⟩
         show XA _ _ _ _ _ _ _ _ _ _
         refine XA.ren (σ' := [(3, .bool d), (8, pp 1 0), (10, s0 2 r1.1.length), (44, s0 0 a_Tables.length), (45, ii b), (51, pp 0 ((Int.toNat c) * 2))]) (h' := [(3, nP), (2, rU r1.1), (1, pN 3), (0, rc encP a_Tables z0 y0 2)]) (c' := 4) [0, 1, 2, 4] (by decide) rfl ⟨rfl, rfl, rfl, rfl, rfl, rfl, trivial⟩ ⟨⟨_, _, rfl, rfl, .inl ⟨rfl, rwP⟩⟩, ⟨_, _, rfl, rfl, .inl ⟨rfl, rowC_scal (encI_ok .u64) _⟩⟩, ⟨_, _, rfl, rfl, .inr ⟨_, _, _, _, rfl, rfl⟩⟩, ⟨_, _, rfl, rfl, .inl ⟨rfl, rwP⟩⟩, trivial⟩ rfl ?_
         exact xa40
        ·refine XR.rd E0_ok [3, 8, 10, 43, 45, 52] rfl (v := aT (gT a_Tables c)) (v_loadN encP_ok (x := (src 112 (.tmp 51))) (b := 0) (off := (Int.toNat c) * 2) (xs := a_Tables) (fz := z0) (e := y0) (es := 2) (d := (some (path 12 52))) (by kernel_rfl) (by kernel_rfl) (by kernel_rfl) (Int.toNat c) (0, 0) (by first | rfl | omega) (row_len (inRow_toNat b5) (by simp)) rfl) (σ' := [(3, .bool d), (8, pp 1 0), (10, s0 2 r1.1.length), (43, pp 3 1), (45, ii b), (52, aT (gT a_Tables c))]) (by kernel_rfl) ?_
         refine dQ ?_
         refine ⟨rfl, ?_⟩
         show XA _ _ _ _ _ _ _ _ _ _
         exact xa56
        ·refine rT 1 [(3, .bool d), (8, pp 1 0), (10, s0 2 r1.1.length), (12, pp 5 0), (43, pp 3 1), (45, ii b), (51, pp 0 ((Int.toNat c) * 2))] [(5, z2), (4, nP), (3, pO a_Sorters a_Tables), (2, rU r1.1), (1, pN 4), (0, rc encP a_Tables z0 y0 2)] 6 ?_
         refine dQ ?_
         refine ⟨rfl, ?_⟩
         show XA _ _ _ _ _ _ _ _ _ _
         refine XA.ren (σ' := [(3, .bool d), (8, pp 1 0), (10, s0 2 r1.1.length), (12, pp 3 0), (43, pp 4 1), (45, ii b), (51, pp 0 ((Int.toNat c) * 2))]) (h' := [(5, nP), (4, pO a_Sorters a_Tables), (3, z2), (2, rU r1.1), (1, pN 5), (0, rc encP a_Tables z0 y0 2)]) (c' := 6) [0, 1, 2, 5, 3, 4] (by decide) rfl ⟨rfl, rfl, rfl, rfl, rfl, rfl, rfl, trivial⟩ ⟨⟨_, _, rfl, rfl, .inl ⟨rfl, rwP⟩⟩, ⟨_, _, rfl, rfl, .inr ⟨_, _, _, _, rfl, rfl⟩⟩, ⟨_, _, rfl, rfl, .inr ⟨_, _, _, _, rfl, rfl⟩⟩, ⟨_, _, rfl, rfl, .inl ⟨rfl, rowC_scal (encI_ok .u64) _⟩⟩, ⟨_, _, rfl, rfl, .inr ⟨_, _, _, _, rfl, rfl⟩⟩, ⟨_, _, rfl, rfl, .inl ⟨rfl, rwP⟩⟩, trivial⟩ rfl ?_
         exact xa60
        ·refine rT 1 [(3, .bool d), (8, pp 1 0), (10, s0 2 r1.1.length), (13, pp 5 0), (43, pp 3 1), (45, ii b), (51, pp 0 ((Int.toNat c) * 2))] [(5, z2), (4, nP), (3, pO a_Sorters a_Tables), (2, rU r1.1), (1, pN 4), (0, rc encP a_Tables z0 y0 2)] 6 ?_
         refine dQ ?_
         refine ⟨rfl, ?_⟩
         show XA _ _ _ _ _ _ _ _ _ _
         refine XA.ren (σ' := [(3, .bool d), (8, pp 1 0), (10, s0 2 r1.1.length), (13, pp 3 0), (43, pp 4 1), (45, ii b), (51, pp 0 ((Int.toNat c) * 2))]) (h' := [(5, nP), (4, pO a_Sorters a_Tables), (3, z2), (2, rU r1.1), (1, pN 5), (0, rc encP a_Tables z0 y0 2)]) (c' := 6) [0, 1, 2, 5, 3, 4] (by decide) rfl ⟨rfl, rfl, rfl, rfl, rfl, rfl, rfl, trivial⟩ ⟨⟨_, _, rfl, rfl, .inl ⟨rfl, rwP⟩⟩, ⟨_, _, rfl, rfl, .inr ⟨_, _, _, _, rfl, rfl⟩⟩, ⟨_, _, rfl, rfl, .inr ⟨_, _, _, _, rfl, rfl⟩⟩, ⟨_, _, rfl, rfl, .inl ⟨rfl, rowC_scal (encI_ok .u64) _⟩⟩, ⟨_, _, rfl, rfl, .inr ⟨_, _, _, _, rfl, rfl⟩⟩, ⟨_, _, rfl, rfl, .inl ⟨rfl, rwP⟩⟩, trivial⟩ rfl ?_
         exact xa62
       have xa64 : XA E0 112 1 (opsOf (lft (rgt (rgt (rgt f30_C30))))) 7 #[true, false, true, false, false, true, true, true, false, false, true, true, false, false] [(3, .bool d), (8, pp 1 0), (10, s0 2 r1.1.length), (12, pp 3 0), (13, pp 4 0), (43, pp 5 1), (45, ii b), (49, s0 0 a_Tables.length), (50, ii c)] [(6, nP), (5, pO a_Sorters a_Tables), (4, z2), (3, z2), (2, rU r1.1), (1, pN 6), (0, rc encP a_Tables z0 y0 2)] 7 (qD a_Tables b c d z0 y0 r1) := by
        refine XA.step E0_ok [1, 8] (by kernel_rfl) rfl (by kernel_rfl) ⟨?_, ?_, trivial⟩
        ·refine rS 1 [(3, .bool d), (8, pp 1 0), (10, s0 2 r1.1.length), (12, pp 3 0), (13, pp 4 0), (44, s0 0 a_Tables.length), (45, ii b), (49, s0 0 a_Tables.length), (50, ii c)] ?_
         refine dQ ?_
         refine ⟨rfl, ?_⟩
         show XA _ _ _ _ _ _ _ _ _ _
         refine XA.ren (σ' := [(3, .bool d), (8, pp 1 0), (10, s0 2 r1.1.length), (12, pp 3 0), (13, pp 4 0), (44, s0 0 a_Tables.length), (45, ii b), (49, s0 0 a_Tables.length), (50, ii c)]) (h' := [(5, nP), (4, z2), (3, z2), (2, rU r1.1), (1, pN 5), (0, rc encP a_Tables z0 y0 2)]) (c' := 6) [0, 1, 2, 3, 4, 6] (by decide) rfl ⟨rfl, rfl, rfl, rfl, rfl, rfl, rfl, rfl, rfl, trivial⟩ ⟨⟨_, _, rfl, rfl, .inl ⟨rfl, rwP⟩⟩, ⟨_, _, rfl, rfl, .inr ⟨_, _, _, _, rfl, rfl⟩⟩, ⟨_, _, rfl, rfl, .inr ⟨_, _, _, _, rfl, rfl⟩⟩, ⟨_, _, rfl, rfl, .inl ⟨rfl, rowC_scal (encI_ok .u64) _⟩⟩, ⟨_, _, rfl, rfl, .inr ⟨_, _, _, _, rfl, rfl⟩⟩, ⟨_, _, rfl, rfl, .inl ⟨rfl, rwP⟩⟩, trivial⟩ rfl ?_
         exact xa49
        ·refine XR.rd E0_ok [3, 8, 10, 12, 13, 43, 45, 51] rfl (v := pp 0 ((Int.toNat c) * 2)) (v_idx (s := 2) (x := (src 112 (.tmp 49))) (y := (src 112 (.tmp 50))) (b := 0) (o := 0) (len := a_Tables.length) (cap := a_Tables.length) (ik := .i64) (i := c) (off := (Int.toNat c) * 2) (d := (some (path 12 51))) (by kernel_rfl) (by kernel_rfl) (by kernel_rfl) b5 (by omega)) (σ' := [(3, .bool d), (8, pp 1 0), (10, s0 2 r1.1.length), (12, pp 3 0), (13, pp 4 0), (43, pp 5 1), (45, ii b), (51, pp 0 ((Int.toNat c) * 2))]) (by kernel_rfl) ?_
         refine dQ ?_
         refine ⟨rfl, ?_⟩
         show XA _ _ _ _ _ _ _ _ _ _
         exact xa61
       have xa63 : XA E0 112 1 (opsOf (lft (rgt (rgt (rgt f30_C30))))) 8 #[true, false, true, false, false, true, true, true, false, false, true, false, false, false] [(3, .bool d), (8, pp 1 0), (10, s0 2 r1.1.length), (12, pp 3 0), (43, pp 4 1), (45, ii b), (49, s0 0 a_Tables.length), (50, ii c)] [(5, nP), (4, pO a_Sorters a_Tables), (3, z2), (2, rU r1.1), (1, pN 5), (0, rc encP a_Tables z0 y0 2)] 6 (qD a_Tables b c d z0 y0 r1) := by
        refine XA.step E0_ok [1, 8, 11] (by kernel_rfl) rfl (by kernel_rfl) ⟨?_, ?_, ?_, trivial⟩
        ·refine rS 1 [(3, .bool d), (8, pp 1 0), (10, s0 2 r1.1.length), (12, pp 3 0), (44, s0 0 a_Tables.length), (45, ii b), (49, s0 0 a_Tables.length), (50, ii c)] ?_
         refine dQ ?_
         refine ⟨rfl, ?_⟩
         show XA _ _ _ _ _ _ _ _ _ _
         refine XA.ren (σ' := [(3, .bool d), (8, pp 1 0), (10, s0 2 r1.1.length), (12, pp 3 0), (44, s0 0 a_Tables.length), (45, ii b), (49, s0 0 a_Tables.length), (50, ii c)]) (h' := [(4, nP), (3, z2), (2, rU r1.1), (1, pN 4), (0, rc encP a_Tables z0 y0 2)]) (c' := 5) [0, 1, 2, 3, 5] (by decide) rfl ⟨rfl, rfl, rfl, rfl, rfl, rfl, rfl, rfl, trivial⟩ ⟨⟨_, _, rfl, rfl, .inl ⟨rfl, rwP⟩⟩, ⟨_, _, rfl, rfl, .inr ⟨_, _, _, _, rfl, rfl⟩⟩, ⟨_, _, rfl, rfl, .inl ⟨rfl, rowC_scal (encI_ok .u64) _⟩⟩, ⟨_, _, rfl, rfl, .inr ⟨_, _, _, _, rfl, rfl⟩⟩, ⟨_, _, rfl, rfl, .inl ⟨rfl, rwP⟩⟩, trivial⟩ rfl ?_
         exact xa48
        ·refine XR.rd E0_ok [3, 8, 10, 12, 43, 45, 51] rfl (v := pp 0 ((Int.toNat c) * 2)) (v_idx (s := 2) (x := (src 112 (.tmp 49))) (y := (src 112 (.tmp 50))) (b := 0) (o := 0) (len := a_Tables.length) (cap := a_Tables.length) (ik := .i64) (i := c) (off := (Int.toNat c) * 2) (d := (some (path 12 51))) (by kernel_rfl) (by kernel_rfl) (by kernel_rfl) b5 (by omega)) (σ' := [(3, .bool d), (8, pp 1 0), (10, s0 2 r1.1.length), (12, pp 3 0), (43, pp 4 1), (45, ii b), (51, pp 0 ((Int.toNat c) * 2))]) (by kernel_rfl) ?_
         refine dQ ?_
         refine ⟨rfl, ?_⟩
         show XA _ _ _ _ _ _ _ _ _ _
         exact xa60
        ·refine rT 1 [(3, .bool d), (8, pp 1 0), (10, s0 2 r1.1.length), (12, pp 3 0), (13, pp 6 0), (43, pp 4 1), (45, ii b), (49, s0 0 a_Tables.length), (50, ii c)] [(6, z2), (5, nP), (4, pO a_Sorters a_Tables), (3, z2), (2, rU r1.1), (1, pN 5), (0, rc encP a_Tables z0 y0 2)] 7 ?_
         refine dQ ?_
         refine ⟨rfl, ?_⟩
         show XA _ _ _ _ _ _ _ _ _ _
         refine XA.ren (σ' := [(3, .bool d), (8, pp 1 0), (10, s0 2 r1.1.length), (12, pp 3 0), (13, pp 4 0), (43, pp 5 1), (45, ii b), (49, s0 0 a_Tables.length), (50, ii c)]) (h' := [(6, nP), (5, pO a_Sorters a_Tables), (4, z2), (3, z2), (2, rU r1.1), (1, pN 6), (0, rc encP a_Tables z0 y0 2)]) (c' := 7) [0, 1, 2, 3, 6, 4, 5] (by decide) rfl ⟨rfl, rfl, rfl, rfl, rfl, rfl, rfl, rfl, rfl, trivial⟩ ⟨⟨_, _, rfl, rfl, .inl ⟨rfl, rwP⟩⟩, ⟨_, _, rfl, rfl, .inr ⟨_, _, _, _, rfl, rfl⟩⟩, ⟨_, _, rfl, rfl, .inr ⟨_, _, _, _, rfl, rfl⟩⟩, ⟨_, _, rfl, rfl, .inr ⟨_, _, _, _, rfl, rfl⟩⟩, ⟨_, _, rfl, rfl, .inl ⟨rfl, rowC_scal (encI_ok .u64) _⟩⟩, ⟨_, _, rfl, rfl, .inr ⟨_, _, _, _, rfl, rfl⟩⟩, ⟨_, _, rfl, rfl, .inl ⟨rfl, rwP⟩⟩, trivial⟩ rfl ?_
         exact xa64
       have xa65 : XA E0 112 1 (opsOf (lft (rgt (rgt (rgt f30_C30))))) 8 #[true, false, true, false, false, true, true, true, false, false, false, true, false, false] [(3, .bool d), (8, pp 1 0), (10, s0 2 r1.1.length), (13, pp 3 0), (43, pp 4 1), (45, ii b), (49, s0 0 a_Tables.length), (50, ii c)] [(5, nP), (4, pO a_Sorters a_Tables), (3, z2), (2, rU r1.1), (1, pN 5), (0, rc encP a_Tables z0 y0 2)] 6 (qD a_Tables b c d z0 y0 r1) := by
        refine XA.step E0_ok [1, 8, 10] (by kernel_rfl) rfl (by kernel_rfl) ⟨?_, ?_, ?_, trivial⟩
        ·refine rS 1 [(3, .bool d), (8, pp 1 0), (10, s0 2 r1.1.length), (13, pp 3 0), (44, s0 0 a_Tables.length), (45, ii b), (49, s0 0 a_Tables.length), (50, ii c)] ?_
         refine dQ ?_
         refine ⟨rfl, ?_⟩
         show XA _ _ _ _ _ _ _ _ _ _
         refine XA.ren (σ' := [(3, .bool d), (8, pp 1 0), (10, s0 2 r1.1.length), (13, pp 3 0), (44, s0 0 a_Tables.length), (45, ii b), (49, s0 0 a_Tables.length), (50, ii c)]) (h' := [(4, nP), (3, z2), (2, rU r1.1), (1, pN 4), (0, rc encP a_Tables z0 y0 2)]) (c' := 5) [0, 1, 2, 3, 5] (by decide) rfl ⟨rfl, rfl, rfl, rfl, rfl, rfl, rfl, rfl, trivial⟩ ⟨⟨_, _, rfl, rfl, .inl ⟨rfl, rwP⟩⟩, ⟨_, _, rfl, rfl, .inr ⟨_, _, _, _, rfl, rfl⟩⟩, ⟨_, _, rfl, rfl, .inl ⟨rfl, rowC_scal (encI_ok .u64) _⟩⟩, ⟨_, _, rfl, rfl, .inr ⟨_, _, _, _, rfl, rfl⟩⟩, ⟨_, _, rfl, rfl, .inl ⟨rfl, rwP⟩⟩, trivial⟩ rfl ?_
         exact xa50
        ·refine XR.rd E0_ok [3, 8, 10, 13, 43, 45, 51] rfl (v := pp 0 ((Int.toNat c) * 2)) (v_idx (s := 2) (x := (src 112 (.tmp 49))) (y := (src 112 (.tmp 50))) (b := 0) (o := 0) (len := a_Tables.length) (cap := a_Tables.length) (ik := .i64) (i := c) (off := (Int.toNat c) * 2) (d := (some (path 12 51))) (by kernel_rfl) (by kernel_rfl) (by kernel_rfl) b5 (by omega)) (σ' := [(3, .bool d), (8, pp 1 0), (10, s0 2 r1.1.length), (13, pp 3 0), (43, pp 4 1), (45, ii b), (51, pp 0 ((Int.toNat c) * 2))]) (by kernel_rfl) ?_
         refine dQ ?_
         refine ⟨rfl, ?_⟩
         show XA _ _ _ _ _ _ _ _ _ _
         exact xa62
        ·refine rT 1 [(3, .bool d), (8, pp 1 0), (10, s0 2 r1.1.length), (12, pp 6 0), (13, pp 3 0), (43, pp 4 1), (45, ii b), (49, s0 0 a_Tables.length), (50, ii c)] [(6, z2), (5, nP), (4, pO a_Sorters a_Tables), (3, z2), (2, rU r1.1), (1, pN 5), (0, rc encP a_Tables z0 y0 2)] 7 ?_
         refine dQ ?_
         refine ⟨rfl, ?_⟩
         show XA _ _ _ _ _ _ _ _ _ _
         refine XA.ren (σ' := [(3, .bool d), (8, pp 1 0), (10, s0 2 r1.1.length), (12, pp 3 0), (13, pp 4 0), (43, pp 5 1), (45, ii b), (49, s0 0 a_Tables.length), (50, ii c)]) (h' := [(6, nP), (5, pO a_Sorters a_Tables), (4, z2), (3, z2), (2, rU r1.1), (1, pN 6), (0, rc encP a_Tables z0 y0 2)]) (c' := 7) [0, 1, 2, 6, 3, 4, 5] (by decide) rfl ⟨rfl, rfl, rfl, rfl, rfl, rfl, rfl, rfl, rfl, trivial⟩ ⟨⟨_, _, rfl, rfl, .inl ⟨rfl, rwP⟩⟩, ⟨_, _, rfl, rfl, .inr ⟨_, _, _, _, rfl, rfl⟩⟩, ⟨_, _, rfl, rfl, .inr ⟨_, _, _, _, rfl, rfl⟩⟩, ⟨_, _, rfl, rfl, .inr ⟨_, _, _, _, rfl, rfl⟩⟩, ⟨_, _, rfl, rfl, .inl ⟨rfl, rowC_scal (encI_ok .u64) _⟩⟩, ⟨_, _, rfl, rfl, .inr ⟨_, _, _, _, rfl, rfl⟩⟩, ⟨_, _, rfl, rfl, .inl ⟨rfl, rwP⟩⟩, trivial⟩ rfl ?_
         exact xa64
       have xa54 : XA E0 112 1 (opsOf (lft (rgt (rgt (rgt f30_C30))))) 9 #[true, false, true, false, false, true, true, true, false, false, false, false, false, false] [(3, .bool d), (8, pp 1 0), (10, s0 2 r1.1.length), (43, pp 3 1), (45, ii b), (49, s0 0 a_Tables.length), (50, ii c)] [(4, nP), (3, pO a_Sorters a_Tables), (2, rU r1.1), (1, pN 4), (0, rc encP a_Tables z0 y0 2)] 5 (qD a_Tables b c d z0 y0 r1) := by
        refine XA.step E0_ok [1, 8, 10, 11] (by kernel_rfl) rfl (by kernel_rfl) ⟨?_, ?_, ?_, ?_, trivial⟩
        ·refine rS 1 [(3, .bool d), (8, pp 1 0), (10, s0 2 r1.1.length), (44, s0 0 a_Tables.length), (45, ii b), (49, s0 0 a_Tables.length), (50, ii c)] ?_
         refine dQ ?_
         refine ⟨rfl, ?_⟩
         show XA _ _ _ _ _ _ _ _ _ _
         refine XA.ren (σ' := [(3, .bool d), (8, pp 1 0), (10, s0 2 r1.1.length), (44, s0 0 a_Tables.length), (45, ii b), (49, s0 0 a_Tables.length), (50, ii c)]) (h' := [(3, nP), (2, rU r1.1), (1, pN 3), (0, rc encP a_Tables z0 y0 2)]) (c' := 4) [0, 1, 2, 4] (by decide) rfl ⟨rfl, rfl, rfl, rfl, rfl, rfl, rfl, trivial⟩ ⟨⟨_, _, rfl, rfl, .inl ⟨rfl, rwP⟩⟩, ⟨_, _, rfl, rfl, .inl ⟨rfl, rowC_scal (encI_ok .u64) _⟩⟩, ⟨_, _, rfl, rfl, .inr ⟨_, _, _, _, rfl, rfl⟩⟩, ⟨_, _, rfl, rfl, .inl ⟨rfl, rwP⟩⟩, trivial⟩ rfl ?_
         exact xa39
        ·refine XR.rd E0_ok [3, 8, 10, 43, 45, 51] rfl (v := pp 0 ((Int.toNat c) * 2)) (v_idx (s := 2) (x := (src 112 (.tmp 49))) (y := (src 112 (.tmp 50))) (b := 0) (o := 0) (len := a_Tables.length) (cap := a_Tables.length) (ik := .i64) (i := c) (off := (Int.toNat c) * 2) (d := (some (path 12 51))) (by kernel_rfl) (by kernel_rfl) (by kernel_rfl) b5 (by omega)) (σ' := [(3, .bool d), (8, pp 1 0), (10, s0 2 r1.1.length), (43, pp 3 1), (45, ii b), (51, pp 0 ((Int.toNat c) * 2))]) (by kernel_rfl) ?_
         refine dQ ?_
         refine ⟨rfl, ?_⟩
         show XA _ _ _ _ _ _ _ _ _ _
         exact xa55
        ·refine rT 1 [(3, .bool d), (8, pp 1 0), (10, s0 2 r1.1.length), (12, pp 5 0), (43, pp 3 1), (45, ii b), (49, s0 0 a_Tables.length), (50, ii c)] [(5, z2), (4, nP), (3, pO a_Sorters a_Tables), (2, rU r1.1), (1, pN 4), (0, rc encP a_Tables z0 y0 2)] 6 ?_
         refine dQ ?_
         refine ⟨rfl, ?_⟩
         show XA _ _ _ _ _ _ _ _ _ _
         refine XA.ren (σ' := [(3, .bool d), (8, pp 1 0), (10, s0 2 r1.1.length), (12, pp 3 0), (43, pp 4 1), (45, ii b), (49, s0 0 a_Tables.length), (50, ii c)]) (h' := [(5, nP), (4, pO a_Sorters a_Tables), (3, z2), (2, rU r1.1), (1, pN 5), (0, rc encP a_Tables z0 y0 2)]) (c' := 6) [0, 1, 2, 5, 3, 4] (by decide) rfl ⟨rfl, rfl, rfl, rfl, rfl, rfl, rfl, rfl, trivial⟩ ⟨⟨_, _, rfl, rfl, .inl ⟨rfl, rwP⟩⟩, ⟨_, _, rfl, rfl, .inr ⟨_, _, _, _, rfl, rfl⟩⟩, ⟨_, _, rfl, rfl, .inr ⟨_, _, _, _, rfl, rfl⟩⟩, ⟨_, _, rfl, rfl, .inl ⟨rfl, rowC_scal (encI_ok .u64) _⟩⟩, ⟨_, _, rfl, rfl, .inr ⟨_, _, _, _, rfl, rfl⟩⟩, ⟨_, _, rfl, rfl, .inl ⟨rfl, rwP⟩⟩, trivial⟩ rfl ?_
         exact xa63
        ·refine rT 1 [(3, .bool d), (8, pp 1 0), (10, s0 2 r1.1.length), (13, pp 5 0), (43, pp 3 1), (45, ii b), (49, s0 0 a_Tables.length), (50, ii c)] [(5, z2), (4, nP), (3, pO a_Sorters a_Tables), (2, rU r1.1), (1, pN 4), (0, rc encP a_Tables z0 y0 2)] 6 ?_
         refine dQ ?_
         refine ⟨rfl, ?_⟩
         show XA _ _ _ _ _ _ _ _ _ _
         refine XA.ren (σ' := [(3, .bool d), (8, pp 1 0), (10, s0 2 r1.1.length), (13, pp 3 0), (43, pp 4 1), (45, ii b), (49, s0 0 a_Tables.length), (50, ii c)]) (h' := [(5, nP), (4, pO a_Sorters a_Tables), (3, z2), (2, rU r1.1), (1, pN 5), (0, rc encP a_Tables z0 y0 2)]) (c' := 6) [0, 1, 2, 5, 3, 4] (by decide) rfl ⟨rfl, rfl, rfl, rfl, rfl, rfl, rfl, rfl, trivial⟩ ⟨⟨_, _, rfl, rfl, .inl ⟨rfl, rwP⟩⟩, ⟨_, _, rfl, rfl, .inr ⟨_, _, _, _, rfl, rfl⟩⟩, ⟨_, _, rfl, rfl, .inr ⟨_, _, _, _, rfl, rfl⟩⟩, ⟨_, _, rfl, rfl, .inl ⟨rfl, rowC_scal (encI_ok .u64) _⟩⟩, ⟨_, _, rfl, rfl, .inr ⟨_, _, _, _, rfl, rfl⟩⟩, ⟨_, _, rfl, rfl, .inl ⟨rfl, rwP⟩⟩, trivial⟩ rfl ?_
         exact xa65
       have xa67 : XA E0 112 1 (opsOf (lft (rgt (rgt (rgt f30_C30))))) 8 #[true, false, true, false, false, true, false, true, false, false, true, true, false, false] [(3, .bool d), (8, pp 1 0), (10, s0 2 r1.1.length), (12, pp 3 0), (13, pp 4 0), (43, pp 5 1), (45, ii b), (48, pp 5 1), (50, ii c)] [(6, nP), (5, pO a_Sorters a_Tables), (4, z2), (3, z2), (2, rU r1.1), (1, pN 6), (0, rc encP a_Tables z0 y0 2)] 7 (qD a_Tables b c d z0 y0 r1) := by
        refine XA.step E0_ok [1, 6] (by kernel_rfl) rfl (by kernel_rfl) ⟨?_, ?_, trivial⟩
        ·refine rS 1 [(3, .bool d), (8, pp 1 0), (10, s0 2 r1.1.length), (12, pp 3 0), (13, pp 4 0), (44, s0 0 a_Tables.length), (45, ii b), (48, pp 5 1), (50, ii c)] ?_
         refine dQ ?_
         refine ⟨rfl, ?_⟩
         show XA _ _ _ _ _ _ _ _ _ _
         exact xa52
        ·refine rS 1 [(3, .bool d), (8, pp 1 0), (10, s0 2 r1.1.length), (12, pp 3 0), (13, pp 4 0), (43, pp 5 1), (45, ii b), (49, s0 0 a_Tables.length), (50, ii c)] ?_
         refine dQ ?_
         refine ⟨rfl, ?_⟩
         show XA _ _ _ _ _ _ _ _ _ _
         exact xa64
       have xa66 : XA E0 112 1 (opsOf (lft (rgt (rgt (rgt f30_C30))))) 9 #[true, false, true, false, false, true, false, true, false, false, true, false, false, false] [(3, .bool d), (8, pp 1 0), (10, s0 2 r1.1.length), (12, pp 3 0), (43, pp 4 1), (45, ii b), (48, pp 4 1), (50, ii c)] [(5, nP), (4, pO a_Sorters a_Tables), (3, z2), (2, rU r1.1), (1, pN 5), (0, rc encP a_Tables z0 y0 2)] 6 (qD a_Tables b c d z0 y0 r1) := by
        refine XA.step E0_ok [1, 6, 11] (by kernel_rfl) rfl (by kernel_rfl) ⟨?_, ?_, ?_, trivial⟩
        ·refine rS 1 [(3, .bool d), (8, pp 1 0), (10, s0 2 r1.1.length), (12, pp 3 0), (44, s0 0 a_Tables.length), (45, ii b), (48, pp 4 1), (50, ii c)] ?_
         refine dQ ?_
         refine ⟨rfl, ?_⟩
         show XA _ _ _ _ _ _ _ _ _ _
         exact xa51
        ·refine rS 1 [(3, .bool d), (8, pp 1 0), (10, s0 2 r1.1.length), (12, pp 3 0), (43, pp 4 1), (45, ii b), (49, s0 0 a_Tables.length), (50, ii c)] ?_
         refine dQ ?_
         refine ⟨rfl, ?_⟩
         show XA _ _ _ _ _ _ _ _ _ _
         exact xa63
        ·refine rT 1 [(3, .bool d), (8, pp 1 0), (10, s0 2 r1.1.length), (12, pp 3 0), (13, pp 6 0), (43, pp 4 1), (45, ii b), (48, pp 4 1), (50, ii c)] [(6, z2), (5, nP), (4, pO a_Sorters a_Tables), (3, z2), (2, rU r1.1), (1, pN 5), (0, rc encP a_Tables z0 y0 2)] 7 ?_
         refine dQ ?_
         refine ⟨rfl, ?_⟩
         show XA _ _ _ _ _ _ _ _ _ _
         refine XA.ren (σ' := [(3, .bool d), (8, pp 1 0), (10, s0 2 r1.1.length), (12, pp 3 0), (13, pp 4 0), (43, pp 5 1), (45, ii b), (48, pp 5 1), (50, ii c)]) (h' := [(6, nP), (5, pO a_Sorters a_Tables), (4, z2), (3, z2), (2, rU r1.1), (1, pN 6), (0, rc encP a_Tables z0 y0 2)]) (c' := 7) [0, 1, 2, 3, 6, 4, 5] (by decide) rfl ⟨rfl, rfl, rfl, rfl, rfl, rfl, rfl, rfl, rfl, trivial⟩ ⟨⟨_, _, rfl, rfl, .inl ⟨rfl, rwP⟩⟩, ⟨_, _, rfl, rfl, .inr ⟨_, _, _, _, rfl, rfl⟩⟩, ⟨_, _, rfl, rfl, .inr ⟨_, _, _, _, rfl, rfl⟩⟩, ⟨_, _, rfl, rfl, .inr ⟨_, _, _, _, rfl, rfl⟩⟩, ⟨_, _, rfl, rfl, .inl ⟨rfl, rowC_scal (encI_ok .u64) _⟩⟩, ⟨_, _, rfl, rfl, .inr ⟨_, _, _, _, rfl, rfl⟩⟩, ⟨_, _, rfl, rfl, .inl ⟨rfl, rwP⟩⟩, trivial⟩ rfl ?_
         exact xa67
       have xa68 : XA E0 112 1 (opsOf (lft (rgt (rgt (rgt f30_C30))))) 9 #[true, false, true, false, false, true, false, true, false, false, false, true, false, false] [(3, .bool d), (8, pp 1 0), (10, s0 2 r1.1.length), (13, pp 3 0), (43, pp 4 1), (45, ii b), (48, pp 4 1), (50, ii c)] [(5, nP), (4, pO a_Sorters a_Tables), (3, z2), (2, rU r1.1), (1, pN 5), (0, rc encP a_Tables z0 y0 2)] 6 (qD a_Tables b c d z0 y0 r1) := by
        refine XA.step E0_ok [1, 6, 10] (by kernel_rfl) rfl (by kernel_rfl) ⟨?_, ?_, ?_, trivial⟩
        ·refine rS 1 [(3, .bool d), (8, pp 1 0), (10, s0 2 r1.1.length), (13, pp 3 0), (44, s0 0 a_Tables.length), (45, ii b), (48, pp 4 1), (50, ii c)] ?_
         refine dQ ?_
         refine ⟨rfl, ?_⟩
         show XA _ _ _ _ _ _ _ _ _ _
         exact xa53
        ·refine rS 1 [(3, .bool d), (8, pp 1 0), (10, s0 2 r1.1.length), (13, pp 3 0), (43, pp 4 1), (45, ii b), (49, s0 0 a_Tables.length), (50, ii c)] ?_
         refine dQ ?_
         refine ⟨rfl, ?_⟩
         show XA _ _ _ _ _ _ _ _ _ _
         exact xa65
        ·refine rT 1 [(3, .bool d), (8, pp 1 0), (10, s0 2 r1.1.length), (12, pp 6 0), (13, pp 3 0), (43, pp 4 1), (45, ii b), (48, pp 4 1), (50, ii c)] [(6, z2), (5, nP), (4, pO a_Sorters a_Tables), (3, z2), (2, rU r1.1), (1, pN 5), (0, rc encP a_Tables z0 y0 2)] 7 ?_
         refine dQ ?_
         refine ⟨rfl, ?_⟩
         show XA _ _ _ _ _ _ _ _ _ _
         refine XA.ren (σ' := [(3, .bool d), (8, pp 1 0), (10, s0 2 r1.1.length), (12, pp 3 0), (13, pp 4 0), (43, pp 5 1), (45, ii b), (48, pp 5 1), (50, ii c)]) (h' := [(6, nP), (5, pO a_Sorters a_Tables), (4, z2), (3, z2), (2, rU r1.1), (1, pN 6), (0, rc encP a_Tables z0 y0 2)]) (c' := 7) [0, 1, 2, 6, 3, 4, 5] (by decide) rfl ⟨rfl, rfl, rfl, rfl, rfl, rfl, rfl, rfl, rfl, trivial⟩ ⟨⟨_, _, rfl, rfl, .inl ⟨rfl, rwP⟩⟩, ⟨_, _, rfl, rfl, .inr ⟨_, _, _, _, rfl, rfl⟩⟩, ⟨_, _, rfl, rfl, .inr ⟨_, _, _, _, rfl, rfl⟩⟩, ⟨_, _, rfl, rfl, .inr ⟨_, _, _, _, rfl, rfl⟩⟩, ⟨_, _, rfl, rfl, .inl ⟨rfl, rowC_scal (encI_ok .u64) _⟩⟩, ⟨_, _, rfl, rfl, .inr ⟨_, _, _, _, rfl, rfl⟩⟩, ⟨_, _, rfl, rfl, .inl ⟨rfl, rwP⟩⟩, trivial⟩ rfl ?_
         exact xa67
       have xa0 : XA E0 112 1 (opsOf (lft (rgt (rgt (rgt f30_C30))))) 10 #[true, false, true, false, false, true, false, true, false, false, false, false, false, false] [(3, .bool d), (8, pp 1 0), (10, s0 2 r1.1.length), (43, pp 3 1), (45, ii b), (48, pp 3 1), (50, ii c)] [(4, nP), (3, pO a_Sorters a_Tables), (2, rU r1.1), (1, pN 4), (0, rc encP a_Tables z0 y0 2)] 5 (qD a_Tables b c d z0 y0 r1) := by
        refine XA.step E0_ok [1, 6, 10, 11] (by kernel_rfl) rfl (by kernel_rfl) ⟨?_, ?_, ?_, ?_, trivial⟩
        ·refine rS 1 [(3, .bool d), (8, pp 1 0), (10, s0 2 r1.1.length), (44, s0 0 a_Tables.length), (45, ii b), (48, pp 3 1), (50, ii c)] ?_
         refine dQ ?_
         refine ⟨rfl, ?_⟩
         show XA _ _ _ _ _ _ _ _ _ _
         exact xa1
        ·refine rS 1 [(3, .bool d), (8, pp 1 0), (10, s0 2 r1.1.length), (43, pp 3 1), (45, ii b), (49, s0 0 a_Tables.length), (50, ii c)] ?_
         refine dQ ?_
         refine ⟨rfl, ?_⟩
         show XA _ _ _ _ _ _ _ _ _ _
         exact xa54
        ·refine rT 1 [(3, .bool d), (8, pp 1 0), (10, s0 2 r1.1.length), (12, pp 5 0), (43, pp 3 1), (45, ii b), (48, pp 3 1), (50, ii c)] [(5, z2), (4, nP), (3, pO a_Sorters a_Tables), (2, rU r1.1), (1, pN 4), (0, rc encP a_Tables z0 y0 2)] 6 ?_
         refine dQ ?_
         refine ⟨rfl, ?_⟩
         show XA _ _ _ _ _ _ _ _ _ _
         refine XA.ren (σ' := [(3, .bool d), (8, pp 1 0), (10, s0 2 r1.1.length), (12, pp 3 0), (43, pp 4 1), (45, ii b), (48, pp 4 1), (50, ii c)]) (h' := [(5, nP), (4, pO a_Sorters a_Tables), (3, z2), (2, rU r1.1), (1, pN 5), (0, rc encP a_Tables z0 y0 2)]) (c' := 6) [0, 1, 2, 5, 3, 4] (by decide) rfl ⟨rfl, rfl, rfl, rfl, rfl, rfl, rfl, rfl, trivial⟩ ⟨⟨_, _, rfl, rfl, .inl ⟨rfl, rwP⟩⟩, ⟨_, _, rfl, rfl, .inr ⟨_, _, _, _, rfl, rfl⟩⟩, ⟨_, _, rfl, rfl, .inr ⟨_, _, _, _, rfl, rfl⟩⟩, ⟨_, _, rfl, rfl, .inl ⟨rfl, rowC_scal (encI_ok .u64) _⟩⟩, ⟨_, _, rfl, rfl, .inr ⟨_, _, _, _, rfl, rfl⟩⟩, ⟨_, _, rfl, rfl, .inl ⟨rfl, rwP⟩⟩, trivial⟩ rfl ?_
         exact xa66
        ·refine rT 1 [(3, .bool d), (8, pp 1 0), (10, s0 2 r1.1.length), (13, pp 5 0), (43, pp 3 1), (45, ii b), (48, pp 3 1), (50, ii c)] [(5, z2), (4, nP), (3, pO a_Sorters a_Tables), (2, rU r1.1), (1, pN 4), (0, rc encP a_Tables z0 y0 2)] 6 ?_
         refine dQ ?_
         refine ⟨rfl, ?_⟩
         show XA _ _ _ _ _ _ _ _ _ _
         refine XA.ren (σ' := [(3, .bool d), (8, pp 1 0), (10, s0 2 r1.1.length), (13, pp 3 0), (43, pp 4 1), (45, ii b), (48, pp 4 1), (50, ii c)]) (h' := [(5, nP), (4, pO a_Sorters a_Tables), (3, z2), (2, rU r1.1), (1, pN 5), (0, rc encP a_Tables z0 y0 2)]) (c' := 6) [0, 1, 2, 5, 3, 4] (by decide) rfl ⟨rfl, rfl, rfl, rfl, rfl, rfl, rfl, rfl, trivial⟩ ⟨⟨_, _, rfl, rfl, .inl ⟨rfl, rwP⟩⟩, ⟨_, _, rfl, rfl, .inr ⟨_, _, _, _, rfl, rfl⟩⟩, ⟨_, _, rfl, rfl, .inr ⟨_, _, _, _, rfl, rfl⟩⟩, ⟨_, _, rfl, rfl, .inl ⟨rfl, rowC_scal (encI_ok .u64) _⟩⟩, ⟨_, _, rfl, rfl, .inr ⟨_, _, _, _, rfl, rfl⟩⟩, ⟨_, _, rfl, rfl, .inl ⟨rfl, rwP⟩⟩, trivial⟩ rfl ?_
         exact xa68
       refine XP.step E0_ok 4 [3, 8, 10, 43, 45, 48, 50] rfl (σ' := [(3, .bool d), (8, pp 2 0), (10, s0 4 r1.1.length), (43, pp 1 1), (45, ii b), (48, pp 1 1), (50, ii c)]) (by kernel_rfl) ?_
       refine XP.done (by kernel_rfl) ?_
       show XA _ _ _ _ _ _ _ _ _ _
       refine XA.ren (σ' := [(3, .bool d), (8, pp 1 0), (10, s0 2 r1.1.length), (43, pp 3 1), (45, ii b), (48, pp 3 1), (50, ii c)]) (h' := [(4, nP), (3, pO a_Sorters a_Tables), (2, rU r1.1), (1, pN 4), (0, rc encP a_Tables z0 y0 2)]) (c' := 5) [0, 2, 4, 1, 3] (by decide) rfl ⟨rfl, rfl, rfl, rfl, rfl, rfl, rfl, trivial⟩ ⟨⟨_, _, rfl, rfl, .inl ⟨rfl, rwP⟩⟩, ⟨_, _, rfl, rfl, .inr ⟨_, _, _, _, rfl, rfl⟩⟩, ⟨_, _, rfl, rfl, .inl ⟨rfl, rowC_scal (encI_ok .u64) _⟩⟩, ⟨_, _, rfl, rfl, .inr ⟨_, _, _, _, rfl, rfl⟩⟩, ⟨_, _, rfl, rfl, .inl ⟨rfl, rwP⟩⟩, trivial⟩ rfl ?_
       exact xa0

end Go.Xm
