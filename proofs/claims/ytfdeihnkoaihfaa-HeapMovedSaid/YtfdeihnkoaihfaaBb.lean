/- What these functions of the program compute, as functions in Lean, and the proofs that they do: vitolalaw02.Yard).made. Conditions: none. -/
import Derived.Test.YtfdeihnkoaihfaaZx
import Derived.Test.YtfdeihnkoaihfaaBa
namespace Go.Xm
open Go.RowKit
set_option linter.unusedVariables false
set_option linter.unusedSimpArgs false
set_option maxRecDepth 20000
noncomputable def f41_C41 : Code := Proofs.Try.f41.body.getD .skip
noncomputable def f41_L1 : Code := lft (lft (rgt (lft (rgt (rgt f41_C41)))))
def f41_1 (m : Nat) : Nat → Int → Int → Nat → Int → Int → List (Int × Int) → List (Int × Int) → Option (List (Int × Int))
 | 0, _, _, _, _, _, _, _ => none
 | fuel + 1, d, e, n21_1, x22_1, x23_1, lh0_1, lh1_1 =>
  cond (decide (x23_1 < x22_1)) (
   cond (inRow x23_1 n21_1) (
    cond (decide (Int.toNat x23_1 < lh1_1.length)) (
     cond (d != 0) (
      cond (fitsB (lh0_1.length + 1) 16) (
       f41_1 m fuel d e n21_1 x22_1 (w64 (x23_1 + 1)) (lh0_1 ++ [(w64 (e + (Int.tmod (w64 ((List.getD lh1_1 (Int.toNat x23_1) (0, 0)).1)) d)), w64 (e + (iMin (w64 (d - 1)) (w64 ((Int.tmod (w64 ((List.getD lh1_1 (Int.toNat x23_1) (0, 0)).1)) d) + (Int.tmod (w64 ((List.getD lh1_1 (Int.toNat x23_1) (0, 0)).2)) 4))))))]) lh1_1
      ) none
     ) none
    ) none
   ) none
  ) (
   some (lh0_1)
  )
theorem f41_1_ok (m : Nat) : ∀ (fuel : Nat) (d : Int) (e : Int) (n21_1 : Nat) (x22_1 : Int) (x23_1 : Int) (lh0_1 : List (Int × Int)) (lh1_1 : List (Int × Int)) (o : (List (Int × Int))), f41_1 m fuel d e n21_1 x22_1 x23_1 lh0_1 lh1_1 = some o → ∀ Q : QP, Q (.exit 0) [(11, s0 0 o.length)] [(0, rc encP o 0 61 2)] 1 → XL E0 53 0 fuel f41_L1 [(3, ii d), (4, ii e), (11, s0 0 lh0_1.length), (21, sl 1 0 n21_1 lh1_1.length), (22, ii x22_1), (23, ii x23_1)] [(1, rc (encQ .u8) lh1_1 0 56 0), (0, rc encP lh0_1 0 61 2)] 2 Q
 | 0, d, e, n21_1, x22_1, x23_1, lh0_1, lh1_1, o, h, Q, hQ => by cases h
 | fuel + 1, d, e, n21_1, x22_1, x23_1, lh0_1, lh1_1, o, h, Q, hQ => by
  unfold f41_1 at h
  refine XL.succ E0_ok ?_
  refine qQ ?_
  refine rS 1 [(3, ii d), (4, ii e), (11, s0 0 lh0_1.length), (21, sl 1 0 n21_1 lh1_1.length), (22, ii x22_1), (23, ii x23_1), (24, .bool (decide (x23_1 < x22_1)))] ?_
  refine dQ ?_
  show XQ _ _ _ _ _ _ _ _
  refine sQ ?_
  cases b1 : (decide (x23_1 < x22_1) : Bool) with
  | true =>
   have h := cT b1 h
   refine iT (.tmp 24) ?_
   refine kQ ?_
   show XQ _ _ _ _ _ _ _ _
   refine sQ ?_
   refine XQ.block (id := 1) (by kernel_rfl) ?_
   refine qQ ?_
   cases b2 : (inRow x23_1 n21_1 : Bool) with
   | false => cases (cF b2 h)
   | true =>
    have h := cT b2 h
    refine XR.rd E0_ok [3, 4, 11, 21, 22, 23, 25] rfl (v := pp 1 ((Int.toNat x23_1) * 2)) (v_idx (s := 2) (x := (src 53 (.tmp 21))) (y := (src 53 (.tmp 23))) (b := 1) (o := 0) (len := n21_1) (cap := lh1_1.length) (ik := .i64) (i := x23_1) (off := (Int.toNat x23_1) * 2) (d := (some (path 12 25))) (by kernel_rfl) (by kernel_rfl) (by kernel_rfl) b2 (by omega)) (σ' := [(3, ii d), (4, ii e), (11, s0 0 lh0_1.length), (21, sl 1 0 n21_1 lh1_1.length), (22, ii x22_1), (23, ii x23_1), (25, pp 1 ((Int.toNat x23_1) * 2))]) (by kernel_rfl) ?_
    cases b3 : (decide (Int.toNat x23_1 < lh1_1.length) : Bool) with
    | false => cases (cF b3 h)
    | true =>
     have h := cT b3 h
     refine XR.rd E0_ok [3, 4, 11, 21, 22, 23, 26] rfl (v := .agg #[.int .u8 ((List.getD lh1_1 (Int.toNat x23_1) (0, 0)).1), .int .u8 ((List.getD lh1_1 (Int.toNat x23_1) (0, 0)).2)]) (v_loadN (encQ_ok .u8) (x := (src 53 (.tmp 25))) (b := 1) (off := (Int.toNat x23_1) * 2) (xs := lh1_1) (fz := 0) (e := 56) (es := 0) (d := (some (path 12 26))) (by kernel_rfl) (by kernel_rfl) (by kernel_rfl) (Int.toNat x23_1) (0, 0) (by first | rfl | omega) (row_len b3 (by simp)) rfl) (σ' := [(3, ii d), (4, ii e), (11, s0 0 lh0_1.length), (21, sl 1 0 n21_1 lh1_1.length), (22, ii x22_1), (23, ii x23_1), (26, .agg #[.int .u8 ((List.getD lh1_1 (Int.toNat x23_1) (0, 0)).1), .int .u8 ((List.getD lh1_1 (Int.toNat x23_1) (0, 0)).2)])]) (by kernel_rfl) ?_
     refine rT 2 [(3, ii d), (4, ii e), (11, s0 0 lh0_1.length), (13, pp 2 0), (21, sl 1 0 n21_1 lh1_1.length), (22, ii x22_1), (23, ii x23_1)] [(2, .cells [.int .u8 ((List.getD lh1_1 (Int.toNat x23_1) (0, 0)).1), .int .u8 ((List.getD lh1_1 (Int.toNat x23_1) (0, 0)).2)] 0 54 0), (1, rc (encQ .u8) lh1_1 0 56 0), (0, rc encP lh0_1 0 61 2)] 3 ?_
     refine nQ id ?_
     refine rS 4 [(3, ii d), (4, ii e), (11, s0 0 lh0_1.length), (13, pp 2 0), (21, sl 1 0 n21_1 lh1_1.length), (22, ii x22_1), (23, ii x23_1), (29, ii (w64 ((List.getD lh1_1 (Int.toNat x23_1) (0, 0)).1))), (30, ii d)] ?_
     cases b4 : (d != 0 : Bool) with
     | false => cases (cF b4 h)
     | true =>
      have h := cT b4 h
      have e5 : insV (headI ((gsOf E0 53 (opsOf (lft (rgt (lft (lft (rgt (rgt f41_L1)))))))).drop 4) (trS 53 [(3, ii d), (4, ii e), (11, s0 0 lh0_1.length), (13, pp 2 0), (21, sl 1 0 n21_1 lh1_1.length), (22, ii x22_1), (23, ii x23_1), (29, ii (w64 ((List.getD lh1_1 (Int.toNat x23_1) (0, 0)).1))), (30, ii d)])) (trS 53 [(3, ii d), (4, ii e), (11, s0 0 lh0_1.length), (13, pp 2 0), (21, sl 1 0 n21_1 lh1_1.length), (22, ii x22_1), (23, ii x23_1), (29, ii (w64 ((List.getD lh1_1 (Int.toNat x23_1) (0, 0)).1))), (30, ii d)]) [(2, .cells [.int .u8 ((List.getD lh1_1 (Int.toNat x23_1) (0, 0)).1), .int .u8 ((List.getD lh1_1 (Int.toNat x23_1) (0, 0)).2)] 0 54 0), (1, rc (encQ .u8) lh1_1 0 56 0), (0, rc encP lh0_1 0 61 2)] = (match (d != 0 : Bool) with | true => some (ii (Int.tmod (w64 ((List.getD lh1_1 (Int.toNat x23_1) (0, 0)).1)) d)) | false => none) := by kernel_rfl
      refine XR.rd E0_ok [3, 4, 11, 13, 21, 22, 23, 31] rfl (e5.trans (by rw [b4])) (σ' := [(3, ii d), (4, ii e), (11, s0 0 lh0_1.length), (13, pp 2 0), (21, sl 1 0 n21_1 lh1_1.length), (22, ii x22_1), (23, ii x23_1), (31, ii (Int.tmod (w64 ((List.getD lh1_1 (Int.toNat x23_1) (0, 0)).1)) d))]) (by kernel_rfl) ?_
      refine rS 1 [(3, ii d), (4, ii e), (11, s0 0 lh0_1.length), (13, pp 2 0), (14, ii (Int.tmod (w64 ((List.getD lh1_1 (Int.toNat x23_1) (0, 0)).1)) d)), (21, sl 1 0 n21_1 lh1_1.length), (22, ii x22_1), (23, ii x23_1)] ?_
      refine nQ id ?_
      refine rS 10 [(3, ii d), (4, ii e), (11, s0 0 lh0_1.length), (14, ii (Int.tmod (w64 ((List.getD lh1_1 (Int.toNat x23_1) (0, 0)).1)) d)), (15, ii (iMin (w64 (d - 1)) (w64 ((Int.tmod (w64 ((List.getD lh1_1 (Int.toNat x23_1) (0, 0)).1)) d) + (Int.tmod (w64 ((List.getD lh1_1 (Int.toNat x23_1) (0, 0)).2)) 4))))), (21, sl 1 0 n21_1 lh1_1.length), (22, ii x22_1), (23, ii x23_1)] ?_
      refine dQ ?_
      show XQ _ _ _ _ _ _ _ _
      refine rQ ?_
      refine rT 9 [(3, ii d), (4, ii e), (21, sl 1 0 n21_1 lh1_1.length), (22, ii x22_1), (23, ii x23_1), (41, s0 0 lh0_1.length), (49, s0 3 1)] [(3, .cells [ii (w64 (e + (Int.tmod (w64 ((List.getD lh1_1 (Int.toNat x23_1) (0, 0)).1)) d))), ii (w64 (e + (iMin (w64 (d - 1)) (w64 ((Int.tmod (w64 ((List.getD lh1_1 (Int.toNat x23_1) (0, 0)).1)) d) + (Int.tmod (w64 ((List.getD lh1_1 (Int.toNat x23_1) (0, 0)).2)) 4))))))] 0 61 2), (2, .cells [.int .u8 ((List.getD lh1_1 (Int.toNat x23_1) (0, 0)).1), .int .u8 ((List.getD lh1_1 (Int.toNat x23_1) (0, 0)).2)] 0 54 0), (1, rc (encQ .u8) lh1_1 0 56 0), (0, rc encP lh0_1 0 61 2)] 4 ?_
      cases b6 : (fitsB (lh0_1.length + 1) 16 : Bool) with
      | false => cases (cF b6 h)
      | true =>
       have h := cT b6 h
       refine XR.ef E0_ok [3, 4, 21, 22, 23, 50] rfl (e_append encP_ok (bytes := 16) (e := 61) (x := (src 53 (.tmp 41))) (y := (src 53 (.tmp 49))) (b := 0) (len := lh0_1.length) (cap := lh0_1.length) (xs := lh0_1) (m := 0) (ys := [(w64 (e + (Int.tmod (w64 ((List.getD lh1_1 (Int.toNat x23_1) (0, 0)).1)) d)), w64 (e + (iMin (w64 (d - 1)) (w64 ((Int.tmod (w64 ((List.getD lh1_1 (Int.toNat x23_1) (0, 0)).1)) d) + (Int.tmod (w64 ((List.getD lh1_1 (Int.toNat x23_1) (0, 0)).2)) 4))))))]) (d := (some (path 12 50))) (n' := (lh0_1 ++ [(w64 (e + (Int.tmod (w64 ((List.getD lh1_1 (Int.toNat x23_1) (0, 0)).1)) d)), w64 (e + (iMin (w64 (d - 1)) (w64 ((Int.tmod (w64 ((List.getD lh1_1 (Int.toNat x23_1) (0, 0)).1)) d) + (Int.tmod (w64 ((List.getD lh1_1 (Int.toNat x23_1) (0, 0)).2)) 4))))))]).length) (h' := [(4, rc encP (lh0_1 ++ [(w64 (e + (Int.tmod (w64 ((List.getD lh1_1 (Int.toNat x23_1) (0, 0)).1)) d)), w64 (e + (iMin (w64 (d - 1)) (w64 ((Int.tmod (w64 ((List.getD lh1_1 (Int.toNat x23_1) (0, 0)).1)) d) + (Int.tmod (w64 ((List.getD lh1_1 (Int.toNat x23_1) (0, 0)).2)) 4))))))]) 0 61 2), (3, .cells [ii (w64 (e + (Int.tmod (w64 ((List.getD lh1_1 (Int.toNat x23_1) (0, 0)).1)) d))), ii (w64 (e + (iMin (w64 (d - 1)) (w64 ((Int.tmod (w64 ((List.getD lh1_1 (Int.toNat x23_1) (0, 0)).1)) d) + (Int.tmod (w64 ((List.getD lh1_1 (Int.toNat x23_1) (0, 0)).2)) 4))))))] 0 61 2), (2, .cells [.int .u8 ((List.getD lh1_1 (Int.toNat x23_1) (0, 0)).1), .int .u8 ((List.getD lh1_1 (Int.toNat x23_1) (0, 0)).2)] 0 54 0), (1, rc (encQ .u8) lh1_1 0 56 0)]) (by kernel_rfl) (by kernel_rfl) (by kernel_rfl) (by kernel_rfl) rfl (by simp) (by simp) b6 (by simp) (by kernel_rfl)) (σ' := [(3, ii d), (4, ii e), (21, sl 1 0 n21_1 lh1_1.length), (22, ii x22_1), (23, ii x23_1), (50, s0 4 ((lh0_1 ++ [(w64 (e + (Int.tmod (w64 ((List.getD lh1_1 (Int.toNat x23_1) (0, 0)).1)) d)), w64 (e + (iMin (w64 (d - 1)) (w64 ((Int.tmod (w64 ((List.getD lh1_1 (Int.toNat x23_1) (0, 0)).1)) d) + (Int.tmod (w64 ((List.getD lh1_1 (Int.toNat x23_1) (0, 0)).2)) 4))))))]).length))]) (by kernel_rfl) ?_
       refine rS 1 [(3, ii d), (4, ii e), (11, s0 4 ((lh0_1 ++ [(w64 (e + (Int.tmod (w64 ((List.getD lh1_1 (Int.toNat x23_1) (0, 0)).1)) d)), w64 (e + (iMin (w64 (d - 1)) (w64 ((Int.tmod (w64 ((List.getD lh1_1 (Int.toNat x23_1) (0, 0)).1)) d) + (Int.tmod (w64 ((List.getD lh1_1 (Int.toNat x23_1) (0, 0)).2)) 4))))))]).length)), (21, sl 1 0 n21_1 lh1_1.length), (22, ii x22_1), (23, ii x23_1)] ?_
       refine dQ ?_
       show XQ _ _ _ _ _ _ _ _
       refine rQ ?_
       refine rS 2 [(3, ii d), (4, ii e), (11, s0 4 ((lh0_1 ++ [(w64 (e + (Int.tmod (w64 ((List.getD lh1_1 (Int.toNat x23_1) (0, 0)).1)) d)), w64 (e + (iMin (w64 (d - 1)) (w64 ((Int.tmod (w64 ((List.getD lh1_1 (Int.toNat x23_1) (0, 0)).1)) d) + (Int.tmod (w64 ((List.getD lh1_1 (Int.toNat x23_1) (0, 0)).2)) 4))))))]).length)), (21, sl 1 0 n21_1 lh1_1.length), (22, ii x22_1), (23, ii (w64 (x23_1 + 1)))] ?_
       refine dQ ?_
       show XL _ _ _ _ _ _ _ _ _
       refine XL.ren (σ' := [(3, ii d), (4, ii e), (11, s0 0 ((lh0_1 ++ [(w64 (e + (Int.tmod (w64 ((List.getD lh1_1 (Int.toNat x23_1) (0, 0)).1)) d)), w64 (e + (iMin (w64 (d - 1)) (w64 ((Int.tmod (w64 ((List.getD lh1_1 (Int.toNat x23_1) (0, 0)).1)) d) + (Int.tmod (w64 ((List.getD lh1_1 (Int.toNat x23_1) (0, 0)).2)) 4))))))]).length)), (21, sl 1 0 n21_1 lh1_1.length), (22, ii x22_1), (23, ii (w64 (x23_1 + 1)))]) (h' := [(1, rc (encQ .u8) lh1_1 0 56 0), (0, rc encP (lh0_1 ++ [(w64 (e + (Int.tmod (w64 ((List.getD lh1_1 (Int.toNat x23_1) (0, 0)).1)) d)), w64 (e + (iMin (w64 (d - 1)) (w64 ((Int.tmod (w64 ((List.getD lh1_1 (Int.toNat x23_1) (0, 0)).1)) d) + (Int.tmod (w64 ((List.getD lh1_1 (Int.toNat x23_1) (0, 0)).2)) 4))))))]) 0 61 2)]) (c' := 2) [4, 1] (by decide) rfl ⟨rfl, rfl, rfl, rfl, rfl, rfl, trivial⟩ ⟨⟨_, _, rfl, rfl, .inl ⟨rfl, rowC_scal (encQ_ok .u8) _⟩⟩, ⟨_, _, rfl, rfl, .inl ⟨rfl, rwP⟩⟩, trivial⟩ rfl ?_
       refine XL.conv (f41_1_ok m fuel d e n21_1 x22_1 (w64 (x23_1 + 1)) (lh0_1 ++ [(w64 (e + (Int.tmod (w64 ((List.getD lh1_1 (Int.toNat x23_1) (0, 0)).1)) d)), w64 (e + (iMin (w64 (d - 1)) (w64 ((Int.tmod (w64 ((List.getD lh1_1 (Int.toNat x23_1) (0, 0)).1)) d) + (Int.tmod (w64 ((List.getD lh1_1 (Int.toNat x23_1) (0, 0)).2)) 4))))))]) lh1_1 o h Q hQ) (by first | rfl | simp)
  | false =>
   have h := cF b1 h
   refine iF (.tmp 24) ?_
   refine XQ.ren (σ' := [(11, s0 0 lh0_1.length)]) (h' := [(0, rc encP lh0_1 0 61 2)]) (c' := 1) [0] (by decide) rfl ⟨rfl, trivial⟩ ⟨⟨_, _, rfl, rfl, .inl ⟨rfl, rwP⟩⟩, trivial⟩ rfl ?_
   refine XQ.exit (i := 0) (by kernel_rfl) ?_
   cases h
   exact hQ
def f41 (m : Nat) (a_0_0 : Int) (a_0_1 : Int) (a_1_0 : Int) (a_1_1 : Int) (a_2_0 : Int) (a_2_1 : Int) (a_3_0 : Int) (a_3_1 : Int) (a_4_0 : Int) (a_4_1 : Int) (a_5_0 : Int) (a_5_1 : Int) (a_6_0 : Int) (a_6_1 : Int) (a_7_0 : Int) (a_7_1 : Int) (b : Int) (c : Int) (d : Int) (e : Int) : Option (List (Int × Int)) :=
 cond ((w64 (c + 1)) != 0) (
  cond (cutOK 0 (iMin (Int.tmod b (w64 (c + 1))) 8) ((8 : Nat) : Int) 8) (
   (f41_1 m m d e (Int.toNat (iMin (Int.tmod b (w64 (c + 1))) 8)) ((Int.toNat (iMin (Int.tmod b (w64 (c + 1))) 8) : Nat) : Int) 0 [] [(a_0_0, a_0_1), (a_1_0, a_1_1), (a_2_0, a_2_1), (a_3_0, a_3_1), (a_4_0, a_4_1), (a_5_0, a_5_1), (a_6_0, a_6_1), (a_7_0, a_7_1)]).bind fun o1 =>
    some (o1)
  ) none
 ) none
theorem f41_ok (m : Nat) (a_0_0 : Int) (a_0_1 : Int) (a_1_0 : Int) (a_1_1 : Int) (a_2_0 : Int) (a_2_1 : Int) (a_3_0 : Int) (a_3_1 : Int) (a_4_0 : Int) (a_4_1 : Int) (a_5_0 : Int) (a_5_1 : Int) (a_6_0 : Int) (a_6_1 : Int) (a_7_0 : Int) (a_7_1 : Int) (b : Int) (c : Int) (d : Int) (e : Int) (o : List (Int × Int)) (h : f41 m a_0_0 a_0_1 a_1_0 a_1_1 a_2_0 a_2_1 a_3_0 a_3_1 a_4_0 a_4_1 a_5_0 a_5_1 a_6_0 a_6_1 a_7_0 a_7_1 b c d e = some o) : KC E0 41 [.agg #[.int .u8 a_0_0, .int .u8 a_0_1, .int .u8 a_1_0, .int .u8 a_1_1, .int .u8 a_2_0, .int .u8 a_2_1, .int .u8 a_3_0, .int .u8 a_3_1, .int .u8 a_4_0, .int .u8 a_4_1, .int .u8 a_5_0, .int .u8 a_5_1, .int .u8 a_6_0, .int .u8 a_6_1, .int .u8 a_7_0, .int .u8 a_7_1], ii b, ii c, ii d, ii e] [] 0 (fun v h' c' => v = s0 0 o.length ∧ h' = [(0, rc encP o 0 61 2)] ∧ c' = 1) := by
 refine KC.bodyN E0_ok (F := Proofs.Try.f41) (by kernel_rfl) (code := f41_C41) (by kernel_rfl) (nt := 53) (by kernel_rfl) (rs := [.tmp 10]) (by kernel_rfl) (by kernel_rfl) (σ := [(0, .agg #[.int .u8 a_0_0, .int .u8 a_0_1, .int .u8 a_1_0, .int .u8 a_1_1, .int .u8 a_2_0, .int .u8 a_2_1, .int .u8 a_3_0, .int .u8 a_3_1, .int .u8 a_4_0, .int .u8 a_4_1, .int .u8 a_5_0, .int .u8 a_5_1, .int .u8 a_6_0, .int .u8 a_6_1, .int .u8 a_7_0, .int .u8 a_7_1]), (1, ii b), (2, ii c), (3, ii d), (4, ii e)]) (by kernel_rfl) ?_
 unfold f41 at h
 refine qQ ?_
 refine rT 2 [(1, ii b), (2, ii c), (3, ii d), (4, ii e), (5, pp 0 0)] [(0, .cells [.int .u8 a_0_0, .int .u8 a_0_1, .int .u8 a_1_0, .int .u8 a_1_1, .int .u8 a_2_0, .int .u8 a_2_1, .int .u8 a_3_0, .int .u8 a_3_1, .int .u8 a_4_0, .int .u8 a_4_1, .int .u8 a_5_0, .int .u8 a_5_1, .int .u8 a_6_0, .int .u8 a_6_1, .int .u8 a_7_0, .int .u8 a_7_1] 0 56 0)] 1 ?_
 refine nQ id ?_
 refine rS 1 [(1, ii b), (2, ii c), (3, ii d), (4, ii e), (5, pp 0 0), (11, .slice none 0 0)] ?_
 refine dQ ?_
 show XQ _ _ _ _ _ _ _ _
 refine XQ.ghost 61 2 rfl (σ' := [(1, ii b), (2, ii c), (3, ii d), (4, ii e), (5, pp 0 0), (11, s0 1 0)]) (h' := [(0, .cells [.int .u8 a_0_0, .int .u8 a_0_1, .int .u8 a_1_0, .int .u8 a_1_1, .int .u8 a_2_0, .int .u8 a_2_1, .int .u8 a_3_0, .int .u8 a_3_1, .int .u8 a_4_0, .int .u8 a_4_1, .int .u8 a_5_0, .int .u8 a_5_1, .int .u8 a_6_0, .int .u8 a_6_1, .int .u8 a_7_0, .int .u8 a_7_1] 0 56 0)]) ⟨rfl, rfl, rfl, rfl, rfl, rfl, trivial⟩ ⟨⟨_, rfl, .inl rfl⟩, trivial⟩ ?_
 refine XQ.conv (σ' := [(1, ii b), (2, ii c), (3, ii d), (4, ii e), (5, pp 0 0), (11, s0 1 0)]) (h' := [(1, rc encP [] 0 61 2), (0, .cells [.int .u8 a_0_0, .int .u8 a_0_1, .int .u8 a_1_0, .int .u8 a_1_1, .int .u8 a_2_0, .int .u8 a_2_1, .int .u8 a_3_0, .int .u8 a_3_1, .int .u8 a_4_0, .int .u8 a_4_1, .int .u8 a_5_0, .int .u8 a_5_1, .int .u8 a_6_0, .int .u8 a_6_1, .int .u8 a_7_0, .int .u8 a_7_1] 0 56 0)]) (c' := 2) ?_ (by kernel_rfl)
 refine sQ ?_
 refine qQ ?_
 refine rS 3 [(3, ii d), (4, ii e), (5, pp 0 0), (11, s0 1 0), (16, ii b), (18, ii (w64 (c + 1)))] ?_
 cases b1 : ((w64 (c + 1)) != 0 : Bool) with
 | false => cases (cF b1 h)
 | true =>
  have h := cT b1 h
  have e2 : insV (headI ((gsOf E0 53 (opsOf (lft (lft (rgt (rgt f41_C41)))))).drop 3) (trS 53 [(3, ii d), (4, ii e), (5, pp 0 0), (11, s0 1 0), (16, ii b), (18, ii (w64 (c + 1)))])) (trS 53 [(3, ii d), (4, ii e), (5, pp 0 0), (11, s0 1 0), (16, ii b), (18, ii (w64 (c + 1)))]) [(1, rc encP [] 0 61 2), (0, .cells [.int .u8 a_0_0, .int .u8 a_0_1, .int .u8 a_1_0, .int .u8 a_1_1, .int .u8 a_2_0, .int .u8 a_2_1, .int .u8 a_3_0, .int .u8 a_3_1, .int .u8 a_4_0, .int .u8 a_4_1, .int .u8 a_5_0, .int .u8 a_5_1, .int .u8 a_6_0, .int .u8 a_6_1, .int .u8 a_7_0, .int .u8 a_7_1] 0 56 0)] = (match ((w64 (c + 1)) != 0 : Bool) with | true => some (ii (Int.tmod b (w64 (c + 1)))) | false => none) := by kernel_rfl
  refine XR.rd E0_ok [3, 4, 5, 11, 19] rfl (e2.trans (by rw [b1])) (σ' := [(3, ii d), (4, ii e), (5, pp 0 0), (11, s0 1 0), (19, ii (Int.tmod b (w64 (c + 1))))]) (by kernel_rfl) ?_
  refine rT 1 [(3, ii d), (4, ii e), (5, pp 0 0), (11, s0 1 0), (20, ii (iMin (Int.tmod b (w64 (c + 1))) 8))] [(1, rc encP [] 0 61 2), (0, rc (encQ .u8) [(a_0_0, a_0_1), (a_1_0, a_1_1), (a_2_0, a_2_1), (a_3_0, a_3_1), (a_4_0, a_4_1), (a_5_0, a_5_1), (a_6_0, a_6_1), (a_7_0, a_7_1)] 0 56 0)] 2 ?_
  cases b3 : (cutOK 0 (iMin (Int.tmod b (w64 (c + 1))) 8) ((8 : Nat) : Int) 8 : Bool) with
  | false => cases (cF b3 h)
  | true =>
   have h := cT b3 h
   refine XR.rd E0_ok [3, 4, 11, 21] rfl (v := sl 0 0 (Int.toNat (iMin (Int.tmod b (w64 (c + 1))) 8)) 8) (v_cutA (nt := 53) (s := 2) (n := 8) (x := (src 53 (.tmp 5))) (lo := none) (hi := (some (.tmp 20))) (b := 0) (o := 0) (l := none) (u := (some (iMin (Int.tmod b (w64 (c + 1))) 8))) (cs := rowC (encQ .u8) [(a_0_0, a_0_1), (a_1_0, a_1_1), (a_2_0, a_2_1), (a_3_0, a_3_1), (a_4_0, a_4_1), (a_5_0, a_5_1), (a_6_0, a_6_1), (a_7_0, a_7_1)]) (fz := 0) (e := 56) (o' := 0) (len' := Int.toNat (iMin (Int.tmod b (w64 (c + 1))) 8)) (cap' := 8) (d := (some (path 12 21))) (by kernel_rfl) (by kernel_rfl) (by kernel_rfl) (by kernel_rfl) (by kernel_rfl) b3 (by simp only [Option.getD_none, Option.getD_some] <;> omega) (by simp only [Option.getD_none, Option.getD_some] <;> omega) (by simp only [Option.getD_none, Option.getD_some] <;> omega)) (σ' := [(3, ii d), (4, ii e), (11, s0 1 0), (21, sl 0 0 (Int.toNat (iMin (Int.tmod b (w64 (c + 1))) 8)) 8)]) (by kernel_rfl) ?_
   refine rS 2 [(3, ii d), (4, ii e), (11, s0 1 0), (21, sl 0 0 (Int.toNat (iMin (Int.tmod b (w64 (c + 1))) 8)) 8), (22, ii ((Int.toNat (iMin (Int.tmod b (w64 (c + 1))) 8) : Nat) : Int)), (23, ii 0)] ?_
   refine dQ ?_
   show XQ _ _ _ _ _ _ _ _
   refine XQ.block (id := 0) (by kernel_rfl) ?_
   refine XQ.loop m (by kernel_rfl) ?_
   obtain ⟨o1, o1_h, h⟩ := bS h
   refine XL.ren (σ' := [(3, ii d), (4, ii e), (11, s0 0 0), (21, sl 1 0 (Int.toNat (iMin (Int.tmod b (w64 (c + 1))) 8)) 8), (22, ii ((Int.toNat (iMin (Int.tmod b (w64 (c + 1))) 8) : Nat) : Int)), (23, ii 0)]) (h' := [(1, rc (encQ .u8) [(a_0_0, a_0_1), (a_1_0, a_1_1), (a_2_0, a_2_1), (a_3_0, a_3_1), (a_4_0, a_4_1), (a_5_0, a_5_1), (a_6_0, a_6_1), (a_7_0, a_7_1)] 0 56 0), (0, rc encP [] 0 61 2)]) (c' := 2) [1, 0] (by decide) rfl ⟨rfl, rfl, rfl, rfl, rfl, rfl, trivial⟩ ⟨⟨_, _, rfl, rfl, .inl ⟨rfl, rowC_scal (encQ_ok .u8) _⟩⟩, ⟨_, _, rfl, rfl, .inl ⟨rfl, rwP⟩⟩, trivial⟩ rfl ?_
   refine XL.conv (f41_1_ok m m d e (Int.toNat (iMin (Int.tmod b (w64 (c + 1))) 8)) ((Int.toNat (iMin (Int.tmod b (w64 (c + 1))) 8) : Nat) : Int) 0 [] [(a_0_0, a_0_1), (a_1_0, a_1_1), (a_2_0, a_2_1), (a_3_0, a_3_1), (a_4_0, a_4_1), (a_5_0, a_5_1), (a_6_0, a_6_1), (a_7_0, a_7_1)] o1 o1_h _ ?_) (by first | rfl | simp)
   show XQ _ _ _ _ _ _ _ _
   refine qQ ?_
   refine rS 2 [(10, s0 0 o1.length)] ?_
   refine dQ ?_
   show XQ _ _ _ _ _ _ _ _
   refine XQ.ren (σ' := [(10, s0 0 o1.length)]) (h' := [(0, rc encP o1 0 61 2)]) (c' := 1) [0] (by decide) rfl ⟨rfl, trivial⟩ ⟨⟨_, _, rfl, rfl, .inl ⟨rfl, rwP⟩⟩, trivial⟩ rfl ?_
   refine XQ.ret (by kernel_rfl) ?_
   have h := Option.some.inj h
   subst h
   exact ⟨fun i q => (by cases q), s0 0 o1.length, (by kernel_rfl), (by kernel_rfl), (by kernel_rfl), rfl⟩
end Go.Xm
