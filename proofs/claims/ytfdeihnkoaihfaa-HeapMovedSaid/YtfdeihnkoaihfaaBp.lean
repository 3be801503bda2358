/- What these functions of the program compute, as functions in Lean, and the proofs that they do: heap.Keep. Conditions: none. -/
import Derived.Test.YtfdeihnkoaihfaaZx
import Derived.Test.YtfdeihnkoaihfaaBd
namespace Go.Xm
open Go.RowKit
set_option linter.unusedVariables false
set_option linter.unusedSimpArgs false
set_option maxRecDepth 20000
noncomputable def f33_C33 : Code := Proofs.Try.f33.body.getD .skip
noncomputable def f33_C71 : Code := Proofs.Try.f71.body.getD .skip
noncomputable def f33_C72 : Code := Proofs.Try.f72.body.getD .skip
noncomputable def f33_L1 : Code := lft (lft (rgt (lft (rgt (rgt (rgt f33_C71))))))
def f33_2 (m : Nat) : Nat → List (Int × Int) → Int → Int → Int → List Int → List (Int × Int) → Option (List Int)
 | 0, _, _, _, _, _, _ => none
 | fuel + 1, a, b, x10_1, x11_2, lh2_2, lh3_2 =>
  cond (decide (x11_2 < x10_1)) (
   cond (inRow x11_2 a.length) (
    cond (decide (1 ≤ lh3_2.length)) (
     cond (fitsB (lh3_2.length + 1) 16) (
      (f58 m (lh3_2 ++ [((List.getD a (Int.toNat x11_2) (0, 0)).1, (List.getD a (Int.toNat x11_2) (0, 0)).2)]) b).bind fun r13 =>
       cond (r13) (
        cond (decide (1 ≤ lh2_2.length)) (
         cond (fitsB (lh2_2.length + 1) 8) (
          f33_2 m fuel a b x10_1 (w64 (x11_2 + 1)) (lh2_2 ++ [x11_2]) (lh3_2 ++ [((List.getD a (Int.toNat x11_2) (0, 0)).1, (List.getD a (Int.toNat x11_2) (0, 0)).2)])
         ) none
        ) none
       ) (
        f33_2 m fuel a b x10_1 (w64 (x11_2 + 1)) lh2_2 lh3_2
       )
     ) none
    ) none
   ) none
  ) (
   some (lh2_2)
  )
theorem f33_2_ok (m : Nat) : ∀ (fuel : Nat) (z0 : Nat) (y0 : Nat) (a : List (Int × Int)) (b : Int) (x10_1 : Int) (x11_2 : Int) (lh2_2 : List Int) (lh3_2 : List (Int × Int)) (o : (List Int)), f33_2 m fuel a b x10_1 x11_2 lh2_2 lh3_2 = some o → ∀ Q : QP, Q (.exit 0) [(5, s0 2 o.length)] [(2, rc (encI .i64) o 0 3 1), (1, .cells [ii b] 0 3 0), (0, rc encP a z0 y0 2)] 3 → XL (keepEnv E0) 32 2 fuel f33_L1 [(1, .func (.func 72) #[] #[pp 1 0]), (5, s0 2 lh2_2.length), (6, s0 3 lh3_2.length), (9, s0 0 a.length), (10, ii x10_1), (11, ii x11_2)] [(3, rc encP lh3_2 0 61 2), (2, rc (encI .i64) lh2_2 0 3 1), (1, .cells [ii b] 0 3 0), (0, rc encP a z0 y0 2)] 4 Q
 | 0, z0, y0, a, b, x10_1, x11_2, lh2_2, lh3_2, o, h, Q, hQ => by cases h
 | fuel + 1, z0, y0, a, b, x10_1, x11_2, lh2_2, lh3_2, o, h, Q, hQ => by
  unfold f33_2 at h
  refine XL.succ (keepEnv_ok E0_ok) ?_
  refine XQ.seq (keepEnv_ok E0_ok) (by kernel_rfl) ?_
  refine rQ ?_
  refine XR.runS (keepEnv_ok E0_ok) 1 1 [(1, .func (.func 72) #[] #[pp 1 0]), (5, s0 2 lh2_2.length), (6, s0 3 lh3_2.length), (9, s0 0 a.length), (10, ii x10_1), (11, ii x11_2), (12, .bool (decide (x11_2 < x10_1)))] rfl (by kernel_rfl) ?_
  refine dQ ?_
  show XQ _ _ _ _ _ _ _ _
  refine XQ.seq (keepEnv_ok E0_ok) (by kernel_rfl) ?_
  cases b1 : (decide (x11_2 < x10_1) : Bool) with
  | true =>
   have h := cT b1 h
   refine iT (.tmp 12) ?_
   refine kQ ?_
   show XQ _ _ _ _ _ _ _ _
   refine XQ.seq (keepEnv_ok E0_ok) (by kernel_rfl) ?_
   refine XQ.block (id := 1) (by kernel_rfl) ?_
   refine XQ.seq (keepEnv_ok E0_ok) (by kernel_rfl) ?_
   refine rQ ?_
   refine XR.runS (keepEnv_ok E0_ok) 1 1 [(1, .func (.func 72) #[] #[pp 1 0]), (5, s0 2 lh2_2.length), (6, s0 3 lh3_2.length), (9, s0 0 a.length), (10, ii x10_1), (11, ii x11_2), (13, ii x11_2)] rfl (by kernel_rfl) ?_
   cases b2 : (inRow x11_2 a.length : Bool) with
   | false => cases (cF b2 h)
   | true =>
    have h := cT b2 h
    refine XR.rd (keepEnv_ok E0_ok) [1, 5, 6, 9, 10, 11, 13, 14] rfl (v := pp 0 ((Int.toNat x11_2) * 2)) (v_idx (s := 2) (x := (src 32 (.tmp 9))) (y := (src 32 (.tmp 11))) (b := 0) (o := 0) (len := a.length) (cap := a.length) (ik := .i64) (i := x11_2) (off := (Int.toNat x11_2) * 2) (d := (some (path 12 14))) (by kernel_rfl) (by kernel_rfl) (by kernel_rfl) b2 (by omega)) (σ' := [(1, .func (.func 72) #[] #[pp 1 0]), (5, s0 2 lh2_2.length), (6, s0 3 lh3_2.length), (9, s0 0 a.length), (10, ii x10_1), (11, ii x11_2), (13, ii x11_2), (14, pp 0 ((Int.toNat x11_2) * 2))]) (by kernel_rfl) ?_
    refine XR.rd (keepEnv_ok E0_ok) [1, 5, 6, 9, 10, 11, 13, 15] rfl (v := .agg #[ii ((List.getD a (Int.toNat x11_2) (0, 0)).1), ii ((List.getD a (Int.toNat x11_2) (0, 0)).2)]) (v_loadN encP_ok (x := (src 32 (.tmp 14))) (b := 0) (off := (Int.toNat x11_2) * 2) (xs := a) (fz := z0) (e := y0) (es := 2) (d := (some (path 12 15))) (by kernel_rfl) (by kernel_rfl) (by kernel_rfl) (Int.toNat x11_2) (0, 0) (by first | rfl | omega) (row_len (inRow_toNat b2) (by simp)) rfl) (σ' := [(1, .func (.func 72) #[] #[pp 1 0]), (5, s0 2 lh2_2.length), (6, s0 3 lh3_2.length), (9, s0 0 a.length), (10, ii x10_1), (11, ii x11_2), (13, ii x11_2), (15, .agg #[ii ((List.getD a (Int.toNat x11_2) (0, 0)).1), ii ((List.getD a (Int.toNat x11_2) (0, 0)).2)])]) (by kernel_rfl) ?_
    refine XR.runT (keepEnv_ok E0_ok) 1 3 [(1, .func (.func 72) #[] #[pp 1 0]), (5, s0 2 lh2_2.length), (6, s0 3 lh3_2.length), (7, ii x11_2), (8, pp 4 0), (9, s0 0 a.length), (10, ii x10_1), (11, ii x11_2)] [(4, .cells [ii ((List.getD a (Int.toNat x11_2) (0, 0)).1), ii ((List.getD a (Int.toNat x11_2) (0, 0)).2)] 0 61 0), (3, rc encP lh3_2 0 61 2), (2, rc (encI .i64) lh2_2 0 3 1), (1, .cells [ii b] 0 3 0), (0, rc encP a z0 y0 2)] 5 rfl (by kernel_rfl) ?_
    refine dQ ?_
    show XQ _ _ _ _ _ _ _ _
    refine XQ.seq (keepEnv_ok E0_ok) (by kernel_rfl) ?_
    refine rQ ?_
    refine XR.runT (keepEnv_ok E0_ok) 1 4 [(1, .func (.func 72) #[] #[pp 1 0]), (5, s0 2 lh2_2.length), (6, s0 3 lh3_2.length), (7, ii x11_2), (8, pp 4 0), (9, s0 0 a.length), (10, ii x10_1), (11, ii x11_2), (16, .func (.func 72) #[] #[pp 1 0]), (17, s0 3 lh3_2.length), (19, s0 5 1)] [(5, .cells [ii ((List.getD a (Int.toNat x11_2) (0, 0)).1), ii ((List.getD a (Int.toNat x11_2) (0, 0)).2)] 0 61 2), (4, .cells [ii ((List.getD a (Int.toNat x11_2) (0, 0)).1), ii ((List.getD a (Int.toNat x11_2) (0, 0)).2)] 0 61 0), (3, rc encP lh3_2 0 61 2), (2, rc (encI .i64) lh2_2 0 3 1), (1, .cells [ii b] 0 3 0), (0, rc encP a z0 y0 2)] 6 rfl (by kernel_rfl) ?_
    cases b3 : (decide (1 ≤ lh3_2.length) : Bool) with
    | false => cases (cF b3 h)
    | true =>
     have h := cT b3 h
     cases b4 : (fitsB (lh3_2.length + 1) 16 : Bool) with
     | false => cases (cF b4 h)
     | true =>
      have h := cT b4 h
      refine XR.ef (keepEnv_ok E0_ok) [1, 5, 6, 7, 8, 9, 10, 11, 16, 20] rfl (e_appendK encP_ok (bytes := 16) (e := 61) (x := (src 32 (.tmp 17))) (y := (src 32 (.tmp 19))) (b := 3) (len := lh3_2.length) (cap := lh3_2.length) (xs := lh3_2) (m := 0) (ys := [((List.getD a (Int.toNat x11_2) (0, 0)).1, (List.getD a (Int.toNat x11_2) (0, 0)).2)]) (d := (some (path 12 20))) (n' := (lh3_2 ++ [((List.getD a (Int.toNat x11_2) (0, 0)).1, (List.getD a (Int.toNat x11_2) (0, 0)).2)]).length) (h' := [(6, rc encP (lh3_2 ++ [((List.getD a (Int.toNat x11_2) (0, 0)).1, (List.getD a (Int.toNat x11_2) (0, 0)).2)]) 0 61 2), (5, .cells [ii ((List.getD a (Int.toNat x11_2) (0, 0)).1), ii ((List.getD a (Int.toNat x11_2) (0, 0)).2)] 0 61 2), (4, .cells [ii ((List.getD a (Int.toNat x11_2) (0, 0)).1), ii ((List.getD a (Int.toNat x11_2) (0, 0)).2)] 0 61 0), (3, .was (rowC encP lh3_2) 6 0 61 2), (2, rc (encI .i64) lh2_2 0 3 1), (1, .cells [ii b] 0 3 0), (0, rc encP a z0 y0 2)]) (by kernel_rfl) (by kernel_rfl) (by kernel_rfl) (by kernel_rfl) rfl (by simp) (by simp) b3 b4 (by simp) (by kernel_rfl)) (σ' := [(1, .func (.func 72) #[] #[pp 1 0]), (5, s0 2 lh2_2.length), (6, s0 3 lh3_2.length), (7, ii x11_2), (8, pp 4 0), (9, s0 0 a.length), (10, ii x10_1), (11, ii x11_2), (16, .func (.func 72) #[] #[pp 1 0]), (20, s0 6 ((lh3_2 ++ [((List.getD a (Int.toNat x11_2) (0, 0)).1, (List.getD a (Int.toNat x11_2) (0, 0)).2)]).length))]) (by kernel_rfl) ?_
      refine XR.callK (keepEnv_ok E0_ok) [1, 5, 6, 7, 8, 9, 10, 11, 21] rfl (K := 72) (args := [s0 6 ((lh3_2 ++ [((List.getD a (Int.toNat x11_2) (0, 0)).1, (List.getD a (Int.toNat x11_2) (0, 0)).2)]).length), pp 1 0]) (d := (some (path 12 21))) (by kernel_rfl) ?_
      refine KC.bodyN (keepEnv_ok E0_ok) (F := Proofs.Try.f72) (by kernel_rfl) (code := f33_C72) (by kernel_rfl) (nt := 7) (by kernel_rfl) (rs := [.tmp 3]) (by kernel_rfl) (by kernel_rfl) (σ := [(0, s0 6 ((lh3_2 ++ [((List.getD a (Int.toNat x11_2) (0, 0)).1, (List.getD a (Int.toNat x11_2) (0, 0)).2)]).length)), (1, pp 1 0)]) (by kernel_rfl) ?_
      refine XQ.seq (keepEnv_ok E0_ok) (by kernel_rfl) ?_
      refine rQ ?_
      refine XR.runS (keepEnv_ok E0_ok) 1 1 [(0, s0 6 ((lh3_2 ++ [((List.getD a (Int.toNat x11_2) (0, 0)).1, (List.getD a (Int.toNat x11_2) (0, 0)).2)]).length)), (1, pp 1 0)] rfl (by kernel_rfl) ?_
      refine dQ ?_
      show XQ _ _ _ _ _ _ _ _
      refine XQ.seq (keepEnv_ok E0_ok) (by kernel_rfl) ?_
      refine rQ ?_
      refine XR.runS (keepEnv_ok E0_ok) 1 2 [(4, s0 6 ((lh3_2 ++ [((List.getD a (Int.toNat x11_2) (0, 0)).1, (List.getD a (Int.toNat x11_2) (0, 0)).2)]).length)), (5, ii b)] rfl (by kernel_rfl) ?_
      obtain ⟨r13, r13_h, h⟩ := bS h
      refine XR.call (keepEnv_ok E0_ok) [6] rfl (K := 58) (args := [s0 6 ((lh3_2 ++ [((List.getD a (Int.toNat x11_2) (0, 0)).1, (List.getD a (Int.toNat x11_2) (0, 0)).2)]).length), ii b]) (d := (some (path 12 6))) (by kernel_rfl) (KQ.call (KC.quiet (keepEnv_ok E0_ok) (args0 := [s0 0 ((lh3_2 ++ [((List.getD a (Int.toNat x11_2) (0, 0)).1, (List.getD a (Int.toNat x11_2) (0, 0)).2)]).length), ii b]) (h0 := [(0, rc encP (lh3_2 ++ [((List.getD a (Int.toNat x11_2) (0, 0)).1, (List.getD a (Int.toNat x11_2) (0, 0)).2)]) (0 + ((rowC encP (lh3_2 ++ [((List.getD a (Int.toNat x11_2) (0, 0)).1, (List.getD a (Int.toNat x11_2) (0, 0)).2)])).length + 1)) 61 2)]) (n := 1) (V := .bool r13) [6] (f58_ok m (0 + ((rowC encP (lh3_2 ++ [((List.getD a (Int.toNat x11_2) (0, 0)).1, (List.getD a (Int.toNat x11_2) (0, 0)).2)])).length + 1)) 61 (lh3_2 ++ [((List.getD a (Int.toNat x11_2) (0, 0)).1, (List.getD a (Int.toNat x11_2) (0, 0)).2)]) b r13 r13_h) rfl (by rfl) (by decide) rfl (by kernel_rfl) ⟨⟨_, _, rfl, rfl, .inl ⟨rfl, rwP⟩⟩, trivial⟩) rfl) ?_
      rintro _ _ _ ⟨rfl, rfl, rfl⟩
      refine XR.conv (σ' := [(6, .bool r13)]) (h' := [(6, rc encP (lh3_2 ++ [((List.getD a (Int.toNat x11_2) (0, 0)).1, (List.getD a (Int.toNat x11_2) (0, 0)).2)]) 0 61 2), (5, .cells [ii ((List.getD a (Int.toNat x11_2) (0, 0)).1), ii ((List.getD a (Int.toNat x11_2) (0, 0)).2)] 0 61 2), (4, .cells [ii ((List.getD a (Int.toNat x11_2) (0, 0)).1), ii ((List.getD a (Int.toNat x11_2) (0, 0)).2)] 0 61 0), (3, .was (rowC encP lh3_2) 6 0 61 2), (2, rc (encI .i64) lh2_2 0 3 1), (1, .cells [ii b] 0 3 0), (0, rc encP a z0 y0 2)]) (c' := 7) ?_ (by kernel_rfl)
      refine XR.runS (keepEnv_ok E0_ok) 1 1 [(3, .bool r13)] rfl (by kernel_rfl) ?_
      refine dQ ?_
      show XQ _ _ _ _ _ _ _ _
      refine XQ.ret (by kernel_rfl) ?_
      refine ⟨fun i q => (by cases q), .bool r13, (by kernel_rfl), ?_⟩
      refine XR.conv (σ' := [(1, .func (.func 72) #[] #[pp 1 0]), (5, s0 2 lh2_2.length), (6, s0 3 lh3_2.length), (7, ii x11_2), (8, pp 4 0), (9, s0 0 a.length), (10, ii x10_1), (11, ii x11_2), (21, .bool r13)]) (h' := [(6, rc encP (lh3_2 ++ [((List.getD a (Int.toNat x11_2) (0, 0)).1, (List.getD a (Int.toNat x11_2) (0, 0)).2)]) 0 61 2), (5, .cells [ii ((List.getD a (Int.toNat x11_2) (0, 0)).1), ii ((List.getD a (Int.toNat x11_2) (0, 0)).2)] 0 61 2), (4, .cells [ii ((List.getD a (Int.toNat x11_2) (0, 0)).1), ii ((List.getD a (Int.toNat x11_2) (0, 0)).2)] 0 61 0), (3, .was (rowC encP lh3_2) 6 0 61 2), (2, rc (encI .i64) lh2_2 0 3 1), (1, .cells [ii b] 0 3 0), (0, rc encP a z0 y0 2)]) (c' := 7) ?_ (by kernel_rfl)
      refine dQ ?_
      show XQ _ _ _ _ _ _ _ _
      refine XQ.backR encP_ok rfl 3 6 (xs := lh3_2) (ys := [((List.getD a (Int.toNat x11_2) (0, 0)).1, (List.getD a (Int.toNat x11_2) (0, 0)).2)]) (e := 61) (h' := [(5, .cells [ii ((List.getD a (Int.toNat x11_2) (0, 0)).1), ii ((List.getD a (Int.toNat x11_2) (0, 0)).2)] 0 61 2), (4, .cells [ii ((List.getD a (Int.toNat x11_2) (0, 0)).1), ii ((List.getD a (Int.toNat x11_2) (0, 0)).2)] 0 61 0), (3, rc encP lh3_2 0 61 2), (2, rc (encI .i64) lh2_2 0 3 1), (1, .cells [ii b] 0 3 0), (0, rc encP a z0 y0 2)]) (by kernel_rfl) (by kernel_rfl) (by kernel_rfl) ?_
      cases b5 : (r13 : Bool) with
      | true =>
       have h := cT b5 h
       refine iT (.tmp 21) ?_
       refine rQ ?_
       refine XR.runT (keepEnv_ok E0_ok) 1 3 [(1, .func (.func 72) #[] #[pp 1 0]), (5, s0 2 lh2_2.length), (7, ii x11_2), (9, s0 0 a.length), (10, ii x10_1), (11, ii x11_2), (22, s0 3 lh3_2.length), (24, s0 7 1)] [(7, .cells [ii ((List.getD a (Int.toNat x11_2) (0, 0)).1), ii ((List.getD a (Int.toNat x11_2) (0, 0)).2)] 0 61 2), (5, .cells [ii ((List.getD a (Int.toNat x11_2) (0, 0)).1), ii ((List.getD a (Int.toNat x11_2) (0, 0)).2)] 0 61 2), (4, .cells [ii ((List.getD a (Int.toNat x11_2) (0, 0)).1), ii ((List.getD a (Int.toNat x11_2) (0, 0)).2)] 0 61 0), (3, rc encP lh3_2 0 61 2), (2, rc (encI .i64) lh2_2 0 3 1), (1, .cells [ii b] 0 3 0), (0, rc encP a z0 y0 2)] 8 rfl (by kernel_rfl) ?_
       refine XR.ef (keepEnv_ok E0_ok) [1, 5, 7, 9, 10, 11, 25] rfl (e_appendK encP_ok (bytes := 16) (e := 61) (x := (src 32 (.tmp 22))) (y := (src 32 (.tmp 24))) (b := 3) (len := lh3_2.length) (cap := lh3_2.length) (xs := lh3_2) (m := 0) (ys := [((List.getD a (Int.toNat x11_2) (0, 0)).1, (List.getD a (Int.toNat x11_2) (0, 0)).2)]) (d := (some (path 12 25))) (n' := (lh3_2 ++ [((List.getD a (Int.toNat x11_2) (0, 0)).1, (List.getD a (Int.toNat x11_2) (0, 0)).2)]).length) (h' := [(8, rc encP (lh3_2 ++ [((List.getD a (Int.toNat x11_2) (0, 0)).1, (List.getD a (Int.toNat x11_2) (0, 0)).2)]) 0 61 2), (7, .cells [ii ((List.getD a (Int.toNat x11_2) (0, 0)).1), ii ((List.getD a (Int.toNat x11_2) (0, 0)).2)] 0 61 2), (5, .cells [ii ((List.getD a (Int.toNat x11_2) (0, 0)).1), ii ((List.getD a (Int.toNat x11_2) (0, 0)).2)] 0 61 2), (4, .cells [ii ((List.getD a (Int.toNat x11_2) (0, 0)).1), ii ((List.getD a (Int.toNat x11_2) (0, 0)).2)] 0 61 0), (3, .was (rowC encP lh3_2) 8 0 61 2), (2, rc (encI .i64) lh2_2 0 3 1), (1, .cells [ii b] 0 3 0), (0, rc encP a z0 y0 2)]) (by kernel_rfl) (by kernel_rfl) (by kernel_rfl) (by kernel_rfl) rfl (by simp) (by simp) b3 b4 (by simp) (by kernel_rfl)) (σ' := [(1, .func (.func 72) #[] #[pp 1 0]), (5, s0 2 lh2_2.length), (7, ii x11_2), (9, s0 0 a.length), (10, ii x10_1), (11, ii x11_2), (25, s0 8 ((lh3_2 ++ [((List.getD a (Int.toNat x11_2) (0, 0)).1, (List.getD a (Int.toNat x11_2) (0, 0)).2)]).length))]) (by kernel_rfl) ?_
       refine XR.runT (keepEnv_ok E0_ok) 1 3 [(1, .func (.func 72) #[] #[pp 1 0]), (9, s0 0 a.length), (10, ii x10_1), (11, ii x11_2), (25, s0 8 ((lh3_2 ++ [((List.getD a (Int.toNat x11_2) (0, 0)).1, (List.getD a (Int.toNat x11_2) (0, 0)).2)]).length)), (26, s0 2 lh2_2.length), (28, s0 9 1)] [(9, .cells [ii x11_2] 0 3 1), (8, rc encP (lh3_2 ++ [((List.getD a (Int.toNat x11_2) (0, 0)).1, (List.getD a (Int.toNat x11_2) (0, 0)).2)]) 0 61 2), (7, .cells [ii ((List.getD a (Int.toNat x11_2) (0, 0)).1), ii ((List.getD a (Int.toNat x11_2) (0, 0)).2)] 0 61 2), (5, .cells [ii ((List.getD a (Int.toNat x11_2) (0, 0)).1), ii ((List.getD a (Int.toNat x11_2) (0, 0)).2)] 0 61 2), (4, .cells [ii ((List.getD a (Int.toNat x11_2) (0, 0)).1), ii ((List.getD a (Int.toNat x11_2) (0, 0)).2)] 0 61 0), (3, .was (rowC encP lh3_2) 8 0 61 2), (2, rc (encI .i64) lh2_2 0 3 1), (1, .cells [ii b] 0 3 0), (0, rc encP a z0 y0 2)] 10 rfl (by kernel_rfl) ?_
       cases b6 : (decide (1 ≤ lh2_2.length) : Bool) with
       | false => cases (cF b6 h)
       | true =>
        have h := cT b6 h
        cases b7 : (fitsB (lh2_2.length + 1) 8 : Bool) with
        | false => cases (cF b7 h)
        | true =>
         have h := cT b7 h
         refine XR.ef (keepEnv_ok E0_ok) [1, 9, 10, 11, 25, 29] rfl (e_appendK (encI_ok .i64) (bytes := 8) (e := 3) (x := (src 32 (.tmp 26))) (y := (src 32 (.tmp 28))) (b := 2) (len := lh2_2.length) (cap := lh2_2.length) (xs := lh2_2) (m := 0) (ys := [x11_2]) (d := (some (path 12 29))) (n' := (lh2_2 ++ [x11_2]).length) (h' := [(10, rc (encI .i64) (lh2_2 ++ [x11_2]) 0 3 1), (9, .cells [ii x11_2] 0 3 1), (8, rc encP (lh3_2 ++ [((List.getD a (Int.toNat x11_2) (0, 0)).1, (List.getD a (Int.toNat x11_2) (0, 0)).2)]) 0 61 2), (7, .cells [ii ((List.getD a (Int.toNat x11_2) (0, 0)).1), ii ((List.getD a (Int.toNat x11_2) (0, 0)).2)] 0 61 2), (5, .cells [ii ((List.getD a (Int.toNat x11_2) (0, 0)).1), ii ((List.getD a (Int.toNat x11_2) (0, 0)).2)] 0 61 2), (4, .cells [ii ((List.getD a (Int.toNat x11_2) (0, 0)).1), ii ((List.getD a (Int.toNat x11_2) (0, 0)).2)] 0 61 0), (3, .was (rowC encP lh3_2) 8 0 61 2), (2, .was (rowC (encI .i64) lh2_2) 10 0 3 1), (1, .cells [ii b] 0 3 0), (0, rc encP a z0 y0 2)]) (by kernel_rfl) (by kernel_rfl) (by kernel_rfl) (by kernel_rfl) rfl (by simp) (by simp) b6 b7 (by simp) (by kernel_rfl)) (σ' := [(1, .func (.func 72) #[] #[pp 1 0]), (9, s0 0 a.length), (10, ii x10_1), (11, ii x11_2), (25, s0 8 ((lh3_2 ++ [((List.getD a (Int.toNat x11_2) (0, 0)).1, (List.getD a (Int.toNat x11_2) (0, 0)).2)]).length)), (29, s0 10 ((lh2_2 ++ [x11_2]).length))]) (by kernel_rfl) ?_
         refine XR.runS (keepEnv_ok E0_ok) 1 2 [(1, .func (.func 72) #[] #[pp 1 0]), (5, s0 10 ((lh2_2 ++ [x11_2]).length)), (6, s0 8 ((lh3_2 ++ [((List.getD a (Int.toNat x11_2) (0, 0)).1, (List.getD a (Int.toNat x11_2) (0, 0)).2)]).length)), (9, s0 0 a.length), (10, ii x10_1), (11, ii x11_2)] rfl (by kernel_rfl) ?_
         refine dQ ?_
         show XQ _ _ _ _ _ _ _ _
         refine rQ ?_
         refine XR.runS (keepEnv_ok E0_ok) 1 2 [(1, .func (.func 72) #[] #[pp 1 0]), (5, s0 10 ((lh2_2 ++ [x11_2]).length)), (6, s0 8 ((lh3_2 ++ [((List.getD a (Int.toNat x11_2) (0, 0)).1, (List.getD a (Int.toNat x11_2) (0, 0)).2)]).length)), (9, s0 0 a.length), (10, ii x10_1), (11, ii (w64 (x11_2 + 1)))] rfl (by kernel_rfl) ?_
         refine dQ ?_
         show XL _ _ _ _ _ _ _ _ _
         refine XL.ren (σ' := [(1, .func (.func 72) #[] #[pp 1 0]), (5, s0 2 ((lh2_2 ++ [x11_2]).length)), (6, s0 3 ((lh3_2 ++ [((List.getD a (Int.toNat x11_2) (0, 0)).1, (List.getD a (Int.toNat x11_2) (0, 0)).2)]).length)), (9, s0 0 a.length), (10, ii x10_1), (11, ii (w64 (x11_2 + 1)))]) (h' := [(3, rc encP (lh3_2 ++ [((List.getD a (Int.toNat x11_2) (0, 0)).1, (List.getD a (Int.toNat x11_2) (0, 0)).2)]) 0 61 2), (2, rc (encI .i64) (lh2_2 ++ [x11_2]) 0 3 1), (1, .cells [ii b] 0 3 0), (0, rc encP a z0 y0 2)]) (c' := 4) [0, 1, 10, 8] (by decide) rfl ⟨rfl, rfl, rfl, rfl, rfl, rfl, trivial⟩ ⟨⟨_, _, rfl, rfl, .inl ⟨rfl, rwP⟩⟩, ⟨_, _, rfl, rfl, .inl ⟨rfl, rwI⟩⟩, ⟨_, _, rfl, rfl, .inr ⟨_, _, _, _, rfl, rfl⟩⟩, ⟨_, _, rfl, rfl, .inl ⟨rfl, rwP⟩⟩, trivial⟩ rfl ?_
         refine XL.conv (f33_2_ok m fuel z0 y0 a b x10_1 (w64 (x11_2 + 1)) (lh2_2 ++ [x11_2]) (lh3_2 ++ [((List.getD a (Int.toNat x11_2) (0, 0)).1, (List.getD a (Int.toNat x11_2) (0, 0)).2)]) o h Q hQ) (by first | rfl | simp)
      | false =>
       have h := cF b5 h
       refine iF (.tmp 21) ?_
       refine kQ ?_
       show XQ _ _ _ _ _ _ _ _
       refine rQ ?_
       refine XR.runS (keepEnv_ok E0_ok) 1 2 [(1, .func (.func 72) #[] #[pp 1 0]), (5, s0 2 lh2_2.length), (6, s0 3 lh3_2.length), (9, s0 0 a.length), (10, ii x10_1), (11, ii (w64 (x11_2 + 1)))] rfl (by kernel_rfl) ?_
       refine dQ ?_
       show XL _ _ _ _ _ _ _ _ _
       refine XL.ren (σ' := [(1, .func (.func 72) #[] #[pp 1 0]), (5, s0 2 lh2_2.length), (6, s0 3 lh3_2.length), (9, s0 0 a.length), (10, ii x10_1), (11, ii (w64 (x11_2 + 1)))]) (h' := [(3, rc encP lh3_2 0 61 2), (2, rc (encI .i64) lh2_2 0 3 1), (1, .cells [ii b] 0 3 0), (0, rc encP a z0 y0 2)]) (c' := 4) [0, 1, 2, 3] (by decide) rfl ⟨rfl, rfl, rfl, rfl, rfl, rfl, trivial⟩ ⟨⟨_, _, rfl, rfl, .inl ⟨rfl, rwP⟩⟩, ⟨_, _, rfl, rfl, .inl ⟨rfl, rwI⟩⟩, ⟨_, _, rfl, rfl, .inr ⟨_, _, _, _, rfl, rfl⟩⟩, ⟨_, _, rfl, rfl, .inl ⟨rfl, rwP⟩⟩, trivial⟩ rfl ?_
       refine XL.conv (f33_2_ok m fuel z0 y0 a b x10_1 (w64 (x11_2 + 1)) lh2_2 lh3_2 o h Q hQ) (by first | rfl | simp)
  | false =>
   have h := cF b1 h
   refine iF (.tmp 12) ?_
   refine XQ.ren (σ' := [(5, s0 2 lh2_2.length)]) (h' := [(2, rc (encI .i64) lh2_2 0 3 1), (1, .cells [ii b] 0 3 0), (0, rc encP a z0 y0 2)]) (c' := 3) [0, 1, 2] (by decide) rfl ⟨rfl, trivial⟩ ⟨⟨_, _, rfl, rfl, .inl ⟨rfl, rwI⟩⟩, ⟨_, _, rfl, rfl, .inr ⟨_, _, _, _, rfl, rfl⟩⟩, ⟨_, _, rfl, rfl, .inl ⟨rfl, rwP⟩⟩, trivial⟩ rfl ?_
   refine XQ.exit (i := 0) (by kernel_rfl) ?_
   cases h
   exact hQ
def f33_1 (m : Nat) : Nat → List (Int × Int) → Int → Int → Int → Option (List Int)
 | 0, _, _, _, _ => none
 | fuel + 1, a, b, x10_1, x11_1 =>
  cond (decide (x11_1 < x10_1)) (
   cond (inRow x11_1 a.length) (
    (f58 m [((List.getD a (Int.toNat x11_1) (0, 0)).1, (List.getD a (Int.toNat x11_1) (0, 0)).2)] b).bind fun r10 =>
     cond (r10) (
      (f33_2 m fuel a b x10_1 (w64 (x11_1 + 1)) [x11_1] [((List.getD a (Int.toNat x11_1) (0, 0)).1, (List.getD a (Int.toNat x11_1) (0, 0)).2)]).bind fun o2 =>
       some (o2)
     ) (
      f33_1 m fuel a b x10_1 (w64 (x11_1 + 1))
     )
   ) none
  ) (
   some ([])
  )
theorem f33_1_ok (m : Nat) : ∀ (fuel : Nat) (z0 : Nat) (y0 : Nat) (a : List (Int × Int)) (b : Int) (x10_1 : Int) (x11_1 : Int) (o : (List Int)), f33_1 m fuel a b x10_1 x11_1 = some o → ∀ Q : QP, Q (.exit 0) [(5, s0 2 o.length)] [(2, rc (encI .i64) o 0 3 1), (1, .cells [ii b] 0 3 0), (0, rc encP a z0 y0 2)] 3 → XL (keepEnv E0) 32 2 fuel f33_L1 [(1, .func (.func 72) #[] #[pp 1 0]), (5, .slice none 0 0), (6, .slice none 0 0), (9, s0 0 a.length), (10, ii x10_1), (11, ii x11_1)] [(1, .cells [ii b] 0 3 0), (0, rc encP a z0 y0 2)] 2 Q
 | 0, z0, y0, a, b, x10_1, x11_1, o, h, Q, hQ => by cases h
 | fuel + 1, z0, y0, a, b, x10_1, x11_1, o, h, Q, hQ => by
  unfold f33_1 at h
  refine XL.succ (keepEnv_ok E0_ok) ?_
  refine XQ.seq (keepEnv_ok E0_ok) (by kernel_rfl) ?_
  refine rQ ?_
  refine XR.runS (keepEnv_ok E0_ok) 1 1 [(1, .func (.func 72) #[] #[pp 1 0]), (5, .slice none 0 0), (6, .slice none 0 0), (9, s0 0 a.length), (10, ii x10_1), (11, ii x11_1), (12, .bool (decide (x11_1 < x10_1)))] rfl (by kernel_rfl) ?_
  refine dQ ?_
  show XQ _ _ _ _ _ _ _ _
  refine XQ.seq (keepEnv_ok E0_ok) (by kernel_rfl) ?_
  cases b1 : (decide (x11_1 < x10_1) : Bool) with
  | true =>
   have h := cT b1 h
   refine iT (.tmp 12) ?_
   refine kQ ?_
   show XQ _ _ _ _ _ _ _ _
   refine XQ.seq (keepEnv_ok E0_ok) (by kernel_rfl) ?_
   refine XQ.block (id := 1) (by kernel_rfl) ?_
   refine XQ.seq (keepEnv_ok E0_ok) (by kernel_rfl) ?_
   refine rQ ?_
   refine XR.runS (keepEnv_ok E0_ok) 1 1 [(1, .func (.func 72) #[] #[pp 1 0]), (5, .slice none 0 0), (6, .slice none 0 0), (9, s0 0 a.length), (10, ii x10_1), (11, ii x11_1), (13, ii x11_1)] rfl (by kernel_rfl) ?_
   cases b2 : (inRow x11_1 a.length : Bool) with
   | false => cases (cF b2 h)
   | true =>
    have h := cT b2 h
    refine XR.rd (keepEnv_ok E0_ok) [1, 5, 6, 9, 10, 11, 13, 14] rfl (v := pp 0 ((Int.toNat x11_1) * 2)) (v_idx (s := 2) (x := (src 32 (.tmp 9))) (y := (src 32 (.tmp 11))) (b := 0) (o := 0) (len := a.length) (cap := a.length) (ik := .i64) (i := x11_1) (off := (Int.toNat x11_1) * 2) (d := (some (path 12 14))) (by kernel_rfl) (by kernel_rfl) (by kernel_rfl) b2 (by omega)) (σ' := [(1, .func (.func 72) #[] #[pp 1 0]), (5, .slice none 0 0), (6, .slice none 0 0), (9, s0 0 a.length), (10, ii x10_1), (11, ii x11_1), (13, ii x11_1), (14, pp 0 ((Int.toNat x11_1) * 2))]) (by kernel_rfl) ?_
    refine XR.rd (keepEnv_ok E0_ok) [1, 5, 6, 9, 10, 11, 13, 15] rfl (v := .agg #[ii ((List.getD a (Int.toNat x11_1) (0, 0)).1), ii ((List.getD a (Int.toNat x11_1) (0, 0)).2)]) (v_loadN encP_ok (x := (src 32 (.tmp 14))) (b := 0) (off := (Int.toNat x11_1) * 2) (xs := a) (fz := z0) (e := y0) (es := 2) (d := (some (path 12 15))) (by kernel_rfl) (by kernel_rfl) (by kernel_rfl) (Int.toNat x11_1) (0, 0) (by first | rfl | omega) (row_len (inRow_toNat b2) (by simp)) rfl) (σ' := [(1, .func (.func 72) #[] #[pp 1 0]), (5, .slice none 0 0), (6, .slice none 0 0), (9, s0 0 a.length), (10, ii x10_1), (11, ii x11_1), (13, ii x11_1), (15, .agg #[ii ((List.getD a (Int.toNat x11_1) (0, 0)).1), ii ((List.getD a (Int.toNat x11_1) (0, 0)).2)])]) (by kernel_rfl) ?_
    refine XR.runT (keepEnv_ok E0_ok) 1 3 [(1, .func (.func 72) #[] #[pp 1 0]), (5, .slice none 0 0), (6, .slice none 0 0), (7, ii x11_1), (8, pp 2 0), (9, s0 0 a.length), (10, ii x10_1), (11, ii x11_1)] [(2, .cells [ii ((List.getD a (Int.toNat x11_1) (0, 0)).1), ii ((List.getD a (Int.toNat x11_1) (0, 0)).2)] 0 61 0), (1, .cells [ii b] 0 3 0), (0, rc encP a z0 y0 2)] 3 rfl (by kernel_rfl) ?_
    refine dQ ?_
    show XQ _ _ _ _ _ _ _ _
    refine XQ.seq (keepEnv_ok E0_ok) (by kernel_rfl) ?_
    refine rQ ?_
    refine XR.runT (keepEnv_ok E0_ok) 1 5 [(1, .func (.func 72) #[] #[pp 1 0]), (5, .slice none 0 0), (6, .slice none 0 0), (7, ii x11_1), (8, pp 2 0), (9, s0 0 a.length), (10, ii x10_1), (11, ii x11_1), (16, .func (.func 72) #[] #[pp 1 0]), (20, s0 4 1)] [(4, .cells [ii ((List.getD a (Int.toNat x11_1) (0, 0)).1), ii ((List.getD a (Int.toNat x11_1) (0, 0)).2)] 0 61 2), (3, .cells [ii ((List.getD a (Int.toNat x11_1) (0, 0)).1), ii ((List.getD a (Int.toNat x11_1) (0, 0)).2)] 0 61 2), (2, .cells [ii ((List.getD a (Int.toNat x11_1) (0, 0)).1), ii ((List.getD a (Int.toNat x11_1) (0, 0)).2)] 0 61 0), (1, .cells [ii b] 0 3 0), (0, rc encP a z0 y0 2)] 5 rfl (by kernel_rfl) ?_
    refine XR.callK (keepEnv_ok E0_ok) [1, 5, 6, 7, 8, 9, 10, 11, 21] rfl (K := 72) (args := [s0 4 1, pp 1 0]) (d := (some (path 12 21))) (by kernel_rfl) ?_
    refine KC.bodyN (keepEnv_ok E0_ok) (F := Proofs.Try.f72) (by kernel_rfl) (code := f33_C72) (by kernel_rfl) (nt := 7) (by kernel_rfl) (rs := [.tmp 3]) (by kernel_rfl) (by kernel_rfl) (σ := [(0, s0 4 1), (1, pp 1 0)]) (by kernel_rfl) ?_
    refine XQ.seq (keepEnv_ok E0_ok) (by kernel_rfl) ?_
    refine rQ ?_
    refine XR.runS (keepEnv_ok E0_ok) 1 1 [(0, s0 4 1), (1, pp 1 0)] rfl (by kernel_rfl) ?_
    refine dQ ?_
    show XQ _ _ _ _ _ _ _ _
    refine XQ.seq (keepEnv_ok E0_ok) (by kernel_rfl) ?_
    refine rQ ?_
    refine XR.runS (keepEnv_ok E0_ok) 1 2 [(4, s0 4 1), (5, ii b)] rfl (by kernel_rfl) ?_
    obtain ⟨r10, r10_h, h⟩ := bS h
    refine XR.call (keepEnv_ok E0_ok) [6] rfl (K := 58) (args := [s0 4 1, ii b]) (d := (some (path 12 6))) (by kernel_rfl) (KQ.call (KC.quiet (keepEnv_ok E0_ok) (args0 := [s0 0 1, ii b]) (h0 := [(0, rc encP [((List.getD a (Int.toNat x11_1) (0, 0)).1, (List.getD a (Int.toNat x11_1) (0, 0)).2)] (0 + ((rowC encP [((List.getD a (Int.toNat x11_1) (0, 0)).1, (List.getD a (Int.toNat x11_1) (0, 0)).2)]).length + 1)) 61 2)]) (n := 1) (V := .bool r10) [4] (f58_ok m (0 + ((rowC encP [((List.getD a (Int.toNat x11_1) (0, 0)).1, (List.getD a (Int.toNat x11_1) (0, 0)).2)]).length + 1)) 61 [((List.getD a (Int.toNat x11_1) (0, 0)).1, (List.getD a (Int.toNat x11_1) (0, 0)).2)] b r10 r10_h) rfl (by rfl) (by decide) rfl (by kernel_rfl) ⟨⟨_, _, rfl, rfl, .inl ⟨rfl, rwP⟩⟩, trivial⟩) rfl) ?_
    rintro _ _ _ ⟨rfl, rfl, rfl⟩
    refine XR.conv (σ' := [(6, .bool r10)]) (h' := [(4, rc encP [((List.getD a (Int.toNat x11_1) (0, 0)).1, (List.getD a (Int.toNat x11_1) (0, 0)).2)] 0 61 2), (3, .cells [ii ((List.getD a (Int.toNat x11_1) (0, 0)).1), ii ((List.getD a (Int.toNat x11_1) (0, 0)).2)] 0 61 2), (2, .cells [ii ((List.getD a (Int.toNat x11_1) (0, 0)).1), ii ((List.getD a (Int.toNat x11_1) (0, 0)).2)] 0 61 0), (1, .cells [ii b] 0 3 0), (0, rc encP a z0 y0 2)]) (c' := 5) ?_ (by kernel_rfl)
    refine XR.runS (keepEnv_ok E0_ok) 1 1 [(3, .bool r10)] rfl (by kernel_rfl) ?_
    refine dQ ?_
    show XQ _ _ _ _ _ _ _ _
    refine XQ.ret (by kernel_rfl) ?_
    refine ⟨fun i q => (by cases q), .bool r10, (by kernel_rfl), ?_⟩
    refine XR.conv (σ' := [(1, .func (.func 72) #[] #[pp 1 0]), (5, .slice none 0 0), (6, .slice none 0 0), (7, ii x11_1), (8, pp 2 0), (9, s0 0 a.length), (10, ii x10_1), (11, ii x11_1), (21, .bool r10)]) (h' := [(4, rc encP [((List.getD a (Int.toNat x11_1) (0, 0)).1, (List.getD a (Int.toNat x11_1) (0, 0)).2)] 0 61 2), (3, .cells [ii ((List.getD a (Int.toNat x11_1) (0, 0)).1), ii ((List.getD a (Int.toNat x11_1) (0, 0)).2)] 0 61 2), (2, .cells [ii ((List.getD a (Int.toNat x11_1) (0, 0)).1), ii ((List.getD a (Int.toNat x11_1) (0, 0)).2)] 0 61 0), (1, .cells [ii b] 0 3 0), (0, rc encP a z0 y0 2)]) (c' := 5) ?_ (by kernel_rfl)
    refine dQ ?_
    show XQ _ _ _ _ _ _ _ _
    cases b3 : (r10 : Bool) with
    | true =>
     have h := cT b3 h
     refine iT (.tmp 21) ?_
     refine rQ ?_
     refine XR.runT (keepEnv_ok E0_ok) 1 10 [(1, .func (.func 72) #[] #[pp 1 0]), (5, s0 8 1), (6, s0 6 1), (9, s0 0 a.length), (10, ii x10_1), (11, ii x11_1)] [(8, .cells [ii x11_1] 0 3 1), (7, .cells [ii x11_1] 0 3 1), (6, .cells [ii ((List.getD a (Int.toNat x11_1) (0, 0)).1), ii ((List.getD a (Int.toNat x11_1) (0, 0)).2)] 0 61 2), (5, .cells [ii ((List.getD a (Int.toNat x11_1) (0, 0)).1), ii ((List.getD a (Int.toNat x11_1) (0, 0)).2)] 0 61 2), (4, rc encP [((List.getD a (Int.toNat x11_1) (0, 0)).1, (List.getD a (Int.toNat x11_1) (0, 0)).2)] 0 61 2), (3, .cells [ii ((List.getD a (Int.toNat x11_1) (0, 0)).1), ii ((List.getD a (Int.toNat x11_1) (0, 0)).2)] 0 61 2), (2, .cells [ii ((List.getD a (Int.toNat x11_1) (0, 0)).1), ii ((List.getD a (Int.toNat x11_1) (0, 0)).2)] 0 61 0), (1, .cells [ii b] 0 3 0), (0, rc encP a z0 y0 2)] 9 rfl (by kernel_rfl) ?_
     refine dQ ?_
     show XQ _ _ _ _ _ _ _ _
     refine rQ ?_
     refine XR.runS (keepEnv_ok E0_ok) 1 2 [(1, .func (.func 72) #[] #[pp 1 0]), (5, s0 8 1), (6, s0 6 1), (9, s0 0 a.length), (10, ii x10_1), (11, ii (w64 (x11_1 + 1)))] rfl (by kernel_rfl) ?_
     refine dQ ?_
     show XL _ _ _ _ _ _ _ _ _
     obtain ⟨o2, o2_h, h⟩ := bS h
     refine XL.ren (σ' := [(1, .func (.func 72) #[] #[pp 1 0]), (5, s0 2 1), (6, s0 3 1), (9, s0 0 a.length), (10, ii x10_1), (11, ii (w64 (x11_1 + 1)))]) (h' := [(3, .cells [ii ((List.getD a (Int.toNat x11_1) (0, 0)).1), ii ((List.getD a (Int.toNat x11_1) (0, 0)).2)] 0 61 2), (2, .cells [ii x11_1] 0 3 1), (1, .cells [ii b] 0 3 0), (0, rc encP a z0 y0 2)]) (c' := 4) [0, 1, 8, 6] (by decide) rfl ⟨rfl, rfl, rfl, rfl, rfl, rfl, trivial⟩ ⟨⟨_, _, rfl, rfl, .inr ⟨_, _, _, _, rfl, rfl⟩⟩, ⟨_, _, rfl, rfl, .inr ⟨_, _, _, _, rfl, rfl⟩⟩, ⟨_, _, rfl, rfl, .inr ⟨_, _, _, _, rfl, rfl⟩⟩, ⟨_, _, rfl, rfl, .inl ⟨rfl, rwP⟩⟩, trivial⟩ rfl ?_
     refine XL.conv (σ' := [(1, .func (.func 72) #[] #[pp 1 0]), (5, s0 2 1), (6, s0 3 1), (9, s0 0 a.length), (10, ii x10_1), (11, ii (w64 (x11_1 + 1)))]) (h' := [(3, rc encP [((List.getD a (Int.toNat x11_1) (0, 0)).1, (List.getD a (Int.toNat x11_1) (0, 0)).2)] 0 61 2), (2, rc (encI .i64) [x11_1] 0 3 1), (1, .cells [ii b] 0 3 0), (0, rc encP a z0 y0 2)]) (c' := 4) ?_ (by kernel_rfl)
     refine XL.conv (f33_2_ok m fuel z0 y0 a b x10_1 (w64 (x11_1 + 1)) [x11_1] [((List.getD a (Int.toNat x11_1) (0, 0)).1, (List.getD a (Int.toNat x11_1) (0, 0)).2)] o2 o2_h _ ?_) (by first | rfl | simp)
     cases h
     exact hQ
    | false =>
     have h := cF b3 h
     refine iF (.tmp 21) ?_
     refine kQ ?_
     show XQ _ _ _ _ _ _ _ _
     refine rQ ?_
     refine XR.runS (keepEnv_ok E0_ok) 1 2 [(1, .func (.func 72) #[] #[pp 1 0]), (5, .slice none 0 0), (6, .slice none 0 0), (9, s0 0 a.length), (10, ii x10_1), (11, ii (w64 (x11_1 + 1)))] rfl (by kernel_rfl) ?_
     refine dQ ?_
     show XL _ _ _ _ _ _ _ _ _
     refine XL.ren (σ' := [(1, .func (.func 72) #[] #[pp 1 0]), (5, .slice none 0 0), (6, .slice none 0 0), (9, s0 0 a.length), (10, ii x10_1), (11, ii (w64 (x11_1 + 1)))]) (h' := [(1, .cells [ii b] 0 3 0), (0, rc encP a z0 y0 2)]) (c' := 2) [0, 1] (by decide) rfl ⟨rfl, rfl, rfl, rfl, rfl, rfl, trivial⟩ ⟨⟨_, _, rfl, rfl, .inr ⟨_, _, _, _, rfl, rfl⟩⟩, ⟨_, _, rfl, rfl, .inl ⟨rfl, rwP⟩⟩, trivial⟩ rfl ?_
     refine XL.conv (f33_1_ok m fuel z0 y0 a b x10_1 (w64 (x11_1 + 1)) o h Q hQ) (by first | rfl | simp)
  | false =>
   have h := cF b1 h
   refine iF (.tmp 12) ?_
   refine XQ.ghost 3 1 rfl (σ' := [(5, s0 2 0)]) (h' := [(1, .cells [ii b] 0 3 0), (0, rc encP a z0 y0 2)]) ⟨rfl, trivial⟩ ⟨⟨_, rfl, .inl rfl⟩, ⟨_, rfl, .inl rfl⟩, trivial⟩ ?_
   refine XQ.conv (σ' := [(5, s0 2 0)]) (h' := [(2, rc (encI .i64) [] 0 3 1), (1, .cells [ii b] 0 3 0), (0, rc encP a z0 y0 2)]) (c' := 3) ?_ (by kernel_rfl)
   refine XQ.ren (σ' := [(5, s0 2 0)]) (h' := [(2, rc (encI .i64) [] 0 3 1), (1, .cells [ii b] 0 3 0), (0, rc encP a z0 y0 2)]) (c' := 3) [0, 1, 2] (by decide) rfl ⟨rfl, trivial⟩ ⟨⟨_, _, rfl, rfl, .inl ⟨rfl, rwI⟩⟩, ⟨_, _, rfl, rfl, .inr ⟨_, _, _, _, rfl, rfl⟩⟩, ⟨_, _, rfl, rfl, .inl ⟨rfl, rwP⟩⟩, trivial⟩ rfl ?_
   refine XQ.exit (i := 0) (by kernel_rfl) ?_
   cases h
   exact hQ
def f33 (m : Nat) (a : List (Int × Int)) (b : Int) : Option ((List Int) × Int) :=
 (f57 m a b).bind fun r1 =>
  cond (r1 != 0) (
   some ([], r1)
  ) (
   (f33_1 m m a b ((a.length : Nat) : Int) 0).bind fun o1 =>
    some (o1, 0)
  )
theorem f33_ok (m : Nat) (z0 : Nat) (y0 : Nat) (a : List (Int × Int)) (b : Int) (o : (List Int) × Int) (h : f33 m a b = some o) : KC E0 33 [s0 0 a.length, ii b] [(0, rc encP a z0 y0 2)] 1 (fun v h' c' => v = .tuple #[s0 1 o.1.length, ii o.2] ∧ h' = [(1, rc (encI .i64) o.1 0 3 1)] ++ [(0, rc encP a z0 y0 2)] ∧ c' = 2) := by
 refine KC.unkeep ?_
 refine KC.bodyN (keepEnv_ok E0_ok) (F := Proofs.Try.f33) (by kernel_rfl) (code := f33_C33) (by kernel_rfl) (nt := 16) (by kernel_rfl) (rs := [.tmp 4, .tmp 5]) (by kernel_rfl) (by kernel_rfl) (σ := [(0, s0 0 a.length), (1, ii b)]) (by kernel_rfl) ?_
 unfold f33 at h
 refine XQ.seq (keepEnv_ok E0_ok) (by kernel_rfl) ?_
 refine rQ ?_
 refine XR.runT (keepEnv_ok E0_ok) 1 3 [(0, s0 0 a.length), (3, pp 1 0)] [(1, .cells [ii b] 0 3 0), (0, rc encP a z0 y0 2)] 2 rfl (by kernel_rfl) ?_
 refine dQ ?_
 show XQ _ _ _ _ _ _ _ _
 refine XQ.seq (keepEnv_ok E0_ok) (by kernel_rfl) ?_
 refine XQ.seq (keepEnv_ok E0_ok) (by kernel_rfl) ?_
 refine rQ ?_
 refine XR.runS (keepEnv_ok E0_ok) 1 2 [(0, s0 0 a.length), (3, pp 1 0), (7, s0 0 a.length), (8, ii b)] rfl (by kernel_rfl) ?_
 obtain ⟨r1, r1_h, h⟩ := bS h
 refine XR.call (keepEnv_ok E0_ok) [0, 3, 9] rfl (K := 57) (args := [s0 0 a.length, ii b]) (d := (some (path 12 9))) (by kernel_rfl) (KQ.call (KC.quiet (keepEnv_ok E0_ok) (args0 := [s0 0 a.length, ii b]) (h0 := [(0, rc encP a (z0 + ((rowC encP a).length + 1)) y0 2)]) (n := 1) (V := ii r1) [0] (f57_ok m (z0 + ((rowC encP a).length + 1)) y0 a b r1 r1_h) rfl (by rfl) (by decide) rfl (by kernel_rfl) ⟨⟨_, _, rfl, rfl, .inl ⟨rfl, rwP⟩⟩, trivial⟩) rfl) ?_
 rintro _ _ _ ⟨rfl, rfl, rfl⟩
 refine XR.conv (σ' := [(0, s0 0 a.length), (3, pp 1 0), (9, ii r1)]) (h' := [(1, .cells [ii b] 0 3 0), (0, rc encP a z0 y0 2)]) (c' := 2) ?_ (by kernel_rfl)
 refine XR.runS (keepEnv_ok E0_ok) 1 1 [(0, s0 0 a.length), (3, pp 1 0), (6, ii r1)] rfl (by kernel_rfl) ?_
 refine dQ ?_
 show XQ _ _ _ _ _ _ _ _
 refine XQ.seq (keepEnv_ok E0_ok) (by kernel_rfl) ?_
 refine rQ ?_
 refine XR.runS (keepEnv_ok E0_ok) 1 2 [(0, s0 0 a.length), (3, pp 1 0), (6, ii r1), (11, .bool (r1 != 0))] rfl (by kernel_rfl) ?_
 refine dQ ?_
 show XQ _ _ _ _ _ _ _ _
 cases b1 : (r1 != 0 : Bool) with
 | true =>
  have h := cT b1 h
  refine iT (.tmp 11) ?_
  refine XQ.seq (keepEnv_ok E0_ok) (by kernel_rfl) ?_
  refine rQ ?_
  refine XR.runS (keepEnv_ok E0_ok) 1 3 [(4, .slice none 0 0), (5, ii r1)] rfl (by kernel_rfl) ?_
  refine dQ ?_
  show XQ _ _ _ _ _ _ _ _
  refine XQ.ghost 3 1 rfl (σ' := [(4, s0 2 0), (5, ii r1)]) (h' := [(1, .cells [ii b] 0 3 0), (0, rc encP a z0 y0 2)]) ⟨rfl, rfl, trivial⟩ ⟨⟨_, rfl, .inl rfl⟩, ⟨_, rfl, .inl rfl⟩, trivial⟩ ?_
  refine XQ.conv (σ' := [(4, s0 2 0), (5, ii r1)]) (h' := [(2, rc (encI .i64) [] 0 3 1), (1, .cells [ii b] 0 3 0), (0, rc encP a z0 y0 2)]) (c' := 3) ?_ (by kernel_rfl)
  refine XQ.ren (σ' := [(4, s0 1 0), (5, ii r1)]) (h' := [(1, rc (encI .i64) [] 0 3 1), (0, rc encP a z0 y0 2)]) (c' := 2) [0, 2] (by decide) rfl ⟨rfl, rfl, trivial⟩ ⟨⟨_, _, rfl, rfl, .inl ⟨rfl, rwI⟩⟩, ⟨_, _, rfl, rfl, .inl ⟨rfl, rwP⟩⟩, trivial⟩ rfl ?_
  refine XQ.ret (by kernel_rfl) ?_
  have h := Option.some.inj h
  subst h
  exact ⟨fun i q => (by cases q), .tuple #[s0 1 0, ii r1], (by kernel_rfl), (by kernel_rfl), (by kernel_rfl), rfl⟩
 | false =>
  have h := cF b1 h
  refine iF (.tmp 11) ?_
  refine kQ ?_
  show XQ _ _ _ _ _ _ _ _
  refine XQ.seq (keepEnv_ok E0_ok) (by kernel_rfl) ?_
  refine rQ ?_
  refine XR.runS (keepEnv_ok E0_ok) 1 2 [(13, s0 0 a.length), (14, .func (.func 72) #[] #[pp 1 0])] rfl (by kernel_rfl) ?_
  refine XR.callK (keepEnv_ok E0_ok) [15] rfl (K := 71) (args := [s0 0 a.length, .func (.func 72) #[] #[pp 1 0]]) (d := (some (path 12 15))) (by kernel_rfl) ?_
  refine KC.bodyN (keepEnv_ok E0_ok) (F := Proofs.Try.f71) (by kernel_rfl) (code := f33_C71) (by kernel_rfl) (nt := 32) (by kernel_rfl) (rs := [.tmp 4]) (by kernel_rfl) (by kernel_rfl) (σ := [(0, s0 0 a.length), (1, .func (.func 72) #[] #[pp 1 0])]) (by kernel_rfl) ?_
  refine XQ.seq (keepEnv_ok E0_ok) (by kernel_rfl) ?_
  refine rQ ?_
  refine XR.runS (keepEnv_ok E0_ok) 1 1 [(0, s0 0 a.length), (1, .func (.func 72) #[] #[pp 1 0])] rfl (by kernel_rfl) ?_
  refine dQ ?_
  show XQ _ _ _ _ _ _ _ _
  refine XQ.seq (keepEnv_ok E0_ok) (by kernel_rfl) ?_
  refine rQ ?_
  refine XR.runS (keepEnv_ok E0_ok) 1 1 [(0, s0 0 a.length), (1, .func (.func 72) #[] #[pp 1 0]), (5, .slice none 0 0)] rfl (by kernel_rfl) ?_
  refine dQ ?_
  show XQ _ _ _ _ _ _ _ _
  refine XQ.seq (keepEnv_ok E0_ok) (by kernel_rfl) ?_
  refine rQ ?_
  refine XR.runS (keepEnv_ok E0_ok) 1 1 [(0, s0 0 a.length), (1, .func (.func 72) #[] #[pp 1 0]), (5, .slice none 0 0), (6, .slice none 0 0)] rfl (by kernel_rfl) ?_
  refine dQ ?_
  show XQ _ _ _ _ _ _ _ _
  refine XQ.seq (keepEnv_ok E0_ok) (by kernel_rfl) ?_
  refine XQ.seq (keepEnv_ok E0_ok) (by kernel_rfl) ?_
  refine rQ ?_
  refine XR.runS (keepEnv_ok E0_ok) 1 3 [(1, .func (.func 72) #[] #[pp 1 0]), (5, .slice none 0 0), (6, .slice none 0 0), (9, s0 0 a.length), (10, ii ((a.length : Nat) : Int)), (11, ii 0)] rfl (by kernel_rfl) ?_
  refine dQ ?_
  show XQ _ _ _ _ _ _ _ _
  refine XQ.block (id := 0) (by kernel_rfl) ?_
  refine XQ.loop m (by kernel_rfl) ?_
  obtain ⟨o1, o1_h, h⟩ := bS h
  refine XL.ren (σ' := [(1, .func (.func 72) #[] #[pp 1 0]), (5, .slice none 0 0), (6, .slice none 0 0), (9, s0 0 a.length), (10, ii ((a.length : Nat) : Int)), (11, ii 0)]) (h' := [(1, .cells [ii b] 0 3 0), (0, rc encP a z0 y0 2)]) (c' := 2) [0, 1] (by decide) rfl ⟨rfl, rfl, rfl, rfl, rfl, rfl, trivial⟩ ⟨⟨_, _, rfl, rfl, .inr ⟨_, _, _, _, rfl, rfl⟩⟩, ⟨_, _, rfl, rfl, .inl ⟨rfl, rwP⟩⟩, trivial⟩ rfl ?_
  refine XL.conv (f33_1_ok m m z0 y0 a b ((a.length : Nat) : Int) 0 o1 o1_h _ ?_) (by first | rfl | simp)
  show XQ _ _ _ _ _ _ _ _
  refine XQ.seq (keepEnv_ok E0_ok) (by kernel_rfl) ?_
  refine rQ ?_
  refine XR.runS (keepEnv_ok E0_ok) 1 2 [(4, s0 2 o1.length)] rfl (by kernel_rfl) ?_
  refine dQ ?_
  show XQ _ _ _ _ _ _ _ _
  refine XQ.ret (by kernel_rfl) ?_
  refine ⟨fun i q => (by cases q), s0 2 o1.length, (by kernel_rfl), ?_⟩
  refine XR.conv (σ' := [(15, s0 2 o1.length)]) (h' := [(2, rc (encI .i64) o1 0 3 1), (1, .cells [ii b] 0 3 0), (0, rc encP a z0 y0 2)]) (c' := 3) ?_ (by kernel_rfl)
  refine XR.runS (keepEnv_ok E0_ok) 1 2 [(4, s0 2 o1.length), (5, ii 0)] rfl (by kernel_rfl) ?_
  refine dQ ?_
  show XQ _ _ _ _ _ _ _ _
  refine XQ.ren (σ' := [(4, s0 1 o1.length), (5, ii 0)]) (h' := [(1, rc (encI .i64) o1 0 3 1), (0, rc encP a z0 y0 2)]) (c' := 2) [0, 2] (by decide) rfl ⟨rfl, rfl, trivial⟩ ⟨⟨_, _, rfl, rfl, .inl ⟨rfl, rwI⟩⟩, ⟨_, _, rfl, rfl, .inl ⟨rfl, rwP⟩⟩, trivial⟩ rfl ?_
  refine XQ.ret (by kernel_rfl) ?_
  have h := Option.some.inj h
  subst h
  exact ⟨fun i q => (by cases q), .tuple #[s0 1 o1.length, ii 0], (by kernel_rfl), (by kernel_rfl), (by kernel_rfl), rfl⟩
end Go.Xm
