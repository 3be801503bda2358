/- What these functions of the program compute, as functions in Lean, and the proofs that they do: heap.Plan. Conditions: none. -/
import Derived.Test.YtfdeihnkoaihfaaZx
import Derived.Test.YtfdeihnkoaihfaaBd
namespace Go.Xm
open Go.RowKit
set_option linter.unusedVariables false
set_option linter.unusedSimpArgs false
set_option maxRecDepth 20000
noncomputable def f18_C18 : Code := Proofs.Try.f18.body.getD .skip
noncomputable def f18_L1 : Code := lft (lft (rgt (lft (rgt (rgt (rgt (rgt (rgt f18_C18))))))))
noncomputable def f18_L2 : Code := lft (lft (rgt (rgt (lft (lft (rgt (rgt f18_L1)))))))
def f18_2 (m : Nat) : Nat → List (Int × Int) → Int → Int → Int → List Int → Int → List (Int × Int) → Int → Int → Option ((List (Int × Int)) × (List Int))
 | 0, _, _, _, _, _, _, _, _, _ => none
 | fuel + 1, a, b, x27_1, x28_1, lh2_1, x11_2, lh1_2, xh3_0_2, xh3_1_2 =>
  cond (decide (x11_2 ≤ xh3_1_2)) (
   cond (inRow x28_1 lh1_2.length) (
    (f58 m (List.set lh1_2 (Int.toNat x28_1) (x11_2, x11_2)) b).bind fun r11 =>
     cond (r11) (
      cond (fitsB (lh2_1.length + 1) 8) (
       some (List.set lh1_2 (Int.toNat x28_1) (x11_2, x11_2), lh2_1 ++ [x11_2])
      ) none
     ) (
      f18_2 m fuel a b x27_1 x28_1 lh2_1 (w64 (x11_2 + 1)) (List.set lh1_2 (Int.toNat x28_1) (x11_2, x11_2)) xh3_0_2 xh3_1_2
     )
   ) none
  ) (
   some (lh1_2, lh2_1)
  )
theorem f18_2_ok (m : Nat) : ∀ (fuel : Nat) (z0 : Nat) (y0 : Nat) (a : List (Int × Int)) (b : Int) (x27_1 : Int) (x28_1 : Int) (lh2_1 : List Int) (x11_2 : Int) (lh1_2 : List (Int × Int)) (xh3_0_2 : Int) (xh3_1_2 : Int) (o : ((List (Int × Int)) × (List Int))), f18_2 m fuel a b x27_1 x28_1 lh2_1 x11_2 lh1_2 xh3_0_2 xh3_1_2 = some o → ∀ Q : QP, Q (.exit 3) [(1, ii b), (7, s0 1 o.1.length), (8, s0 2 o.2.length), (26, s0 0 a.length), (27, ii x27_1), (28, ii x28_1)] [(2, rc (encI .i64) o.2 0 3 1), (1, rc encP o.1 0 61 2), (0, rc encP a z0 y0 2)] 3 → XL E0 56 1 fuel f18_L2 [(1, ii b), (7, s0 1 lh1_2.length), (8, s0 2 lh2_1.length), (9, ii x28_1), (10, pp 3 0), (11, ii x11_2), (26, s0 0 a.length), (27, ii x27_1), (28, ii x28_1)] [(3, .cells [ii xh3_0_2, ii xh3_1_2] 0 61 0), (2, rc (encI .i64) lh2_1 0 3 1), (1, rc encP lh1_2 0 61 2), (0, rc encP a z0 y0 2)] 4 Q
 | 0, z0, y0, a, b, x27_1, x28_1, lh2_1, x11_2, lh1_2, xh3_0_2, xh3_1_2, o, h, Q, hQ => by cases h
 | fuel + 1, z0, y0, a, b, x27_1, x28_1, lh2_1, x11_2, lh1_2, xh3_0_2, xh3_1_2, o, h, Q, hQ => by
  unfold f18_2 at h
  refine XL.succ E0_ok ?_
  refine sQ ?_
  refine qQ ?_
  refine rS 4 [(1, ii b), (7, s0 1 lh1_2.length), (8, s0 2 lh2_1.length), (9, ii x28_1), (10, pp 3 0), (11, ii x11_2), (26, s0 0 a.length), (27, ii x27_1), (28, ii x28_1), (38, .bool (decide (x11_2 ≤ xh3_1_2)))] ?_
  refine dQ ?_
  show XQ _ _ _ _ _ _ _ _
  cases b1 : (decide (x11_2 ≤ xh3_1_2) : Bool) with
  | true =>
   have h := cT b1 h
   refine iT (.tmp 38) ?_
   refine kQ ?_
   show XQ _ _ _ _ _ _ _ _
   refine sQ ?_
   refine XQ.block (id := 4) (by kernel_rfl) ?_
   refine qQ ?_
   refine rS 5 [(1, ii b), (7, s0 1 lh1_2.length), (8, s0 2 lh2_1.length), (9, ii x28_1), (10, pp 3 0), (11, ii x11_2), (26, s0 0 a.length), (27, ii x27_1), (28, ii x28_1), (41, s0 1 lh1_2.length), (42, ii x28_1), (45, .agg #[ii x11_2, ii x11_2])] ?_
   cases b2 : (inRow x28_1 lh1_2.length : Bool) with
   | false => cases (cF b2 h)
   | true =>
    have h := cT b2 h
    refine XR.rd E0_ok [1, 7, 8, 9, 10, 11, 26, 27, 28, 45, 46] rfl (v := pp 1 ((Int.toNat x28_1) * 2)) (v_idx (s := 2) (x := (src 56 (.tmp 41))) (y := (src 56 (.tmp 42))) (b := 1) (o := 0) (len := lh1_2.length) (cap := lh1_2.length) (ik := .i64) (i := x28_1) (off := (Int.toNat x28_1) * 2) (d := (some (path 12 46))) (by kernel_rfl) (by kernel_rfl) (by kernel_rfl) b2 (by omega)) (σ' := [(1, ii b), (7, s0 1 lh1_2.length), (8, s0 2 lh2_1.length), (9, ii x28_1), (10, pp 3 0), (11, ii x11_2), (26, s0 0 a.length), (27, ii x27_1), (28, ii x28_1), (45, .agg #[ii x11_2, ii x11_2]), (46, pp 1 ((Int.toNat x28_1) * 2))]) (by kernel_rfl) ?_
    refine XR.ef E0_ok [1, 7, 8, 9, 10, 11, 26, 27, 28] rfl (e_store encP_ok (size := 2) (x := (src 56 (.tmp 46))) (y := (src 56 (.tmp 45))) (b := 1) (off := (Int.toNat x28_1) * 2) (xs := lh1_2) (e := 61) (es := 2) (d := none) (h' := [(3, .cells [ii xh3_0_2, ii xh3_1_2] 0 61 0), (2, rc (encI .i64) lh2_1 0 3 1), (1, rc encP (List.set lh1_2 (Int.toNat x28_1) (x11_2, x11_2)) 0 61 2), (0, rc encP a z0 y0 2)]) (w := .agg #[ii x11_2, ii x11_2]) (ws := [ii x11_2, ii x11_2]) (a := (x11_2, x11_2)) (by kernel_rfl) (by kernel_rfl) (by kernel_rfl) (Int.toNat x28_1) 0 (0, 0) (by first | rfl | omega) (row_len (inRow_toNat b2) (by simp)) (by kernel_rfl) rfl rfl rfl rfl rfl (by kernel_rfl)) (σ' := [(1, ii b), (7, s0 1 lh1_2.length), (8, s0 2 lh2_1.length), (9, ii x28_1), (10, pp 3 0), (11, ii x11_2), (26, s0 0 a.length), (27, ii x27_1), (28, ii x28_1)]) (by kernel_rfl) ?_
    refine nQ id ?_
    refine rS 2 [(1, ii b), (7, s0 1 lh1_2.length), (8, s0 2 lh2_1.length), (9, ii x28_1), (10, pp 3 0), (11, ii x11_2), (26, s0 0 a.length), (27, ii x27_1), (28, ii x28_1), (47, s0 1 lh1_2.length), (48, ii b)] ?_
    obtain ⟨r11, r11_h, h⟩ := bS h
    refine XR.call E0_ok [1, 7, 8, 9, 10, 11, 26, 27, 28, 49] rfl (K := 58) (args := [s0 1 lh1_2.length, ii b]) (d := (some (path 12 49))) (by kernel_rfl) (KQ.call (KC.quiet E0_ok (args0 := [s0 0 lh1_2.length, ii b]) (h0 := [(0, rc encP (List.set lh1_2 (Int.toNat x28_1) (x11_2, x11_2)) (0 + ((rowC encP (List.set lh1_2 (Int.toNat x28_1) (x11_2, x11_2))).length + 1)) 61 2)]) (n := 1) (V := .bool r11) [1] (by have q := (f58_ok m (0 + ((rowC encP (List.set lh1_2 (Int.toNat x28_1) (x11_2, x11_2))).length + 1)) 61 (List.set lh1_2 (Int.toNat x28_1) (x11_2, x11_2)) b r11 r11_h); simp only [List.length_set] at q; exact q) rfl (by rfl) (by decide) rfl (by kernel_rfl) ⟨⟨_, _, rfl, rfl, .inl ⟨rfl, rwP⟩⟩, trivial⟩) rfl) ?_
    rintro _ _ _ ⟨rfl, rfl, rfl⟩
    refine XR.conv (σ' := [(1, ii b), (7, s0 1 lh1_2.length), (8, s0 2 lh2_1.length), (9, ii x28_1), (10, pp 3 0), (11, ii x11_2), (26, s0 0 a.length), (27, ii x27_1), (28, ii x28_1), (49, .bool r11)]) (h' := [(3, .cells [ii xh3_0_2, ii xh3_1_2] 0 61 0), (2, rc (encI .i64) lh2_1 0 3 1), (1, rc encP (List.set lh1_2 (Int.toNat x28_1) (x11_2, x11_2)) 0 61 2), (0, rc encP a z0 y0 2)]) (c' := 4) ?_ (by kernel_rfl)
    refine dQ ?_
    show XQ _ _ _ _ _ _ _ _
    cases b3 : (r11 : Bool) with
    | true =>
     have h := cT b3 h
     refine iT (.tmp 49) ?_
     refine qQ ?_
     refine rT 3 [(1, ii b), (7, s0 1 lh1_2.length), (26, s0 0 a.length), (27, ii x27_1), (28, ii x28_1), (50, s0 2 lh2_1.length), (52, s0 4 1)] [(4, .cells [ii x11_2] 0 3 1), (3, .cells [ii xh3_0_2, ii xh3_1_2] 0 61 0), (2, rc (encI .i64) lh2_1 0 3 1), (1, rc encP (List.set lh1_2 (Int.toNat x28_1) (x11_2, x11_2)) 0 61 2), (0, rc encP a z0 y0 2)] 5 ?_
     cases b4 : (fitsB (lh2_1.length + 1) 8 : Bool) with
     | false => cases (cF b4 h)
     | true =>
      have h := cT b4 h
      refine XR.ef E0_ok [1, 7, 26, 27, 28, 53] rfl (e_append (encI_ok .i64) (bytes := 8) (e := 3) (x := (src 56 (.tmp 50))) (y := (src 56 (.tmp 52))) (b := 2) (len := lh2_1.length) (cap := lh2_1.length) (xs := lh2_1) (m := 0) (ys := [x11_2]) (d := (some (path 12 53))) (n' := (lh2_1 ++ [x11_2]).length) (h' := [(5, rc (encI .i64) (lh2_1 ++ [x11_2]) 0 3 1), (4, .cells [ii x11_2] 0 3 1), (3, .cells [ii xh3_0_2, ii xh3_1_2] 0 61 0), (1, rc encP (List.set lh1_2 (Int.toNat x28_1) (x11_2, x11_2)) 0 61 2), (0, rc encP a z0 y0 2)]) (by kernel_rfl) (by kernel_rfl) (by kernel_rfl) (by kernel_rfl) rfl (by simp) (by simp) b4 (by simp) (by kernel_rfl)) (σ' := [(1, ii b), (7, s0 1 lh1_2.length), (26, s0 0 a.length), (27, ii x27_1), (28, ii x28_1), (53, s0 5 ((lh2_1 ++ [x11_2]).length))]) (by kernel_rfl) ?_
      refine rS 1 [(1, ii b), (7, s0 1 lh1_2.length), (8, s0 5 ((lh2_1 ++ [x11_2]).length)), (26, s0 0 a.length), (27, ii x27_1), (28, ii x28_1)] ?_
      refine dQ ?_
      show XQ _ _ _ _ _ _ _ _
      refine XQ.ren (σ' := [(1, ii b), (7, s0 1 lh1_2.length), (8, s0 2 ((lh2_1 ++ [x11_2]).length)), (26, s0 0 a.length), (27, ii x27_1), (28, ii x28_1)]) (h' := [(2, rc (encI .i64) (lh2_1 ++ [x11_2]) 0 3 1), (1, rc encP (List.set lh1_2 (Int.toNat x28_1) (x11_2, x11_2)) 0 61 2), (0, rc encP a z0 y0 2)]) (c' := 3) [0, 1, 5] (by decide) rfl ⟨rfl, rfl, rfl, rfl, rfl, rfl, trivial⟩ ⟨⟨_, _, rfl, rfl, .inl ⟨rfl, rwI⟩⟩, ⟨_, _, rfl, rfl, .inl ⟨rfl, rwP⟩⟩, ⟨_, _, rfl, rfl, .inl ⟨rfl, rwP⟩⟩, trivial⟩ rfl ?_
      refine XQ.exit (i := 3) (by kernel_rfl) ?_
      cases h
      have hQ : Q (.exit 3) [(1, ii b), (7, s0 1 lh1_2.length), (8, s0 2 ((lh2_1 ++ [x11_2]).length)), (26, s0 0 a.length), (27, ii x27_1), (28, ii x28_1)] [(2, rc (encI .i64) (lh2_1 ++ [x11_2]) 0 3 1), (1, rc encP (List.set lh1_2 (Int.toNat x28_1) (x11_2, x11_2)) 0 61 2), (0, rc encP a z0 y0 2)] 3 := by simpa only [List.length_set] using hQ
      exact hQ
    | false =>
     have h := cF b3 h
     refine iF (.tmp 49) ?_
     refine kQ ?_
     show XQ _ _ _ _ _ _ _ _
     refine rQ ?_
     refine rS 3 [(1, ii b), (7, s0 1 lh1_2.length), (8, s0 2 lh2_1.length), (9, ii x28_1), (10, pp 3 0), (11, ii (w64 (x11_2 + 1))), (26, s0 0 a.length), (27, ii x27_1), (28, ii x28_1)] ?_
     refine dQ ?_
     show XL _ _ _ _ _ _ _ _ _
     refine XL.ren (σ' := [(1, ii b), (7, s0 1 lh1_2.length), (8, s0 2 lh2_1.length), (9, ii x28_1), (10, pp 3 0), (11, ii (w64 (x11_2 + 1))), (26, s0 0 a.length), (27, ii x27_1), (28, ii x28_1)]) (h' := [(3, .cells [ii xh3_0_2, ii xh3_1_2] 0 61 0), (2, rc (encI .i64) lh2_1 0 3 1), (1, rc encP (List.set lh1_2 (Int.toNat x28_1) (x11_2, x11_2)) 0 61 2), (0, rc encP a z0 y0 2)]) (c' := 4) [0, 1, 2, 3] (by decide) rfl ⟨rfl, rfl, rfl, rfl, rfl, rfl, rfl, rfl, rfl, trivial⟩ ⟨⟨_, _, rfl, rfl, .inr ⟨_, _, _, _, rfl, rfl⟩⟩, ⟨_, _, rfl, rfl, .inl ⟨rfl, rwI⟩⟩, ⟨_, _, rfl, rfl, .inl ⟨rfl, rwP⟩⟩, ⟨_, _, rfl, rfl, .inl ⟨rfl, rwP⟩⟩, trivial⟩ rfl ?_
     refine XL.conv (f18_2_ok m fuel z0 y0 a b x27_1 x28_1 lh2_1 (w64 (x11_2 + 1)) (List.set lh1_2 (Int.toNat x28_1) (x11_2, x11_2)) xh3_0_2 xh3_1_2 o h Q hQ) (by first | rfl | simp)
  | false =>
   have h := cF b1 h
   refine iF (.tmp 38) ?_
   refine XQ.ren (σ' := [(1, ii b), (7, s0 1 lh1_2.length), (8, s0 2 lh2_1.length), (26, s0 0 a.length), (27, ii x27_1), (28, ii x28_1)]) (h' := [(2, rc (encI .i64) lh2_1 0 3 1), (1, rc encP lh1_2 0 61 2), (0, rc encP a z0 y0 2)]) (c' := 3) [0, 1, 2] (by decide) rfl ⟨rfl, rfl, rfl, rfl, rfl, rfl, trivial⟩ ⟨⟨_, _, rfl, rfl, .inl ⟨rfl, rwI⟩⟩, ⟨_, _, rfl, rfl, .inl ⟨rfl, rwP⟩⟩, ⟨_, _, rfl, rfl, .inl ⟨rfl, rwP⟩⟩, trivial⟩ rfl ?_
   refine XQ.exit (i := 3) (by kernel_rfl) ?_
   cases h
   exact hQ
def f18_1 (m : Nat) : Nat → List (Int × Int) → Int → Int → Int → List (Int × Int) → List Int → Option (List Int)
 | 0, _, _, _, _, _, _ => none
 | fuel + 1, a, b, x27_1, x28_1, lh1_1, lh2_1 =>
  cond (decide (x28_1 < x27_1)) (
   cond (inRow x28_1 a.length) (
    (f18_2 m m a b x27_1 x28_1 lh2_1 ((List.getD a (Int.toNat x28_1) (0, 0)).1) lh1_1 ((List.getD a (Int.toNat x28_1) (0, 0)).1) ((List.getD a (Int.toNat x28_1) (0, 0)).2)).bind fun o2 =>
     f18_1 m fuel a b x27_1 (w64 (x28_1 + 1)) o2.1 o2.2
   ) none
  ) (
   some (lh2_1)
  )
theorem f18_1_ok (m : Nat) : ∀ (fuel : Nat) (z0 : Nat) (y0 : Nat) (a : List (Int × Int)) (b : Int) (x27_1 : Int) (x28_1 : Int) (lh1_1 : List (Int × Int)) (lh2_1 : List Int) (o : (List Int)), f18_1 m fuel a b x27_1 x28_1 lh1_1 lh2_1 = some o → ∀ Q : QP, Q (.exit 1) [(8, s0 1 o.length)] [(1, rc (encI .i64) o 0 3 1), (0, rc encP a z0 y0 2)] 2 → XL E0 56 1 fuel f18_L1 [(1, ii b), (7, s0 1 lh1_1.length), (8, s0 2 lh2_1.length), (26, s0 0 a.length), (27, ii x27_1), (28, ii x28_1)] [(2, rc (encI .i64) lh2_1 0 3 1), (1, rc encP lh1_1 0 61 2), (0, rc encP a z0 y0 2)] 3 Q
 | 0, z0, y0, a, b, x27_1, x28_1, lh1_1, lh2_1, o, h, Q, hQ => by cases h
 | fuel + 1, z0, y0, a, b, x27_1, x28_1, lh1_1, lh2_1, o, h, Q, hQ => by
  unfold f18_1 at h
  refine XL.succ E0_ok ?_
  refine qQ ?_
  refine rS 1 [(1, ii b), (7, s0 1 lh1_1.length), (8, s0 2 lh2_1.length), (26, s0 0 a.length), (27, ii x27_1), (28, ii x28_1), (29, .bool (decide (x28_1 < x27_1)))] ?_
  refine dQ ?_
  show XQ _ _ _ _ _ _ _ _
  refine sQ ?_
  cases b1 : (decide (x28_1 < x27_1) : Bool) with
  | true =>
   have h := cT b1 h
   refine iT (.tmp 29) ?_
   refine kQ ?_
   show XQ _ _ _ _ _ _ _ _
   refine sQ ?_
   refine XQ.block (id := 2) (by kernel_rfl) ?_
   refine qQ ?_
   refine rS 1 [(1, ii b), (7, s0 1 lh1_1.length), (8, s0 2 lh2_1.length), (26, s0 0 a.length), (27, ii x27_1), (28, ii x28_1), (30, ii x28_1)] ?_
   cases b2 : (inRow x28_1 a.length : Bool) with
   | false => cases (cF b2 h)
   | true =>
    have h := cT b2 h
    refine XR.rd E0_ok [1, 7, 8, 26, 27, 28, 30, 31] rfl (v := pp 0 ((Int.toNat x28_1) * 2)) (v_idx (s := 2) (x := (src 56 (.tmp 26))) (y := (src 56 (.tmp 28))) (b := 0) (o := 0) (len := a.length) (cap := a.length) (ik := .i64) (i := x28_1) (off := (Int.toNat x28_1) * 2) (d := (some (path 12 31))) (by kernel_rfl) (by kernel_rfl) (by kernel_rfl) b2 (by omega)) (σ' := [(1, ii b), (7, s0 1 lh1_1.length), (8, s0 2 lh2_1.length), (26, s0 0 a.length), (27, ii x27_1), (28, ii x28_1), (30, ii x28_1), (31, pp 0 ((Int.toNat x28_1) * 2))]) (by kernel_rfl) ?_
    refine XR.rd E0_ok [1, 7, 8, 26, 27, 28, 30, 32] rfl (v := .agg #[ii ((List.getD a (Int.toNat x28_1) (0, 0)).1), ii ((List.getD a (Int.toNat x28_1) (0, 0)).2)]) (v_loadN encP_ok (x := (src 56 (.tmp 31))) (b := 0) (off := (Int.toNat x28_1) * 2) (xs := a) (fz := z0) (e := y0) (es := 2) (d := (some (path 12 32))) (by kernel_rfl) (by kernel_rfl) (by kernel_rfl) (Int.toNat x28_1) (0, 0) (by first | rfl | omega) (row_len (inRow_toNat b2) (by simp)) rfl) (σ' := [(1, ii b), (7, s0 1 lh1_1.length), (8, s0 2 lh2_1.length), (26, s0 0 a.length), (27, ii x27_1), (28, ii x28_1), (30, ii x28_1), (32, .agg #[ii ((List.getD a (Int.toNat x28_1) (0, 0)).1), ii ((List.getD a (Int.toNat x28_1) (0, 0)).2)])]) (by kernel_rfl) ?_
    refine rT 3 [(1, ii b), (7, s0 1 lh1_1.length), (8, s0 2 lh2_1.length), (9, ii x28_1), (10, pp 3 0), (26, s0 0 a.length), (27, ii x27_1), (28, ii x28_1)] [(3, .cells [ii ((List.getD a (Int.toNat x28_1) (0, 0)).1), ii ((List.getD a (Int.toNat x28_1) (0, 0)).2)] 0 61 0), (2, rc (encI .i64) lh2_1 0 3 1), (1, rc encP lh1_1 0 61 2), (0, rc encP a z0 y0 2)] 4 ?_
    refine nQ id ?_
    refine rS 3 [(1, ii b), (7, s0 1 lh1_1.length), (8, s0 2 lh2_1.length), (9, ii x28_1), (10, pp 3 0), (11, ii ((List.getD a (Int.toNat x28_1) (0, 0)).1)), (26, s0 0 a.length), (27, ii x27_1), (28, ii x28_1)] ?_
    refine dQ ?_
    show XQ _ _ _ _ _ _ _ _
    refine XQ.block (id := 3) (by kernel_rfl) ?_
    refine XQ.loop m (by kernel_rfl) ?_
    obtain ⟨o2, o2_h, h⟩ := bS h
    refine XL.ren (σ' := [(1, ii b), (7, s0 1 lh1_1.length), (8, s0 2 lh2_1.length), (9, ii x28_1), (10, pp 3 0), (11, ii ((List.getD a (Int.toNat x28_1) (0, 0)).1)), (26, s0 0 a.length), (27, ii x27_1), (28, ii x28_1)]) (h' := [(3, .cells [ii ((List.getD a (Int.toNat x28_1) (0, 0)).1), ii ((List.getD a (Int.toNat x28_1) (0, 0)).2)] 0 61 0), (2, rc (encI .i64) lh2_1 0 3 1), (1, rc encP lh1_1 0 61 2), (0, rc encP a z0 y0 2)]) (c' := 4) [0, 1, 2, 3] (by decide) rfl ⟨rfl, rfl, rfl, rfl, rfl, rfl, rfl, rfl, rfl, trivial⟩ ⟨⟨_, _, rfl, rfl, .inr ⟨_, _, _, _, rfl, rfl⟩⟩, ⟨_, _, rfl, rfl, .inl ⟨rfl, rwI⟩⟩, ⟨_, _, rfl, rfl, .inl ⟨rfl, rwP⟩⟩, ⟨_, _, rfl, rfl, .inl ⟨rfl, rwP⟩⟩, trivial⟩ rfl ?_
    refine XL.conv (f18_2_ok m m z0 y0 a b x27_1 x28_1 lh2_1 ((List.getD a (Int.toNat x28_1) (0, 0)).1) lh1_1 ((List.getD a (Int.toNat x28_1) (0, 0)).1) ((List.getD a (Int.toNat x28_1) (0, 0)).2) o2 o2_h _ ?_) (by first | rfl | simp)
    show XQ _ _ _ _ _ _ _ _
    refine rQ ?_
    refine rS 2 [(1, ii b), (7, s0 1 o2.1.length), (8, s0 2 o2.2.length), (26, s0 0 a.length), (27, ii x27_1), (28, ii (w64 (x28_1 + 1)))] ?_
    refine dQ ?_
    show XL _ _ _ _ _ _ _ _ _
    refine XL.ren (σ' := [(1, ii b), (7, s0 1 o2.1.length), (8, s0 2 o2.2.length), (26, s0 0 a.length), (27, ii x27_1), (28, ii (w64 (x28_1 + 1)))]) (h' := [(2, rc (encI .i64) o2.2 0 3 1), (1, rc encP o2.1 0 61 2), (0, rc encP a z0 y0 2)]) (c' := 3) [0, 1, 2] (by decide) rfl ⟨rfl, rfl, rfl, rfl, rfl, rfl, trivial⟩ ⟨⟨_, _, rfl, rfl, .inl ⟨rfl, rwI⟩⟩, ⟨_, _, rfl, rfl, .inl ⟨rfl, rwP⟩⟩, ⟨_, _, rfl, rfl, .inl ⟨rfl, rwP⟩⟩, trivial⟩ rfl ?_
    refine XL.conv (f18_1_ok m fuel z0 y0 a b x27_1 (w64 (x28_1 + 1)) o2.1 o2.2 o h Q hQ) (by first | rfl | simp)
  | false =>
   have h := cF b1 h
   refine iF (.tmp 29) ?_
   refine XQ.ren (σ' := [(8, s0 1 lh2_1.length)]) (h' := [(1, rc (encI .i64) lh2_1 0 3 1), (0, rc encP a z0 y0 2)]) (c' := 2) [0, 2] (by decide) rfl ⟨rfl, trivial⟩ ⟨⟨_, _, rfl, rfl, .inl ⟨rfl, rwI⟩⟩, ⟨_, _, rfl, rfl, .inl ⟨rfl, rwP⟩⟩, trivial⟩ rfl ?_
   refine XQ.exit (i := 1) (by kernel_rfl) ?_
   cases h
   exact hQ
def f18 (m : Nat) (a : List (Int × Int)) (b : Int) : Option ((List Int) × Int) :=
 (f57 m a b).bind fun r1 =>
  cond (r1 != 0) (
   some ([], r1)
  ) (
   (f58 m a b).bind fun r2 =>
    cond (!r2) (
     some ([], 12)
    ) (
     cond (fitsB a.length 16) (
      (f18_1 m m a b ((a.length : Nat) : Int) 0 a []).bind fun o1 =>
       some (o1, 0)
     ) none
    )
  )
theorem f18_ok (m : Nat) (z0 : Nat) (y0 : Nat) (a : List (Int × Int)) (b : Int) (o : (List Int) × Int) (h : f18 m a b = some o) : KC E0 18 [s0 0 a.length, ii b] [(0, rc encP a z0 y0 2)] 1 (fun v h' c' => v = .tuple #[s0 1 o.1.length, ii o.2] ∧ h' = [(1, rc (encI .i64) o.1 0 3 1)] ++ [(0, rc encP a z0 y0 2)] ∧ c' = 2) := by
 refine KC.bodyN E0_ok (F := Proofs.Try.f18) (by kernel_rfl) (code := f18_C18) (by kernel_rfl) (nt := 56) (by kernel_rfl) (rs := [.tmp 4, .tmp 5]) (by kernel_rfl) (by kernel_rfl) (σ := [(0, s0 0 a.length), (1, ii b)]) (by kernel_rfl) ?_
 unfold f18 at h
 refine qQ ?_
 refine rS 2 [(0, s0 0 a.length), (1, ii b)] ?_
 refine nQ id ?_
 refine rS 2 [(0, s0 0 a.length), (1, ii b), (12, s0 0 a.length), (13, ii b)] ?_
 obtain ⟨r1, r1_h, h⟩ := bS h
 refine XR.call E0_ok [0, 1, 14] rfl (K := 57) (args := [s0 0 a.length, ii b]) (d := (some (path 12 14))) (by kernel_rfl) (KQ.call (KC.quiet E0_ok (args0 := [s0 0 a.length, ii b]) (h0 := [(0, rc encP a (z0 + ((rowC encP a).length + 1)) y0 2)]) (n := 1) (V := ii r1) [0] (f57_ok m (z0 + ((rowC encP a).length + 1)) y0 a b r1 r1_h) rfl (by rfl) (by decide) rfl (by kernel_rfl) ⟨⟨_, _, rfl, rfl, .inl ⟨rfl, rwP⟩⟩, trivial⟩) rfl) ?_
 rintro _ _ _ ⟨rfl, rfl, rfl⟩
 refine XR.conv (σ' := [(0, s0 0 a.length), (1, ii b), (14, ii r1)]) (h' := [(0, rc encP a z0 y0 2)]) (c' := 1) ?_ (by kernel_rfl)
 refine rS 1 [(0, s0 0 a.length), (1, ii b), (6, ii r1)] ?_
 refine dQ ?_
 show XQ _ _ _ _ _ _ _ _
 refine sQ ?_
 refine XQ.block (id := 0) (by kernel_rfl) ?_
 refine qQ ?_
 refine rS 3 [(0, s0 0 a.length), (1, ii b), (6, ii r1), (15, .bool (r1 != 0))] ?_
 refine dQ ?_
 show XQ _ _ _ _ _ _ _ _
 cases b1 : (r1 != 0 : Bool) with
 | true =>
  have h := cT b1 h
  refine iT (.tmp 15) ?_
  refine qQ ?_
  refine rS 3 [(4, .slice none 0 0), (5, ii r1)] ?_
  refine dQ ?_
  show XQ _ _ _ _ _ _ _ _
  refine XQ.ghost 3 1 rfl (σ' := [(4, s0 1 0), (5, ii r1)]) (h' := [(0, rc encP a z0 y0 2)]) ⟨rfl, rfl, trivial⟩ ⟨⟨_, rfl, .inl rfl⟩, trivial⟩ ?_
  refine XQ.conv (σ' := [(4, s0 1 0), (5, ii r1)]) (h' := [(1, rc (encI .i64) [] 0 3 1), (0, rc encP a z0 y0 2)]) (c' := 2) ?_ (by kernel_rfl)
  refine XQ.ren (σ' := [(4, s0 1 0), (5, ii r1)]) (h' := [(1, rc (encI .i64) [] 0 3 1), (0, rc encP a z0 y0 2)]) (c' := 2) [0, 1] (by decide) rfl ⟨rfl, rfl, trivial⟩ ⟨⟨_, _, rfl, rfl, .inl ⟨rfl, rwI⟩⟩, ⟨_, _, rfl, rfl, .inl ⟨rfl, rwP⟩⟩, trivial⟩ rfl ?_
  refine XQ.ret (by kernel_rfl) ?_
  have h := Option.some.inj h
  subst h
  exact ⟨fun i q => (by cases q), .tuple #[s0 1 0, ii r1], (by kernel_rfl), (by kernel_rfl), (by kernel_rfl), rfl⟩
 | false =>
  have h := cF b1 h
  refine iF (.tmp 15) ?_
  refine qQ ?_
  refine rS 2 [(0, s0 0 a.length), (1, ii b), (20, s0 0 a.length), (21, ii b)] ?_
  obtain ⟨r2, r2_h, h⟩ := bS h
  refine XR.call E0_ok [0, 1, 22] rfl (K := 58) (args := [s0 0 a.length, ii b]) (d := (some (path 12 22))) (by kernel_rfl) (KQ.call (KC.quiet E0_ok (args0 := [s0 0 a.length, ii b]) (h0 := [(0, rc encP a (z0 + ((rowC encP a).length + 1)) y0 2)]) (n := 1) (V := .bool r2) [0] (f58_ok m (z0 + ((rowC encP a).length + 1)) y0 a b r2 r2_h) rfl (by rfl) (by decide) rfl (by kernel_rfl) ⟨⟨_, _, rfl, rfl, .inl ⟨rfl, rwP⟩⟩, trivial⟩) rfl) ?_
  rintro _ _ _ ⟨rfl, rfl, rfl⟩
  refine XR.conv (σ' := [(0, s0 0 a.length), (1, ii b), (22, .bool r2)]) (h' := [(0, rc encP a z0 y0 2)]) (c' := 1) ?_ (by kernel_rfl)
  refine rS 2 [(0, s0 0 a.length), (1, ii b), (19, .bool (!r2))] ?_
  refine dQ ?_
  show XQ _ _ _ _ _ _ _ _
  cases b2 : (!r2 : Bool) with
  | true =>
   have h := cT b2 h
   refine iT (.tmp 19) ?_
   refine qQ ?_
   refine rS 2 [(4, .slice none 0 0), (5, ii 12)] ?_
   refine dQ ?_
   show XQ _ _ _ _ _ _ _ _
   refine XQ.ghost 3 1 rfl (σ' := [(4, s0 1 0), (5, ii 12)]) (h' := [(0, rc encP a z0 y0 2)]) ⟨rfl, rfl, trivial⟩ ⟨⟨_, rfl, .inl rfl⟩, trivial⟩ ?_
   refine XQ.conv (σ' := [(4, s0 1 0), (5, ii 12)]) (h' := [(1, rc (encI .i64) [] 0 3 1), (0, rc encP a z0 y0 2)]) (c' := 2) ?_ (by kernel_rfl)
   refine XQ.ren (σ' := [(4, s0 1 0), (5, ii 12)]) (h' := [(1, rc (encI .i64) [] 0 3 1), (0, rc encP a z0 y0 2)]) (c' := 2) [0, 1] (by decide) rfl ⟨rfl, rfl, trivial⟩ ⟨⟨_, _, rfl, rfl, .inl ⟨rfl, rwI⟩⟩, ⟨_, _, rfl, rfl, .inl ⟨rfl, rwP⟩⟩, trivial⟩ rfl ?_
   refine XQ.ret (by kernel_rfl) ?_
   have h := Option.some.inj h
   subst h
   exact ⟨fun i q => (by cases q), .tuple #[s0 1 0, ii 12], (by kernel_rfl), (by kernel_rfl), (by kernel_rfl), rfl⟩
  | false =>
   have h := cF b2 h
   refine iF (.tmp 19) ?_
   refine kQ ?_
   show XQ _ _ _ _ _ _ _ _
   refine qQ ?_
   refine rS 1 [(0, s0 0 a.length), (1, ii b), (24, s0 0 a.length)] ?_
   cases b3 : (fitsB a.length 16 : Bool) with
   | false => cases (cF b3 h)
   | true =>
    have h := cT b3 h
    refine XR.call E0_ok [0, 1, 25] rfl (K := 50) (args := [s0 0 a.length]) (d := (some (path 12 25))) (by kernel_rfl) (clone50_all (xs := a) (fz := z0) (e0 := y0) (es0 := 2) (c := 1) (by kernel_rfl) (by simp) (Nat.le_refl _) b3) ?_
    rintro _ _ _ ⟨rfl, rfl, rfl⟩
    refine XR.conv (σ' := [(0, s0 0 a.length), (1, ii b), (25, s0 2 a.length)]) (h' := [(2, rc encP a 0 61 2), (0, rc encP a z0 y0 2)]) (c' := 3) ?_ (by kernel_rfl)
    refine rS 1 [(0, s0 0 a.length), (1, ii b), (7, s0 2 a.length)] ?_
    refine nQ id ?_
    refine rS 1 [(0, s0 0 a.length), (1, ii b), (7, s0 2 a.length), (8, .slice none 0 0)] ?_
    refine dQ ?_
    show XQ _ _ _ _ _ _ _ _
    refine XQ.ghost 3 1 rfl (σ' := [(0, s0 0 a.length), (1, ii b), (7, s0 2 a.length), (8, s0 3 0)]) (h' := [(2, rc encP a 0 61 2), (0, rc encP a z0 y0 2)]) ⟨rfl, rfl, rfl, rfl, trivial⟩ ⟨⟨_, rfl, .inl rfl⟩, ⟨_, rfl, .inl rfl⟩, trivial⟩ ?_
    refine XQ.conv (σ' := [(0, s0 0 a.length), (1, ii b), (7, s0 2 a.length), (8, s0 3 0)]) (h' := [(3, rc (encI .i64) [] 0 3 1), (2, rc encP a 0 61 2), (0, rc encP a z0 y0 2)]) (c' := 4) ?_ (by kernel_rfl)
    refine sQ ?_
    refine qQ ?_
    refine rS 3 [(1, ii b), (7, s0 2 a.length), (8, s0 3 0), (26, s0 0 a.length), (27, ii ((a.length : Nat) : Int)), (28, ii 0)] ?_
    refine dQ ?_
    show XQ _ _ _ _ _ _ _ _
    refine XQ.block (id := 1) (by kernel_rfl) ?_
    refine XQ.loop m (by kernel_rfl) ?_
    obtain ⟨o1, o1_h, h⟩ := bS h
    refine XL.ren (σ' := [(1, ii b), (7, s0 1 a.length), (8, s0 2 0), (26, s0 0 a.length), (27, ii ((a.length : Nat) : Int)), (28, ii 0)]) (h' := [(2, rc (encI .i64) [] 0 3 1), (1, rc encP a 0 61 2), (0, rc encP a z0 y0 2)]) (c' := 3) [0, 2, 3] (by decide) rfl ⟨rfl, rfl, rfl, rfl, rfl, rfl, trivial⟩ ⟨⟨_, _, rfl, rfl, .inl ⟨rfl, rwI⟩⟩, ⟨_, _, rfl, rfl, .inl ⟨rfl, rwP⟩⟩, ⟨_, _, rfl, rfl, .inl ⟨rfl, rwP⟩⟩, trivial⟩ rfl ?_
    refine XL.conv (f18_1_ok m m z0 y0 a b ((a.length : Nat) : Int) 0 a [] o1 o1_h _ ?_) (by first | rfl | simp)
    show XQ _ _ _ _ _ _ _ _
    refine qQ ?_
    refine rS 3 [(4, s0 1 o1.length), (5, ii 0)] ?_
    refine dQ ?_
    show XQ _ _ _ _ _ _ _ _
    refine XQ.ren (σ' := [(4, s0 1 o1.length), (5, ii 0)]) (h' := [(1, rc (encI .i64) o1 0 3 1), (0, rc encP a z0 y0 2)]) (c' := 2) [0, 1] (by decide) rfl ⟨rfl, rfl, trivial⟩ ⟨⟨_, _, rfl, rfl, .inl ⟨rfl, rwI⟩⟩, ⟨_, _, rfl, rfl, .inl ⟨rfl, rwP⟩⟩, trivial⟩ rfl ?_
    refine XQ.ret (by kernel_rfl) ?_
    have h := Option.some.inj h
    subst h
    exact ⟨fun i q => (by cases q), .tuple #[s0 1 o1.length, ii 0], (by kernel_rfl), (by kernel_rfl), (by kernel_rfl), rfl⟩
end Go.Xm
