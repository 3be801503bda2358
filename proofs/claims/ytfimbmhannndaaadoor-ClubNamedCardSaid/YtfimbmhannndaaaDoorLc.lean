/- What these functions of the program compute, as functions in Lean, and the proofs that they do: vitolalaw12.ClubNamed. Conditions: the library's variables hold what their texts lay. -/
import Derived.Test.YtfimbmhannndaaaDoorZk
import Derived.Test.YtfimbmhannndaaaDoorZx
import Derived.Test.YtfimbmhannndaaaDoorLd
namespace Go.Xm
open Go.RowKit
set_option linter.unusedVariables false
set_option linter.unusedSimpArgs false
set_option maxRecDepth 20000
noncomputable def f11_C11 : Code := Proofs.Tryd.f11.body.getD .skip
noncomputable def f11_C51 : Code := Proofs.Tryd.f51.body.getD .skip
noncomputable def f11_L1 : Code := lft (lft (rgt (lft (rgt (rgt (rgt (rgt f11_C11)))))))
noncomputable def f11_L2 : Code := lft (lft (rgt (lft (rgt (rgt (rgt (rgt (rgt f11_C11))))))))
noncomputable def f11_L3 : Code := lft (lft (rgt (lft (rgt (rgt (rgt (rgt (rgt (rgt (rgt f11_C11))))))))))
noncomputable def f11_L4 : Code := lft (lft (rgt (lft (rgt (rgt (rgt (rgt (rgt (rgt (rgt (rgt (rgt (rgt (rgt (rgt (rgt (rgt (rgt (rgt f11_C11)))))))))))))))))))
noncomputable def f11_L5 : Code := lft (lft (rgt (lft (rgt (rgt (rgt (rgt (rgt (rgt (rgt (rgt (rgt (rgt (rgt (rgt (rgt (rgt (rgt (rgt (rgt (rgt (rgt (rgt (rgt (rgt f11_C11)))))))))))))))))))))))))
def f11_1 (m : Nat) : Nat → Int → Int → Int → Int → Int → Int → Int → Int → Int → Int → Int → Int → Int → Int → Int → Int → Int → Int → Int → Int → List Int → List (Int × Int) → Option (Int × Int × (List Int) × (List (Int × Int)))
 | 0, _, _, _, _, _, _, _, _, _, _, _, _, _, _, _, _, _, _, _, _, _, _ => none
 | fuel + 1, b_0, b_1, b_2, b_3, b_4, b_5, b_6, b_7, c_0, c_1, c_2, c_3, c_4, c_5, c_6, c_7, x8_1, x41_1, x42_1, xh2_0_1, lh3_1, lh5_1 =>
  cond (decide (x42_1 < x41_1)) (
   cond (fitsB (lh3_1.length + 1) 8) (
    f11_1 m fuel b_0 b_1 b_2 b_3 b_4 b_5 b_6 b_7 c_0 c_1 c_2 c_3 c_4 c_5 c_6 c_7 x8_1 x41_1 (w64 (x42_1 + 1)) xh2_0_1 (lh3_1 ++ [x42_1]) lh5_1
   ) none
  ) (
   some (x8_1, xh2_0_1, lh3_1, lh5_1)
  )

abbrev qlc1 (b_0 : Int) (b_1 : Int) (b_2 : Int) (b_3 : Int) (b_4 : Int) (b_5 : Int) (b_6 : Int) (b_7 : Int) (c_0 : Int) (c_1 : Int) (c_2 : Int) (c_3 : Int) (c_4 : Int) (c_5 : Int) (c_6 : Int) (c_7 : Int) (t : Heap) : Heap := (1, .cells [.int .u8 c_0, .int .u8 c_1, .int .u8 c_2, .int .u8 c_3, .int .u8 c_4, .int .u8 c_5, .int .u8 c_6, .int .u8 c_7] 0 76 0) :: (0, .cells [.int .u8 b_0, .int .u8 b_1, .int .u8 b_2, .int .u8 b_3, .int .u8 b_4, .int .u8 b_5, .int .u8 b_6, .int .u8 b_7] 0 76 0) :: t
theorem f11_1_ok (m : Nat) : ∀ (fuel : Nat) (b_0 : Int) (b_1 : Int) (b_2 : Int) (b_3 : Int) (b_4 : Int) (b_5 : Int) (b_6 : Int) (b_7 : Int) (c_0 : Int) (c_1 : Int) (c_2 : Int) (c_3 : Int) (c_4 : Int) (c_5 : Int) (c_6 : Int) (c_7 : Int) (x8_1 : Int) (x41_1 : Int) (x42_1 : Int) (xh2_0_1 : Int) (lh3_1 : List Int) (lh5_1 : List (Int × Int)) (o : (Int × Int × (List Int) × (List (Int × Int)))), f11_1 m fuel b_0 b_1 b_2 b_3 b_4 b_5 b_6 b_7 c_0 c_1 c_2 c_3 c_4 c_5 c_6 c_7 x8_1 x41_1 x42_1 xh2_0_1 lh3_1 lh5_1 = some o → ∀ Q : QP, Q (.exit 0) [(4, pp 0 0), (5, pp 1 0), (7, pp 2 0), (8, ii o.1), (9, s0 3 o.2.2.1.length), (10, s0 4 0)] ((5, rc encP o.2.2.2 0 55 2) :: (4, rI []) :: (3, rI o.2.2.1) :: (2, .cells [ii o.2.1, s0 5 o.2.2.2.length] 0 34 0) :: qlc1 b_0 b_1 b_2 b_3 b_4 b_5 b_6 b_7 c_0 c_1 c_2 c_3 c_4 c_5 c_6 c_7 []) 6 → XL E0 272 0 fuel f11_L1 [(4, pp 0 0), (5, pp 1 0), (7, pp 2 0), (8, ii x8_1), (9, s0 3 lh3_1.length), (10, s0 4 0), (41, ii x41_1), (42, ii x42_1)] ((5, rc encP lh5_1 0 55 2) :: (4, rI []) :: (3, rI lh3_1) :: (2, .cells [ii xh2_0_1, s0 5 lh5_1.length] 0 34 0) :: qlc1 b_0 b_1 b_2 b_3 b_4 b_5 b_6 b_7 c_0 c_1 c_2 c_3 c_4 c_5 c_6 c_7 []) 6 Q
 | 0, b_0, b_1, b_2, b_3, b_4, b_5, b_6, b_7, c_0, c_1, c_2, c_3, c_4, c_5, c_6, c_7, x8_1, x41_1, x42_1, xh2_0_1, lh3_1, lh5_1, o, h, Q, hQ => by cases h
 | fuel + 1, b_0, b_1, b_2, b_3, b_4, b_5, b_6, b_7, c_0, c_1, c_2, c_3, c_4, c_5, c_6, c_7, x8_1, x41_1, x42_1, xh2_0_1, lh3_1, lh5_1, o, h, Q, hQ => by
  unfold f11_1 at h
  refine XL.succ E0_ok ?_
  refine qQ ?_
  refine rS 1 [(4, pp 0 0), (5, pp 1 0), (7, pp 2 0), (8, ii x8_1), (9, s0 3 lh3_1.length), (10, s0 4 0), (41, ii x41_1), (42, ii x42_1), (43, .bool (decide (x42_1 < x41_1)))] ?_
  refine dQ ?_
  show XQ _ _ _ _ _ _ _ _
  refine sQ ?_
  cases b1 : (decide (x42_1 < x41_1) : Bool) with
  | true =>
   have h := cT b1 h
   refine iT (.tmp 43) ?_
   refine kQ ?_
   show XQ _ _ _ _ _ _ _ _
   refine sQ ?_
   refine XQ.block (id := 1) (by kernel_rfl) ?_
   refine qQ ?_
   refine rS 2 [(4, pp 0 0), (5, pp 1 0), (7, pp 2 0), (8, ii x8_1), (9, s0 3 lh3_1.length), (10, s0 4 0), (11, ii x42_1), (41, ii x41_1), (42, ii x42_1)] ?_
   refine dQ ?_
   show XQ _ _ _ _ _ _ _ _
   refine rQ ?_
   refine rT 3 [(4, pp 0 0), (5, pp 1 0), (7, pp 2 0), (8, ii x8_1), (10, s0 4 0), (41, ii x41_1), (42, ii x42_1), (45, s0 3 lh3_1.length), (47, s0 6 1)] ((6, .cells [ii x42_1] 0 3 1) :: (5, rc encP lh5_1 0 55 2) :: (4, rI []) :: (3, rI lh3_1) :: (2, .cells [ii xh2_0_1, s0 5 lh5_1.length] 0 34 0) :: qlc1 b_0 b_1 b_2 b_3 b_4 b_5 b_6 b_7 c_0 c_1 c_2 c_3 c_4 c_5 c_6 c_7 []) 7 ?_
   cases b2 : (fitsB (lh3_1.length + 1) 8 : Bool) with
   | false => cases (cF b2 h)
   | true =>
    have h := cT b2 h
    refine XR.ef E0_ok [4, 5, 7, 8, 10, 41, 42, 48] rfl (e_append (encI_ok .i64) (bytes := 8) (e := 3) (x := (src 272 (.tmp 45))) (y := (src 272 (.tmp 47))) (b := 3) (len := lh3_1.length) (cap := lh3_1.length) (xs := lh3_1) (m := 0) (ys := [x42_1]) (d := (some (path 12 48))) (n' := (lh3_1 ++ [x42_1]).length) (h' := ((7, rI (lh3_1 ++ [x42_1])) :: (6, .cells [ii x42_1] 0 3 1) :: (5, rc encP lh5_1 0 55 2) :: (4, rI []) :: (2, .cells [ii xh2_0_1, s0 5 lh5_1.length] 0 34 0) :: qlc1 b_0 b_1 b_2 b_3 b_4 b_5 b_6 b_7 c_0 c_1 c_2 c_3 c_4 c_5 c_6 c_7 [])) (by kernel_rfl) (by kernel_rfl) (by kernel_rfl) (by kernel_rfl) rfl (by simp) (by simp) b2 (by simp) (by kernel_rfl)) (σ' := [(4, pp 0 0), (5, pp 1 0), (7, pp 2 0), (8, ii x8_1), (10, s0 4 0), (41, ii x41_1), (42, ii x42_1), (48, s0 7 ((lh3_1 ++ [x42_1]).length))]) (by kernel_rfl) ?_
    refine rS 1 [(4, pp 0 0), (5, pp 1 0), (7, pp 2 0), (8, ii x8_1), (9, s0 7 ((lh3_1 ++ [x42_1]).length)), (10, s0 4 0), (41, ii x41_1), (42, ii x42_1)] ?_
    refine dQ ?_
    show XQ _ _ _ _ _ _ _ _
    refine rQ ?_
    refine rS 2 [(4, pp 0 0), (5, pp 1 0), (7, pp 2 0), (8, ii x8_1), (9, s0 7 ((lh3_1 ++ [x42_1]).length)), (10, s0 4 0), (41, ii x41_1), (42, ii (w64 (x42_1 + 1)))] ?_
    refine dQ ?_
    show XL _ _ _ _ _ _ _ _ _
    refine XL.ren (σ' := [(4, pp 0 0), (5, pp 1 0), (7, pp 2 0), (8, ii x8_1), (9, s0 3 ((lh3_1 ++ [x42_1]).length)), (10, s0 4 0), (41, ii x41_1), (42, ii (w64 (x42_1 + 1)))]) (h' := ((5, rc encP lh5_1 0 55 2) :: (4, rI []) :: (3, rI (lh3_1 ++ [x42_1])) :: (2, .cells [ii xh2_0_1, s0 5 lh5_1.length] 0 34 0) :: qlc1 b_0 b_1 b_2 b_3 b_4 b_5 b_6 b_7 c_0 c_1 c_2 c_3 c_4 c_5 c_6 c_7 [])) (c' := 6) [0, 1, 2, 7, 4, 5] (by decide) rfl ⟨rfl, rfl, rfl, rfl, rfl, rfl, rfl, rfl, trivial⟩ ⟨⟨_, _, rfl, rfl, .inl ⟨rfl, rwP⟩⟩, ⟨_, _, rfl, rfl, .inl ⟨rfl, rwI⟩⟩, ⟨_, _, rfl, rfl, .inl ⟨rfl, rwI⟩⟩, ⟨_, _, rfl, rfl, .inr ⟨_, _, _, _, rfl, rfl⟩⟩, ⟨_, _, rfl, rfl, .inr ⟨_, _, _, _, rfl, rfl⟩⟩, ⟨_, _, rfl, rfl, .inr ⟨_, _, _, _, rfl, rfl⟩⟩, trivial⟩ rfl ?_
    refine XL.conv (f11_1_ok m fuel b_0 b_1 b_2 b_3 b_4 b_5 b_6 b_7 c_0 c_1 c_2 c_3 c_4 c_5 c_6 c_7 x8_1 x41_1 (w64 (x42_1 + 1)) xh2_0_1 (lh3_1 ++ [x42_1]) lh5_1 o h Q hQ) (by first | with_reducible rfl | simp | rfl)
  | false =>
   have h := cF b1 h
   refine iF (.tmp 43) ?_
   refine XQ.ren (σ' := [(4, pp 0 0), (5, pp 1 0), (7, pp 2 0), (8, ii x8_1), (9, s0 3 lh3_1.length), (10, s0 4 0)]) (h' := ((5, rc encP lh5_1 0 55 2) :: (4, rI []) :: (3, rI lh3_1) :: (2, .cells [ii xh2_0_1, s0 5 lh5_1.length] 0 34 0) :: qlc1 b_0 b_1 b_2 b_3 b_4 b_5 b_6 b_7 c_0 c_1 c_2 c_3 c_4 c_5 c_6 c_7 [])) (c' := 6) [0, 1, 2, 3, 4, 5] (by decide) rfl ⟨rfl, rfl, rfl, rfl, rfl, rfl, trivial⟩ ⟨⟨_, _, rfl, rfl, .inl ⟨rfl, rwP⟩⟩, ⟨_, _, rfl, rfl, .inl ⟨rfl, rwI⟩⟩, ⟨_, _, rfl, rfl, .inl ⟨rfl, rwI⟩⟩, ⟨_, _, rfl, rfl, .inr ⟨_, _, _, _, rfl, rfl⟩⟩, ⟨_, _, rfl, rfl, .inr ⟨_, _, _, _, rfl, rfl⟩⟩, ⟨_, _, rfl, rfl, .inr ⟨_, _, _, _, rfl, rfl⟩⟩, trivial⟩ rfl ?_
   refine XQ.exit (i := 0) (by kernel_rfl) ?_
   cases h
   exact hQ
def f11_3 (m : Nat) (b_0 : Int) (b_1 : Int) (b_2 : Int) (b_3 : Int) (b_4 : Int) (b_5 : Int) (b_6 : Int) (b_7 : Int) (lh1_2 : List Int) (xh2_0_2 : Int) (lh3_2 : List Int) (lh5_2 : List (Int × Int)) (x1_3 : Int) (x2_3 : Int) (xh6_0_3 : Int) (lh7_3 : List Int) : Option (List Int) :=
 cond (cutOK x1_3 x2_3 ((lh3_2.length : Nat) : Int) lh3_2.length) (
  cond (decide (0 < Int.toNat ((lh3_2.length : Nat) : Int) - (Int.toNat x1_3))) (
   cond (x1_3 == x2_3) (
    some (List.take lh3_2.length lh3_2)
   ) (
    cond (cutOK 0 x1_3 ((lh3_2.length : Nat) : Int) lh3_2.length) (
     cond (cutOK x2_3 ((lh3_2.length : Nat) : Int) ((lh3_2.length : Nat) : Int) lh3_2.length) (
      cond (decide (1 ≤ lh3_2.length)) (
       cond (decide ((Int.toNat x1_3) + (lh3_2.length - (Int.toNat x2_3)) ≤ lh3_2.length)) (
        cond (decide ((lh3_2.length - (Int.toNat x2_3)) ≤ (lh3_2.length - (Int.toNat x2_3)))) (
         cond (decide ((Int.toNat x2_3) + (lh3_2.length - (Int.toNat x2_3)) ≤ lh3_2.length)) (
          cond (cutOK (((Int.toNat x1_3) + (lh3_2.length - (Int.toNat x2_3)) : Nat) : Int) ((lh3_2.length : Nat) : Int) ((lh3_2.length : Nat) : Int) lh3_2.length) (
           cond (decide ((Int.toNat (((Int.toNat x1_3) + (lh3_2.length - (Int.toNat x2_3)) : Nat) : Int)) + (Int.toNat ((lh3_2.length : Nat) : Int) - (Int.toNat (((Int.toNat x1_3) + (lh3_2.length - (Int.toNat x2_3)) : Nat) : Int))) ≤ (List.take (Int.toNat x1_3) lh3_2 ++ List.take (lh3_2.length - (Int.toNat x2_3)) (List.drop (Int.toNat x2_3) lh3_2) ++ List.drop ((Int.toNat x1_3) + (lh3_2.length - (Int.toNat x2_3))) lh3_2).length)) (
            cond (decide ((Int.toNat x1_3) + (lh3_2.length - (Int.toNat x2_3)) ≤ (clearL 0 (List.take (Int.toNat x1_3) lh3_2 ++ List.take (lh3_2.length - (Int.toNat x2_3)) (List.drop (Int.toNat x2_3) lh3_2) ++ List.drop ((Int.toNat x1_3) + (lh3_2.length - (Int.toNat x2_3))) lh3_2) (Int.toNat (((Int.toNat x1_3) + (lh3_2.length - (Int.toNat x2_3)) : Nat) : Int)) (Int.toNat ((lh3_2.length : Nat) : Int) - (Int.toNat (((Int.toNat x1_3) + (lh3_2.length - (Int.toNat x2_3)) : Nat) : Int)))).length)) (
             cond (decide ((Int.toNat x1_3) + (lh3_2.length - (Int.toNat x2_3)) ≤ lh3_2.length)) (
              some (List.take ((Int.toNat x1_3) + (lh3_2.length - (Int.toNat x2_3))) (clearL 0 (List.take (Int.toNat x1_3) lh3_2 ++ List.take (lh3_2.length - (Int.toNat x2_3)) (List.drop (Int.toNat x2_3) lh3_2) ++ List.drop ((Int.toNat x1_3) + (lh3_2.length - (Int.toNat x2_3))) lh3_2) (Int.toNat (((Int.toNat x1_3) + (lh3_2.length - (Int.toNat x2_3)) : Nat) : Int)) (Int.toNat ((lh3_2.length : Nat) : Int) - (Int.toNat (((Int.toNat x1_3) + (lh3_2.length - (Int.toNat x2_3)) : Nat) : Int)))))
             ) none
            ) none
           ) none
          ) none
         ) none
        ) none
       ) none
      ) none
     ) none
    ) none
   )
  ) none
 ) none

abbrev qlc2 (b_0 : Int) (b_1 : Int) (b_2 : Int) (b_3 : Int) (b_4 : Int) (b_5 : Int) (b_6 : Int) (b_7 : Int) (lh1_2 : List Int) (lh5_2 : List (Int × Int)) (xh2_0_2 : Int) (t : Heap) : Heap := (2, .cells [ii xh2_0_2, s0 5 lh5_2.length] 0 34 0) :: (1, rc (encI .u8) lh1_2 0 76 0) :: (0, .cells [.int .u8 b_0, .int .u8 b_1, .int .u8 b_2, .int .u8 b_3, .int .u8 b_4, .int .u8 b_5, .int .u8 b_6, .int .u8 b_7] 0 76 0) :: t
theorem f11_3_ok (m : Nat) (b_0 : Int) (b_1 : Int) (b_2 : Int) (b_3 : Int) (b_4 : Int) (b_5 : Int) (b_6 : Int) (b_7 : Int) (lh1_2 : List Int) (xh2_0_2 : Int) (lh3_2 : List Int) (lh5_2 : List (Int × Int)) (x1_3 : Int) (x2_3 : Int) (xh6_0_3 : Int) (lh7_3 : List Int) (o : (List Int)) (h : f11_3 m b_0 b_1 b_2 b_3 b_4 b_5 b_6 b_7 lh1_2 xh2_0_2 lh3_2 lh5_2 x1_3 x2_3 xh6_0_3 lh7_3 = some o) (R : Value → Heap → Nat → Prop) (hR : R (s0 3 o.length) ((7, rI lh7_3) :: (6, .cells [ii xh6_0_3] 0 3 1) :: (5, rc encP lh5_2 0 55 2) :: (3, rI o) :: qlc2 b_0 b_1 b_2 b_3 b_4 b_5 b_6 b_7 lh1_2 lh5_2 xh2_0_2 []) 8) : KC E0 51 [s0 3 lh3_2.length, ii x1_3, ii x2_3] ((7, rI lh7_3) :: (6, .cells [ii xh6_0_3] 0 3 1) :: (5, rc encP lh5_2 0 55 2) :: (3, rI lh3_2) :: qlc2 b_0 b_1 b_2 b_3 b_4 b_5 b_6 b_7 lh1_2 lh5_2 xh2_0_2 []) 8 R := by
 refine KC.shrink (encI_ok .i64) rfl (e := 3) 3 ?_
 refine KC.bodyN E0_ok (F := Proofs.Tryd.f51) (by kernel_rfl) (code := f11_C51) (by kernel_rfl) (nt := 33) (by kernel_rfl) (rs := [.tmp 6]) (by kernel_rfl) (by kernel_rfl) (σ := [(0, s0 3 lh3_2.length), (1, ii x1_3), (2, ii x2_3)]) (by kernel_rfl) ?_
 unfold f11_3 at h
 refine qQ ?_
 refine rS 1 [(0, s0 3 lh3_2.length), (1, ii x1_3), (2, ii x2_3)] ?_
 refine nQ id ?_
 refine rS 5 [(0, s0 3 lh3_2.length), (1, ii x1_3), (2, ii x2_3), (8, s0 3 lh3_2.length), (9, ii x1_3), (10, ii x2_3), (12, ii ((lh3_2.length : Nat) : Int))] ?_
 cases b1 : (cutOK x1_3 x2_3 ((lh3_2.length : Nat) : Int) lh3_2.length : Bool) with
 | false => cases (cF b1 h)
 | true =>
  have h := cT b1 h
  cases b2 : (decide (0 < Int.toNat ((lh3_2.length : Nat) : Int) - (Int.toNat x1_3)) : Bool) with
  | false => cases (cF b2 h)
  | true =>
   have h := cT b2 h
   refine XR.rd E0_ok [0, 1, 2] rfl (v := sl 3 ((Int.toNat x1_3) * 1) (Int.toNat x2_3 - (Int.toNat x1_3)) (Int.toNat ((lh3_2.length : Nat) : Int) - (Int.toNat x1_3))) (v_cutM (nt := 33) (s := 1) (x := (src 33 (.tmp 8))) (lo := (some (.tmp 9))) (hi := (some (.tmp 10))) (mx := (some (.tmp 12))) (b := 3) (o := 0) (len := lh3_2.length) (cap := lh3_2.length) (l := (some x1_3)) (u := (some x2_3)) (m := (some ((lh3_2.length : Nat) : Int))) (cs := rowC (encI .i64) lh3_2) (fz := 0) (e := 3) (es := 1) (o' := (Int.toNat x1_3) * 1) (len' := Int.toNat x2_3 - (Int.toNat x1_3)) (cap' := Int.toNat ((lh3_2.length : Nat) : Int) - (Int.toNat x1_3)) (d := (some (path 12 13))) (by kernel_rfl) (by kernel_rfl) (by kernel_rfl) (by kernel_rfl) (by kernel_rfl) (by kernel_rfl) (by kernel_rfl) rfl b1 (by simpa using b2) (by simp only [Option.getD_none, Option.getD_some] <;> omega) (by simp only [Option.getD_none, Option.getD_some] <;> omega) (by simp only [Option.getD_none, Option.getD_some] <;> omega)) (σ' := [(0, s0 3 lh3_2.length), (1, ii x1_3), (2, ii x2_3)]) (by kernel_rfl) ?_
   refine dQ ?_
   show XQ _ _ _ _ _ _ _ _
   refine sQ ?_
   refine qQ ?_
   refine rS 3 [(0, s0 3 lh3_2.length), (1, ii x1_3), (2, ii x2_3), (16, .bool (x1_3 == x2_3))] ?_
   refine dQ ?_
   show XQ _ _ _ _ _ _ _ _
   cases b3 : (x1_3 == x2_3 : Bool) with
   | true =>
    have h := cT b3 h
    refine iT (.tmp 16) ?_
    refine qQ ?_
    refine rS 2 [(6, s0 3 lh3_2.length)] ?_
    refine dQ ?_
    show XQ _ _ _ _ _ _ _ _
    refine XQ.ren (σ' := [(6, s0 3 lh3_2.length)]) (h' := ((7, rI lh7_3) :: (6, .cells [ii xh6_0_3] 0 3 1) :: (5, rc encP lh5_2 0 55 2) :: (3, rI lh3_2) :: qlc2 b_0 b_1 b_2 b_3 b_4 b_5 b_6 b_7 lh1_2 lh5_2 xh2_0_2 [])) (c' := 8) [0, 1, 2, 3, 4, 5, 6, 7] (by decide) rfl ⟨rfl, trivial⟩ ⟨⟨_, _, rfl, rfl, .inl ⟨rfl, rwI⟩⟩, ⟨_, _, rfl, rfl, .inr ⟨_, _, _, _, rfl, rfl⟩⟩, ⟨_, _, rfl, rfl, .inl ⟨rfl, rwP⟩⟩, ⟨_, _, rfl, rfl, .inl ⟨rfl, rwI⟩⟩, ⟨_, _, rfl, rfl, .inr ⟨_, _, _, _, rfl, rfl⟩⟩, ⟨_, _, rfl, rfl, .inl ⟨rfl, rowC_scal (encI_ok .u8) _⟩⟩, ⟨_, _, rfl, rfl, .inr ⟨_, _, _, _, rfl, rfl⟩⟩, trivial⟩ rfl ?_
    refine XQ.ret (by kernel_rfl) ?_
    cases h
    exact ⟨fun i q => (by cases q), s0 3 lh3_2.length, (by kernel_rfl), lh3_2, lh3_2.length, lh3_2.length, ((7, rI lh7_3) :: (6, .cells [ii xh6_0_3] 0 3 1) :: (5, rc encP lh5_2 0 55 2) :: (3, rI (List.take lh3_2.length lh3_2)) :: qlc2 b_0 b_1 b_2 b_3 b_4 b_5 b_6 b_7 lh1_2 lh5_2 xh2_0_2 []), rfl, (by kernel_rfl), (Nat.le_refl _), (Nat.le_refl _), (by kernel_rfl), (by first | exact hR | simpa only [List.length_set] using hR)⟩
   | false =>
    have h := cF b3 h
    refine iF (.tmp 16) ?_
    refine kQ ?_
    show XQ _ _ _ _ _ _ _ _
    refine qQ ?_
    refine rS 3 [(0, s0 3 lh3_2.length), (1, ii x1_3), (2, ii x2_3), (7, ii ((lh3_2.length : Nat) : Int))] ?_
    refine dQ ?_
    show XQ _ _ _ _ _ _ _ _
    refine sQ ?_
    refine XQ.tail E0_ok 6 (by kernel_rfl) (by kernel_rfl) ?_
    refine XS.step E0_ok 2 rfl [0, 2, 7, 20, 21] rfl (σ' := [(0, s0 3 lh3_2.length), (2, ii x2_3), (7, ii ((lh3_2.length : Nat) : Int)), (20, s0 3 lh3_2.length), (21, ii x1_3)]) (by kernel_rfl) ?_
    cases b4 : (cutOK 0 x1_3 ((lh3_2.length : Nat) : Int) lh3_2.length : Bool) with
    | false => cases (cF b4 h)
    | true =>
     have h := cT b4 h
     refine XS.rd E0_ok rfl [0, 2, 7, 22] rfl (v := sl 3 0 (Int.toNat x1_3) lh3_2.length) (v_cut (nt := 33) (s := 1) (x := (src 33 (.tmp 20))) (lo := none) (hi := (some (.tmp 21))) (mx := none) (b := 3) (o := 0) (len := lh3_2.length) (cap := lh3_2.length) (l := none) (u := (some x1_3)) (m := none) (cs := rowC (encI .i64) lh3_2) (fz := 0) (e := 3) (es := 1) (o' := 0) (len' := Int.toNat x1_3) (cap' := lh3_2.length) (d := (some (path 12 22))) (by kernel_rfl) (by kernel_rfl) (by kernel_rfl) (by kernel_rfl) (by kernel_rfl) (by kernel_rfl) (by kernel_rfl) rfl b4 (by simp only [Option.getD_none, Option.getD_some] <;> omega) (by simp only [Option.getD_none, Option.getD_some] <;> omega) (by simp only [Option.getD_none, Option.getD_some] <;> omega)) (σ' := [(0, s0 3 lh3_2.length), (2, ii x2_3), (7, ii ((lh3_2.length : Nat) : Int)), (22, sl 3 0 (Int.toNat x1_3) lh3_2.length)]) (by kernel_rfl) ?_
     refine XS.step E0_ok 2 rfl [7, 22, 23, 24] rfl (σ' := [(7, ii ((lh3_2.length : Nat) : Int)), (22, sl 3 0 (Int.toNat x1_3) lh3_2.length), (23, s0 3 lh3_2.length), (24, ii x2_3)]) (by kernel_rfl) ?_
     cases b5 : (cutOK x2_3 ((lh3_2.length : Nat) : Int) ((lh3_2.length : Nat) : Int) lh3_2.length : Bool) with
     | false => cases (cF b5 h)
     | true =>
      have h := cT b5 h
      refine XS.rd E0_ok rfl [7, 22, 25] rfl (v := sl 3 ((Int.toNat x2_3) * 1) (lh3_2.length - (Int.toNat x2_3)) (lh3_2.length - (Int.toNat x2_3))) (v_cut (nt := 33) (s := 1) (x := (src 33 (.tmp 23))) (lo := (some (.tmp 24))) (hi := none) (mx := none) (b := 3) (o := 0) (len := lh3_2.length) (cap := lh3_2.length) (l := (some x2_3)) (u := none) (m := none) (cs := rowC (encI .i64) lh3_2) (fz := 0) (e := 3) (es := 1) (o' := (Int.toNat x2_3) * 1) (len' := lh3_2.length - (Int.toNat x2_3)) (cap' := lh3_2.length - (Int.toNat x2_3)) (d := (some (path 12 25))) (by kernel_rfl) (by kernel_rfl) (by kernel_rfl) (by kernel_rfl) (by kernel_rfl) (by kernel_rfl) (by kernel_rfl) rfl b5 (by simp only [Option.getD_none, Option.getD_some] <;> omega) (by simp only [Option.getD_none, Option.getD_some] <;> omega) (by simp only [Option.getD_none, Option.getD_some] <;> omega)) (σ' := [(7, ii ((lh3_2.length : Nat) : Int)), (22, sl 3 0 (Int.toNat x1_3) lh3_2.length), (25, sl 3 ((Int.toNat x2_3) * 1) (lh3_2.length - (Int.toNat x2_3)) (lh3_2.length - (Int.toNat x2_3)))]) (by kernel_rfl) ?_
      refine XS.done (by kernel_rfl) ?_
      cases b6 : (decide (1 ≤ lh3_2.length) : Bool) with
      | false => cases (cF b6 h)
      | true =>
       have h := cT b6 h
       cases b7 : (decide ((Int.toNat x1_3) + (lh3_2.length - (Int.toNat x2_3)) ≤ lh3_2.length) : Bool) with
       | false => cases (cF b7 h)
       | true =>
        have h := cT b7 h
        cases b8 : (decide ((lh3_2.length - (Int.toNat x2_3)) ≤ (lh3_2.length - (Int.toNat x2_3))) : Bool) with
        | false => cases (cF b8 h)
        | true =>
         have h := cT b8 h
         cases b9 : (decide ((Int.toNat x2_3) + (lh3_2.length - (Int.toNat x2_3)) ≤ lh3_2.length) : Bool) with
         | false => cases (cF b9 h)
         | true =>
          have h := cT b9 h
          refine XR.appF E0_ok [7, 26] (d := (some (path 12 26))) (f := eAppend false 1 8 3 (src 33 (.tmp 22)) (src 33 (.tmp 25))) (.tmp 22) (.tmp 25) 22 22 1 rfl (by kernel_rfl) (by kernel_rfl) (by kernel_rfl) (e_appendF (encI_ok .i64) (x := (src 33 (.tmp 22))) (y := (src 33 (.tmp 25))) (b := 3) (n := Int.toNat x1_3) (cap := lh3_2.length) (xs := lh3_2) (e := 3) (Y := sl 3 ((Int.toNat x2_3) * 1) (lh3_2.length - (Int.toNat x2_3)) (lh3_2.length - (Int.toNat x2_3))) (m := lh3_2.length - (Int.toNat x2_3)) (ys := List.take (lh3_2.length - (Int.toNat x2_3)) (List.drop (Int.toNat x2_3) lh3_2)) (n' := (Int.toNat x1_3) + (lh3_2.length - (Int.toNat x2_3))) (h' := ((7, rI lh7_3) :: (6, .cells [ii xh6_0_3] 0 3 1) :: (5, rc encP lh5_2 0 55 2) :: (3, rI (List.take (Int.toNat x1_3) lh3_2 ++ List.take (lh3_2.length - (Int.toNat x2_3)) (List.drop (Int.toNat x2_3) lh3_2) ++ List.drop ((Int.toNat x1_3) + (lh3_2.length - (Int.toNat x2_3))) lh3_2)) :: qlc2 b_0 b_1 b_2 b_3 b_4 b_5 b_6 b_7 lh1_2 lh5_2 xh2_0_2 [])) (by kernel_rfl) (by kernel_rfl) (by kernel_rfl) (fetch_row (encI_ok .i64) (ys := lh3_2) (fz := 0) (e := 3) (es := 1) (by kernel_rfl) (Int.toNat x2_3) (lh3_2.length - (Int.toNat x2_3)) (lh3_2.length - (Int.toNat x2_3)) (lh3_2.length - (Int.toNat x2_3)) rfl (Nat.ble_eq_true_of_le (of_decide_eq_true b8)) (of_decide_eq_true b9) rfl) (by have := of_decide_eq_true b9; simp only [List.length_take, List.length_drop]; omega) rfl (of_decide_eq_true b6) (of_decide_eq_true b7) (of_decide_eq_true b7) rfl (by kernel_rfl)) (σ' := [(7, ii ((lh3_2.length : Nat) : Int)), (26, sl 3 0 ((Int.toNat x1_3) + (lh3_2.length - (Int.toNat x2_3))) lh3_2.length)]) (by kernel_rfl) ?_
          refine rS 1 [(0, sl 3 0 ((Int.toNat x1_3) + (lh3_2.length - (Int.toNat x2_3))) lh3_2.length), (7, ii ((lh3_2.length : Nat) : Int))] ?_
          refine nQ id ?_
          refine rS 4 [(0, sl 3 0 ((Int.toNat x1_3) + (lh3_2.length - (Int.toNat x2_3))) lh3_2.length), (27, sl 3 0 ((Int.toNat x1_3) + (lh3_2.length - (Int.toNat x2_3))) lh3_2.length), (29, ii (((Int.toNat x1_3) + (lh3_2.length - (Int.toNat x2_3)) : Nat) : Int)), (30, ii ((lh3_2.length : Nat) : Int))] ?_
          cases b10 : (cutOK (((Int.toNat x1_3) + (lh3_2.length - (Int.toNat x2_3)) : Nat) : Int) ((lh3_2.length : Nat) : Int) ((lh3_2.length : Nat) : Int) lh3_2.length : Bool) with
          | false => cases (cF b10 h)
          | true =>
           have h := cT b10 h
           refine XR.rd E0_ok [0, 31] rfl (v := sl 3 ((Int.toNat (((Int.toNat x1_3) + (lh3_2.length - (Int.toNat x2_3)) : Nat) : Int)) * 1) (Int.toNat ((lh3_2.length : Nat) : Int) - (Int.toNat (((Int.toNat x1_3) + (lh3_2.length - (Int.toNat x2_3)) : Nat) : Int))) (lh3_2.length - (Int.toNat (((Int.toNat x1_3) + (lh3_2.length - (Int.toNat x2_3)) : Nat) : Int)))) (v_cut (nt := 33) (s := 1) (x := (src 33 (.tmp 27))) (lo := (some (.tmp 29))) (hi := (some (.tmp 30))) (mx := none) (b := 3) (o := 0) (len := (Int.toNat x1_3) + (lh3_2.length - (Int.toNat x2_3))) (cap := lh3_2.length) (l := (some (((Int.toNat x1_3) + (lh3_2.length - (Int.toNat x2_3)) : Nat) : Int))) (u := (some ((lh3_2.length : Nat) : Int))) (m := none) (cs := rowC (encI .i64) (List.take (Int.toNat x1_3) lh3_2 ++ List.take (lh3_2.length - (Int.toNat x2_3)) (List.drop (Int.toNat x2_3) lh3_2) ++ List.drop ((Int.toNat x1_3) + (lh3_2.length - (Int.toNat x2_3))) lh3_2)) (fz := 0) (e := 3) (es := 1) (o' := (Int.toNat (((Int.toNat x1_3) + (lh3_2.length - (Int.toNat x2_3)) : Nat) : Int)) * 1) (len' := Int.toNat ((lh3_2.length : Nat) : Int) - (Int.toNat (((Int.toNat x1_3) + (lh3_2.length - (Int.toNat x2_3)) : Nat) : Int))) (cap' := lh3_2.length - (Int.toNat (((Int.toNat x1_3) + (lh3_2.length - (Int.toNat x2_3)) : Nat) : Int))) (d := (some (path 12 31))) (by kernel_rfl) (by kernel_rfl) (by kernel_rfl) (by kernel_rfl) (by kernel_rfl) (by kernel_rfl) (by kernel_rfl) rfl b10 (by simp only [Option.getD_none, Option.getD_some] <;> omega) (by simp only [Option.getD_none, Option.getD_some] <;> omega) (by simp only [Option.getD_none, Option.getD_some] <;> omega)) (σ' := [(0, sl 3 0 ((Int.toNat x1_3) + (lh3_2.length - (Int.toNat x2_3))) lh3_2.length), (31, sl 3 ((Int.toNat (((Int.toNat x1_3) + (lh3_2.length - (Int.toNat x2_3)) : Nat) : Int)) * 1) (Int.toNat ((lh3_2.length : Nat) : Int) - (Int.toNat (((Int.toNat x1_3) + (lh3_2.length - (Int.toNat x2_3)) : Nat) : Int))) (lh3_2.length - (Int.toNat (((Int.toNat x1_3) + (lh3_2.length - (Int.toNat x2_3)) : Nat) : Int))))]) (by kernel_rfl) ?_
           cases b11 : (decide ((Int.toNat (((Int.toNat x1_3) + (lh3_2.length - (Int.toNat x2_3)) : Nat) : Int)) + (Int.toNat ((lh3_2.length : Nat) : Int) - (Int.toNat (((Int.toNat x1_3) + (lh3_2.length - (Int.toNat x2_3)) : Nat) : Int))) ≤ (List.take (Int.toNat x1_3) lh3_2 ++ List.take (lh3_2.length - (Int.toNat x2_3)) (List.drop (Int.toNat x2_3) lh3_2) ++ List.drop ((Int.toNat x1_3) + (lh3_2.length - (Int.toNat x2_3))) lh3_2).length) : Bool) with
           | false => cases (cF b11 h)
           | true =>
            have h := cT b11 h
            refine XR.ef E0_ok [0] rfl (e_clear (encI_ok .i64) (z := #[ii 0]) (x := (src 33 (.tmp 31))) (b := 3) (o := (Int.toNat (((Int.toNat x1_3) + (lh3_2.length - (Int.toNat x2_3)) : Nat) : Int)) * 1) (len := Int.toNat ((lh3_2.length : Nat) : Int) - (Int.toNat (((Int.toNat x1_3) + (lh3_2.length - (Int.toNat x2_3)) : Nat) : Int))) (cap := lh3_2.length - (Int.toNat (((Int.toNat x1_3) + (lh3_2.length - (Int.toNat x2_3)) : Nat) : Int))) (xs := List.take (Int.toNat x1_3) lh3_2 ++ List.take (lh3_2.length - (Int.toNat x2_3)) (List.drop (Int.toNat x2_3) lh3_2) ++ List.drop ((Int.toNat x1_3) + (lh3_2.length - (Int.toNat x2_3))) lh3_2) (e := 3) (es := 1) (d := none) (h' := ((7, rI lh7_3) :: (6, .cells [ii xh6_0_3] 0 3 1) :: (5, rc encP lh5_2 0 55 2) :: (3, rI (clearL 0 (List.take (Int.toNat x1_3) lh3_2 ++ List.take (lh3_2.length - (Int.toNat x2_3)) (List.drop (Int.toNat x2_3) lh3_2) ++ List.drop ((Int.toNat x1_3) + (lh3_2.length - (Int.toNat x2_3))) lh3_2) (Int.toNat (((Int.toNat x1_3) + (lh3_2.length - (Int.toNat x2_3)) : Nat) : Int)) (Int.toNat ((lh3_2.length : Nat) : Int) - (Int.toNat (((Int.toNat x1_3) + (lh3_2.length - (Int.toNat x2_3)) : Nat) : Int))))) :: qlc2 b_0 b_1 b_2 b_3 b_4 b_5 b_6 b_7 lh1_2 lh5_2 xh2_0_2 [])) (by kernel_rfl) (by kernel_rfl) (by kernel_rfl) (Int.toNat (((Int.toNat x1_3) + (lh3_2.length - (Int.toNat x2_3)) : Nat) : Int)) 0 rfl rfl (by first | with_reducible rfl | omega | rfl) b11 (by kernel_rfl)) (σ' := [(0, sl 3 0 ((Int.toNat x1_3) + (lh3_2.length - (Int.toNat x2_3))) lh3_2.length)]) (by kernel_rfl) ?_
            refine nQ id ?_
            refine rS 2 [(6, sl 3 0 ((Int.toNat x1_3) + (lh3_2.length - (Int.toNat x2_3))) lh3_2.length)] ?_
            refine dQ ?_
            show XQ _ _ _ _ _ _ _ _
            refine XQ.ren (σ' := [(6, sl 3 0 ((Int.toNat x1_3) + (lh3_2.length - (Int.toNat x2_3))) lh3_2.length)]) (h' := ((7, rI lh7_3) :: (6, .cells [ii xh6_0_3] 0 3 1) :: (5, rc encP lh5_2 0 55 2) :: (3, rI (clearL 0 (List.take (Int.toNat x1_3) lh3_2 ++ List.take (lh3_2.length - (Int.toNat x2_3)) (List.drop (Int.toNat x2_3) lh3_2) ++ List.drop ((Int.toNat x1_3) + (lh3_2.length - (Int.toNat x2_3))) lh3_2) (Int.toNat (((Int.toNat x1_3) + (lh3_2.length - (Int.toNat x2_3)) : Nat) : Int)) (Int.toNat ((lh3_2.length : Nat) : Int) - (Int.toNat (((Int.toNat x1_3) + (lh3_2.length - (Int.toNat x2_3)) : Nat) : Int))))) :: qlc2 b_0 b_1 b_2 b_3 b_4 b_5 b_6 b_7 lh1_2 lh5_2 xh2_0_2 [])) (c' := 8) [0, 1, 2, 3, 4, 5, 6, 7] (by decide) rfl ⟨rfl, trivial⟩ ⟨⟨_, _, rfl, rfl, .inl ⟨rfl, rwI⟩⟩, ⟨_, _, rfl, rfl, .inr ⟨_, _, _, _, rfl, rfl⟩⟩, ⟨_, _, rfl, rfl, .inl ⟨rfl, rwP⟩⟩, ⟨_, _, rfl, rfl, .inl ⟨rfl, rwI⟩⟩, ⟨_, _, rfl, rfl, .inr ⟨_, _, _, _, rfl, rfl⟩⟩, ⟨_, _, rfl, rfl, .inl ⟨rfl, rowC_scal (encI_ok .u8) _⟩⟩, ⟨_, _, rfl, rfl, .inr ⟨_, _, _, _, rfl, rfl⟩⟩, trivial⟩ rfl ?_
            refine XQ.ret (by kernel_rfl) ?_
            cases b12 : (decide ((Int.toNat x1_3) + (lh3_2.length - (Int.toNat x2_3)) ≤ (clearL 0 (List.take (Int.toNat x1_3) lh3_2 ++ List.take (lh3_2.length - (Int.toNat x2_3)) (List.drop (Int.toNat x2_3) lh3_2) ++ List.drop ((Int.toNat x1_3) + (lh3_2.length - (Int.toNat x2_3))) lh3_2) (Int.toNat (((Int.toNat x1_3) + (lh3_2.length - (Int.toNat x2_3)) : Nat) : Int)) (Int.toNat ((lh3_2.length : Nat) : Int) - (Int.toNat (((Int.toNat x1_3) + (lh3_2.length - (Int.toNat x2_3)) : Nat) : Int)))).length) : Bool) with
            | false => cases (cF b12 h)
            | true =>
             have h := cT b12 h
             cases b13 : (decide ((Int.toNat x1_3) + (lh3_2.length - (Int.toNat x2_3)) ≤ lh3_2.length) : Bool) with
             | false => cases (cF b13 h)
             | true =>
              have h := cT b13 h
              cases h
              exact ⟨fun i q => (by cases q), sl 3 0 ((Int.toNat x1_3) + (lh3_2.length - (Int.toNat x2_3))) lh3_2.length, (by kernel_rfl), clearL 0 (List.take (Int.toNat x1_3) lh3_2 ++ List.take (lh3_2.length - (Int.toNat x2_3)) (List.drop (Int.toNat x2_3) lh3_2) ++ List.drop ((Int.toNat x1_3) + (lh3_2.length - (Int.toNat x2_3))) lh3_2) (Int.toNat (((Int.toNat x1_3) + (lh3_2.length - (Int.toNat x2_3)) : Nat) : Int)) (Int.toNat ((lh3_2.length : Nat) : Int) - (Int.toNat (((Int.toNat x1_3) + (lh3_2.length - (Int.toNat x2_3)) : Nat) : Int))), (Int.toNat x1_3) + (lh3_2.length - (Int.toNat x2_3)), lh3_2.length, ((7, rI lh7_3) :: (6, .cells [ii xh6_0_3] 0 3 1) :: (5, rc encP lh5_2 0 55 2) :: (3, rI (List.take ((Int.toNat x1_3) + (lh3_2.length - (Int.toNat x2_3))) (clearL 0 (List.take (Int.toNat x1_3) lh3_2 ++ List.take (lh3_2.length - (Int.toNat x2_3)) (List.drop (Int.toNat x2_3) lh3_2) ++ List.drop ((Int.toNat x1_3) + (lh3_2.length - (Int.toNat x2_3))) lh3_2) (Int.toNat (((Int.toNat x1_3) + (lh3_2.length - (Int.toNat x2_3)) : Nat) : Int)) (Int.toNat ((lh3_2.length : Nat) : Int) - (Int.toNat (((Int.toNat x1_3) + (lh3_2.length - (Int.toNat x2_3)) : Nat) : Int)))))) :: qlc2 b_0 b_1 b_2 b_3 b_4 b_5 b_6 b_7 lh1_2 lh5_2 xh2_0_2 []), rfl, (by kernel_rfl), (of_decide_eq_true b12), (of_decide_eq_true b13), (by kernel_rfl), (by first | exact hR | simpa only [List.length_set] using hR)⟩
def f11_2 (m : Nat) : Nat → Int → Int → Int → Int → Int → Int → Int → Int → Int → Int → Int → List Int → Int → List Int → List Int → List (Int × Int) → Option (Int × Int × (List Int) × (List (Int × Int)))
 | 0, _, _, _, _, _, _, _, _, _, _, _, _, _, _, _, _ => none
 | fuel + 1, b_0, b_1, b_2, b_3, b_4, b_5, b_6, b_7, x8_2, x50_2, x51_2, lh1_2, xh2_0_2, lh3_2, lh4_2, lh5_2 =>
  cond (decide (x51_2 < x50_2)) (
   cond (inRow x51_2 8) (
    cond (decide (Int.toNat x51_2 < lh1_2.length)) (
     cond (((lh3_2.length : Nat) : Int) != 0) (
      cond (inRow (Int.tmod (w64 (List.getD lh1_2 (Int.toNat x51_2) 0)) ((lh3_2.length : Nat) : Int)) lh3_2.length) (
       cond (fitsB (lh4_2.length + 1) 8) (
        (f11_3 m b_0 b_1 b_2 b_3 b_4 b_5 b_6 b_7 lh1_2 xh2_0_2 lh3_2 lh5_2 (Int.tmod (w64 (List.getD lh1_2 (Int.toNat x51_2) 0)) ((lh3_2.length : Nat) : Int)) (w64 ((Int.tmod (w64 (List.getD lh1_2 (Int.toNat x51_2) 0)) ((lh3_2.length : Nat) : Int)) + 1)) (List.getD lh3_2 (Int.toNat (Int.tmod (w64 (List.getD lh1_2 (Int.toNat x51_2) 0)) ((lh3_2.length : Nat) : Int))) 0) (lh4_2 ++ [List.getD lh3_2 (Int.toNat (Int.tmod (w64 (List.getD lh1_2 (Int.toNat x51_2) 0)) ((lh3_2.length : Nat) : Int))) 0])).bind fun o3 =>
         f11_2 m fuel b_0 b_1 b_2 b_3 b_4 b_5 b_6 b_7 x8_2 x50_2 (w64 (x51_2 + 1)) lh1_2 xh2_0_2 o3 (lh4_2 ++ [List.getD lh3_2 (Int.toNat (Int.tmod (w64 (List.getD lh1_2 (Int.toNat x51_2) 0)) ((lh3_2.length : Nat) : Int))) 0]) lh5_2
       ) none
      ) none
     ) none
    ) none
   ) none
  ) (
   some (x8_2, xh2_0_2, lh4_2, lh5_2)
  )

abbrev qlc3 (lh3_2 : List Int) (x8_2 : Int) (t : St) : St := (4, pp 0 0) :: (5, pp 1 0) :: (7, pp 2 0) :: (8, ii x8_2) :: (9, s0 3 lh3_2.length) :: t

abbrev qlc4 (b_0 : Int) (b_1 : Int) (b_2 : Int) (b_3 : Int) (b_4 : Int) (b_5 : Int) (b_6 : Int) (b_7 : Int) (lh1_2 : List Int) (lh5_2 : List (Int × Int)) (xh2_0_2 : Int) (t : Heap) : Heap := (2, .cells [ii xh2_0_2, s0 5 lh5_2.length] 0 34 0) :: (1, rc (encI .u8) lh1_2 0 76 0) :: (0, .cells [.int .u8 b_0, .int .u8 b_1, .int .u8 b_2, .int .u8 b_3, .int .u8 b_4, .int .u8 b_5, .int .u8 b_6, .int .u8 b_7] 0 76 0) :: t

abbrev qlc5 (lh1_2 : List Int) (lh3_2 : List Int) (x50_2 : Int) (x51_2 : Int) (t : St) : St := (13, ii (Int.tmod (w64 (List.getD lh1_2 (Int.toNat x51_2) 0)) ((lh3_2.length : Nat) : Int))) :: (50, ii x50_2) :: (51, ii x51_2) :: t
theorem f11_2_ok (m : Nat) : ∀ (fuel : Nat) (b_0 : Int) (b_1 : Int) (b_2 : Int) (b_3 : Int) (b_4 : Int) (b_5 : Int) (b_6 : Int) (b_7 : Int) (x8_2 : Int) (x50_2 : Int) (x51_2 : Int) (lh1_2 : List Int) (xh2_0_2 : Int) (lh3_2 : List Int) (lh4_2 : List Int) (lh5_2 : List (Int × Int)) (o : (Int × Int × (List Int) × (List (Int × Int)))), f11_2 m fuel b_0 b_1 b_2 b_3 b_4 b_5 b_6 b_7 x8_2 x50_2 x51_2 lh1_2 xh2_0_2 lh3_2 lh4_2 lh5_2 = some o → ∀ Q : QP, Q (.exit 2) [(4, pp 0 0), (7, pp 1 0), (8, ii o.1), (10, s0 2 o.2.2.1.length)] [(3, rc encP o.2.2.2 0 55 2), (2, rI o.2.2.1), (1, .cells [ii o.2.1, s0 3 o.2.2.2.length] 0 34 0), (0, .cells [.int .u8 b_0, .int .u8 b_1, .int .u8 b_2, .int .u8 b_3, .int .u8 b_4, .int .u8 b_5, .int .u8 b_6, .int .u8 b_7] 0 76 0)] 4 → XL E0 272 0 fuel f11_L2 (qlc3 lh3_2 x8_2 [(10, s0 4 lh4_2.length), (50, ii x50_2), (51, ii x51_2)]) ((5, rc encP lh5_2 0 55 2) :: (4, rI lh4_2) :: (3, rI lh3_2) :: qlc4 b_0 b_1 b_2 b_3 b_4 b_5 b_6 b_7 lh1_2 lh5_2 xh2_0_2 []) 6 Q
 | 0, b_0, b_1, b_2, b_3, b_4, b_5, b_6, b_7, x8_2, x50_2, x51_2, lh1_2, xh2_0_2, lh3_2, lh4_2, lh5_2, o, h, Q, hQ => by cases h
 | fuel + 1, b_0, b_1, b_2, b_3, b_4, b_5, b_6, b_7, x8_2, x50_2, x51_2, lh1_2, xh2_0_2, lh3_2, lh4_2, lh5_2, o, h, Q, hQ => by
  unfold f11_2 at h
  refine XL.succ E0_ok ?_
  refine qQ ?_
  refine rS 1 (qlc3 lh3_2 x8_2 [(10, s0 4 lh4_2.length), (50, ii x50_2), (51, ii x51_2), (52, .bool (decide (x51_2 < x50_2)))]) ?_
  refine dQ ?_
  show XQ _ _ _ _ _ _ _ _
  refine sQ ?_
  cases b1 : (decide (x51_2 < x50_2) : Bool) with
  | true =>
   have h := cT b1 h
   refine iT (.tmp 52) ?_
   refine kQ ?_
   show XQ _ _ _ _ _ _ _ _
   refine sQ ?_
   refine XQ.block (id := 3) (by kernel_rfl) ?_
   refine qQ ?_
   refine rS 2 (qlc3 lh3_2 x8_2 [(10, s0 4 lh4_2.length), (12, ii x51_2), (50, ii x50_2), (51, ii x51_2)]) ?_
   refine nQ id ?_
   refine rS 1 (qlc3 lh3_2 x8_2 [(10, s0 4 lh4_2.length), (50, ii x50_2), (51, ii x51_2), (54, ii x51_2)]) ?_
   cases b2 : (inRow x51_2 8 : Bool) with
   | false => cases (cF b2 h)
   | true =>
    have h := cT b2 h
    refine XR.rd E0_ok [4, 5, 7, 8, 9, 10, 50, 51, 55] rfl (v := pp 1 ((Int.toNat x51_2) * 1)) (v_idxA (s := 1) (len := 8) (x := (src 272 (.tmp 5))) (y := (src 272 (.tmp 54))) (b := 1) (o := 0) (ik := .i64) (i := x51_2) (off := (Int.toNat x51_2) * 1) (d := (some (path 12 55))) (by kernel_rfl) (by kernel_rfl) (by kernel_rfl) b2 (by omega)) (σ' := (qlc3 lh3_2 x8_2 [(10, s0 4 lh4_2.length), (50, ii x50_2), (51, ii x51_2), (55, pp 1 ((Int.toNat x51_2) * 1))])) (by kernel_rfl) ?_
    cases b3 : (decide (Int.toNat x51_2 < lh1_2.length) : Bool) with
    | false => cases (cF b3 h)
    | true =>
     have h := cT b3 h
     refine XR.rd E0_ok [4, 5, 7, 8, 9, 10, 50, 51, 56] rfl (v := .int .u8 (List.getD lh1_2 (Int.toNat x51_2) 0)) (v_load1 (encI_ok .u8) (x := (src 272 (.tmp 55))) (b := 1) (off := (Int.toNat x51_2) * 1) (xs := lh1_2) (fz := 0) (e := 76) (es := 0) (d := (some (path 12 56))) (by kernel_rfl) (by kernel_rfl) (by kernel_rfl) (Int.toNat x51_2) 0 0 (by first | with_reducible rfl | omega | rfl) (row_len b3 (by simp)) rfl rfl) (σ' := (qlc3 lh3_2 x8_2 [(10, s0 4 lh4_2.length), (50, ii x50_2), (51, ii x51_2), (56, .int .u8 (List.getD lh1_2 (Int.toNat x51_2) 0))])) (by kernel_rfl) ?_
     refine rS 3 (qlc3 lh3_2 x8_2 [(10, s0 4 lh4_2.length), (50, ii x50_2), (51, ii x51_2), (57, ii (w64 (List.getD lh1_2 (Int.toNat x51_2) 0))), (59, ii ((lh3_2.length : Nat) : Int))]) ?_
     cases b4 : (((lh3_2.length : Nat) : Int) != 0 : Bool) with
     | false => cases (cF b4 h)
     | true =>
      have h := cT b4 h
      have e5 : insV (headI ((gsOf E0 272 (opsOf (lft (rgt (lft (lft (rgt (rgt f11_L2)))))))).drop 6) (trS 272 (qlc3 lh3_2 x8_2 [(10, s0 4 lh4_2.length), (50, ii x50_2), (51, ii x51_2), (57, ii (w64 (List.getD lh1_2 (Int.toNat x51_2) 0))), (59, ii ((lh3_2.length : Nat) : Int))]))) (trS 272 (qlc3 lh3_2 x8_2 [(10, s0 4 lh4_2.length), (50, ii x50_2), (51, ii x51_2), (57, ii (w64 (List.getD lh1_2 (Int.toNat x51_2) 0))), (59, ii ((lh3_2.length : Nat) : Int))])) ((5, rc encP lh5_2 0 55 2) :: (4, rI lh4_2) :: (3, rI lh3_2) :: qlc4 b_0 b_1 b_2 b_3 b_4 b_5 b_6 b_7 lh1_2 lh5_2 xh2_0_2 []) = (match (((lh3_2.length : Nat) : Int) != 0 : Bool) with | true => some (ii (Int.tmod (w64 (List.getD lh1_2 (Int.toNat x51_2) 0)) ((lh3_2.length : Nat) : Int))) | false => none) := by kernel_rfl
      refine XR.rd E0_ok [4, 5, 7, 8, 9, 10, 50, 51, 60] rfl (e5.trans (by rw [b4])) (σ' := (qlc3 lh3_2 x8_2 [(10, s0 4 lh4_2.length), (50, ii x50_2), (51, ii x51_2), (60, ii (Int.tmod (w64 (List.getD lh1_2 (Int.toNat x51_2) 0)) ((lh3_2.length : Nat) : Int)))])) (by kernel_rfl) ?_
      refine rS 1 (qlc3 lh3_2 x8_2 ((10, s0 4 lh4_2.length) :: qlc5 lh1_2 lh3_2 x50_2 x51_2 [])) ?_
      refine nQ id ?_
      refine rS 3 (qlc3 lh3_2 x8_2 (qlc5 lh1_2 lh3_2 x50_2 x51_2 [(61, s0 4 lh4_2.length), (62, s0 3 lh3_2.length), (63, ii (Int.tmod (w64 (List.getD lh1_2 (Int.toNat x51_2) 0)) ((lh3_2.length : Nat) : Int)))])) ?_
      cases b6 : (inRow (Int.tmod (w64 (List.getD lh1_2 (Int.toNat x51_2) 0)) ((lh3_2.length : Nat) : Int)) lh3_2.length : Bool) with
      | false => cases (cF b6 h)
      | true =>
       have h := cT b6 h
       refine XR.rd E0_ok [4, 5, 7, 8, 9, 13, 50, 51, 61, 64] rfl (v := pp 3 ((Int.toNat (Int.tmod (w64 (List.getD lh1_2 (Int.toNat x51_2) 0)) ((lh3_2.length : Nat) : Int))) * 1)) (v_idx (s := 1) (x := (src 272 (.tmp 62))) (y := (src 272 (.tmp 63))) (b := 3) (o := 0) (len := lh3_2.length) (cap := lh3_2.length) (ik := .i64) (i := Int.tmod (w64 (List.getD lh1_2 (Int.toNat x51_2) 0)) ((lh3_2.length : Nat) : Int)) (off := (Int.toNat (Int.tmod (w64 (List.getD lh1_2 (Int.toNat x51_2) 0)) ((lh3_2.length : Nat) : Int))) * 1) (d := (some (path 12 64))) (by kernel_rfl) (by kernel_rfl) (by kernel_rfl) b6 (by omega)) (σ' := (qlc3 lh3_2 x8_2 (qlc5 lh1_2 lh3_2 x50_2 x51_2 [(61, s0 4 lh4_2.length), (64, pp 3 ((Int.toNat (Int.tmod (w64 (List.getD lh1_2 (Int.toNat x51_2) 0)) ((lh3_2.length : Nat) : Int))) * 1))]))) (by kernel_rfl) ?_
       refine XR.rd E0_ok [4, 5, 7, 8, 9, 13, 50, 51, 61, 65] rfl (v := ii (List.getD lh3_2 (Int.toNat (Int.tmod (w64 (List.getD lh1_2 (Int.toNat x51_2) 0)) ((lh3_2.length : Nat) : Int))) 0)) (v_load1 (encI_ok .i64) (x := (src 272 (.tmp 64))) (b := 3) (off := (Int.toNat (Int.tmod (w64 (List.getD lh1_2 (Int.toNat x51_2) 0)) ((lh3_2.length : Nat) : Int))) * 1) (xs := lh3_2) (fz := 0) (e := 3) (es := 1) (d := (some (path 12 65))) (by kernel_rfl) (by kernel_rfl) (by kernel_rfl) (Int.toNat (Int.tmod (w64 (List.getD lh1_2 (Int.toNat x51_2) 0)) ((lh3_2.length : Nat) : Int))) 0 0 (by first | with_reducible rfl | omega | rfl) (row_len (inRow_toNat b6) (by simp)) rfl rfl) (σ' := (qlc3 lh3_2 x8_2 (qlc5 lh1_2 lh3_2 x50_2 x51_2 [(61, s0 4 lh4_2.length), (65, ii (List.getD lh3_2 (Int.toNat (Int.tmod (w64 (List.getD lh1_2 (Int.toNat x51_2) 0)) ((lh3_2.length : Nat) : Int))) 0))]))) (by kernel_rfl) ?_
       refine rT 1 (qlc3 lh3_2 x8_2 (qlc5 lh1_2 lh3_2 x50_2 x51_2 [(61, s0 4 lh4_2.length), (66, s0 6 1)])) ((6, .cells [ii (List.getD lh3_2 (Int.toNat (Int.tmod (w64 (List.getD lh1_2 (Int.toNat x51_2) 0)) ((lh3_2.length : Nat) : Int))) 0)] 0 3 1) :: (5, rc encP lh5_2 0 55 2) :: (4, rI lh4_2) :: (3, rI lh3_2) :: qlc4 b_0 b_1 b_2 b_3 b_4 b_5 b_6 b_7 lh1_2 lh5_2 xh2_0_2 []) 7 ?_
       cases b7 : (fitsB (lh4_2.length + 1) 8 : Bool) with
       | false => cases (cF b7 h)
       | true =>
        have h := cT b7 h
        refine XR.ef E0_ok [4, 5, 7, 8, 9, 13, 50, 51, 67] rfl (e_append (encI_ok .i64) (bytes := 8) (e := 3) (x := (src 272 (.tmp 61))) (y := (src 272 (.tmp 66))) (b := 4) (len := lh4_2.length) (cap := lh4_2.length) (xs := lh4_2) (m := 0) (ys := [List.getD lh3_2 (Int.toNat (Int.tmod (w64 (List.getD lh1_2 (Int.toNat x51_2) 0)) ((lh3_2.length : Nat) : Int))) 0]) (d := (some (path 12 67))) (n' := (lh4_2 ++ [List.getD lh3_2 (Int.toNat (Int.tmod (w64 (List.getD lh1_2 (Int.toNat x51_2) 0)) ((lh3_2.length : Nat) : Int))) 0]).length) (h' := ((7, rI (lh4_2 ++ [List.getD lh3_2 (Int.toNat (Int.tmod (w64 (List.getD lh1_2 (Int.toNat x51_2) 0)) ((lh3_2.length : Nat) : Int))) 0])) :: (6, .cells [ii (List.getD lh3_2 (Int.toNat (Int.tmod (w64 (List.getD lh1_2 (Int.toNat x51_2) 0)) ((lh3_2.length : Nat) : Int))) 0)] 0 3 1) :: (5, rc encP lh5_2 0 55 2) :: (3, rI lh3_2) :: qlc4 b_0 b_1 b_2 b_3 b_4 b_5 b_6 b_7 lh1_2 lh5_2 xh2_0_2 [])) (by kernel_rfl) (by kernel_rfl) (by kernel_rfl) (by kernel_rfl) rfl (by simp) (by simp) b7 (by simp) (by kernel_rfl)) (σ' := (qlc3 lh3_2 x8_2 (qlc5 lh1_2 lh3_2 x50_2 x51_2 [(67, s0 7 ((lh4_2 ++ [List.getD lh3_2 (Int.toNat (Int.tmod (w64 (List.getD lh1_2 (Int.toNat x51_2) 0)) ((lh3_2.length : Nat) : Int))) 0]).length))]))) (by kernel_rfl) ?_
        refine rS 1 (qlc3 lh3_2 x8_2 ((10, s0 7 ((lh4_2 ++ [List.getD lh3_2 (Int.toNat (Int.tmod (w64 (List.getD lh1_2 (Int.toNat x51_2) 0)) ((lh3_2.length : Nat) : Int))) 0]).length)) :: qlc5 lh1_2 lh3_2 x50_2 x51_2 [])) ?_
        refine dQ ?_
        show XQ _ _ _ _ _ _ _ _
        refine rQ ?_
        refine rS 4 [(4, pp 0 0), (5, pp 1 0), (7, pp 2 0), (8, ii x8_2), (10, s0 7 ((lh4_2 ++ [List.getD lh3_2 (Int.toNat (Int.tmod (w64 (List.getD lh1_2 (Int.toNat x51_2) 0)) ((lh3_2.length : Nat) : Int))) 0]).length)), (50, ii x50_2), (51, ii x51_2), (68, s0 3 lh3_2.length), (69, ii (Int.tmod (w64 (List.getD lh1_2 (Int.toNat x51_2) 0)) ((lh3_2.length : Nat) : Int))), (71, ii (w64 ((Int.tmod (w64 (List.getD lh1_2 (Int.toNat x51_2) 0)) ((lh3_2.length : Nat) : Int)) + 1)))] ?_
        obtain ⟨o3, o3_h, h⟩ := bS h
        refine XR.call E0_ok [4, 5, 7, 8, 10, 50, 51, 72] rfl (K := 51) (args := [s0 3 lh3_2.length, ii (Int.tmod (w64 (List.getD lh1_2 (Int.toNat x51_2) 0)) ((lh3_2.length : Nat) : Int)), ii (w64 ((Int.tmod (w64 (List.getD lh1_2 (Int.toNat x51_2) 0)) ((lh3_2.length : Nat) : Int)) + 1))]) (d := (some (path 12 72))) (by kernel_rfl) (f11_3_ok m b_0 b_1 b_2 b_3 b_4 b_5 b_6 b_7 lh1_2 xh2_0_2 lh3_2 lh5_2 (Int.tmod (w64 (List.getD lh1_2 (Int.toNat x51_2) 0)) ((lh3_2.length : Nat) : Int)) (w64 ((Int.tmod (w64 (List.getD lh1_2 (Int.toNat x51_2) 0)) ((lh3_2.length : Nat) : Int)) + 1)) (List.getD lh3_2 (Int.toNat (Int.tmod (w64 (List.getD lh1_2 (Int.toNat x51_2) 0)) ((lh3_2.length : Nat) : Int))) 0) (lh4_2 ++ [List.getD lh3_2 (Int.toNat (Int.tmod (w64 (List.getD lh1_2 (Int.toNat x51_2) 0)) ((lh3_2.length : Nat) : Int))) 0]) o3 o3_h (fun v h' c' => v = s0 3 o3.length ∧ h' = ((7, rI (lh4_2 ++ [List.getD lh3_2 (Int.toNat (Int.tmod (w64 (List.getD lh1_2 (Int.toNat x51_2) 0)) ((lh3_2.length : Nat) : Int))) 0])) :: (6, .cells [ii (List.getD lh3_2 (Int.toNat (Int.tmod (w64 (List.getD lh1_2 (Int.toNat x51_2) 0)) ((lh3_2.length : Nat) : Int))) 0)] 0 3 1) :: (5, rc encP lh5_2 0 55 2) :: (3, rI o3) :: qlc4 b_0 b_1 b_2 b_3 b_4 b_5 b_6 b_7 lh1_2 lh5_2 xh2_0_2 []) ∧ c' = 8) ⟨rfl, rfl, rfl⟩) ?_
        rintro _ _ _ ⟨rfl, rfl, rfl⟩
        refine XR.conv (σ' := [(4, pp 0 0), (5, pp 1 0), (7, pp 2 0), (8, ii x8_2), (10, s0 7 ((lh4_2 ++ [List.getD lh3_2 (Int.toNat (Int.tmod (w64 (List.getD lh1_2 (Int.toNat x51_2) 0)) ((lh3_2.length : Nat) : Int))) 0]).length)), (50, ii x50_2), (51, ii x51_2), (72, s0 3 o3.length)]) (h' := ((7, rI (lh4_2 ++ [List.getD lh3_2 (Int.toNat (Int.tmod (w64 (List.getD lh1_2 (Int.toNat x51_2) 0)) ((lh3_2.length : Nat) : Int))) 0])) :: (6, .cells [ii (List.getD lh3_2 (Int.toNat (Int.tmod (w64 (List.getD lh1_2 (Int.toNat x51_2) 0)) ((lh3_2.length : Nat) : Int))) 0)] 0 3 1) :: (5, rc encP lh5_2 0 55 2) :: (3, rI o3) :: qlc4 b_0 b_1 b_2 b_3 b_4 b_5 b_6 b_7 lh1_2 lh5_2 xh2_0_2 [])) (c' := 8) ?_ (by kernel_rfl)
        refine rS 1 [(4, pp 0 0), (5, pp 1 0), (7, pp 2 0), (8, ii x8_2), (9, s0 3 o3.length), (10, s0 7 ((lh4_2 ++ [List.getD lh3_2 (Int.toNat (Int.tmod (w64 (List.getD lh1_2 (Int.toNat x51_2) 0)) ((lh3_2.length : Nat) : Int))) 0]).length)), (50, ii x50_2), (51, ii x51_2)] ?_
        refine dQ ?_
        show XQ _ _ _ _ _ _ _ _
        refine rQ ?_
        refine rS 2 [(4, pp 0 0), (5, pp 1 0), (7, pp 2 0), (8, ii x8_2), (9, s0 3 o3.length), (10, s0 7 ((lh4_2 ++ [List.getD lh3_2 (Int.toNat (Int.tmod (w64 (List.getD lh1_2 (Int.toNat x51_2) 0)) ((lh3_2.length : Nat) : Int))) 0]).length)), (50, ii x50_2), (51, ii (w64 (x51_2 + 1)))] ?_
        refine dQ ?_
        show XL _ _ _ _ _ _ _ _ _
        refine XL.ren (σ' := [(4, pp 0 0), (5, pp 1 0), (7, pp 2 0), (8, ii x8_2), (9, s0 3 o3.length), (10, s0 4 ((lh4_2 ++ [List.getD lh3_2 (Int.toNat (Int.tmod (w64 (List.getD lh1_2 (Int.toNat x51_2) 0)) ((lh3_2.length : Nat) : Int))) 0]).length)), (50, ii x50_2), (51, ii (w64 (x51_2 + 1)))]) (h' := ((5, rc encP lh5_2 0 55 2) :: (4, rI (lh4_2 ++ [List.getD lh3_2 (Int.toNat (Int.tmod (w64 (List.getD lh1_2 (Int.toNat x51_2) 0)) ((lh3_2.length : Nat) : Int))) 0])) :: (3, rI o3) :: qlc4 b_0 b_1 b_2 b_3 b_4 b_5 b_6 b_7 lh1_2 lh5_2 xh2_0_2 [])) (c' := 6) [0, 1, 2, 3, 7, 5] (by decide) rfl ⟨rfl, rfl, rfl, rfl, rfl, rfl, rfl, rfl, trivial⟩ ⟨⟨_, _, rfl, rfl, .inl ⟨rfl, rwP⟩⟩, ⟨_, _, rfl, rfl, .inl ⟨rfl, rwI⟩⟩, ⟨_, _, rfl, rfl, .inl ⟨rfl, rwI⟩⟩, ⟨_, _, rfl, rfl, .inr ⟨_, _, _, _, rfl, rfl⟩⟩, ⟨_, _, rfl, rfl, .inl ⟨rfl, rowC_scal (encI_ok .u8) _⟩⟩, ⟨_, _, rfl, rfl, .inr ⟨_, _, _, _, rfl, rfl⟩⟩, trivial⟩ rfl ?_
        refine XL.conv (f11_2_ok m fuel b_0 b_1 b_2 b_3 b_4 b_5 b_6 b_7 x8_2 x50_2 (w64 (x51_2 + 1)) lh1_2 xh2_0_2 o3 (lh4_2 ++ [List.getD lh3_2 (Int.toNat (Int.tmod (w64 (List.getD lh1_2 (Int.toNat x51_2) 0)) ((lh3_2.length : Nat) : Int))) 0]) lh5_2 o h Q hQ) (by first | with_reducible rfl | simp | rfl)
  | false =>
   have h := cF b1 h
   refine iF (.tmp 52) ?_
   refine XQ.ren (σ' := [(4, pp 0 0), (7, pp 1 0), (8, ii x8_2), (10, s0 2 lh4_2.length)]) (h' := [(3, rc encP lh5_2 0 55 2), (2, rI lh4_2), (1, .cells [ii xh2_0_2, s0 3 lh5_2.length] 0 34 0), (0, .cells [.int .u8 b_0, .int .u8 b_1, .int .u8 b_2, .int .u8 b_3, .int .u8 b_4, .int .u8 b_5, .int .u8 b_6, .int .u8 b_7] 0 76 0)]) (c' := 4) [0, 2, 4, 5] (by decide) rfl ⟨rfl, rfl, rfl, rfl, trivial⟩ ⟨⟨_, _, rfl, rfl, .inl ⟨rfl, rwP⟩⟩, ⟨_, _, rfl, rfl, .inl ⟨rfl, rwI⟩⟩, ⟨_, _, rfl, rfl, .inr ⟨_, _, _, _, rfl, rfl⟩⟩, ⟨_, _, rfl, rfl, .inr ⟨_, _, _, _, rfl, rfl⟩⟩, trivial⟩ rfl ?_
   refine XQ.exit (i := 2) (by kernel_rfl) ?_
   cases h
   exact hQ
def f11_4 (m : Nat) : Nat → Int → Int → Int → List Int → Int → List Int → List Int → List Int → List (Int × Int) → Option (Int × Int × (List Int) × (List Int) × (List Int) × (List (Int × Int)))
 | 0, _, _, _, _, _, _, _, _, _ => none
 | fuel + 1, x8_4, x78_4, x79_4, lh0_4, xh1_0_4, lh2_4, lh3_4, lh4_4, lh5_4 =>
  cond (decide (x79_4 < x78_4)) (
   cond (inRow x79_4 8) (
    cond (decide (Int.toNat x79_4 < lh0_4.length)) (
     cond (x8_4 != 0) (
      cond (inRow x79_4 lh3_4.length) (
       cond (inRow x79_4 lh2_4.length) (
        cond (inRow (List.getD lh2_4 (Int.toNat x79_4) 0) lh4_4.length) (
         f11_4 m fuel x8_4 x78_4 (w64 (x79_4 + 1)) lh0_4 xh1_0_4 lh2_4 (List.set lh3_4 (Int.toNat x79_4) (Int.tmod (w64 (List.getD lh0_4 (Int.toNat x79_4) 0)) x8_4)) (List.set lh4_4 (Int.toNat (List.getD lh2_4 (Int.toNat x79_4) 0)) (List.getD (List.set lh3_4 (Int.toNat x79_4) (Int.tmod (w64 (List.getD lh0_4 (Int.toNat x79_4) 0)) x8_4)) (Int.toNat x79_4) 0)) lh5_4
        ) none
       ) none
      ) none
     ) none
    ) none
   ) none
  ) (
   some (x8_4, xh1_0_4, lh2_4, lh3_4, lh4_4, lh5_4)
  )

abbrev qlc6 (lh2_4 : List Int) (lh3_4 : List Int) (lh4_4 : List Int) (x8_4 : Int) (t : St) : St := (4, pp 0 0) :: (7, pp 1 0) :: (8, ii x8_4) :: (10, s0 2 lh2_4.length) :: (14, s0 3 lh3_4.length) :: (15, s0 4 lh4_4.length) :: t
theorem f11_4_ok (m : Nat) : ∀ (fuel : Nat) (x8_4 : Int) (x78_4 : Int) (x79_4 : Int) (lh0_4 : List Int) (xh1_0_4 : Int) (lh2_4 : List Int) (lh3_4 : List Int) (lh4_4 : List Int) (lh5_4 : List (Int × Int)) (o : (Int × Int × (List Int) × (List Int) × (List Int) × (List (Int × Int)))), f11_4 m fuel x8_4 x78_4 x79_4 lh0_4 xh1_0_4 lh2_4 lh3_4 lh4_4 lh5_4 = some o → ∀ Q : QP, Q (.exit 4) [(7, pp 0 0), (8, ii o.1), (10, s0 1 o.2.2.1.length), (14, s0 2 o.2.2.2.1.length), (15, s0 3 o.2.2.2.2.1.length)] [(4, rc encP o.2.2.2.2.2 0 55 2), (3, rI o.2.2.2.2.1), (2, rI o.2.2.2.1), (1, rI o.2.2.1), (0, .cells [ii o.2.1, s0 4 o.2.2.2.2.2.length] 0 34 0)] 5 → XL E0 272 0 fuel f11_L3 (qlc6 lh2_4 lh3_4 lh4_4 x8_4 [(78, ii x78_4), (79, ii x79_4)]) [(5, rc encP lh5_4 0 55 2), (4, rI lh4_4), (3, rI lh3_4), (2, rI lh2_4), (1, .cells [ii xh1_0_4, s0 5 lh5_4.length] 0 34 0), (0, rc (encI .u8) lh0_4 0 76 0)] 6 Q
 | 0, x8_4, x78_4, x79_4, lh0_4, xh1_0_4, lh2_4, lh3_4, lh4_4, lh5_4, o, h, Q, hQ => by cases h
 | fuel + 1, x8_4, x78_4, x79_4, lh0_4, xh1_0_4, lh2_4, lh3_4, lh4_4, lh5_4, o, h, Q, hQ => by
  unfold f11_4 at h
  refine XL.succ E0_ok ?_
  refine qQ ?_
  refine rS 1 (qlc6 lh2_4 lh3_4 lh4_4 x8_4 [(78, ii x78_4), (79, ii x79_4), (80, .bool (decide (x79_4 < x78_4)))]) ?_
  refine dQ ?_
  show XQ _ _ _ _ _ _ _ _
  refine sQ ?_
  cases b1 : (decide (x79_4 < x78_4) : Bool) with
  | true =>
   have h := cT b1 h
   refine iT (.tmp 80) ?_
   refine kQ ?_
   show XQ _ _ _ _ _ _ _ _
   refine sQ ?_
   refine XQ.block (id := 5) (by kernel_rfl) ?_
   refine qQ ?_
   refine rS 2 (qlc6 lh2_4 lh3_4 lh4_4 x8_4 [(16, ii x79_4), (78, ii x78_4), (79, ii x79_4)]) ?_
   refine nQ id ?_
   refine rS 3 (qlc6 lh2_4 lh3_4 lh4_4 x8_4 [(16, ii x79_4), (78, ii x78_4), (79, ii x79_4), (82, s0 3 lh3_4.length), (83, ii x79_4), (84, ii x79_4)]) ?_
   cases b2 : (inRow x79_4 8 : Bool) with
   | false => cases (cF b2 h)
   | true =>
    have h := cT b2 h
    refine XR.rd E0_ok [4, 7, 8, 10, 14, 15, 16, 78, 79, 82, 83, 85] rfl (v := pp 0 ((Int.toNat x79_4) * 1)) (v_idxA (s := 1) (len := 8) (x := (src 272 (.tmp 4))) (y := (src 272 (.tmp 84))) (b := 0) (o := 0) (ik := .i64) (i := x79_4) (off := (Int.toNat x79_4) * 1) (d := (some (path 12 85))) (by kernel_rfl) (by kernel_rfl) (by kernel_rfl) b2 (by omega)) (σ' := (qlc6 lh2_4 lh3_4 lh4_4 x8_4 [(16, ii x79_4), (78, ii x78_4), (79, ii x79_4), (82, s0 3 lh3_4.length), (83, ii x79_4), (85, pp 0 ((Int.toNat x79_4) * 1))])) (by kernel_rfl) ?_
    cases b3 : (decide (Int.toNat x79_4 < lh0_4.length) : Bool) with
    | false => cases (cF b3 h)
    | true =>
     have h := cT b3 h
     refine XR.rd E0_ok [4, 7, 8, 10, 14, 15, 16, 78, 79, 82, 83, 86] rfl (v := .int .u8 (List.getD lh0_4 (Int.toNat x79_4) 0)) (v_load1 (encI_ok .u8) (x := (src 272 (.tmp 85))) (b := 0) (off := (Int.toNat x79_4) * 1) (xs := lh0_4) (fz := 0) (e := 76) (es := 0) (d := (some (path 12 86))) (by kernel_rfl) (by kernel_rfl) (by kernel_rfl) (Int.toNat x79_4) 0 0 (by first | with_reducible rfl | omega | rfl) (row_len b3 (by simp)) rfl rfl) (σ' := (qlc6 lh2_4 lh3_4 lh4_4 x8_4 [(16, ii x79_4), (78, ii x78_4), (79, ii x79_4), (82, s0 3 lh3_4.length), (83, ii x79_4), (86, .int .u8 (List.getD lh0_4 (Int.toNat x79_4) 0))])) (by kernel_rfl) ?_
     refine rS 2 (qlc6 lh2_4 lh3_4 lh4_4 x8_4 [(16, ii x79_4), (78, ii x78_4), (79, ii x79_4), (82, s0 3 lh3_4.length), (83, ii x79_4), (87, ii (w64 (List.getD lh0_4 (Int.toNat x79_4) 0))), (88, ii x8_4)]) ?_
     cases b4 : (x8_4 != 0 : Bool) with
     | false => cases (cF b4 h)
     | true =>
      have h := cT b4 h
      have e5 : insV (headI ((gsOf E0 272 (opsOf (lft (rgt (lft (lft (rgt (rgt f11_L3)))))))).drop 7) (trS 272 (qlc6 lh2_4 lh3_4 lh4_4 x8_4 [(16, ii x79_4), (78, ii x78_4), (79, ii x79_4), (82, s0 3 lh3_4.length), (83, ii x79_4), (87, ii (w64 (List.getD lh0_4 (Int.toNat x79_4) 0))), (88, ii x8_4)]))) (trS 272 (qlc6 lh2_4 lh3_4 lh4_4 x8_4 [(16, ii x79_4), (78, ii x78_4), (79, ii x79_4), (82, s0 3 lh3_4.length), (83, ii x79_4), (87, ii (w64 (List.getD lh0_4 (Int.toNat x79_4) 0))), (88, ii x8_4)])) [(5, rc encP lh5_4 0 55 2), (4, rI lh4_4), (3, rI lh3_4), (2, rI lh2_4), (1, .cells [ii xh1_0_4, s0 5 lh5_4.length] 0 34 0), (0, rc (encI .u8) lh0_4 0 76 0)] = (match (x8_4 != 0 : Bool) with | true => some (ii (Int.tmod (w64 (List.getD lh0_4 (Int.toNat x79_4) 0)) x8_4)) | false => none) := by kernel_rfl
      refine XR.rd E0_ok [4, 7, 8, 10, 14, 15, 16, 78, 79, 82, 83, 89] rfl (e5.trans (by rw [b4])) (σ' := (qlc6 lh2_4 lh3_4 lh4_4 x8_4 [(16, ii x79_4), (78, ii x78_4), (79, ii x79_4), (82, s0 3 lh3_4.length), (83, ii x79_4), (89, ii (Int.tmod (w64 (List.getD lh0_4 (Int.toNat x79_4) 0)) x8_4))])) (by kernel_rfl) ?_
      cases b6 : (inRow x79_4 lh3_4.length : Bool) with
      | false => cases (cF b6 h)
      | true =>
       have h := cT b6 h
       refine XR.rd E0_ok [4, 7, 8, 10, 14, 15, 16, 78, 79, 89, 90] rfl (v := pp 3 ((Int.toNat x79_4) * 1)) (v_idx (s := 1) (x := (src 272 (.tmp 82))) (y := (src 272 (.tmp 83))) (b := 3) (o := 0) (len := lh3_4.length) (cap := lh3_4.length) (ik := .i64) (i := x79_4) (off := (Int.toNat x79_4) * 1) (d := (some (path 12 90))) (by kernel_rfl) (by kernel_rfl) (by kernel_rfl) b6 (by omega)) (σ' := (qlc6 lh2_4 lh3_4 lh4_4 x8_4 [(16, ii x79_4), (78, ii x78_4), (79, ii x79_4), (89, ii (Int.tmod (w64 (List.getD lh0_4 (Int.toNat x79_4) 0)) x8_4)), (90, pp 3 ((Int.toNat x79_4) * 1))])) (by kernel_rfl) ?_
       refine XR.ef E0_ok [4, 7, 8, 10, 14, 15, 16, 78, 79] rfl (e_store (encI_ok .i64) (size := 1) (x := (src 272 (.tmp 90))) (y := (src 272 (.tmp 89))) (b := 3) (off := (Int.toNat x79_4) * 1) (xs := lh3_4) (e := 3) (es := 1) (d := none) (h' := [(5, rc encP lh5_4 0 55 2), (4, rI lh4_4), (3, rI (List.set lh3_4 (Int.toNat x79_4) (Int.tmod (w64 (List.getD lh0_4 (Int.toNat x79_4) 0)) x8_4))), (2, rI lh2_4), (1, .cells [ii xh1_0_4, s0 5 lh5_4.length] 0 34 0), (0, rc (encI .u8) lh0_4 0 76 0)]) (w := ii (Int.tmod (w64 (List.getD lh0_4 (Int.toNat x79_4) 0)) x8_4)) (ws := [ii (Int.tmod (w64 (List.getD lh0_4 (Int.toNat x79_4) 0)) x8_4)]) (a := Int.tmod (w64 (List.getD lh0_4 (Int.toNat x79_4) 0)) x8_4) (by kernel_rfl) (by kernel_rfl) (by kernel_rfl) (Int.toNat x79_4) 0 0 (by first | with_reducible rfl | omega | rfl) (row_len (inRow_toNat b6) (by simp)) (by kernel_rfl) rfl rfl rfl rfl rfl (by kernel_rfl)) (σ' := (qlc6 lh2_4 lh3_4 lh4_4 x8_4 [(16, ii x79_4), (78, ii x78_4), (79, ii x79_4)])) (by kernel_rfl) ?_
       refine dQ ?_
       show XQ _ _ _ _ _ _ _ _
       refine XQ.tail E0_ok 10 (by kernel_rfl) (by kernel_rfl) ?_
       refine XS.step E0_ok 3 rfl [4, 7, 8, 10, 14, 15, 16, 78, 79, 91, 92, 93] rfl (σ' := (qlc6 lh2_4 lh3_4 lh4_4 x8_4 [(16, ii x79_4), (78, ii x78_4), (79, ii x79_4), (91, s0 4 lh4_4.length), (92, s0 2 lh2_4.length), (93, ii x79_4)])) (by kernel_rfl) ?_
       cases b7 : (inRow x79_4 lh2_4.length : Bool) with
       | false => cases (cF b7 h)
       | true =>
        have h := cT b7 h
        refine XS.rd E0_ok rfl [4, 7, 8, 10, 14, 15, 16, 78, 79, 91, 94] rfl (v := pp 2 ((Int.toNat x79_4) * 1)) (v_idx (s := 1) (x := (src 272 (.tmp 92))) (y := (src 272 (.tmp 93))) (b := 2) (o := 0) (len := lh2_4.length) (cap := lh2_4.length) (ik := .i64) (i := x79_4) (off := (Int.toNat x79_4) * 1) (d := (some (path 12 94))) (by kernel_rfl) (by kernel_rfl) (by kernel_rfl) b7 (by omega)) (σ' := (qlc6 lh2_4 lh3_4 lh4_4 x8_4 [(16, ii x79_4), (78, ii x78_4), (79, ii x79_4), (91, s0 4 lh4_4.length), (94, pp 2 ((Int.toNat x79_4) * 1))])) (by kernel_rfl) ?_
        refine XS.rd E0_ok rfl [4, 7, 8, 10, 14, 15, 16, 78, 79, 91, 95] rfl (v := ii (List.getD lh2_4 (Int.toNat x79_4) 0)) (v_load1 (encI_ok .i64) (x := (src 272 (.tmp 94))) (b := 2) (off := (Int.toNat x79_4) * 1) (xs := lh2_4) (fz := 0) (e := 3) (es := 1) (d := (some (path 12 95))) (by kernel_rfl) (by kernel_rfl) (by kernel_rfl) (Int.toNat x79_4) 0 0 (by first | with_reducible rfl | omega | rfl) (row_len (inRow_toNat b7) (by simp)) rfl rfl) (σ' := (qlc6 lh2_4 lh3_4 lh4_4 x8_4 [(16, ii x79_4), (78, ii x78_4), (79, ii x79_4), (91, s0 4 lh4_4.length), (95, ii (List.getD lh2_4 (Int.toNat x79_4) 0))])) (by kernel_rfl) ?_
        refine XS.step E0_ok 2 rfl [4, 7, 8, 10, 14, 15, 78, 79, 91, 95, 96, 97] rfl (σ' := (qlc6 lh2_4 lh3_4 lh4_4 x8_4 [(78, ii x78_4), (79, ii x79_4), (91, s0 4 lh4_4.length), (95, ii (List.getD lh2_4 (Int.toNat x79_4) 0)), (96, s0 3 lh3_4.length), (97, ii x79_4)])) (by kernel_rfl) ?_
        refine XS.rd E0_ok rfl [4, 7, 8, 10, 14, 15, 78, 79, 91, 95, 98] rfl (v := pp 3 ((Int.toNat x79_4) * 1)) (v_idx (s := 1) (x := (src 272 (.tmp 96))) (y := (src 272 (.tmp 97))) (b := 3) (o := 0) (len := lh3_4.length) (cap := lh3_4.length) (ik := .i64) (i := x79_4) (off := (Int.toNat x79_4) * 1) (d := (some (path 12 98))) (by kernel_rfl) (by kernel_rfl) (by kernel_rfl) b6 (by omega)) (σ' := (qlc6 lh2_4 lh3_4 lh4_4 x8_4 [(78, ii x78_4), (79, ii x79_4), (91, s0 4 lh4_4.length), (95, ii (List.getD lh2_4 (Int.toNat x79_4) 0)), (98, pp 3 ((Int.toNat x79_4) * 1))])) (by kernel_rfl) ?_
        refine XS.rd E0_ok rfl [4, 7, 8, 10, 14, 15, 78, 79, 91, 95, 99] rfl (v := ii (List.getD (List.set lh3_4 (Int.toNat x79_4) (Int.tmod (w64 (List.getD lh0_4 (Int.toNat x79_4) 0)) x8_4)) (Int.toNat x79_4) 0)) (v_load1 (encI_ok .i64) (x := (src 272 (.tmp 98))) (b := 3) (off := (Int.toNat x79_4) * 1) (xs := List.set lh3_4 (Int.toNat x79_4) (Int.tmod (w64 (List.getD lh0_4 (Int.toNat x79_4) 0)) x8_4)) (fz := 0) (e := 3) (es := 1) (d := (some (path 12 99))) (by kernel_rfl) (by kernel_rfl) (by kernel_rfl) (Int.toNat x79_4) 0 0 (by first | with_reducible rfl | omega | rfl) (row_len (inRow_toNat b6) (by simp)) rfl rfl) (σ' := (qlc6 lh2_4 lh3_4 lh4_4 x8_4 [(78, ii x78_4), (79, ii x79_4), (91, s0 4 lh4_4.length), (95, ii (List.getD lh2_4 (Int.toNat x79_4) 0)), (99, ii (List.getD (List.set lh3_4 (Int.toNat x79_4) (Int.tmod (w64 (List.getD lh0_4 (Int.toNat x79_4) 0)) x8_4)) (Int.toNat x79_4) 0))])) (by kernel_rfl) ?_
        cases b8 : (inRow (List.getD lh2_4 (Int.toNat x79_4) 0) lh4_4.length : Bool) with
        | false => cases (cF b8 h)
        | true =>
         have h := cT b8 h
         refine XS.rd E0_ok rfl [4, 7, 8, 10, 14, 15, 78, 79, 99, 100] rfl (v := pp 4 ((Int.toNat (List.getD lh2_4 (Int.toNat x79_4) 0)) * 1)) (v_idx (s := 1) (x := (src 272 (.tmp 91))) (y := (src 272 (.tmp 95))) (b := 4) (o := 0) (len := lh4_4.length) (cap := lh4_4.length) (ik := .i64) (i := List.getD lh2_4 (Int.toNat x79_4) 0) (off := (Int.toNat (List.getD lh2_4 (Int.toNat x79_4) 0)) * 1) (d := (some (path 12 100))) (by kernel_rfl) (by kernel_rfl) (by kernel_rfl) b8 (by omega)) (σ' := (qlc6 lh2_4 lh3_4 lh4_4 x8_4 [(78, ii x78_4), (79, ii x79_4), (99, ii (List.getD (List.set lh3_4 (Int.toNat x79_4) (Int.tmod (w64 (List.getD lh0_4 (Int.toNat x79_4) 0)) x8_4)) (Int.toNat x79_4) 0)), (100, pp 4 ((Int.toNat (List.getD lh2_4 (Int.toNat x79_4) 0)) * 1))])) (by kernel_rfl) ?_
         refine XS.done (by kernel_rfl) ?_
         refine XR.ef E0_ok [4, 7, 8, 10, 14, 15, 78, 79] rfl (e_store (encI_ok .i64) (size := 1) (x := (src 272 (.tmp 100))) (y := (src 272 (.tmp 99))) (b := 4) (off := (Int.toNat (List.getD lh2_4 (Int.toNat x79_4) 0)) * 1) (xs := lh4_4) (e := 3) (es := 1) (d := none) (h' := [(5, rc encP lh5_4 0 55 2), (4, rI (List.set lh4_4 (Int.toNat (List.getD lh2_4 (Int.toNat x79_4) 0)) (List.getD (List.set lh3_4 (Int.toNat x79_4) (Int.tmod (w64 (List.getD lh0_4 (Int.toNat x79_4) 0)) x8_4)) (Int.toNat x79_4) 0))), (3, rI (List.set lh3_4 (Int.toNat x79_4) (Int.tmod (w64 (List.getD lh0_4 (Int.toNat x79_4) 0)) x8_4))), (2, rI lh2_4), (1, .cells [ii xh1_0_4, s0 5 lh5_4.length] 0 34 0), (0, rc (encI .u8) lh0_4 0 76 0)]) (w := ii (List.getD (List.set lh3_4 (Int.toNat x79_4) (Int.tmod (w64 (List.getD lh0_4 (Int.toNat x79_4) 0)) x8_4)) (Int.toNat x79_4) 0)) (ws := [ii (List.getD (List.set lh3_4 (Int.toNat x79_4) (Int.tmod (w64 (List.getD lh0_4 (Int.toNat x79_4) 0)) x8_4)) (Int.toNat x79_4) 0)]) (a := List.getD (List.set lh3_4 (Int.toNat x79_4) (Int.tmod (w64 (List.getD lh0_4 (Int.toNat x79_4) 0)) x8_4)) (Int.toNat x79_4) 0) (by kernel_rfl) (by kernel_rfl) (by kernel_rfl) (Int.toNat (List.getD lh2_4 (Int.toNat x79_4) 0)) 0 0 (by first | with_reducible rfl | omega | rfl) (row_len (inRow_toNat b8) (by simp)) (by kernel_rfl) rfl rfl rfl rfl rfl (by kernel_rfl)) (σ' := (qlc6 lh2_4 lh3_4 lh4_4 x8_4 [(78, ii x78_4), (79, ii x79_4)])) (by kernel_rfl) ?_
         refine dQ ?_
         show XQ _ _ _ _ _ _ _ _
         refine rQ ?_
         refine rS 2 (qlc6 lh2_4 lh3_4 lh4_4 x8_4 [(78, ii x78_4), (79, ii (w64 (x79_4 + 1)))]) ?_
         refine dQ ?_
         show XL _ _ _ _ _ _ _ _ _
         refine XL.ren (σ' := (qlc6 lh2_4 lh3_4 lh4_4 x8_4 [(78, ii x78_4), (79, ii (w64 (x79_4 + 1)))])) (h' := [(5, rc encP lh5_4 0 55 2), (4, rI (List.set lh4_4 (Int.toNat (List.getD lh2_4 (Int.toNat x79_4) 0)) (List.getD (List.set lh3_4 (Int.toNat x79_4) (Int.tmod (w64 (List.getD lh0_4 (Int.toNat x79_4) 0)) x8_4)) (Int.toNat x79_4) 0))), (3, rI (List.set lh3_4 (Int.toNat x79_4) (Int.tmod (w64 (List.getD lh0_4 (Int.toNat x79_4) 0)) x8_4))), (2, rI lh2_4), (1, .cells [ii xh1_0_4, s0 5 lh5_4.length] 0 34 0), (0, rc (encI .u8) lh0_4 0 76 0)]) (c' := 6) [0, 1, 2, 3, 4, 5] (by decide) rfl ⟨rfl, rfl, rfl, rfl, rfl, rfl, rfl, rfl, trivial⟩ ⟨⟨_, _, rfl, rfl, .inl ⟨rfl, rwP⟩⟩, ⟨_, _, rfl, rfl, .inl ⟨rfl, rwI⟩⟩, ⟨_, _, rfl, rfl, .inl ⟨rfl, rwI⟩⟩, ⟨_, _, rfl, rfl, .inl ⟨rfl, rwI⟩⟩, ⟨_, _, rfl, rfl, .inr ⟨_, _, _, _, rfl, rfl⟩⟩, ⟨_, _, rfl, rfl, .inl ⟨rfl, rowC_scal (encI_ok .u8) _⟩⟩, trivial⟩ rfl ?_
         refine XL.conv (f11_4_ok m fuel x8_4 x78_4 (w64 (x79_4 + 1)) lh0_4 xh1_0_4 lh2_4 (List.set lh3_4 (Int.toNat x79_4) (Int.tmod (w64 (List.getD lh0_4 (Int.toNat x79_4) 0)) x8_4)) (List.set lh4_4 (Int.toNat (List.getD lh2_4 (Int.toNat x79_4) 0)) (List.getD (List.set lh3_4 (Int.toNat x79_4) (Int.tmod (w64 (List.getD lh0_4 (Int.toNat x79_4) 0)) x8_4)) (Int.toNat x79_4) 0)) lh5_4 o h Q hQ) (by first | with_reducible rfl | simp | rfl)
  | false =>
   have h := cF b1 h
   refine iF (.tmp 80) ?_
   refine XQ.ren (σ' := [(7, pp 0 0), (8, ii x8_4), (10, s0 1 lh2_4.length), (14, s0 2 lh3_4.length), (15, s0 3 lh4_4.length)]) (h' := [(4, rc encP lh5_4 0 55 2), (3, rI lh4_4), (2, rI lh3_4), (1, rI lh2_4), (0, .cells [ii xh1_0_4, s0 4 lh5_4.length] 0 34 0)]) (c' := 5) [1, 2, 3, 4, 5] (by decide) rfl ⟨rfl, rfl, rfl, rfl, rfl, trivial⟩ ⟨⟨_, _, rfl, rfl, .inl ⟨rfl, rwP⟩⟩, ⟨_, _, rfl, rfl, .inl ⟨rfl, rwI⟩⟩, ⟨_, _, rfl, rfl, .inl ⟨rfl, rwI⟩⟩, ⟨_, _, rfl, rfl, .inl ⟨rfl, rwI⟩⟩, ⟨_, _, rfl, rfl, .inr ⟨_, _, _, _, rfl, rfl⟩⟩, trivial⟩ rfl ?_
   refine XQ.exit (i := 4) (by kernel_rfl) ?_
   cases h
   exact hQ
def f11_5 (m : Nat) : Nat → Int → Int → Int → Int → List Int → Int → List (Int × Int) → List (Int × Int) → Option (Int × Int × (List Int) × Int × (List (Int × Int)) × (List (Int × Int)))
 | 0, _, _, _, _, _, _, _, _ => none
 | fuel + 1, x8_5, x176_5, x177_5, xh0_0_5, lh1_5, xh2_0_5, lh3_5, lh4_5 =>
  cond (decide (x177_5 < x176_5)) (
   cond (inRow x177_5 lh3_5.length) (
    cond (inRow ((List.getD lh3_5 (Int.toNat x177_5) (0, 0)).2) lh1_5.length) (
     cond (inRow ((List.getD lh3_5 (Int.toNat x177_5) (0, 0)).1) lh1_5.length) (
      cond (fitsB (1 + lh4_5.length) 16) (
       f11_5 m fuel x8_5 x176_5 (w64 (x177_5 + 1)) xh0_0_5 lh1_5 xh2_0_5 lh3_5 ([(List.getD lh1_5 (Int.toNat ((List.getD lh3_5 (Int.toNat x177_5) (0, 0)).2)) 0, List.getD lh1_5 (Int.toNat ((List.getD lh3_5 (Int.toNat x177_5) (0, 0)).1)) 0)] ++ lh4_5)
      ) none
     ) none
    ) none
   ) none
  ) (
   some (x8_5, xh0_0_5, lh1_5, xh2_0_5, lh3_5, lh4_5)
  )

abbrev qlc7 (lh1_5 : List Int) (lh3_5 : List (Int × Int)) (x176_5 : Int) (x177_5 : Int) (x8_5 : Int) (t : St) : St := (7, pp 0 0) :: (8, ii x8_5) :: (10, s0 1 lh1_5.length) :: (29, pp 2 0) :: (175, s0 3 lh3_5.length) :: (176, ii x176_5) :: (177, ii x177_5) :: t

abbrev qlc8 (lh1_5 : List Int) (lh3_5 : List (Int × Int)) (lh4_5 : List (Int × Int)) (x177_5 : Int) (xh0_0_5 : Int) (xh2_0_5 : Int) (t : Heap) : Heap := (2, .cells [ii xh2_0_5, s0 4 (([(List.getD lh1_5 (Int.toNat ((List.getD lh3_5 (Int.toNat x177_5) (0, 0)).2)) 0, List.getD lh1_5 (Int.toNat ((List.getD lh3_5 (Int.toNat x177_5) (0, 0)).1)) 0)] ++ lh4_5).length)] 0 34 0) :: (1, rI lh1_5) :: (0, .cells [ii xh0_0_5, s0 3 lh3_5.length] 0 34 0) :: t

abbrev qlc9 (lh1_5 : List Int) (lh3_5 : List (Int × Int)) (lh4_5 : List (Int × Int)) (xh0_0_5 : Int) (xh2_0_5 : Int) (t : Heap) : Heap := (2, .cells [ii xh2_0_5, s0 4 lh4_5.length] 0 34 0) :: (1, rI lh1_5) :: (0, .cells [ii xh0_0_5, s0 3 lh3_5.length] 0 34 0) :: t

abbrev qlc10 (lh1_5 : List Int) (lh3_5 : List (Int × Int)) (x177_5 : Int) (t : St) : St := (186, s0 1 lh1_5.length) :: (188, ii ((List.getD lh3_5 (Int.toNat x177_5) (0, 0)).1)) :: t

abbrev qlc11 (lh1_5 : List Int) (lh3_5 : List (Int × Int)) (x177_5 : Int) (t : St) : St := (190, ii (List.getD lh1_5 (Int.toNat ((List.getD lh3_5 (Int.toNat x177_5) (0, 0)).1)) 0)) :: t

abbrev qlc12 (lh1_5 : List Int) (lh3_5 : List (Int × Int)) (lh4_5 : List (Int × Int)) (xh0_0_5 : Int) (xh2_0_5 : Int) (t : Heap) : Heap := (2, .cells [ii xh2_0_5, s0 5 lh4_5.length] 0 34 0) :: (1, rI lh1_5) :: (0, .cells [ii xh0_0_5, s0 3 lh3_5.length] 0 34 0) :: t

abbrev qlc13 (lh3_5 : List (Int × Int)) (x177_5 : Int) (t : St) : St := (189, pp 1 ((Int.toNat ((List.getD lh3_5 (Int.toNat x177_5) (0, 0)).1)) * 1)) :: t

abbrev qlc14 (lh1_5 : List Int) (lh3_5 : List (Int × Int)) (x177_5 : Int) (t : St) : St := (191, .agg #[ii (List.getD lh1_5 (Int.toNat ((List.getD lh3_5 (Int.toNat x177_5) (0, 0)).2)) 0), ii (List.getD lh1_5 (Int.toNat ((List.getD lh3_5 (Int.toNat x177_5) (0, 0)).1)) 0)]) :: t
theorem f11_5_ok (m : Nat) : ∀ (fuel : Nat) (x8_5 : Int) (x176_5 : Int) (x177_5 : Int) (xh0_0_5 : Int) (lh1_5 : List Int) (xh2_0_5 : Int) (lh3_5 : List (Int × Int)) (lh4_5 : List (Int × Int)) (o : (Int × Int × (List Int) × Int × (List (Int × Int)) × (List (Int × Int)))), f11_5 m fuel x8_5 x176_5 x177_5 xh0_0_5 lh1_5 xh2_0_5 lh3_5 lh4_5 = some o → ∀ Q : QP, Q (.exit 6) [(7, pp 0 0), (8, ii o.1), (10, s0 1 o.2.2.1.length), (29, pp 2 0)] [(4, rc encP o.2.2.2.2.2 0 55 2), (3, rc encP o.2.2.2.2.1 0 55 2), (2, .cells [ii o.2.2.2.1, s0 4 o.2.2.2.2.2.length] 0 34 0), (1, rI o.2.2.1), (0, .cells [ii o.2.1, s0 3 o.2.2.2.2.1.length] 0 34 0)] 5 → XL E0 272 0 fuel f11_L4 (qlc7 lh1_5 lh3_5 x176_5 x177_5 x8_5 []) ((4, rc encP lh4_5 0 55 2) :: (3, rc encP lh3_5 0 55 2) :: qlc9 lh1_5 lh3_5 lh4_5 xh0_0_5 xh2_0_5 []) 5 Q
 | 0, x8_5, x176_5, x177_5, xh0_0_5, lh1_5, xh2_0_5, lh3_5, lh4_5, o, h, Q, hQ => by cases h
 | fuel + 1, x8_5, x176_5, x177_5, xh0_0_5, lh1_5, xh2_0_5, lh3_5, lh4_5, o, h, Q, hQ => by
  unfold f11_5 at h
  refine XL.succ E0_ok ?_
  refine qQ ?_
  refine rS 1 (qlc7 lh1_5 lh3_5 x176_5 x177_5 x8_5 [(178, .bool (decide (x177_5 < x176_5)))]) ?_
  refine dQ ?_
  show XQ _ _ _ _ _ _ _ _
  refine sQ ?_
  cases b1 : (decide (x177_5 < x176_5) : Bool) with
  | true =>
   have h := cT b1 h
   refine iT (.tmp 178) ?_
   refine kQ ?_
   show XQ _ _ _ _ _ _ _ _
   refine sQ ?_
   refine XQ.block (id := 7) (by kernel_rfl) ?_
   refine qQ ?_
   cases b2 : (inRow x177_5 lh3_5.length : Bool) with
   | false => cases (cF b2 h)
   | true =>
    have h := cT b2 h
    refine XR.rd E0_ok [7, 8, 10, 29, 175, 176, 177, 179] rfl (v := pp 3 ((Int.toNat x177_5) * 2)) (v_idx (s := 2) (x := (src 272 (.tmp 175))) (y := (src 272 (.tmp 177))) (b := 3) (o := 0) (len := lh3_5.length) (cap := lh3_5.length) (ik := .i64) (i := x177_5) (off := (Int.toNat x177_5) * 2) (d := (some (path 12 179))) (by kernel_rfl) (by kernel_rfl) (by kernel_rfl) b2 (by omega)) (σ' := (qlc7 lh1_5 lh3_5 x176_5 x177_5 x8_5 [(179, pp 3 ((Int.toNat x177_5) * 2))])) (by kernel_rfl) ?_
    refine XR.rd E0_ok [7, 8, 10, 29, 175, 176, 177, 180] rfl (v := .agg #[ii ((List.getD lh3_5 (Int.toNat x177_5) (0, 0)).1), ii ((List.getD lh3_5 (Int.toNat x177_5) (0, 0)).2)]) (v_loadN encP_ok (x := (src 272 (.tmp 179))) (b := 3) (off := (Int.toNat x177_5) * 2) (xs := lh3_5) (fz := 0) (e := 55) (es := 2) (d := (some (path 12 180))) (by kernel_rfl) (by kernel_rfl) (by kernel_rfl) (Int.toNat x177_5) (0, 0) (by first | with_reducible rfl | omega | rfl) (row_len (inRow_toNat b2) (by simp)) rfl) (σ' := (qlc7 lh1_5 lh3_5 x176_5 x177_5 x8_5 [(180, .agg #[ii ((List.getD lh3_5 (Int.toNat x177_5) (0, 0)).1), ii ((List.getD lh3_5 (Int.toNat x177_5) (0, 0)).2)])])) (by kernel_rfl) ?_
    refine rT 2 [(7, pp 0 0), (8, ii x8_5), (10, s0 1 lh1_5.length), (29, pp 2 0), (31, pp 5 0), (175, s0 3 lh3_5.length), (176, ii x176_5), (177, ii x177_5)] ((5, .cells [ii ((List.getD lh3_5 (Int.toNat x177_5) (0, 0)).1), ii ((List.getD lh3_5 (Int.toNat x177_5) (0, 0)).2)] 0 55 0) :: (4, rc encP lh4_5 0 55 2) :: (3, rc encP lh3_5 0 55 2) :: qlc9 lh1_5 lh3_5 lh4_5 xh0_0_5 xh2_0_5 []) 6 ?_
    refine dQ ?_
    show XQ _ _ _ _ _ _ _ _
    cases b3 : (inRow ((List.getD lh3_5 (Int.toNat x177_5) (0, 0)).2) lh1_5.length : Bool) with
    | false => cases (cF b3 h)
    | true =>
     have h := cT b3 h
     cases b4 : (inRow ((List.getD lh3_5 (Int.toNat x177_5) (0, 0)).1) lh1_5.length : Bool) with
     | false => cases (cF b4 h)
     | true =>
      have h := cT b4 h
      cases b5 : (fitsB (1 + lh4_5.length) 16 : Bool) with
      | false => cases (cF b5 h)
      | true =>
       have h := cT b5 h
       refine XQ.preA E0_ok [0, 1, 5, 6, 12] (by kernel_rfl) (g := 12) (listed := #[true, true, false, false, false, true, true, false, false, false, false, false, true, false, false, false, false]) (by kernel_rfl) (by kernel_rfl) (by kernel_rfl) (by kernel_rfl) (by kernel_rfl) (σ' := (qlc7 lh1_5 lh3_5 x176_5 x177_5 x8_5 [])) (h' := ((4, rc encP ([(List.getD lh1_5 (Int.toNat ((List.getD lh3_5 (Int.toNat x177_5) (0, 0)).2)) 0, List.getD lh1_5 (Int.toNat ((List.getD lh3_5 (Int.toNat x177_5) (0, 0)).1)) 0)] ++ lh4_5) 0 55 2) :: (3, rc encP lh3_5 0 55 2) :: qlc8 lh1_5 lh3_5 lh4_5 x177_5 xh0_0_5 xh2_0_5 [])) (c' := 5) ?_ ?_
       ·show XQ _ _ _ _ _ _ _ _
        refine rQ ?_
        refine rS 2 [(7, pp 0 0), (8, ii x8_5), (10, s0 1 lh1_5.length), (29, pp 2 0), (175, s0 3 lh3_5.length), (176, ii x176_5), (177, ii (w64 (x177_5 + 1)))] ?_
        refine dQ ?_
        show XL _ _ _ _ _ _ _ _ _
        refine XL.ren (σ' := [(7, pp 0 0), (8, ii x8_5), (10, s0 1 lh1_5.length), (29, pp 2 0), (175, s0 3 lh3_5.length), (176, ii x176_5), (177, ii (w64 (x177_5 + 1)))]) (h' := ((4, rc encP ([(List.getD lh1_5 (Int.toNat ((List.getD lh3_5 (Int.toNat x177_5) (0, 0)).2)) 0, List.getD lh1_5 (Int.toNat ((List.getD lh3_5 (Int.toNat x177_5) (0, 0)).1)) 0)] ++ lh4_5) 0 55 2) :: (3, rc encP lh3_5 0 55 2) :: qlc8 lh1_5 lh3_5 lh4_5 x177_5 xh0_0_5 xh2_0_5 [])) (c' := 5) [0, 1, 2, 3, 4] (by decide) rfl ⟨rfl, rfl, rfl, rfl, rfl, rfl, rfl, trivial⟩ ⟨⟨_, _, rfl, rfl, .inl ⟨rfl, rwP⟩⟩, ⟨_, _, rfl, rfl, .inl ⟨rfl, rwP⟩⟩, ⟨_, _, rfl, rfl, .inr ⟨_, _, _, _, rfl, rfl⟩⟩, ⟨_, _, rfl, rfl, .inl ⟨rfl, rwI⟩⟩, ⟨_, _, rfl, rfl, .inr ⟨_, _, _, _, rfl, rfl⟩⟩, trivial⟩ rfl ?_
        refine XL.conv (f11_5_ok m fuel x8_5 x176_5 (w64 (x177_5 + 1)) xh0_0_5 lh1_5 xh2_0_5 lh3_5 ([(List.getD lh1_5 (Int.toNat ((List.getD lh3_5 (Int.toNat x177_5) (0, 0)).2)) 0, List.getD lh1_5 (Int.toNat ((List.getD lh3_5 (Int.toNat x177_5) (0, 0)).1)) 0)] ++ lh4_5) o h Q hQ) (by first | with_reducible rfl | simp | rfl)
       ·have xa12 : XA E0 272 0 (opsOf (rgt (lft (lft (rgt (rgt f11_L4)))))) 0 #[true, true, true, true, true, true, true, true, true, true, true, true, true, true, true, true, true] (qlc7 lh1_5 lh3_5 x176_5 x177_5 x8_5 []) ((4, rc encP ([(List.getD lh1_5 (Int.toNat ((List.getD lh3_5 (Int.toNat x177_5) (0, 0)).2)) 0, List.getD lh1_5 (Int.toNat ((List.getD lh3_5 (Int.toNat x177_5) (0, 0)).1)) 0)] ++ lh4_5) 0 55 2) :: (3, rc encP lh3_5 0 55 2) :: qlc8 lh1_5 lh3_5 lh4_5 x177_5 xh0_0_5 xh2_0_5 []) 5 (fun xe xσ xh xc => xe = .normal ∧ (xσ, xh, xc) = ((qlc7 lh1_5 lh3_5 x176_5 x177_5 x8_5 []), ((4, rc encP ([(List.getD lh1_5 (Int.toNat ((List.getD lh3_5 (Int.toNat x177_5) (0, 0)).2)) 0, List.getD lh1_5 (Int.toNat ((List.getD lh3_5 (Int.toNat x177_5) (0, 0)).1)) 0)] ++ lh4_5) 0 55 2) :: (3, rc encP lh3_5 0 55 2) :: qlc8 lh1_5 lh3_5 lh4_5 x177_5 xh0_0_5 xh2_0_5 []), 5)) := by
         exact XA.done (by kernel_rfl) ⟨rfl, rfl⟩
        have xa11 : XA E0 272 0 (opsOf (rgt (lft (lft (rgt (rgt f11_L4)))))) 1 #[true, true, true, true, true, true, true, true, true, true, true, true, true, true, true, true, false] (qlc7 lh1_5 lh3_5 x176_5 x177_5 x8_5 [(195, s0 4 (([(List.getD lh1_5 (Int.toNat ((List.getD lh3_5 (Int.toNat x177_5) (0, 0)).2)) 0, List.getD lh1_5 (Int.toNat ((List.getD lh3_5 (Int.toNat x177_5) (0, 0)).1)) 0)] ++ lh4_5).length)), (196, pp 2 1)]) ((5, rc encP lh4_5 0 55 2) :: (4, rc encP ([(List.getD lh1_5 (Int.toNat ((List.getD lh3_5 (Int.toNat x177_5) (0, 0)).2)) 0, List.getD lh1_5 (Int.toNat ((List.getD lh3_5 (Int.toNat x177_5) (0, 0)).1)) 0)] ++ lh4_5) 0 55 2) :: (3, rc encP lh3_5 0 55 2) :: qlc12 lh1_5 lh3_5 lh4_5 xh0_0_5 xh2_0_5 []) 6 (fun xe xσ xh xc => xe = .normal ∧ (xσ, xh, xc) = ((qlc7 lh1_5 lh3_5 x176_5 x177_5 x8_5 []), ((4, rc encP ([(List.getD lh1_5 (Int.toNat ((List.getD lh3_5 (Int.toNat x177_5) (0, 0)).2)) 0, List.getD lh1_5 (Int.toNat ((List.getD lh3_5 (Int.toNat x177_5) (0, 0)).1)) 0)] ++ lh4_5) 0 55 2) :: (3, rc encP lh3_5 0 55 2) :: qlc8 lh1_5 lh3_5 lh4_5 x177_5 xh0_0_5 xh2_0_5 []), 5)) := by
         refine XA.step E0_ok [16] (by kernel_rfl) rfl (by kernel_rfl) ⟨?_, trivial⟩
         ·refine rT 1 (qlc7 lh1_5 lh3_5 x176_5 x177_5 x8_5 []) ((5, rc encP lh4_5 0 55 2) :: (4, rc encP ([(List.getD lh1_5 (Int.toNat ((List.getD lh3_5 (Int.toNat x177_5) (0, 0)).2)) 0, List.getD lh1_5 (Int.toNat ((List.getD lh3_5 (Int.toNat x177_5) (0, 0)).1)) 0)] ++ lh4_5) 0 55 2) :: (3, rc encP lh3_5 0 55 2) :: qlc8 lh1_5 lh3_5 lh4_5 x177_5 xh0_0_5 xh2_0_5 []) 6 ?_
          refine dQ ?_
          refine ⟨rfl, ?_⟩
          show XA _ _ _ _ _ _ _ _ _ _
          refine XA.ren (σ' := (qlc7 lh1_5 lh3_5 x176_5 x177_5 x8_5 [])) (h' := ((4, rc encP ([(List.getD lh1_5 (Int.toNat ((List.getD lh3_5 (Int.toNat x177_5) (0, 0)).2)) 0, List.getD lh1_5 (Int.toNat ((List.getD lh3_5 (Int.toNat x177_5) (0, 0)).1)) 0)] ++ lh4_5) 0 55 2) :: (3, rc encP lh3_5 0 55 2) :: qlc8 lh1_5 lh3_5 lh4_5 x177_5 xh0_0_5 xh2_0_5 [])) (c' := 5) [0, 1, 2, 3, 4] (by decide) rfl ⟨rfl, rfl, rfl, rfl, rfl, rfl, rfl, trivial⟩ ⟨⟨_, _, rfl, rfl, .inl ⟨rfl, rwP⟩⟩, ⟨_, _, rfl, rfl, .inl ⟨rfl, rwP⟩⟩, ⟨_, _, rfl, rfl, .inr ⟨_, _, _, _, rfl, rfl⟩⟩, ⟨_, _, rfl, rfl, .inl ⟨rfl, rwI⟩⟩, ⟨_, _, rfl, rfl, .inr ⟨_, _, _, _, rfl, rfl⟩⟩, trivial⟩ rfl ?_
          exact xa12
        have xa10 : XA E0 272 0 (opsOf (rgt (lft (lft (rgt (rgt f11_L4)))))) 2 #[true, true, true, true, true, true, true, true, true, true, true, true, true, true, true, false, false] (qlc7 lh1_5 lh3_5 x176_5 x177_5 x8_5 [(195, s0 4 (([(List.getD lh1_5 (Int.toNat ((List.getD lh3_5 (Int.toNat x177_5) (0, 0)).2)) 0, List.getD lh1_5 (Int.toNat ((List.getD lh3_5 (Int.toNat x177_5) (0, 0)).1)) 0)] ++ lh4_5).length))]) ((5, rc encP lh4_5 0 55 2) :: (4, rc encP ([(List.getD lh1_5 (Int.toNat ((List.getD lh3_5 (Int.toNat x177_5) (0, 0)).2)) 0, List.getD lh1_5 (Int.toNat ((List.getD lh3_5 (Int.toNat x177_5) (0, 0)).1)) 0)] ++ lh4_5) 0 55 2) :: (3, rc encP lh3_5 0 55 2) :: qlc12 lh1_5 lh3_5 lh4_5 xh0_0_5 xh2_0_5 []) 6 (fun xe xσ xh xc => xe = .normal ∧ (xσ, xh, xc) = ((qlc7 lh1_5 lh3_5 x176_5 x177_5 x8_5 []), ((4, rc encP ([(List.getD lh1_5 (Int.toNat ((List.getD lh3_5 (Int.toNat x177_5) (0, 0)).2)) 0, List.getD lh1_5 (Int.toNat ((List.getD lh3_5 (Int.toNat x177_5) (0, 0)).1)) 0)] ++ lh4_5) 0 55 2) :: (3, rc encP lh3_5 0 55 2) :: qlc8 lh1_5 lh3_5 lh4_5 x177_5 xh0_0_5 xh2_0_5 []), 5)) := by
         refine XA.step E0_ok [15] (by kernel_rfl) rfl (by kernel_rfl) ⟨?_, trivial⟩
         ·refine rS 1 (qlc7 lh1_5 lh3_5 x176_5 x177_5 x8_5 [(195, s0 4 (([(List.getD lh1_5 (Int.toNat ((List.getD lh3_5 (Int.toNat x177_5) (0, 0)).2)) 0, List.getD lh1_5 (Int.toNat ((List.getD lh3_5 (Int.toNat x177_5) (0, 0)).1)) 0)] ++ lh4_5).length)), (196, pp 2 1)]) ?_
          refine dQ ?_
          refine ⟨rfl, ?_⟩
          show XA _ _ _ _ _ _ _ _ _ _
          exact xa11
        have xa9 : XA E0 272 0 (opsOf (rgt (lft (lft (rgt (rgt f11_L4)))))) 3 #[true, true, true, true, true, true, true, true, true, true, true, true, true, true, false, false, false] (qlc7 lh1_5 lh3_5 x176_5 x177_5 x8_5 [(192, s0 4 1), (194, s0 5 lh4_5.length)]) ((5, rc encP lh4_5 0 55 2) :: (4, .cells [ii (List.getD lh1_5 (Int.toNat ((List.getD lh3_5 (Int.toNat x177_5) (0, 0)).2)) 0), ii (List.getD lh1_5 (Int.toNat ((List.getD lh3_5 (Int.toNat x177_5) (0, 0)).1)) 0)] 0 55 2) :: (3, rc encP lh3_5 0 55 2) :: qlc12 lh1_5 lh3_5 lh4_5 xh0_0_5 xh2_0_5 []) 6 (fun xe xσ xh xc => xe = .normal ∧ (xσ, xh, xc) = ((qlc7 lh1_5 lh3_5 x176_5 x177_5 x8_5 []), ((4, rc encP ([(List.getD lh1_5 (Int.toNat ((List.getD lh3_5 (Int.toNat x177_5) (0, 0)).2)) 0, List.getD lh1_5 (Int.toNat ((List.getD lh3_5 (Int.toNat x177_5) (0, 0)).1)) 0)] ++ lh4_5) 0 55 2) :: (3, rc encP lh3_5 0 55 2) :: qlc8 lh1_5 lh3_5 lh4_5 x177_5 xh0_0_5 xh2_0_5 []), 5)) := by
         refine XA.step E0_ok [14] (by kernel_rfl) rfl (by kernel_rfl) ⟨?_, trivial⟩
         ·refine XR.efX E0_ok [7, 8, 10, 29, 175, 176, 177, 195] rfl (d := (some (path 12 195))) (f := eAppend false 2 16 55 (src 272 (.tmp 192)) (src 272 (.tmp 194))) (by kernel_rfl) (fun _ => eAppendA_ok) (e_appendA encP_ok (bytes := 16) (e := 55) (x := (src 272 (.tmp 192))) (y := (src 272 (.tmp 194))) (b := 4) (len := 1) (cap := 1) (xs := [(List.getD lh1_5 (Int.toNat ((List.getD lh3_5 (Int.toNat x177_5) (0, 0)).2)) 0, List.getD lh1_5 (Int.toNat ((List.getD lh3_5 (Int.toNat x177_5) (0, 0)).1)) 0)]) (n := lh4_5.length) (ys := lh4_5) (n' := ([(List.getD lh1_5 (Int.toNat ((List.getD lh3_5 (Int.toNat x177_5) (0, 0)).2)) 0, List.getD lh1_5 (Int.toNat ((List.getD lh3_5 (Int.toNat x177_5) (0, 0)).1)) 0)] ++ lh4_5).length) (h' := ((6, rc encP ([(List.getD lh1_5 (Int.toNat ((List.getD lh3_5 (Int.toNat x177_5) (0, 0)).2)) 0, List.getD lh1_5 (Int.toNat ((List.getD lh3_5 (Int.toNat x177_5) (0, 0)).1)) 0)] ++ lh4_5) 0 55 2) :: (5, rc encP lh4_5 0 55 2) :: (3, rc encP lh3_5 0 55 2) :: qlc12 lh1_5 lh3_5 lh4_5 xh0_0_5 xh2_0_5 [])) (Y := s0 5 lh4_5.length) (by kernel_rfl) (by kernel_rfl) (by kernel_rfl) (fetch_all encP_ok (ys := lh4_5) (fz := 0) (e := 55) (es := 2) (by kernel_rfl) (by simp) (Nat.le_refl _)) (by simp) rfl (by simp) (by simp) b5 (by first | (simp; done) | (simp; omega)) (by kernel_rfl)) (σ' := (qlc7 lh1_5 lh3_5 x176_5 x177_5 x8_5 [(195, s0 6 (([(List.getD lh1_5 (Int.toNat ((List.getD lh3_5 (Int.toNat x177_5) (0, 0)).2)) 0, List.getD lh1_5 (Int.toNat ((List.getD lh3_5 (Int.toNat x177_5) (0, 0)).1)) 0)] ++ lh4_5).length))])) (by kernel_rfl) ?_
          refine dQ ?_
          refine ⟨rfl, ?_⟩
          show XA _ _ _ _ _ _ _ _ _ _
          refine XA.ren (σ' := (qlc7 lh1_5 lh3_5 x176_5 x177_5 x8_5 [(195, s0 4 (([(List.getD lh1_5 (Int.toNat ((List.getD lh3_5 (Int.toNat x177_5) (0, 0)).2)) 0, List.getD lh1_5 (Int.toNat ((List.getD lh3_5 (Int.toNat x177_5) (0, 0)).1)) 0)] ++ lh4_5).length))])) (h' := ((5, rc encP lh4_5 0 55 2) :: (4, rc encP ([(List.getD lh1_5 (Int.toNat ((List.getD lh3_5 (Int.toNat x177_5) (0, 0)).2)) 0, List.getD lh1_5 (Int.toNat ((List.getD lh3_5 (Int.toNat x177_5) (0, 0)).1)) 0)] ++ lh4_5) 0 55 2) :: (3, rc encP lh3_5 0 55 2) :: qlc12 lh1_5 lh3_5 lh4_5 xh0_0_5 xh2_0_5 [])) (c' := 6) [0, 1, 2, 3, 6, 5] (by decide) rfl ⟨rfl, rfl, rfl, rfl, rfl, rfl, rfl, rfl, trivial⟩ ⟨⟨_, _, rfl, rfl, .inl ⟨rfl, rwP⟩⟩, ⟨_, _, rfl, rfl, .inl ⟨rfl, rwP⟩⟩, ⟨_, _, rfl, rfl, .inl ⟨rfl, rwP⟩⟩, ⟨_, _, rfl, rfl, .inr ⟨_, _, _, _, rfl, rfl⟩⟩, ⟨_, _, rfl, rfl, .inl ⟨rfl, rwI⟩⟩, ⟨_, _, rfl, rfl, .inr ⟨_, _, _, _, rfl, rfl⟩⟩, trivial⟩ rfl ?_
          exact xa10
        have xa8 : XA E0 272 0 (opsOf (rgt (lft (lft (rgt (rgt f11_L4)))))) 4 #[true, true, true, true, true, true, true, true, true, true, true, true, true, false, false, false, false] (qlc7 lh1_5 lh3_5 x176_5 x177_5 x8_5 [(192, s0 4 1), (193, pp 2 1)]) ((5, rc encP lh4_5 0 55 2) :: (4, .cells [ii (List.getD lh1_5 (Int.toNat ((List.getD lh3_5 (Int.toNat x177_5) (0, 0)).2)) 0), ii (List.getD lh1_5 (Int.toNat ((List.getD lh3_5 (Int.toNat x177_5) (0, 0)).1)) 0)] 0 55 2) :: (3, rc encP lh3_5 0 55 2) :: qlc12 lh1_5 lh3_5 lh4_5 xh0_0_5 xh2_0_5 []) 6 (fun xe xσ xh xc => xe = .normal ∧ (xσ, xh, xc) = ((qlc7 lh1_5 lh3_5 x176_5 x177_5 x8_5 []), ((4, rc encP ([(List.getD lh1_5 (Int.toNat ((List.getD lh3_5 (Int.toNat x177_5) (0, 0)).2)) 0, List.getD lh1_5 (Int.toNat ((List.getD lh3_5 (Int.toNat x177_5) (0, 0)).1)) 0)] ++ lh4_5) 0 55 2) :: (3, rc encP lh3_5 0 55 2) :: qlc8 lh1_5 lh3_5 lh4_5 x177_5 xh0_0_5 xh2_0_5 []), 5)) := by
         refine XA.step E0_ok [13] (by kernel_rfl) rfl (by kernel_rfl) ⟨?_, trivial⟩
         ·refine rS 1 (qlc7 lh1_5 lh3_5 x176_5 x177_5 x8_5 [(192, s0 4 1), (194, s0 5 lh4_5.length)]) ?_
          refine dQ ?_
          refine ⟨rfl, ?_⟩
          show XA _ _ _ _ _ _ _ _ _ _
          exact xa9
        have xa13 : XA E0 272 0 (opsOf (rgt (lft (lft (rgt (rgt f11_L4)))))) 4 #[true, true, true, true, true, true, true, true, true, true, true, false, true, true, false, false, false] (qlc7 lh1_5 lh3_5 x176_5 x177_5 x8_5 (qlc14 lh1_5 lh3_5 x177_5 [(194, s0 4 lh4_5.length)])) ((4, rc encP lh4_5 0 55 2) :: (3, rc encP lh3_5 0 55 2) :: qlc9 lh1_5 lh3_5 lh4_5 xh0_0_5 xh2_0_5 []) 5 (fun xe xσ xh xc => xe = .normal ∧ (xσ, xh, xc) = ((qlc7 lh1_5 lh3_5 x176_5 x177_5 x8_5 []), ((4, rc encP ([(List.getD lh1_5 (Int.toNat ((List.getD lh3_5 (Int.toNat x177_5) (0, 0)).2)) 0, List.getD lh1_5 (Int.toNat ((List.getD lh3_5 (Int.toNat x177_5) (0, 0)).1)) 0)] ++ lh4_5) 0 55 2) :: (3, rc encP lh3_5 0 55 2) :: qlc8 lh1_5 lh3_5 lh4_5 x177_5 xh0_0_5 xh2_0_5 []), 5)) := by
         refine XA.step E0_ok [11] (by kernel_rfl) rfl (by kernel_rfl) ⟨?_, trivial⟩
         ·refine rT 1 (qlc7 lh1_5 lh3_5 x176_5 x177_5 x8_5 [(192, s0 5 1), (194, s0 4 lh4_5.length)]) ((5, .cells [ii (List.getD lh1_5 (Int.toNat ((List.getD lh3_5 (Int.toNat x177_5) (0, 0)).2)) 0), ii (List.getD lh1_5 (Int.toNat ((List.getD lh3_5 (Int.toNat x177_5) (0, 0)).1)) 0)] 0 55 2) :: (4, rc encP lh4_5 0 55 2) :: (3, rc encP lh3_5 0 55 2) :: qlc9 lh1_5 lh3_5 lh4_5 xh0_0_5 xh2_0_5 []) 6 ?_
          refine dQ ?_
          refine ⟨rfl, ?_⟩
          show XA _ _ _ _ _ _ _ _ _ _
          refine XA.ren (σ' := (qlc7 lh1_5 lh3_5 x176_5 x177_5 x8_5 [(192, s0 4 1), (194, s0 5 lh4_5.length)])) (h' := ((5, rc encP lh4_5 0 55 2) :: (4, .cells [ii (List.getD lh1_5 (Int.toNat ((List.getD lh3_5 (Int.toNat x177_5) (0, 0)).2)) 0), ii (List.getD lh1_5 (Int.toNat ((List.getD lh3_5 (Int.toNat x177_5) (0, 0)).1)) 0)] 0 55 2) :: (3, rc encP lh3_5 0 55 2) :: qlc12 lh1_5 lh3_5 lh4_5 xh0_0_5 xh2_0_5 [])) (c' := 6) [0, 1, 2, 3, 5, 4] (by decide) rfl ⟨rfl, rfl, rfl, rfl, rfl, rfl, rfl, rfl, rfl, trivial⟩ ⟨⟨_, _, rfl, rfl, .inl ⟨rfl, rwP⟩⟩, ⟨_, _, rfl, rfl, .inr ⟨_, _, _, _, rfl, rfl⟩⟩, ⟨_, _, rfl, rfl, .inl ⟨rfl, rwP⟩⟩, ⟨_, _, rfl, rfl, .inr ⟨_, _, _, _, rfl, rfl⟩⟩, ⟨_, _, rfl, rfl, .inl ⟨rfl, rwI⟩⟩, ⟨_, _, rfl, rfl, .inr ⟨_, _, _, _, rfl, rfl⟩⟩, trivial⟩ rfl ?_
          exact xa9
        have xa7 : XA E0 272 0 (opsOf (rgt (lft (lft (rgt (rgt f11_L4)))))) 5 #[true, true, true, true, true, true, true, true, true, true, true, false, true, false, false, false, false] (qlc7 lh1_5 lh3_5 x176_5 x177_5 x8_5 (qlc14 lh1_5 lh3_5 x177_5 [(193, pp 2 1)])) ((4, rc encP lh4_5 0 55 2) :: (3, rc encP lh3_5 0 55 2) :: qlc9 lh1_5 lh3_5 lh4_5 xh0_0_5 xh2_0_5 []) 5 (fun xe xσ xh xc => xe = .normal ∧ (xσ, xh, xc) = ((qlc7 lh1_5 lh3_5 x176_5 x177_5 x8_5 []), ((4, rc encP ([(List.getD lh1_5 (Int.toNat ((List.getD lh3_5 (Int.toNat x177_5) (0, 0)).2)) 0, List.getD lh1_5 (Int.toNat ((List.getD lh3_5 (Int.toNat x177_5) (0, 0)).1)) 0)] ++ lh4_5) 0 55 2) :: (3, rc encP lh3_5 0 55 2) :: qlc8 lh1_5 lh3_5 lh4_5 x177_5 xh0_0_5 xh2_0_5 []), 5)) := by
         refine XA.step E0_ok [11, 13] (by kernel_rfl) rfl (by kernel_rfl) ⟨?_, ?_, trivial⟩
         ·refine rT 1 (qlc7 lh1_5 lh3_5 x176_5 x177_5 x8_5 [(192, s0 5 1), (193, pp 2 1)]) ((5, .cells [ii (List.getD lh1_5 (Int.toNat ((List.getD lh3_5 (Int.toNat x177_5) (0, 0)).2)) 0), ii (List.getD lh1_5 (Int.toNat ((List.getD lh3_5 (Int.toNat x177_5) (0, 0)).1)) 0)] 0 55 2) :: (4, rc encP lh4_5 0 55 2) :: (3, rc encP lh3_5 0 55 2) :: qlc9 lh1_5 lh3_5 lh4_5 xh0_0_5 xh2_0_5 []) 6 ?_
          refine dQ ?_
          refine ⟨rfl, ?_⟩
          show XA _ _ _ _ _ _ _ _ _ _
          refine XA.ren (σ' := (qlc7 lh1_5 lh3_5 x176_5 x177_5 x8_5 [(192, s0 4 1), (193, pp 2 1)])) (h' := ((5, rc encP lh4_5 0 55 2) :: (4, .cells [ii (List.getD lh1_5 (Int.toNat ((List.getD lh3_5 (Int.toNat x177_5) (0, 0)).2)) 0), ii (List.getD lh1_5 (Int.toNat ((List.getD lh3_5 (Int.toNat x177_5) (0, 0)).1)) 0)] 0 55 2) :: (3, rc encP lh3_5 0 55 2) :: qlc12 lh1_5 lh3_5 lh4_5 xh0_0_5 xh2_0_5 [])) (c' := 6) [0, 1, 2, 3, 5, 4] (by decide) rfl ⟨rfl, rfl, rfl, rfl, rfl, rfl, rfl, rfl, rfl, trivial⟩ ⟨⟨_, _, rfl, rfl, .inl ⟨rfl, rwP⟩⟩, ⟨_, _, rfl, rfl, .inr ⟨_, _, _, _, rfl, rfl⟩⟩, ⟨_, _, rfl, rfl, .inl ⟨rfl, rwP⟩⟩, ⟨_, _, rfl, rfl, .inr ⟨_, _, _, _, rfl, rfl⟩⟩, ⟨_, _, rfl, rfl, .inl ⟨rfl, rwI⟩⟩, ⟨_, _, rfl, rfl, .inr ⟨_, _, _, _, rfl, rfl⟩⟩, trivial⟩ rfl ?_
          exact xa8
         ·refine rS 1 (qlc7 lh1_5 lh3_5 x176_5 x177_5 x8_5 (qlc14 lh1_5 lh3_5 x177_5 [(194, s0 4 lh4_5.length)])) ?_
          refine dQ ?_
          refine ⟨rfl, ?_⟩
          show XA _ _ _ _ _ _ _ _ _ _
          exact xa13
        have xa14 : XA E0 272 0 (opsOf (rgt (lft (lft (rgt (rgt f11_L4)))))) 5 #[true, true, true, true, true, true, true, true, true, true, false, false, true, true, false, false, false] (qlc7 lh1_5 lh3_5 x176_5 x177_5 x8_5 ((185, ii (List.getD lh1_5 (Int.toNat ((List.getD lh3_5 (Int.toNat x177_5) (0, 0)).2)) 0)) :: qlc11 lh1_5 lh3_5 x177_5 [(194, s0 4 lh4_5.length)])) ((4, rc encP lh4_5 0 55 2) :: (3, rc encP lh3_5 0 55 2) :: qlc9 lh1_5 lh3_5 lh4_5 xh0_0_5 xh2_0_5 []) 5 (fun xe xσ xh xc => xe = .normal ∧ (xσ, xh, xc) = ((qlc7 lh1_5 lh3_5 x176_5 x177_5 x8_5 []), ((4, rc encP ([(List.getD lh1_5 (Int.toNat ((List.getD lh3_5 (Int.toNat x177_5) (0, 0)).2)) 0, List.getD lh1_5 (Int.toNat ((List.getD lh3_5 (Int.toNat x177_5) (0, 0)).1)) 0)] ++ lh4_5) 0 55 2) :: (3, rc encP lh3_5 0 55 2) :: qlc8 lh1_5 lh3_5 lh4_5 x177_5 xh0_0_5 xh2_0_5 []), 5)) := by
         refine XA.step E0_ok [10] (by kernel_rfl) rfl (by kernel_rfl) ⟨?_, trivial⟩
         ·refine rS 1 (qlc7 lh1_5 lh3_5 x176_5 x177_5 x8_5 (qlc14 lh1_5 lh3_5 x177_5 [(194, s0 4 lh4_5.length)])) ?_
          refine dQ ?_
          refine ⟨rfl, ?_⟩
          show XA _ _ _ _ _ _ _ _ _ _
          exact xa13
        have xa6 : XA E0 272 0 (opsOf (rgt (lft (lft (rgt (rgt f11_L4)))))) 6 #[true, true, true, true, true, true, true, true, true, true, false, false, true, false, false, false, false] (qlc7 lh1_5 lh3_5 x176_5 x177_5 x8_5 ((185, ii (List.getD lh1_5 (Int.toNat ((List.getD lh3_5 (Int.toNat x177_5) (0, 0)).2)) 0)) :: qlc11 lh1_5 lh3_5 x177_5 [(193, pp 2 1)])) ((4, rc encP lh4_5 0 55 2) :: (3, rc encP lh3_5 0 55 2) :: qlc9 lh1_5 lh3_5 lh4_5 xh0_0_5 xh2_0_5 []) 5 (fun xe xσ xh xc => xe = .normal ∧ (xσ, xh, xc) = ((qlc7 lh1_5 lh3_5 x176_5 x177_5 x8_5 []), ((4, rc encP ([(List.getD lh1_5 (Int.toNat ((List.getD lh3_5 (Int.toNat x177_5) (0, 0)).2)) 0, List.getD lh1_5 (Int.toNat ((List.getD lh3_5 (Int.toNat x177_5) (0, 0)).1)) 0)] ++ lh4_5) 0 55 2) :: (3, rc encP lh3_5 0 55 2) :: qlc8 lh1_5 lh3_5 lh4_5 x177_5 xh0_0_5 xh2_0_5 []), 5)) := by
         refine XA.step E0_ok [10, 13] (by kernel_rfl) rfl (by kernel_rfl) ⟨?_, ?_, trivial⟩
         ·refine rS 1 (qlc7 lh1_5 lh3_5 x176_5 x177_5 x8_5 (qlc14 lh1_5 lh3_5 x177_5 [(193, pp 2 1)])) ?_
          refine dQ ?_
          refine ⟨rfl, ?_⟩
          show XA _ _ _ _ _ _ _ _ _ _
          exact xa7
         ·refine rS 1 (qlc7 lh1_5 lh3_5 x176_5 x177_5 x8_5 ((185, ii (List.getD lh1_5 (Int.toNat ((List.getD lh3_5 (Int.toNat x177_5) (0, 0)).2)) 0)) :: qlc11 lh1_5 lh3_5 x177_5 [(194, s0 4 lh4_5.length)])) ?_
          refine dQ ?_
          refine ⟨rfl, ?_⟩
          show XA _ _ _ _ _ _ _ _ _ _
          exact xa14
        have xa15 : XA E0 272 0 (opsOf (rgt (lft (lft (rgt (rgt f11_L4)))))) 6 #[true, true, true, true, true, true, true, true, true, false, false, false, true, true, false, false, false] (qlc7 lh1_5 lh3_5 x176_5 x177_5 x8_5 ((185, ii (List.getD lh1_5 (Int.toNat ((List.getD lh3_5 (Int.toNat x177_5) (0, 0)).2)) 0)) :: qlc13 lh3_5 x177_5 [(194, s0 4 lh4_5.length)])) ((4, rc encP lh4_5 0 55 2) :: (3, rc encP lh3_5 0 55 2) :: qlc9 lh1_5 lh3_5 lh4_5 xh0_0_5 xh2_0_5 []) 5 (fun xe xσ xh xc => xe = .normal ∧ (xσ, xh, xc) = ((qlc7 lh1_5 lh3_5 x176_5 x177_5 x8_5 []), ((4, rc encP ([(List.getD lh1_5 (Int.toNat ((List.getD lh3_5 (Int.toNat x177_5) (0, 0)).2)) 0, List.getD lh1_5 (Int.toNat ((List.getD lh3_5 (Int.toNat x177_5) (0, 0)).1)) 0)] ++ lh4_5) 0 55 2) :: (3, rc encP lh3_5 0 55 2) :: qlc8 lh1_5 lh3_5 lh4_5 x177_5 xh0_0_5 xh2_0_5 []), 5)) := by
         refine XA.step E0_ok [9] (by kernel_rfl) rfl (by kernel_rfl) ⟨?_, trivial⟩
         ·refine XR.rd E0_ok [7, 8, 10, 29, 175, 176, 177, 185, 190, 194] rfl (v := ii (List.getD lh1_5 (Int.toNat ((List.getD lh3_5 (Int.toNat x177_5) (0, 0)).1)) 0)) (v_load1 (encI_ok .i64) (x := (src 272 (.tmp 189))) (b := 1) (off := (Int.toNat ((List.getD lh3_5 (Int.toNat x177_5) (0, 0)).1)) * 1) (xs := lh1_5) (fz := 0) (e := 3) (es := 1) (d := (some (path 12 190))) (by kernel_rfl) (by kernel_rfl) (by kernel_rfl) (Int.toNat ((List.getD lh3_5 (Int.toNat x177_5) (0, 0)).1)) 0 0 (by first | with_reducible rfl | omega | rfl) (row_len (inRow_toNat b4) (by simp)) rfl rfl) (σ' := (qlc7 lh1_5 lh3_5 x176_5 x177_5 x8_5 ((185, ii (List.getD lh1_5 (Int.toNat ((List.getD lh3_5 (Int.toNat x177_5) (0, 0)).2)) 0)) :: qlc11 lh1_5 lh3_5 x177_5 [(194, s0 4 lh4_5.length)]))) (by kernel_rfl) ?_
          refine dQ ?_
          refine ⟨rfl, ?_⟩
          show XA _ _ _ _ _ _ _ _ _ _
          exact xa14
        have xa5 : XA E0 272 0 (opsOf (rgt (lft (lft (rgt (rgt f11_L4)))))) 7 #[true, true, true, true, true, true, true, true, true, false, false, false, true, false, false, false, false] (qlc7 lh1_5 lh3_5 x176_5 x177_5 x8_5 ((185, ii (List.getD lh1_5 (Int.toNat ((List.getD lh3_5 (Int.toNat x177_5) (0, 0)).2)) 0)) :: qlc13 lh3_5 x177_5 [(193, pp 2 1)])) ((4, rc encP lh4_5 0 55 2) :: (3, rc encP lh3_5 0 55 2) :: qlc9 lh1_5 lh3_5 lh4_5 xh0_0_5 xh2_0_5 []) 5 (fun xe xσ xh xc => xe = .normal ∧ (xσ, xh, xc) = ((qlc7 lh1_5 lh3_5 x176_5 x177_5 x8_5 []), ((4, rc encP ([(List.getD lh1_5 (Int.toNat ((List.getD lh3_5 (Int.toNat x177_5) (0, 0)).2)) 0, List.getD lh1_5 (Int.toNat ((List.getD lh3_5 (Int.toNat x177_5) (0, 0)).1)) 0)] ++ lh4_5) 0 55 2) :: (3, rc encP lh3_5 0 55 2) :: qlc8 lh1_5 lh3_5 lh4_5 x177_5 xh0_0_5 xh2_0_5 []), 5)) := by
         refine XA.step E0_ok [9, 13] (by kernel_rfl) rfl (by kernel_rfl) ⟨?_, ?_, trivial⟩
         ·refine XR.rd E0_ok [7, 8, 10, 29, 175, 176, 177, 185, 190, 193] rfl (v := ii (List.getD lh1_5 (Int.toNat ((List.getD lh3_5 (Int.toNat x177_5) (0, 0)).1)) 0)) (v_load1 (encI_ok .i64) (x := (src 272 (.tmp 189))) (b := 1) (off := (Int.toNat ((List.getD lh3_5 (Int.toNat x177_5) (0, 0)).1)) * 1) (xs := lh1_5) (fz := 0) (e := 3) (es := 1) (d := (some (path 12 190))) (by kernel_rfl) (by kernel_rfl) (by kernel_rfl) (Int.toNat ((List.getD lh3_5 (Int.toNat x177_5) (0, 0)).1)) 0 0 (by first | with_reducible rfl | omega | rfl) (row_len (inRow_toNat b4) (by simp)) rfl rfl) (σ' := (qlc7 lh1_5 lh3_5 x176_5 x177_5 x8_5 ((185, ii (List.getD lh1_5 (Int.toNat ((List.getD lh3_5 (Int.toNat x177_5) (0, 0)).2)) 0)) :: qlc11 lh1_5 lh3_5 x177_5 [(193, pp 2 1)]))) (by kernel_rfl) ?_
          refine dQ ?_
          refine ⟨rfl, ?_⟩
          show XA _ _ _ _ _ _ _ _ _ _
          exact xa6
         ·refine rS 1 (qlc7 lh1_5 lh3_5 x176_5 x177_5 x8_5 ((185, ii (List.getD lh1_5 (Int.toNat ((List.getD lh3_5 (Int.toNat x177_5) (0, 0)).2)) 0)) :: qlc13 lh3_5 x177_5 [(194, s0 4 lh4_5.length)])) ?_
          refine dQ ?_
          refine ⟨rfl, ?_⟩
          show XA _ _ _ _ _ _ _ _ _ _
          exact xa15
        have xa16 : XA E0 272 0 (opsOf (rgt (lft (lft (rgt (rgt f11_L4)))))) 7 #[true, true, true, true, true, true, true, true, false, false, false, false, true, true, false, false, false] (qlc7 lh1_5 lh3_5 x176_5 x177_5 x8_5 ((185, ii (List.getD lh1_5 (Int.toNat ((List.getD lh3_5 (Int.toNat x177_5) (0, 0)).2)) 0)) :: qlc10 lh1_5 lh3_5 x177_5 [(194, s0 4 lh4_5.length)])) ((4, rc encP lh4_5 0 55 2) :: (3, rc encP lh3_5 0 55 2) :: qlc9 lh1_5 lh3_5 lh4_5 xh0_0_5 xh2_0_5 []) 5 (fun xe xσ xh xc => xe = .normal ∧ (xσ, xh, xc) = ((qlc7 lh1_5 lh3_5 x176_5 x177_5 x8_5 []), ((4, rc encP ([(List.getD lh1_5 (Int.toNat ((List.getD lh3_5 (Int.toNat x177_5) (0, 0)).2)) 0, List.getD lh1_5 (Int.toNat ((List.getD lh3_5 (Int.toNat x177_5) (0, 0)).1)) 0)] ++ lh4_5) 0 55 2) :: (3, rc encP lh3_5 0 55 2) :: qlc8 lh1_5 lh3_5 lh4_5 x177_5 xh0_0_5 xh2_0_5 []), 5)) := by
         refine XA.step E0_ok [8] (by kernel_rfl) rfl (by kernel_rfl) ⟨?_, trivial⟩
         ·refine XR.rd E0_ok [7, 8, 10, 29, 175, 176, 177, 185, 189, 194] rfl (v := pp 1 ((Int.toNat ((List.getD lh3_5 (Int.toNat x177_5) (0, 0)).1)) * 1)) (v_idx (s := 1) (x := (src 272 (.tmp 186))) (y := (src 272 (.tmp 188))) (b := 1) (o := 0) (len := lh1_5.length) (cap := lh1_5.length) (ik := .i64) (i := (List.getD lh3_5 (Int.toNat x177_5) (0, 0)).1) (off := (Int.toNat ((List.getD lh3_5 (Int.toNat x177_5) (0, 0)).1)) * 1) (d := (some (path 12 189))) (by kernel_rfl) (by kernel_rfl) (by kernel_rfl) b4 (by omega)) (σ' := (qlc7 lh1_5 lh3_5 x176_5 x177_5 x8_5 ((185, ii (List.getD lh1_5 (Int.toNat ((List.getD lh3_5 (Int.toNat x177_5) (0, 0)).2)) 0)) :: qlc13 lh3_5 x177_5 [(194, s0 4 lh4_5.length)]))) (by kernel_rfl) ?_
          refine dQ ?_
          refine ⟨rfl, ?_⟩
          show XA _ _ _ _ _ _ _ _ _ _
          exact xa15
        have xa4 : XA E0 272 0 (opsOf (rgt (lft (lft (rgt (rgt f11_L4)))))) 8 #[true, true, true, true, true, true, true, true, false, false, false, false, true, false, false, false, false] (qlc7 lh1_5 lh3_5 x176_5 x177_5 x8_5 ((185, ii (List.getD lh1_5 (Int.toNat ((List.getD lh3_5 (Int.toNat x177_5) (0, 0)).2)) 0)) :: qlc10 lh1_5 lh3_5 x177_5 [(193, pp 2 1)])) ((4, rc encP lh4_5 0 55 2) :: (3, rc encP lh3_5 0 55 2) :: qlc9 lh1_5 lh3_5 lh4_5 xh0_0_5 xh2_0_5 []) 5 (fun xe xσ xh xc => xe = .normal ∧ (xσ, xh, xc) = ((qlc7 lh1_5 lh3_5 x176_5 x177_5 x8_5 []), ((4, rc encP ([(List.getD lh1_5 (Int.toNat ((List.getD lh3_5 (Int.toNat x177_5) (0, 0)).2)) 0, List.getD lh1_5 (Int.toNat ((List.getD lh3_5 (Int.toNat x177_5) (0, 0)).1)) 0)] ++ lh4_5) 0 55 2) :: (3, rc encP lh3_5 0 55 2) :: qlc8 lh1_5 lh3_5 lh4_5 x177_5 xh0_0_5 xh2_0_5 []), 5)) := by
         refine XA.step E0_ok [8, 13] (by kernel_rfl) rfl (by kernel_rfl) ⟨?_, ?_, trivial⟩
         ·refine XR.rd E0_ok [7, 8, 10, 29, 175, 176, 177, 185, 189, 193] rfl (v := pp 1 ((Int.toNat ((List.getD lh3_5 (Int.toNat x177_5) (0, 0)).1)) * 1)) (v_idx (s := 1) (x := (src 272 (.tmp 186))) (y := (src 272 (.tmp 188))) (b := 1) (o := 0) (len := lh1_5.length) (cap := lh1_5.length) (ik := .i64) (i := (List.getD lh3_5 (Int.toNat x177_5) (0, 0)).1) (off := (Int.toNat ((List.getD lh3_5 (Int.toNat x177_5) (0, 0)).1)) * 1) (d := (some (path 12 189))) (by kernel_rfl) (by kernel_rfl) (by kernel_rfl) b4 (by omega)) (σ' := (qlc7 lh1_5 lh3_5 x176_5 x177_5 x8_5 ((185, ii (List.getD lh1_5 (Int.toNat ((List.getD lh3_5 (Int.toNat x177_5) (0, 0)).2)) 0)) :: qlc13 lh3_5 x177_5 [(193, pp 2 1)]))) (by kernel_rfl) ?_
          refine dQ ?_
          refine ⟨rfl, ?_⟩
          show XA _ _ _ _ _ _ _ _ _ _
          exact xa5
         ·refine rS 1 (qlc7 lh1_5 lh3_5 x176_5 x177_5 x8_5 ((185, ii (List.getD lh1_5 (Int.toNat ((List.getD lh3_5 (Int.toNat x177_5) (0, 0)).2)) 0)) :: qlc10 lh1_5 lh3_5 x177_5 [(194, s0 4 lh4_5.length)])) ?_
          refine dQ ?_
          refine ⟨rfl, ?_⟩
          show XA _ _ _ _ _ _ _ _ _ _
          exact xa16
        have xa17 : XA E0 272 0 (opsOf (rgt (lft (lft (rgt (rgt f11_L4)))))) 8 #[true, true, true, true, true, true, true, false, false, false, false, false, true, true, false, false, false] (qlc7 lh1_5 lh3_5 x176_5 x177_5 x8_5 [(185, ii (List.getD lh1_5 (Int.toNat ((List.getD lh3_5 (Int.toNat x177_5) (0, 0)).2)) 0)), (186, s0 1 lh1_5.length), (187, pp 4 0), (194, s0 5 lh4_5.length)]) ((5, rc encP lh4_5 0 55 2) :: (4, .cells [ii ((List.getD lh3_5 (Int.toNat x177_5) (0, 0)).1), ii ((List.getD lh3_5 (Int.toNat x177_5) (0, 0)).2)] 0 55 0) :: (3, rc encP lh3_5 0 55 2) :: qlc12 lh1_5 lh3_5 lh4_5 xh0_0_5 xh2_0_5 []) 6 (fun xe xσ xh xc => xe = .normal ∧ (xσ, xh, xc) = ((qlc7 lh1_5 lh3_5 x176_5 x177_5 x8_5 []), ((4, rc encP ([(List.getD lh1_5 (Int.toNat ((List.getD lh3_5 (Int.toNat x177_5) (0, 0)).2)) 0, List.getD lh1_5 (Int.toNat ((List.getD lh3_5 (Int.toNat x177_5) (0, 0)).1)) 0)] ++ lh4_5) 0 55 2) :: (3, rc encP lh3_5 0 55 2) :: qlc8 lh1_5 lh3_5 lh4_5 x177_5 xh0_0_5 xh2_0_5 []), 5)) := by
         refine XA.step E0_ok [7] (by kernel_rfl) rfl (by kernel_rfl) ⟨?_, trivial⟩
         ·refine rS 1 (qlc7 lh1_5 lh3_5 x176_5 x177_5 x8_5 ((185, ii (List.getD lh1_5 (Int.toNat ((List.getD lh3_5 (Int.toNat x177_5) (0, 0)).2)) 0)) :: qlc10 lh1_5 lh3_5 x177_5 [(194, s0 5 lh4_5.length)])) ?_
          refine dQ ?_
          refine ⟨rfl, ?_⟩
          show XA _ _ _ _ _ _ _ _ _ _
          refine XA.ren (σ' := (qlc7 lh1_5 lh3_5 x176_5 x177_5 x8_5 ((185, ii (List.getD lh1_5 (Int.toNat ((List.getD lh3_5 (Int.toNat x177_5) (0, 0)).2)) 0)) :: qlc10 lh1_5 lh3_5 x177_5 [(194, s0 4 lh4_5.length)]))) (h' := ((4, rc encP lh4_5 0 55 2) :: (3, rc encP lh3_5 0 55 2) :: qlc9 lh1_5 lh3_5 lh4_5 xh0_0_5 xh2_0_5 [])) (c' := 5) [0, 1, 2, 3, 5] (by decide) rfl ⟨rfl, rfl, rfl, rfl, rfl, rfl, rfl, rfl, rfl, rfl, rfl, trivial⟩ ⟨⟨_, _, rfl, rfl, .inl ⟨rfl, rwP⟩⟩, ⟨_, _, rfl, rfl, .inl ⟨rfl, rwP⟩⟩, ⟨_, _, rfl, rfl, .inr ⟨_, _, _, _, rfl, rfl⟩⟩, ⟨_, _, rfl, rfl, .inl ⟨rfl, rwI⟩⟩, ⟨_, _, rfl, rfl, .inr ⟨_, _, _, _, rfl, rfl⟩⟩, trivial⟩ rfl ?_
          exact xa16
        have xa3 : XA E0 272 0 (opsOf (rgt (lft (lft (rgt (rgt f11_L4)))))) 9 #[true, true, true, true, true, true, true, false, false, false, false, false, true, false, false, false, false] (qlc7 lh1_5 lh3_5 x176_5 x177_5 x8_5 [(185, ii (List.getD lh1_5 (Int.toNat ((List.getD lh3_5 (Int.toNat x177_5) (0, 0)).2)) 0)), (186, s0 1 lh1_5.length), (187, pp 4 0), (193, pp 2 1)]) ((5, rc encP lh4_5 0 55 2) :: (4, .cells [ii ((List.getD lh3_5 (Int.toNat x177_5) (0, 0)).1), ii ((List.getD lh3_5 (Int.toNat x177_5) (0, 0)).2)] 0 55 0) :: (3, rc encP lh3_5 0 55 2) :: qlc12 lh1_5 lh3_5 lh4_5 xh0_0_5 xh2_0_5 []) 6 (fun xe xσ xh xc => xe = .normal ∧ (xσ, xh, xc) = ((qlc7 lh1_5 lh3_5 x176_5 x177_5 x8_5 []), ((4, rc encP ([(List.getD lh1_5 (Int.toNat ((List.getD lh3_5 (Int.toNat x177_5) (0, 0)).2)) 0, List.getD lh1_5 (Int.toNat ((List.getD lh3_5 (Int.toNat x177_5) (0, 0)).1)) 0)] ++ lh4_5) 0 55 2) :: (3, rc encP lh3_5 0 55 2) :: qlc8 lh1_5 lh3_5 lh4_5 x177_5 xh0_0_5 xh2_0_5 []), 5)) := by
         refine XA.step E0_ok [7, 13] (by kernel_rfl) rfl (by kernel_rfl) ⟨?_, ?_, trivial⟩
         ·refine rS 1 (qlc7 lh1_5 lh3_5 x176_5 x177_5 x8_5 ((185, ii (List.getD lh1_5 (Int.toNat ((List.getD lh3_5 (Int.toNat x177_5) (0, 0)).2)) 0)) :: qlc10 lh1_5 lh3_5 x177_5 [(193, pp 2 1)])) ?_
          refine dQ ?_
          refine ⟨rfl, ?_⟩
          show XA _ _ _ _ _ _ _ _ _ _
          refine XA.ren (σ' := (qlc7 lh1_5 lh3_5 x176_5 x177_5 x8_5 ((185, ii (List.getD lh1_5 (Int.toNat ((List.getD lh3_5 (Int.toNat x177_5) (0, 0)).2)) 0)) :: qlc10 lh1_5 lh3_5 x177_5 [(193, pp 2 1)]))) (h' := ((4, rc encP lh4_5 0 55 2) :: (3, rc encP lh3_5 0 55 2) :: qlc9 lh1_5 lh3_5 lh4_5 xh0_0_5 xh2_0_5 [])) (c' := 5) [0, 1, 2, 3, 5] (by decide) rfl ⟨rfl, rfl, rfl, rfl, rfl, rfl, rfl, rfl, rfl, rfl, rfl, trivial⟩ ⟨⟨_, _, rfl, rfl, .inl ⟨rfl, rwP⟩⟩, ⟨_, _, rfl, rfl, .inl ⟨rfl, rwP⟩⟩, ⟨_, _, rfl, rfl, .inr ⟨_, _, _, _, rfl, rfl⟩⟩, ⟨_, _, rfl, rfl, .inl ⟨rfl, rwI⟩⟩, ⟨_, _, rfl, rfl, .inr ⟨_, _, _, _, rfl, rfl⟩⟩, trivial⟩ rfl ?_
          exact xa4
         ·refine rS 1 (qlc7 lh1_5 lh3_5 x176_5 x177_5 x8_5 [(185, ii (List.getD lh1_5 (Int.toNat ((List.getD lh3_5 (Int.toNat x177_5) (0, 0)).2)) 0)), (186, s0 1 lh1_5.length), (187, pp 4 0), (194, s0 5 lh4_5.length)]) ?_
          refine dQ ?_
          refine ⟨rfl, ?_⟩
          show XA _ _ _ _ _ _ _ _ _ _
          exact xa17
        have xa21 : XA E0 272 0 (opsOf (rgt (lft (lft (rgt (rgt f11_L4)))))) 6 #[true, true, true, true, false, true, true, true, true, true, false, false, true, true, false, false, false] (qlc7 lh1_5 lh3_5 x176_5 x177_5 x8_5 ((184, pp 1 ((Int.toNat ((List.getD lh3_5 (Int.toNat x177_5) (0, 0)).2)) * 1)) :: qlc11 lh1_5 lh3_5 x177_5 [(194, s0 4 lh4_5.length)])) ((4, rc encP lh4_5 0 55 2) :: (3, rc encP lh3_5 0 55 2) :: qlc9 lh1_5 lh3_5 lh4_5 xh0_0_5 xh2_0_5 []) 5 (fun xe xσ xh xc => xe = .normal ∧ (xσ, xh, xc) = ((qlc7 lh1_5 lh3_5 x176_5 x177_5 x8_5 []), ((4, rc encP ([(List.getD lh1_5 (Int.toNat ((List.getD lh3_5 (Int.toNat x177_5) (0, 0)).2)) 0, List.getD lh1_5 (Int.toNat ((List.getD lh3_5 (Int.toNat x177_5) (0, 0)).1)) 0)] ++ lh4_5) 0 55 2) :: (3, rc encP lh3_5 0 55 2) :: qlc8 lh1_5 lh3_5 lh4_5 x177_5 xh0_0_5 xh2_0_5 []), 5)) := by
         refine XA.step E0_ok [4] (by kernel_rfl) rfl (by kernel_rfl) ⟨?_, trivial⟩
         ·refine XR.rd E0_ok [7, 8, 10, 29, 175, 176, 177, 185, 190, 194] rfl (v := ii (List.getD lh1_5 (Int.toNat ((List.getD lh3_5 (Int.toNat x177_5) (0, 0)).2)) 0)) (v_load1 (encI_ok .i64) (x := (src 272 (.tmp 184))) (b := 1) (off := (Int.toNat ((List.getD lh3_5 (Int.toNat x177_5) (0, 0)).2)) * 1) (xs := lh1_5) (fz := 0) (e := 3) (es := 1) (d := (some (path 12 185))) (by kernel_rfl) (by kernel_rfl) (by kernel_rfl) (Int.toNat ((List.getD lh3_5 (Int.toNat x177_5) (0, 0)).2)) 0 0 (by first | with_reducible rfl | omega | rfl) (row_len (inRow_toNat b3) (by simp)) rfl rfl) (σ' := (qlc7 lh1_5 lh3_5 x176_5 x177_5 x8_5 ((185, ii (List.getD lh1_5 (Int.toNat ((List.getD lh3_5 (Int.toNat x177_5) (0, 0)).2)) 0)) :: qlc11 lh1_5 lh3_5 x177_5 [(194, s0 4 lh4_5.length)]))) (by kernel_rfl) ?_
          refine dQ ?_
          refine ⟨rfl, ?_⟩
          show XA _ _ _ _ _ _ _ _ _ _
          exact xa14
        have xa20 : XA E0 272 0 (opsOf (rgt (lft (lft (rgt (rgt f11_L4)))))) 7 #[true, true, true, true, false, true, true, true, true, true, false, false, true, false, false, false, false] (qlc7 lh1_5 lh3_5 x176_5 x177_5 x8_5 ((184, pp 1 ((Int.toNat ((List.getD lh3_5 (Int.toNat x177_5) (0, 0)).2)) * 1)) :: qlc11 lh1_5 lh3_5 x177_5 [(193, pp 2 1)])) ((4, rc encP lh4_5 0 55 2) :: (3, rc encP lh3_5 0 55 2) :: qlc9 lh1_5 lh3_5 lh4_5 xh0_0_5 xh2_0_5 []) 5 (fun xe xσ xh xc => xe = .normal ∧ (xσ, xh, xc) = ((qlc7 lh1_5 lh3_5 x176_5 x177_5 x8_5 []), ((4, rc encP ([(List.getD lh1_5 (Int.toNat ((List.getD lh3_5 (Int.toNat x177_5) (0, 0)).2)) 0, List.getD lh1_5 (Int.toNat ((List.getD lh3_5 (Int.toNat x177_5) (0, 0)).1)) 0)] ++ lh4_5) 0 55 2) :: (3, rc encP lh3_5 0 55 2) :: qlc8 lh1_5 lh3_5 lh4_5 x177_5 xh0_0_5 xh2_0_5 []), 5)) := by
         refine XA.step E0_ok [4, 13] (by kernel_rfl) rfl (by kernel_rfl) ⟨?_, ?_, trivial⟩
         ·refine XR.rd E0_ok [7, 8, 10, 29, 175, 176, 177, 185, 190, 193] rfl (v := ii (List.getD lh1_5 (Int.toNat ((List.getD lh3_5 (Int.toNat x177_5) (0, 0)).2)) 0)) (v_load1 (encI_ok .i64) (x := (src 272 (.tmp 184))) (b := 1) (off := (Int.toNat ((List.getD lh3_5 (Int.toNat x177_5) (0, 0)).2)) * 1) (xs := lh1_5) (fz := 0) (e := 3) (es := 1) (d := (some (path 12 185))) (by kernel_rfl) (by kernel_rfl) (by kernel_rfl) (Int.toNat ((List.getD lh3_5 (Int.toNat x177_5) (0, 0)).2)) 0 0 (by first | with_reducible rfl | omega | rfl) (row_len (inRow_toNat b3) (by simp)) rfl rfl) (σ' := (qlc7 lh1_5 lh3_5 x176_5 x177_5 x8_5 ((185, ii (List.getD lh1_5 (Int.toNat ((List.getD lh3_5 (Int.toNat x177_5) (0, 0)).2)) 0)) :: qlc11 lh1_5 lh3_5 x177_5 [(193, pp 2 1)]))) (by kernel_rfl) ?_
          refine dQ ?_
          refine ⟨rfl, ?_⟩
          show XA _ _ _ _ _ _ _ _ _ _
          exact xa6
         ·refine rS 1 (qlc7 lh1_5 lh3_5 x176_5 x177_5 x8_5 ((184, pp 1 ((Int.toNat ((List.getD lh3_5 (Int.toNat x177_5) (0, 0)).2)) * 1)) :: qlc11 lh1_5 lh3_5 x177_5 [(194, s0 4 lh4_5.length)])) ?_
          refine dQ ?_
          refine ⟨rfl, ?_⟩
          show XA _ _ _ _ _ _ _ _ _ _
          exact xa21
        have xa22 : XA E0 272 0 (opsOf (rgt (lft (lft (rgt (rgt f11_L4)))))) 7 #[true, true, true, true, false, true, true, true, true, false, false, false, true, true, false, false, false] (qlc7 lh1_5 lh3_5 x176_5 x177_5 x8_5 ((184, pp 1 ((Int.toNat ((List.getD lh3_5 (Int.toNat x177_5) (0, 0)).2)) * 1)) :: qlc13 lh3_5 x177_5 [(194, s0 4 lh4_5.length)])) ((4, rc encP lh4_5 0 55 2) :: (3, rc encP lh3_5 0 55 2) :: qlc9 lh1_5 lh3_5 lh4_5 xh0_0_5 xh2_0_5 []) 5 (fun xe xσ xh xc => xe = .normal ∧ (xσ, xh, xc) = ((qlc7 lh1_5 lh3_5 x176_5 x177_5 x8_5 []), ((4, rc encP ([(List.getD lh1_5 (Int.toNat ((List.getD lh3_5 (Int.toNat x177_5) (0, 0)).2)) 0, List.getD lh1_5 (Int.toNat ((List.getD lh3_5 (Int.toNat x177_5) (0, 0)).1)) 0)] ++ lh4_5) 0 55 2) :: (3, rc encP lh3_5 0 55 2) :: qlc8 lh1_5 lh3_5 lh4_5 x177_5 xh0_0_5 xh2_0_5 []), 5)) := by
         refine XA.step E0_ok [4, 9] (by kernel_rfl) rfl (by kernel_rfl) ⟨?_, ?_, trivial⟩
         ·refine XR.rd E0_ok [7, 8, 10, 29, 175, 176, 177, 185, 189, 194] rfl (v := ii (List.getD lh1_5 (Int.toNat ((List.getD lh3_5 (Int.toNat x177_5) (0, 0)).2)) 0)) (v_load1 (encI_ok .i64) (x := (src 272 (.tmp 184))) (b := 1) (off := (Int.toNat ((List.getD lh3_5 (Int.toNat x177_5) (0, 0)).2)) * 1) (xs := lh1_5) (fz := 0) (e := 3) (es := 1) (d := (some (path 12 185))) (by kernel_rfl) (by kernel_rfl) (by kernel_rfl) (Int.toNat ((List.getD lh3_5 (Int.toNat x177_5) (0, 0)).2)) 0 0 (by first | with_reducible rfl | omega | rfl) (row_len (inRow_toNat b3) (by simp)) rfl rfl) (σ' := (qlc7 lh1_5 lh3_5 x176_5 x177_5 x8_5 ((185, ii (List.getD lh1_5 (Int.toNat ((List.getD lh3_5 (Int.toNat x177_5) (0, 0)).2)) 0)) :: qlc13 lh3_5 x177_5 [(194, s0 4 lh4_5.length)]))) (by kernel_rfl) ?_
          refine dQ ?_
          refine ⟨rfl, ?_⟩
          show XA _ _ _ _ _ _ _ _ _ _
          exact xa15
         ·refine XR.rd E0_ok [7, 8, 10, 29, 175, 176, 177, 184, 190, 194] rfl (v := ii (List.getD lh1_5 (Int.toNat ((List.getD lh3_5 (Int.toNat x177_5) (0, 0)).1)) 0)) (v_load1 (encI_ok .i64) (x := (src 272 (.tmp 189))) (b := 1) (off := (Int.toNat ((List.getD lh3_5 (Int.toNat x177_5) (0, 0)).1)) * 1) (xs := lh1_5) (fz := 0) (e := 3) (es := 1) (d := (some (path 12 190))) (by kernel_rfl) (by kernel_rfl) (by kernel_rfl) (Int.toNat ((List.getD lh3_5 (Int.toNat x177_5) (0, 0)).1)) 0 0 (by first | with_reducible rfl | omega | rfl) (row_len (inRow_toNat b4) (by simp)) rfl rfl) (σ' := (qlc7 lh1_5 lh3_5 x176_5 x177_5 x8_5 ((184, pp 1 ((Int.toNat ((List.getD lh3_5 (Int.toNat x177_5) (0, 0)).2)) * 1)) :: qlc11 lh1_5 lh3_5 x177_5 [(194, s0 4 lh4_5.length)]))) (by kernel_rfl) ?_
          refine dQ ?_
          refine ⟨rfl, ?_⟩
          show XA _ _ _ _ _ _ _ _ _ _
          exact xa21
        have xa19 : XA E0 272 0 (opsOf (rgt (lft (lft (rgt (rgt f11_L4)))))) 8 #[true, true, true, true, false, true, true, true, true, false, false, false, true, false, false, false, false] (qlc7 lh1_5 lh3_5 x176_5 x177_5 x8_5 ((184, pp 1 ((Int.toNat ((List.getD lh3_5 (Int.toNat x177_5) (0, 0)).2)) * 1)) :: qlc13 lh3_5 x177_5 [(193, pp 2 1)])) ((4, rc encP lh4_5 0 55 2) :: (3, rc encP lh3_5 0 55 2) :: qlc9 lh1_5 lh3_5 lh4_5 xh0_0_5 xh2_0_5 []) 5 (fun xe xσ xh xc => xe = .normal ∧ (xσ, xh, xc) = ((qlc7 lh1_5 lh3_5 x176_5 x177_5 x8_5 []), ((4, rc encP ([(List.getD lh1_5 (Int.toNat ((List.getD lh3_5 (Int.toNat x177_5) (0, 0)).2)) 0, List.getD lh1_5 (Int.toNat ((List.getD lh3_5 (Int.toNat x177_5) (0, 0)).1)) 0)] ++ lh4_5) 0 55 2) :: (3, rc encP lh3_5 0 55 2) :: qlc8 lh1_5 lh3_5 lh4_5 x177_5 xh0_0_5 xh2_0_5 []), 5)) := by
         refine XA.step E0_ok [4, 9, 13] (by kernel_rfl) rfl (by kernel_rfl) ⟨?_, ?_, ?_, trivial⟩
         ·refine XR.rd E0_ok [7, 8, 10, 29, 175, 176, 177, 185, 189, 193] rfl (v := ii (List.getD lh1_5 (Int.toNat ((List.getD lh3_5 (Int.toNat x177_5) (0, 0)).2)) 0)) (v_load1 (encI_ok .i64) (x := (src 272 (.tmp 184))) (b := 1) (off := (Int.toNat ((List.getD lh3_5 (Int.toNat x177_5) (0, 0)).2)) * 1) (xs := lh1_5) (fz := 0) (e := 3) (es := 1) (d := (some (path 12 185))) (by kernel_rfl) (by kernel_rfl) (by kernel_rfl) (Int.toNat ((List.getD lh3_5 (Int.toNat x177_5) (0, 0)).2)) 0 0 (by first | with_reducible rfl | omega | rfl) (row_len (inRow_toNat b3) (by simp)) rfl rfl) (σ' := (qlc7 lh1_5 lh3_5 x176_5 x177_5 x8_5 ((185, ii (List.getD lh1_5 (Int.toNat ((List.getD lh3_5 (Int.toNat x177_5) (0, 0)).2)) 0)) :: qlc13 lh3_5 x177_5 [(193, pp 2 1)]))) (by kernel_rfl) ?_
          refine dQ ?_
          refine ⟨rfl, ?_⟩
          show XA _ _ _ _ _ _ _ _ _ _
          exact xa5
         ·refine XR.rd E0_ok [7, 8, 10, 29, 175, 176, 177, 184, 190, 193] rfl (v := ii (List.getD lh1_5 (Int.toNat ((List.getD lh3_5 (Int.toNat x177_5) (0, 0)).1)) 0)) (v_load1 (encI_ok .i64) (x := (src 272 (.tmp 189))) (b := 1) (off := (Int.toNat ((List.getD lh3_5 (Int.toNat x177_5) (0, 0)).1)) * 1) (xs := lh1_5) (fz := 0) (e := 3) (es := 1) (d := (some (path 12 190))) (by kernel_rfl) (by kernel_rfl) (by kernel_rfl) (Int.toNat ((List.getD lh3_5 (Int.toNat x177_5) (0, 0)).1)) 0 0 (by first | with_reducible rfl | omega | rfl) (row_len (inRow_toNat b4) (by simp)) rfl rfl) (σ' := (qlc7 lh1_5 lh3_5 x176_5 x177_5 x8_5 ((184, pp 1 ((Int.toNat ((List.getD lh3_5 (Int.toNat x177_5) (0, 0)).2)) * 1)) :: qlc11 lh1_5 lh3_5 x177_5 [(193, pp 2 1)]))) (by kernel_rfl) ?_
          refine dQ ?_
          refine ⟨rfl, ?_⟩
          show XA _ _ _ _ _ _ _ _ _ _
          exact xa20
         ·refine rS 1 (qlc7 lh1_5 lh3_5 x176_5 x177_5 x8_5 ((184, pp 1 ((Int.toNat ((List.getD lh3_5 (Int.toNat x177_5) (0, 0)).2)) * 1)) :: qlc13 lh3_5 x177_5 [(194, s0 4 lh4_5.length)])) ?_
          refine dQ ?_
          refine ⟨rfl, ?_⟩
          show XA _ _ _ _ _ _ _ _ _ _
          exact xa22
        have xa23 : XA E0 272 0 (opsOf (rgt (lft (lft (rgt (rgt f11_L4)))))) 8 #[true, true, true, true, false, true, true, true, false, false, false, false, true, true, false, false, false] (qlc7 lh1_5 lh3_5 x176_5 x177_5 x8_5 ((184, pp 1 ((Int.toNat ((List.getD lh3_5 (Int.toNat x177_5) (0, 0)).2)) * 1)) :: qlc10 lh1_5 lh3_5 x177_5 [(194, s0 4 lh4_5.length)])) ((4, rc encP lh4_5 0 55 2) :: (3, rc encP lh3_5 0 55 2) :: qlc9 lh1_5 lh3_5 lh4_5 xh0_0_5 xh2_0_5 []) 5 (fun xe xσ xh xc => xe = .normal ∧ (xσ, xh, xc) = ((qlc7 lh1_5 lh3_5 x176_5 x177_5 x8_5 []), ((4, rc encP ([(List.getD lh1_5 (Int.toNat ((List.getD lh3_5 (Int.toNat x177_5) (0, 0)).2)) 0, List.getD lh1_5 (Int.toNat ((List.getD lh3_5 (Int.toNat x177_5) (0, 0)).1)) 0)] ++ lh4_5) 0 55 2) :: (3, rc encP lh3_5 0 55 2) :: qlc8 lh1_5 lh3_5 lh4_5 x177_5 xh0_0_5 xh2_0_5 []), 5)) := by
         refine XA.step E0_ok [4, 8] (by kernel_rfl) rfl (by kernel_rfl) ⟨?_, ?_, trivial⟩
         ·refine XR.rd E0_ok [7, 8, 10, 29, 175, 176, 177, 185, 186, 188, 194] rfl (v := ii (List.getD lh1_5 (Int.toNat ((List.getD lh3_5 (Int.toNat x177_5) (0, 0)).2)) 0)) (v_load1 (encI_ok .i64) (x := (src 272 (.tmp 184))) (b := 1) (off := (Int.toNat ((List.getD lh3_5 (Int.toNat x177_5) (0, 0)).2)) * 1) (xs := lh1_5) (fz := 0) (e := 3) (es := 1) (d := (some (path 12 185))) (by kernel_rfl) (by kernel_rfl) (by kernel_rfl) (Int.toNat ((List.getD lh3_5 (Int.toNat x177_5) (0, 0)).2)) 0 0 (by first | with_reducible rfl | omega | rfl) (row_len (inRow_toNat b3) (by simp)) rfl rfl) (σ' := (qlc7 lh1_5 lh3_5 x176_5 x177_5 x8_5 ((185, ii (List.getD lh1_5 (Int.toNat ((List.getD lh3_5 (Int.toNat x177_5) (0, 0)).2)) 0)) :: qlc10 lh1_5 lh3_5 x177_5 [(194, s0 4 lh4_5.length)]))) (by kernel_rfl) ?_
          refine dQ ?_
          refine ⟨rfl, ?_⟩
          show XA _ _ _ _ _ _ _ _ _ _
          exact xa16
         ·refine XR.rd E0_ok [7, 8, 10, 29, 175, 176, 177, 184, 189, 194] rfl (v := pp 1 ((Int.toNat ((List.getD lh3_5 (Int.toNat x177_5) (0, 0)).1)) * 1)) (v_idx (s := 1) (x := (src 272 (.tmp 186))) (y := (src 272 (.tmp 188))) (b := 1) (o := 0) (len := lh1_5.length) (cap := lh1_5.length) (ik := .i64) (i := (List.getD lh3_5 (Int.toNat x177_5) (0, 0)).1) (off := (Int.toNat ((List.getD lh3_5 (Int.toNat x177_5) (0, 0)).1)) * 1) (d := (some (path 12 189))) (by kernel_rfl) (by kernel_rfl) (by kernel_rfl) b4 (by omega)) (σ' := (qlc7 lh1_5 lh3_5 x176_5 x177_5 x8_5 ((184, pp 1 ((Int.toNat ((List.getD lh3_5 (Int.toNat x177_5) (0, 0)).2)) * 1)) :: qlc13 lh3_5 x177_5 [(194, s0 4 lh4_5.length)]))) (by kernel_rfl) ?_
          refine dQ ?_
          refine ⟨rfl, ?_⟩
          show XA _ _ _ _ _ _ _ _ _ _
          exact xa22
        have xa18 : XA E0 272 0 (opsOf (rgt (lft (lft (rgt (rgt f11_L4)))))) 9 #[true, true, true, true, false, true, true, true, false, false, false, false, true, false, false, false, false] (qlc7 lh1_5 lh3_5 x176_5 x177_5 x8_5 ((184, pp 1 ((Int.toNat ((List.getD lh3_5 (Int.toNat x177_5) (0, 0)).2)) * 1)) :: qlc10 lh1_5 lh3_5 x177_5 [(193, pp 2 1)])) ((4, rc encP lh4_5 0 55 2) :: (3, rc encP lh3_5 0 55 2) :: qlc9 lh1_5 lh3_5 lh4_5 xh0_0_5 xh2_0_5 []) 5 (fun xe xσ xh xc => xe = .normal ∧ (xσ, xh, xc) = ((qlc7 lh1_5 lh3_5 x176_5 x177_5 x8_5 []), ((4, rc encP ([(List.getD lh1_5 (Int.toNat ((List.getD lh3_5 (Int.toNat x177_5) (0, 0)).2)) 0, List.getD lh1_5 (Int.toNat ((List.getD lh3_5 (Int.toNat x177_5) (0, 0)).1)) 0)] ++ lh4_5) 0 55 2) :: (3, rc encP lh3_5 0 55 2) :: qlc8 lh1_5 lh3_5 lh4_5 x177_5 xh0_0_5 xh2_0_5 []), 5)) := by
         refine XA.step E0_ok [4, 8, 13] (by kernel_rfl) rfl (by kernel_rfl) ⟨?_, ?_, ?_, trivial⟩
         ·refine XR.rd E0_ok [7, 8, 10, 29, 175, 176, 177, 185, 186, 188, 193] rfl (v := ii (List.getD lh1_5 (Int.toNat ((List.getD lh3_5 (Int.toNat x177_5) (0, 0)).2)) 0)) (v_load1 (encI_ok .i64) (x := (src 272 (.tmp 184))) (b := 1) (off := (Int.toNat ((List.getD lh3_5 (Int.toNat x177_5) (0, 0)).2)) * 1) (xs := lh1_5) (fz := 0) (e := 3) (es := 1) (d := (some (path 12 185))) (by kernel_rfl) (by kernel_rfl) (by kernel_rfl) (Int.toNat ((List.getD lh3_5 (Int.toNat x177_5) (0, 0)).2)) 0 0 (by first | with_reducible rfl | omega | rfl) (row_len (inRow_toNat b3) (by simp)) rfl rfl) (σ' := (qlc7 lh1_5 lh3_5 x176_5 x177_5 x8_5 ((185, ii (List.getD lh1_5 (Int.toNat ((List.getD lh3_5 (Int.toNat x177_5) (0, 0)).2)) 0)) :: qlc10 lh1_5 lh3_5 x177_5 [(193, pp 2 1)]))) (by kernel_rfl) ?_
          refine dQ ?_
          refine ⟨rfl, ?_⟩
          show XA _ _ _ _ _ _ _ _ _ _
          exact xa4
         ·refine XR.rd E0_ok [7, 8, 10, 29, 175, 176, 177, 184, 189, 193] rfl (v := pp 1 ((Int.toNat ((List.getD lh3_5 (Int.toNat x177_5) (0, 0)).1)) * 1)) (v_idx (s := 1) (x := (src 272 (.tmp 186))) (y := (src 272 (.tmp 188))) (b := 1) (o := 0) (len := lh1_5.length) (cap := lh1_5.length) (ik := .i64) (i := (List.getD lh3_5 (Int.toNat x177_5) (0, 0)).1) (off := (Int.toNat ((List.getD lh3_5 (Int.toNat x177_5) (0, 0)).1)) * 1) (d := (some (path 12 189))) (by kernel_rfl) (by kernel_rfl) (by kernel_rfl) b4 (by omega)) (σ' := (qlc7 lh1_5 lh3_5 x176_5 x177_5 x8_5 ((184, pp 1 ((Int.toNat ((List.getD lh3_5 (Int.toNat x177_5) (0, 0)).2)) * 1)) :: qlc13 lh3_5 x177_5 [(193, pp 2 1)]))) (by kernel_rfl) ?_
          refine dQ ?_
          refine ⟨rfl, ?_⟩
          show XA _ _ _ _ _ _ _ _ _ _
          exact xa19
         ·refine rS 1 (qlc7 lh1_5 lh3_5 x176_5 x177_5 x8_5 ((184, pp 1 ((Int.toNat ((List.getD lh3_5 (Int.toNat x177_5) (0, 0)).2)) * 1)) :: qlc10 lh1_5 lh3_5 x177_5 [(194, s0 4 lh4_5.length)])) ?_
          refine dQ ?_
          refine ⟨rfl, ?_⟩
          show XA _ _ _ _ _ _ _ _ _ _
          exact xa23
        have xa24 : XA E0 272 0 (opsOf (rgt (lft (lft (rgt (rgt f11_L4)))))) 9 #[true, true, true, true, false, true, true, false, false, false, false, false, true, true, false, false, false] (qlc7 lh1_5 lh3_5 x176_5 x177_5 x8_5 [(184, pp 1 ((Int.toNat ((List.getD lh3_5 (Int.toNat x177_5) (0, 0)).2)) * 1)), (186, s0 1 lh1_5.length), (187, pp 4 0), (194, s0 5 lh4_5.length)]) ((5, rc encP lh4_5 0 55 2) :: (4, .cells [ii ((List.getD lh3_5 (Int.toNat x177_5) (0, 0)).1), ii ((List.getD lh3_5 (Int.toNat x177_5) (0, 0)).2)] 0 55 0) :: (3, rc encP lh3_5 0 55 2) :: qlc12 lh1_5 lh3_5 lh4_5 xh0_0_5 xh2_0_5 []) 6 (fun xe xσ xh xc => xe = .normal ∧ (xσ, xh, xc) = ((qlc7 lh1_5 lh3_5 x176_5 x177_5 x8_5 []), ((4, rc encP ([(List.getD lh1_5 (Int.toNat ((List.getD lh3_5 (Int.toNat x177_5) (0, 0)).2)) 0, List.getD lh1_5 (Int.toNat ((List.getD lh3_5 (Int.toNat x177_5) (0, 0)).1)) 0)] ++ lh4_5) 0 55 2) :: (3, rc encP lh3_5 0 55 2) :: qlc8 lh1_5 lh3_5 lh4_5 x177_5 xh0_0_5 xh2_0_5 []), 5)) := by
         refine XA.step E0_ok [4, 7] (by kernel_rfl) rfl (by kernel_rfl) ⟨?_, ?_, trivial⟩
         ·refine XR.rd E0_ok [7, 8, 10, 29, 175, 176, 177, 185, 186, 187, 194] rfl (v := ii (List.getD lh1_5 (Int.toNat ((List.getD lh3_5 (Int.toNat x177_5) (0, 0)).2)) 0)) (v_load1 (encI_ok .i64) (x := (src 272 (.tmp 184))) (b := 1) (off := (Int.toNat ((List.getD lh3_5 (Int.toNat x177_5) (0, 0)).2)) * 1) (xs := lh1_5) (fz := 0) (e := 3) (es := 1) (d := (some (path 12 185))) (by kernel_rfl) (by kernel_rfl) (by kernel_rfl) (Int.toNat ((List.getD lh3_5 (Int.toNat x177_5) (0, 0)).2)) 0 0 (by first | with_reducible rfl | omega | rfl) (row_len (inRow_toNat b3) (by simp)) rfl rfl) (σ' := (qlc7 lh1_5 lh3_5 x176_5 x177_5 x8_5 [(185, ii (List.getD lh1_5 (Int.toNat ((List.getD lh3_5 (Int.toNat x177_5) (0, 0)).2)) 0)), (186, s0 1 lh1_5.length), (187, pp 4 0), (194, s0 5 lh4_5.length)])) (by kernel_rfl) ?_
          refine dQ ?_
          refine ⟨rfl, ?_⟩
          show XA _ _ _ _ _ _ _ _ _ _
          exact xa17
         ·refine rS 1 (qlc7 lh1_5 lh3_5 x176_5 x177_5 x8_5 ((184, pp 1 ((Int.toNat ((List.getD lh3_5 (Int.toNat x177_5) (0, 0)).2)) * 1)) :: qlc10 lh1_5 lh3_5 x177_5 [(194, s0 5 lh4_5.length)])) ?_
          refine dQ ?_
          refine ⟨rfl, ?_⟩
          show XA _ _ _ _ _ _ _ _ _ _
          refine XA.ren (σ' := (qlc7 lh1_5 lh3_5 x176_5 x177_5 x8_5 ((184, pp 1 ((Int.toNat ((List.getD lh3_5 (Int.toNat x177_5) (0, 0)).2)) * 1)) :: qlc10 lh1_5 lh3_5 x177_5 [(194, s0 4 lh4_5.length)]))) (h' := ((4, rc encP lh4_5 0 55 2) :: (3, rc encP lh3_5 0 55 2) :: qlc9 lh1_5 lh3_5 lh4_5 xh0_0_5 xh2_0_5 [])) (c' := 5) [0, 1, 2, 3, 5] (by decide) rfl ⟨rfl, rfl, rfl, rfl, rfl, rfl, rfl, rfl, rfl, rfl, rfl, trivial⟩ ⟨⟨_, _, rfl, rfl, .inl ⟨rfl, rwP⟩⟩, ⟨_, _, rfl, rfl, .inl ⟨rfl, rwP⟩⟩, ⟨_, _, rfl, rfl, .inr ⟨_, _, _, _, rfl, rfl⟩⟩, ⟨_, _, rfl, rfl, .inl ⟨rfl, rwI⟩⟩, ⟨_, _, rfl, rfl, .inr ⟨_, _, _, _, rfl, rfl⟩⟩, trivial⟩ rfl ?_
          exact xa23
        have xa2 : XA E0 272 0 (opsOf (rgt (lft (lft (rgt (rgt f11_L4)))))) 10 #[true, true, true, true, false, true, true, false, false, false, false, false, true, false, false, false, false] (qlc7 lh1_5 lh3_5 x176_5 x177_5 x8_5 [(184, pp 1 ((Int.toNat ((List.getD lh3_5 (Int.toNat x177_5) (0, 0)).2)) * 1)), (186, s0 1 lh1_5.length), (187, pp 4 0), (193, pp 2 1)]) ((5, rc encP lh4_5 0 55 2) :: (4, .cells [ii ((List.getD lh3_5 (Int.toNat x177_5) (0, 0)).1), ii ((List.getD lh3_5 (Int.toNat x177_5) (0, 0)).2)] 0 55 0) :: (3, rc encP lh3_5 0 55 2) :: qlc12 lh1_5 lh3_5 lh4_5 xh0_0_5 xh2_0_5 []) 6 (fun xe xσ xh xc => xe = .normal ∧ (xσ, xh, xc) = ((qlc7 lh1_5 lh3_5 x176_5 x177_5 x8_5 []), ((4, rc encP ([(List.getD lh1_5 (Int.toNat ((List.getD lh3_5 (Int.toNat x177_5) (0, 0)).2)) 0, List.getD lh1_5 (Int.toNat ((List.getD lh3_5 (Int.toNat x177_5) (0, 0)).1)) 0)] ++ lh4_5) 0 55 2) :: (3, rc encP lh3_5 0 55 2) :: qlc8 lh1_5 lh3_5 lh4_5 x177_5 xh0_0_5 xh2_0_5 []), 5)) := by
         refine XA.step E0_ok [4, 7, 13] (by kernel_rfl) rfl (by kernel_rfl) ⟨?_, ?_, ?_, trivial⟩
         ·refine XR.rd E0_ok [7, 8, 10, 29, 175, 176, 177, 185, 186, 187, 193] rfl (v := ii (List.getD lh1_5 (Int.toNat ((List.getD lh3_5 (Int.toNat x177_5) (0, 0)).2)) 0)) (v_load1 (encI_ok .i64) (x := (src 272 (.tmp 184))) (b := 1) (off := (Int.toNat ((List.getD lh3_5 (Int.toNat x177_5) (0, 0)).2)) * 1) (xs := lh1_5) (fz := 0) (e := 3) (es := 1) (d := (some (path 12 185))) (by kernel_rfl) (by kernel_rfl) (by kernel_rfl) (Int.toNat ((List.getD lh3_5 (Int.toNat x177_5) (0, 0)).2)) 0 0 (by first | with_reducible rfl | omega | rfl) (row_len (inRow_toNat b3) (by simp)) rfl rfl) (σ' := (qlc7 lh1_5 lh3_5 x176_5 x177_5 x8_5 [(185, ii (List.getD lh1_5 (Int.toNat ((List.getD lh3_5 (Int.toNat x177_5) (0, 0)).2)) 0)), (186, s0 1 lh1_5.length), (187, pp 4 0), (193, pp 2 1)])) (by kernel_rfl) ?_
          refine dQ ?_
          refine ⟨rfl, ?_⟩
          show XA _ _ _ _ _ _ _ _ _ _
          exact xa3
         ·refine rS 1 (qlc7 lh1_5 lh3_5 x176_5 x177_5 x8_5 ((184, pp 1 ((Int.toNat ((List.getD lh3_5 (Int.toNat x177_5) (0, 0)).2)) * 1)) :: qlc10 lh1_5 lh3_5 x177_5 [(193, pp 2 1)])) ?_
          refine dQ ?_
          refine ⟨rfl, ?_⟩
          show XA _ _ _ _ _ _ _ _ _ _
          refine XA.ren (σ' := (qlc7 lh1_5 lh3_5 x176_5 x177_5 x8_5 ((184, pp 1 ((Int.toNat ((List.getD lh3_5 (Int.toNat x177_5) (0, 0)).2)) * 1)) :: qlc10 lh1_5 lh3_5 x177_5 [(193, pp 2 1)]))) (h' := ((4, rc encP lh4_5 0 55 2) :: (3, rc encP lh3_5 0 55 2) :: qlc9 lh1_5 lh3_5 lh4_5 xh0_0_5 xh2_0_5 [])) (c' := 5) [0, 1, 2, 3, 5] (by decide) rfl ⟨rfl, rfl, rfl, rfl, rfl, rfl, rfl, rfl, rfl, rfl, rfl, trivial⟩ ⟨⟨_, _, rfl, rfl, .inl ⟨rfl, rwP⟩⟩, ⟨_, _, rfl, rfl, .inl ⟨rfl, rwP⟩⟩, ⟨_, _, rfl, rfl, .inr ⟨_, _, _, _, rfl, rfl⟩⟩, ⟨_, _, rfl, rfl, .inl ⟨rfl, rwI⟩⟩, ⟨_, _, rfl, rfl, .inr ⟨_, _, _, _, rfl, rfl⟩⟩, trivial⟩ rfl ?_
          exact xa18
         ·refine rS 1 (qlc7 lh1_5 lh3_5 x176_5 x177_5 x8_5 [(184, pp 1 ((Int.toNat ((List.getD lh3_5 (Int.toNat x177_5) (0, 0)).2)) * 1)), (186, s0 1 lh1_5.length), (187, pp 4 0), (194, s0 5 lh4_5.length)]) ?_
          refine dQ ?_
          refine ⟨rfl, ?_⟩
          show XA _ _ _ _ _ _ _ _ _ _
          exact xa24
        have xa28 : XA E0 272 0 (opsOf (rgt (lft (lft (rgt (rgt f11_L4)))))) 7 #[true, true, true, false, false, true, true, true, true, true, false, false, true, true, false, false, false] (qlc7 lh1_5 lh3_5 x176_5 x177_5 x8_5 ((181, s0 1 lh1_5.length) :: (183, ii ((List.getD lh3_5 (Int.toNat x177_5) (0, 0)).2)) :: qlc11 lh1_5 lh3_5 x177_5 [(194, s0 4 lh4_5.length)])) ((4, rc encP lh4_5 0 55 2) :: (3, rc encP lh3_5 0 55 2) :: qlc9 lh1_5 lh3_5 lh4_5 xh0_0_5 xh2_0_5 []) 5 (fun xe xσ xh xc => xe = .normal ∧ (xσ, xh, xc) = ((qlc7 lh1_5 lh3_5 x176_5 x177_5 x8_5 []), ((4, rc encP ([(List.getD lh1_5 (Int.toNat ((List.getD lh3_5 (Int.toNat x177_5) (0, 0)).2)) 0, List.getD lh1_5 (Int.toNat ((List.getD lh3_5 (Int.toNat x177_5) (0, 0)).1)) 0)] ++ lh4_5) 0 55 2) :: (3, rc encP lh3_5 0 55 2) :: qlc8 lh1_5 lh3_5 lh4_5 x177_5 xh0_0_5 xh2_0_5 []), 5)) := by
         refine XA.step E0_ok [3] (by kernel_rfl) rfl (by kernel_rfl) ⟨?_, trivial⟩
         ·refine XR.rd E0_ok [7, 8, 10, 29, 175, 176, 177, 184, 190, 194] rfl (v := pp 1 ((Int.toNat ((List.getD lh3_5 (Int.toNat x177_5) (0, 0)).2)) * 1)) (v_idx (s := 1) (x := (src 272 (.tmp 181))) (y := (src 272 (.tmp 183))) (b := 1) (o := 0) (len := lh1_5.length) (cap := lh1_5.length) (ik := .i64) (i := (List.getD lh3_5 (Int.toNat x177_5) (0, 0)).2) (off := (Int.toNat ((List.getD lh3_5 (Int.toNat x177_5) (0, 0)).2)) * 1) (d := (some (path 12 184))) (by kernel_rfl) (by kernel_rfl) (by kernel_rfl) b3 (by omega)) (σ' := (qlc7 lh1_5 lh3_5 x176_5 x177_5 x8_5 ((184, pp 1 ((Int.toNat ((List.getD lh3_5 (Int.toNat x177_5) (0, 0)).2)) * 1)) :: qlc11 lh1_5 lh3_5 x177_5 [(194, s0 4 lh4_5.length)]))) (by kernel_rfl) ?_
          refine dQ ?_
          refine ⟨rfl, ?_⟩
          show XA _ _ _ _ _ _ _ _ _ _
          exact xa21
        have xa27 : XA E0 272 0 (opsOf (rgt (lft (lft (rgt (rgt f11_L4)))))) 8 #[true, true, true, false, false, true, true, true, true, true, false, false, true, false, false, false, false] (qlc7 lh1_5 lh3_5 x176_5 x177_5 x8_5 ((181, s0 1 lh1_5.length) :: (183, ii ((List.getD lh3_5 (Int.toNat x177_5) (0, 0)).2)) :: qlc11 lh1_5 lh3_5 x177_5 [(193, pp 2 1)])) ((4, rc encP lh4_5 0 55 2) :: (3, rc encP lh3_5 0 55 2) :: qlc9 lh1_5 lh3_5 lh4_5 xh0_0_5 xh2_0_5 []) 5 (fun xe xσ xh xc => xe = .normal ∧ (xσ, xh, xc) = ((qlc7 lh1_5 lh3_5 x176_5 x177_5 x8_5 []), ((4, rc encP ([(List.getD lh1_5 (Int.toNat ((List.getD lh3_5 (Int.toNat x177_5) (0, 0)).2)) 0, List.getD lh1_5 (Int.toNat ((List.getD lh3_5 (Int.toNat x177_5) (0, 0)).1)) 0)] ++ lh4_5) 0 55 2) :: (3, rc encP lh3_5 0 55 2) :: qlc8 lh1_5 lh3_5 lh4_5 x177_5 xh0_0_5 xh2_0_5 []), 5)) := by
         refine XA.step E0_ok [3, 13] (by kernel_rfl) rfl (by kernel_rfl) ⟨?_, ?_, trivial⟩
         ·refine XR.rd E0_ok [7, 8, 10, 29, 175, 176, 177, 184, 190, 193] rfl (v := pp 1 ((Int.toNat ((List.getD lh3_5 (Int.toNat x177_5) (0, 0)).2)) * 1)) (v_idx (s := 1) (x := (src 272 (.tmp 181))) (y := (src 272 (.tmp 183))) (b := 1) (o := 0) (len := lh1_5.length) (cap := lh1_5.length) (ik := .i64) (i := (List.getD lh3_5 (Int.toNat x177_5) (0, 0)).2) (off := (Int.toNat ((List.getD lh3_5 (Int.toNat x177_5) (0, 0)).2)) * 1) (d := (some (path 12 184))) (by kernel_rfl) (by kernel_rfl) (by kernel_rfl) b3 (by omega)) (σ' := (qlc7 lh1_5 lh3_5 x176_5 x177_5 x8_5 ((184, pp 1 ((Int.toNat ((List.getD lh3_5 (Int.toNat x177_5) (0, 0)).2)) * 1)) :: qlc11 lh1_5 lh3_5 x177_5 [(193, pp 2 1)]))) (by kernel_rfl) ?_
          refine dQ ?_
          refine ⟨rfl, ?_⟩
          show XA _ _ _ _ _ _ _ _ _ _
          exact xa20
         ·refine rS 1 (qlc7 lh1_5 lh3_5 x176_5 x177_5 x8_5 ((181, s0 1 lh1_5.length) :: (183, ii ((List.getD lh3_5 (Int.toNat x177_5) (0, 0)).2)) :: qlc11 lh1_5 lh3_5 x177_5 [(194, s0 4 lh4_5.length)])) ?_
          refine dQ ?_
          refine ⟨rfl, ?_⟩
          show XA _ _ _ _ _ _ _ _ _ _
          exact xa28
        have xa29 : XA E0 272 0 (opsOf (rgt (lft (lft (rgt (rgt f11_L4)))))) 8 #[true, true, true, false, false, true, true, true, true, false, false, false, true, true, false, false, false] (qlc7 lh1_5 lh3_5 x176_5 x177_5 x8_5 ((181, s0 1 lh1_5.length) :: (183, ii ((List.getD lh3_5 (Int.toNat x177_5) (0, 0)).2)) :: qlc13 lh3_5 x177_5 [(194, s0 4 lh4_5.length)])) ((4, rc encP lh4_5 0 55 2) :: (3, rc encP lh3_5 0 55 2) :: qlc9 lh1_5 lh3_5 lh4_5 xh0_0_5 xh2_0_5 []) 5 (fun xe xσ xh xc => xe = .normal ∧ (xσ, xh, xc) = ((qlc7 lh1_5 lh3_5 x176_5 x177_5 x8_5 []), ((4, rc encP ([(List.getD lh1_5 (Int.toNat ((List.getD lh3_5 (Int.toNat x177_5) (0, 0)).2)) 0, List.getD lh1_5 (Int.toNat ((List.getD lh3_5 (Int.toNat x177_5) (0, 0)).1)) 0)] ++ lh4_5) 0 55 2) :: (3, rc encP lh3_5 0 55 2) :: qlc8 lh1_5 lh3_5 lh4_5 x177_5 xh0_0_5 xh2_0_5 []), 5)) := by
         refine XA.step E0_ok [3, 9] (by kernel_rfl) rfl (by kernel_rfl) ⟨?_, ?_, trivial⟩
         ·refine XR.rd E0_ok [7, 8, 10, 29, 175, 176, 177, 184, 189, 194] rfl (v := pp 1 ((Int.toNat ((List.getD lh3_5 (Int.toNat x177_5) (0, 0)).2)) * 1)) (v_idx (s := 1) (x := (src 272 (.tmp 181))) (y := (src 272 (.tmp 183))) (b := 1) (o := 0) (len := lh1_5.length) (cap := lh1_5.length) (ik := .i64) (i := (List.getD lh3_5 (Int.toNat x177_5) (0, 0)).2) (off := (Int.toNat ((List.getD lh3_5 (Int.toNat x177_5) (0, 0)).2)) * 1) (d := (some (path 12 184))) (by kernel_rfl) (by kernel_rfl) (by kernel_rfl) b3 (by omega)) (σ' := (qlc7 lh1_5 lh3_5 x176_5 x177_5 x8_5 ((184, pp 1 ((Int.toNat ((List.getD lh3_5 (Int.toNat x177_5) (0, 0)).2)) * 1)) :: qlc13 lh3_5 x177_5 [(194, s0 4 lh4_5.length)]))) (by kernel_rfl) ?_
          refine dQ ?_
          refine ⟨rfl, ?_⟩
          show XA _ _ _ _ _ _ _ _ _ _
          exact xa22
         ·refine XR.rd E0_ok [7, 8, 10, 29, 175, 176, 177, 181, 183, 190, 194] rfl (v := ii (List.getD lh1_5 (Int.toNat ((List.getD lh3_5 (Int.toNat x177_5) (0, 0)).1)) 0)) (v_load1 (encI_ok .i64) (x := (src 272 (.tmp 189))) (b := 1) (off := (Int.toNat ((List.getD lh3_5 (Int.toNat x177_5) (0, 0)).1)) * 1) (xs := lh1_5) (fz := 0) (e := 3) (es := 1) (d := (some (path 12 190))) (by kernel_rfl) (by kernel_rfl) (by kernel_rfl) (Int.toNat ((List.getD lh3_5 (Int.toNat x177_5) (0, 0)).1)) 0 0 (by first | with_reducible rfl | omega | rfl) (row_len (inRow_toNat b4) (by simp)) rfl rfl) (σ' := (qlc7 lh1_5 lh3_5 x176_5 x177_5 x8_5 ((181, s0 1 lh1_5.length) :: (183, ii ((List.getD lh3_5 (Int.toNat x177_5) (0, 0)).2)) :: qlc11 lh1_5 lh3_5 x177_5 [(194, s0 4 lh4_5.length)]))) (by kernel_rfl) ?_
          refine dQ ?_
          refine ⟨rfl, ?_⟩
          show XA _ _ _ _ _ _ _ _ _ _
          exact xa28
        have xa26 : XA E0 272 0 (opsOf (rgt (lft (lft (rgt (rgt f11_L4)))))) 9 #[true, true, true, false, false, true, true, true, true, false, false, false, true, false, false, false, false] (qlc7 lh1_5 lh3_5 x176_5 x177_5 x8_5 ((181, s0 1 lh1_5.length) :: (183, ii ((List.getD lh3_5 (Int.toNat x177_5) (0, 0)).2)) :: qlc13 lh3_5 x177_5 [(193, pp 2 1)])) ((4, rc encP lh4_5 0 55 2) :: (3, rc encP lh3_5 0 55 2) :: qlc9 lh1_5 lh3_5 lh4_5 xh0_0_5 xh2_0_5 []) 5 (fun xe xσ xh xc => xe = .normal ∧ (xσ, xh, xc) = ((qlc7 lh1_5 lh3_5 x176_5 x177_5 x8_5 []), ((4, rc encP ([(List.getD lh1_5 (Int.toNat ((List.getD lh3_5 (Int.toNat x177_5) (0, 0)).2)) 0, List.getD lh1_5 (Int.toNat ((List.getD lh3_5 (Int.toNat x177_5) (0, 0)).1)) 0)] ++ lh4_5) 0 55 2) :: (3, rc encP lh3_5 0 55 2) :: qlc8 lh1_5 lh3_5 lh4_5 x177_5 xh0_0_5 xh2_0_5 []), 5)) := by
         refine XA.step E0_ok [3, 9, 13] (by kernel_rfl) rfl (by kernel_rfl) ⟨?_, ?_, ?_, trivial⟩
         ·refine XR.rd E0_ok [7, 8, 10, 29, 175, 176, 177, 184, 189, 193] rfl (v := pp 1 ((Int.toNat ((List.getD lh3_5 (Int.toNat x177_5) (0, 0)).2)) * 1)) (v_idx (s := 1) (x := (src 272 (.tmp 181))) (y := (src 272 (.tmp 183))) (b := 1) (o := 0) (len := lh1_5.length) (cap := lh1_5.length) (ik := .i64) (i := (List.getD lh3_5 (Int.toNat x177_5) (0, 0)).2) (off := (Int.toNat ((List.getD lh3_5 (Int.toNat x177_5) (0, 0)).2)) * 1) (d := (some (path 12 184))) (by kernel_rfl) (by kernel_rfl) (by kernel_rfl) b3 (by omega)) (σ' := (qlc7 lh1_5 lh3_5 x176_5 x177_5 x8_5 ((184, pp 1 ((Int.toNat ((List.getD lh3_5 (Int.toNat x177_5) (0, 0)).2)) * 1)) :: qlc13 lh3_5 x177_5 [(193, pp 2 1)]))) (by kernel_rfl) ?_
          refine dQ ?_
          refine ⟨rfl, ?_⟩
          show XA _ _ _ _ _ _ _ _ _ _
          exact xa19
         ·refine XR.rd E0_ok [7, 8, 10, 29, 175, 176, 177, 181, 183, 190, 193] rfl (v := ii (List.getD lh1_5 (Int.toNat ((List.getD lh3_5 (Int.toNat x177_5) (0, 0)).1)) 0)) (v_load1 (encI_ok .i64) (x := (src 272 (.tmp 189))) (b := 1) (off := (Int.toNat ((List.getD lh3_5 (Int.toNat x177_5) (0, 0)).1)) * 1) (xs := lh1_5) (fz := 0) (e := 3) (es := 1) (d := (some (path 12 190))) (by kernel_rfl) (by kernel_rfl) (by kernel_rfl) (Int.toNat ((List.getD lh3_5 (Int.toNat x177_5) (0, 0)).1)) 0 0 (by first | with_reducible rfl | omega | rfl) (row_len (inRow_toNat b4) (by simp)) rfl rfl) (σ' := (qlc7 lh1_5 lh3_5 x176_5 x177_5 x8_5 ((181, s0 1 lh1_5.length) :: (183, ii ((List.getD lh3_5 (Int.toNat x177_5) (0, 0)).2)) :: qlc11 lh1_5 lh3_5 x177_5 [(193, pp 2 1)]))) (by kernel_rfl) ?_
          refine dQ ?_
          refine ⟨rfl, ?_⟩
          show XA _ _ _ _ _ _ _ _ _ _
          exact xa27
         ·refine rS 1 (qlc7 lh1_5 lh3_5 x176_5 x177_5 x8_5 ((181, s0 1 lh1_5.length) :: (183, ii ((List.getD lh3_5 (Int.toNat x177_5) (0, 0)).2)) :: qlc13 lh3_5 x177_5 [(194, s0 4 lh4_5.length)])) ?_
          refine dQ ?_
          refine ⟨rfl, ?_⟩
          show XA _ _ _ _ _ _ _ _ _ _
          exact xa29
        have xa30 : XA E0 272 0 (opsOf (rgt (lft (lft (rgt (rgt f11_L4)))))) 9 #[true, true, true, false, false, true, true, true, false, false, false, false, true, true, false, false, false] (qlc7 lh1_5 lh3_5 x176_5 x177_5 x8_5 ((181, s0 1 lh1_5.length) :: (183, ii ((List.getD lh3_5 (Int.toNat x177_5) (0, 0)).2)) :: qlc10 lh1_5 lh3_5 x177_5 [(194, s0 4 lh4_5.length)])) ((4, rc encP lh4_5 0 55 2) :: (3, rc encP lh3_5 0 55 2) :: qlc9 lh1_5 lh3_5 lh4_5 xh0_0_5 xh2_0_5 []) 5 (fun xe xσ xh xc => xe = .normal ∧ (xσ, xh, xc) = ((qlc7 lh1_5 lh3_5 x176_5 x177_5 x8_5 []), ((4, rc encP ([(List.getD lh1_5 (Int.toNat ((List.getD lh3_5 (Int.toNat x177_5) (0, 0)).2)) 0, List.getD lh1_5 (Int.toNat ((List.getD lh3_5 (Int.toNat x177_5) (0, 0)).1)) 0)] ++ lh4_5) 0 55 2) :: (3, rc encP lh3_5 0 55 2) :: qlc8 lh1_5 lh3_5 lh4_5 x177_5 xh0_0_5 xh2_0_5 []), 5)) := by
         refine XA.step E0_ok [3, 8] (by kernel_rfl) rfl (by kernel_rfl) ⟨?_, ?_, trivial⟩
         ·refine XR.rd E0_ok [7, 8, 10, 29, 175, 176, 177, 184, 186, 188, 194] rfl (v := pp 1 ((Int.toNat ((List.getD lh3_5 (Int.toNat x177_5) (0, 0)).2)) * 1)) (v_idx (s := 1) (x := (src 272 (.tmp 181))) (y := (src 272 (.tmp 183))) (b := 1) (o := 0) (len := lh1_5.length) (cap := lh1_5.length) (ik := .i64) (i := (List.getD lh3_5 (Int.toNat x177_5) (0, 0)).2) (off := (Int.toNat ((List.getD lh3_5 (Int.toNat x177_5) (0, 0)).2)) * 1) (d := (some (path 12 184))) (by kernel_rfl) (by kernel_rfl) (by kernel_rfl) b3 (by omega)) (σ' := (qlc7 lh1_5 lh3_5 x176_5 x177_5 x8_5 ((184, pp 1 ((Int.toNat ((List.getD lh3_5 (Int.toNat x177_5) (0, 0)).2)) * 1)) :: qlc10 lh1_5 lh3_5 x177_5 [(194, s0 4 lh4_5.length)]))) (by kernel_rfl) ?_
          refine dQ ?_
          refine ⟨rfl, ?_⟩
          show XA _ _ _ _ _ _ _ _ _ _
          exact xa23
         ·refine XR.rd E0_ok [7, 8, 10, 29, 175, 176, 177, 181, 183, 189, 194] rfl (v := pp 1 ((Int.toNat ((List.getD lh3_5 (Int.toNat x177_5) (0, 0)).1)) * 1)) (v_idx (s := 1) (x := (src 272 (.tmp 186))) (y := (src 272 (.tmp 188))) (b := 1) (o := 0) (len := lh1_5.length) (cap := lh1_5.length) (ik := .i64) (i := (List.getD lh3_5 (Int.toNat x177_5) (0, 0)).1) (off := (Int.toNat ((List.getD lh3_5 (Int.toNat x177_5) (0, 0)).1)) * 1) (d := (some (path 12 189))) (by kernel_rfl) (by kernel_rfl) (by kernel_rfl) b4 (by omega)) (σ' := (qlc7 lh1_5 lh3_5 x176_5 x177_5 x8_5 ((181, s0 1 lh1_5.length) :: (183, ii ((List.getD lh3_5 (Int.toNat x177_5) (0, 0)).2)) :: qlc13 lh3_5 x177_5 [(194, s0 4 lh4_5.length)]))) (by kernel_rfl) ?_
          refine dQ ?_
          refine ⟨rfl, ?_⟩
          show XA _ _ _ _ _ _ _ _ _ _
          exact xa29
        have xa25 : XA E0 272 0 (opsOf (rgt (lft (lft (rgt (rgt f11_L4)))))) 10 #[true, true, true, false, false, true, true, true, false, false, false, false, true, false, false, false, false] (qlc7 lh1_5 lh3_5 x176_5 x177_5 x8_5 ((181, s0 1 lh1_5.length) :: (183, ii ((List.getD lh3_5 (Int.toNat x177_5) (0, 0)).2)) :: qlc10 lh1_5 lh3_5 x177_5 [(193, pp 2 1)])) ((4, rc encP lh4_5 0 55 2) :: (3, rc encP lh3_5 0 55 2) :: qlc9 lh1_5 lh3_5 lh4_5 xh0_0_5 xh2_0_5 []) 5 (fun xe xσ xh xc => xe = .normal ∧ (xσ, xh, xc) = ((qlc7 lh1_5 lh3_5 x176_5 x177_5 x8_5 []), ((4, rc encP ([(List.getD lh1_5 (Int.toNat ((List.getD lh3_5 (Int.toNat x177_5) (0, 0)).2)) 0, List.getD lh1_5 (Int.toNat ((List.getD lh3_5 (Int.toNat x177_5) (0, 0)).1)) 0)] ++ lh4_5) 0 55 2) :: (3, rc encP lh3_5 0 55 2) :: qlc8 lh1_5 lh3_5 lh4_5 x177_5 xh0_0_5 xh2_0_5 []), 5)) := by
         refine XA.step E0_ok [3, 8, 13] (by kernel_rfl) rfl (by kernel_rfl) ⟨?_, ?_, ?_, trivial⟩
         ·refine XR.rd E0_ok [7, 8, 10, 29, 175, 176, 177, 184, 186, 188, 193] rfl (v := pp 1 ((Int.toNat ((List.getD lh3_5 (Int.toNat x177_5) (0, 0)).2)) * 1)) (v_idx (s := 1) (x := (src 272 (.tmp 181))) (y := (src 272 (.tmp 183))) (b := 1) (o := 0) (len := lh1_5.length) (cap := lh1_5.length) (ik := .i64) (i := (List.getD lh3_5 (Int.toNat x177_5) (0, 0)).2) (off := (Int.toNat ((List.getD lh3_5 (Int.toNat x177_5) (0, 0)).2)) * 1) (d := (some (path 12 184))) (by kernel_rfl) (by kernel_rfl) (by kernel_rfl) b3 (by omega)) (σ' := (qlc7 lh1_5 lh3_5 x176_5 x177_5 x8_5 ((184, pp 1 ((Int.toNat ((List.getD lh3_5 (Int.toNat x177_5) (0, 0)).2)) * 1)) :: qlc10 lh1_5 lh3_5 x177_5 [(193, pp 2 1)]))) (by kernel_rfl) ?_
          refine dQ ?_
          refine ⟨rfl, ?_⟩
          show XA _ _ _ _ _ _ _ _ _ _
          exact xa18
         ·refine XR.rd E0_ok [7, 8, 10, 29, 175, 176, 177, 181, 183, 189, 193] rfl (v := pp 1 ((Int.toNat ((List.getD lh3_5 (Int.toNat x177_5) (0, 0)).1)) * 1)) (v_idx (s := 1) (x := (src 272 (.tmp 186))) (y := (src 272 (.tmp 188))) (b := 1) (o := 0) (len := lh1_5.length) (cap := lh1_5.length) (ik := .i64) (i := (List.getD lh3_5 (Int.toNat x177_5) (0, 0)).1) (off := (Int.toNat ((List.getD lh3_5 (Int.toNat x177_5) (0, 0)).1)) * 1) (d := (some (path 12 189))) (by kernel_rfl) (by kernel_rfl) (by kernel_rfl) b4 (by omega)) (σ' := (qlc7 lh1_5 lh3_5 x176_5 x177_5 x8_5 ((181, s0 1 lh1_5.length) :: (183, ii ((List.getD lh3_5 (Int.toNat x177_5) (0, 0)).2)) :: qlc13 lh3_5 x177_5 [(193, pp 2 1)]))) (by kernel_rfl) ?_
          refine dQ ?_
          refine ⟨rfl, ?_⟩
          show XA _ _ _ _ _ _ _ _ _ _
          exact xa26
         ·refine rS 1 (qlc7 lh1_5 lh3_5 x176_5 x177_5 x8_5 ((181, s0 1 lh1_5.length) :: (183, ii ((List.getD lh3_5 (Int.toNat x177_5) (0, 0)).2)) :: qlc10 lh1_5 lh3_5 x177_5 [(194, s0 4 lh4_5.length)])) ?_
          refine dQ ?_
          refine ⟨rfl, ?_⟩
          show XA _ _ _ _ _ _ _ _ _ _
          exact xa30
        have xa31 : XA E0 272 0 (opsOf (rgt (lft (lft (rgt (rgt f11_L4)))))) 10 #[true, true, true, false, false, true, true, false, false, false, false, false, true, true, false, false, false] (qlc7 lh1_5 lh3_5 x176_5 x177_5 x8_5 [(181, s0 1 lh1_5.length), (183, ii ((List.getD lh3_5 (Int.toNat x177_5) (0, 0)).2)), (186, s0 1 lh1_5.length), (187, pp 4 0), (194, s0 5 lh4_5.length)]) ((5, rc encP lh4_5 0 55 2) :: (4, .cells [ii ((List.getD lh3_5 (Int.toNat x177_5) (0, 0)).1), ii ((List.getD lh3_5 (Int.toNat x177_5) (0, 0)).2)] 0 55 0) :: (3, rc encP lh3_5 0 55 2) :: qlc12 lh1_5 lh3_5 lh4_5 xh0_0_5 xh2_0_5 []) 6 (fun xe xσ xh xc => xe = .normal ∧ (xσ, xh, xc) = ((qlc7 lh1_5 lh3_5 x176_5 x177_5 x8_5 []), ((4, rc encP ([(List.getD lh1_5 (Int.toNat ((List.getD lh3_5 (Int.toNat x177_5) (0, 0)).2)) 0, List.getD lh1_5 (Int.toNat ((List.getD lh3_5 (Int.toNat x177_5) (0, 0)).1)) 0)] ++ lh4_5) 0 55 2) :: (3, rc encP lh3_5 0 55 2) :: qlc8 lh1_5 lh3_5 lh4_5 x177_5 xh0_0_5 xh2_0_5 []), 5)) := by
         refine XA.step E0_ok [3, 7] (by kernel_rfl) rfl (by kernel_rfl) ⟨?_, ?_, trivial⟩
         ·refine XR.rd E0_ok [7, 8, 10, 29, 175, 176, 177, 184, 186, 187, 194] rfl (v := pp 1 ((Int.toNat ((List.getD lh3_5 (Int.toNat x177_5) (0, 0)).2)) * 1)) (v_idx (s := 1) (x := (src 272 (.tmp 181))) (y := (src 272 (.tmp 183))) (b := 1) (o := 0) (len := lh1_5.length) (cap := lh1_5.length) (ik := .i64) (i := (List.getD lh3_5 (Int.toNat x177_5) (0, 0)).2) (off := (Int.toNat ((List.getD lh3_5 (Int.toNat x177_5) (0, 0)).2)) * 1) (d := (some (path 12 184))) (by kernel_rfl) (by kernel_rfl) (by kernel_rfl) b3 (by omega)) (σ' := (qlc7 lh1_5 lh3_5 x176_5 x177_5 x8_5 [(184, pp 1 ((Int.toNat ((List.getD lh3_5 (Int.toNat x177_5) (0, 0)).2)) * 1)), (186, s0 1 lh1_5.length), (187, pp 4 0), (194, s0 5 lh4_5.length)])) (by kernel_rfl) ?_
          refine dQ ?_
          refine ⟨rfl, ?_⟩
          show XA _ _ _ _ _ _ _ _ _ _
          exact xa24
         ·refine rS 1 (qlc7 lh1_5 lh3_5 x176_5 x177_5 x8_5 ((181, s0 1 lh1_5.length) :: (183, ii ((List.getD lh3_5 (Int.toNat x177_5) (0, 0)).2)) :: qlc10 lh1_5 lh3_5 x177_5 [(194, s0 5 lh4_5.length)])) ?_
          refine dQ ?_
          refine ⟨rfl, ?_⟩
          show XA _ _ _ _ _ _ _ _ _ _
          refine XA.ren (σ' := (qlc7 lh1_5 lh3_5 x176_5 x177_5 x8_5 ((181, s0 1 lh1_5.length) :: (183, ii ((List.getD lh3_5 (Int.toNat x177_5) (0, 0)).2)) :: qlc10 lh1_5 lh3_5 x177_5 [(194, s0 4 lh4_5.length)]))) (h' := ((4, rc encP lh4_5 0 55 2) :: (3, rc encP lh3_5 0 55 2) :: qlc9 lh1_5 lh3_5 lh4_5 xh0_0_5 xh2_0_5 [])) (c' := 5) [0, 1, 2, 3, 5] (by decide) rfl ⟨rfl, rfl, rfl, rfl, rfl, rfl, rfl, rfl, rfl, rfl, rfl, rfl, trivial⟩ ⟨⟨_, _, rfl, rfl, .inl ⟨rfl, rwP⟩⟩, ⟨_, _, rfl, rfl, .inl ⟨rfl, rwP⟩⟩, ⟨_, _, rfl, rfl, .inr ⟨_, _, _, _, rfl, rfl⟩⟩, ⟨_, _, rfl, rfl, .inl ⟨rfl, rwI⟩⟩, ⟨_, _, rfl, rfl, .inr ⟨_, _, _, _, rfl, rfl⟩⟩, trivial⟩ rfl ?_
          exact xa30
        have xa1 : XA E0 272 0 (opsOf (rgt (lft (lft (rgt (rgt f11_L4)))))) 11 #[true, true, true, false, false, true, true, false, false, false, false, false, true, false, false, false, false] (qlc7 lh1_5 lh3_5 x176_5 x177_5 x8_5 [(181, s0 1 lh1_5.length), (183, ii ((List.getD lh3_5 (Int.toNat x177_5) (0, 0)).2)), (186, s0 1 lh1_5.length), (187, pp 4 0), (193, pp 2 1)]) ((5, rc encP lh4_5 0 55 2) :: (4, .cells [ii ((List.getD lh3_5 (Int.toNat x177_5) (0, 0)).1), ii ((List.getD lh3_5 (Int.toNat x177_5) (0, 0)).2)] 0 55 0) :: (3, rc encP lh3_5 0 55 2) :: qlc12 lh1_5 lh3_5 lh4_5 xh0_0_5 xh2_0_5 []) 6 (fun xe xσ xh xc => xe = .normal ∧ (xσ, xh, xc) = ((qlc7 lh1_5 lh3_5 x176_5 x177_5 x8_5 []), ((4, rc encP ([(List.getD lh1_5 (Int.toNat ((List.getD lh3_5 (Int.toNat x177_5) (0, 0)).2)) 0, List.getD lh1_5 (Int.toNat ((List.getD lh3_5 (Int.toNat x177_5) (0, 0)).1)) 0)] ++ lh4_5) 0 55 2) :: (3, rc encP lh3_5 0 55 2) :: qlc8 lh1_5 lh3_5 lh4_5 x177_5 xh0_0_5 xh2_0_5 []), 5)) := by
         refine XA.step E0_ok [3, 7, 13] (by kernel_rfl) rfl (by kernel_rfl) ⟨?_, ?_, ?_, trivial⟩
         ·refine XR.rd E0_ok [7, 8, 10, 29, 175, 176, 177, 184, 186, 187, 193] rfl (v := pp 1 ((Int.toNat ((List.getD lh3_5 (Int.toNat x177_5) (0, 0)).2)) * 1)) (v_idx (s := 1) (x := (src 272 (.tmp 181))) (y := (src 272 (.tmp 183))) (b := 1) (o := 0) (len := lh1_5.length) (cap := lh1_5.length) (ik := .i64) (i := (List.getD lh3_5 (Int.toNat x177_5) (0, 0)).2) (off := (Int.toNat ((List.getD lh3_5 (Int.toNat x177_5) (0, 0)).2)) * 1) (d := (some (path 12 184))) (by kernel_rfl) (by kernel_rfl) (by kernel_rfl) b3 (by omega)) (σ' := (qlc7 lh1_5 lh3_5 x176_5 x177_5 x8_5 [(184, pp 1 ((Int.toNat ((List.getD lh3_5 (Int.toNat x177_5) (0, 0)).2)) * 1)), (186, s0 1 lh1_5.length), (187, pp 4 0), (193, pp 2 1)])) (by kernel_rfl) ?_
          refine dQ ?_
          refine ⟨rfl, ?_⟩
          show XA _ _ _ _ _ _ _ _ _ _
          exact xa2
         ·refine rS 1 (qlc7 lh1_5 lh3_5 x176_5 x177_5 x8_5 ((181, s0 1 lh1_5.length) :: (183, ii ((List.getD lh3_5 (Int.toNat x177_5) (0, 0)).2)) :: qlc10 lh1_5 lh3_5 x177_5 [(193, pp 2 1)])) ?_
          refine dQ ?_
          refine ⟨rfl, ?_⟩
          show XA _ _ _ _ _ _ _ _ _ _
          refine XA.ren (σ' := (qlc7 lh1_5 lh3_5 x176_5 x177_5 x8_5 ((181, s0 1 lh1_5.length) :: (183, ii ((List.getD lh3_5 (Int.toNat x177_5) (0, 0)).2)) :: qlc10 lh1_5 lh3_5 x177_5 [(193, pp 2 1)]))) (h' := ((4, rc encP lh4_5 0 55 2) :: (3, rc encP lh3_5 0 55 2) :: qlc9 lh1_5 lh3_5 lh4_5 xh0_0_5 xh2_0_5 [])) (c' := 5) [0, 1, 2, 3, 5] (by decide) rfl ⟨rfl, rfl, rfl, rfl, rfl, rfl, rfl, rfl, rfl, rfl, rfl, rfl, trivial⟩ ⟨⟨_, _, rfl, rfl, .inl ⟨rfl, rwP⟩⟩, ⟨_, _, rfl, rfl, .inl ⟨rfl, rwP⟩⟩, ⟨_, _, rfl, rfl, .inr ⟨_, _, _, _, rfl, rfl⟩⟩, ⟨_, _, rfl, rfl, .inl ⟨rfl, rwI⟩⟩, ⟨_, _, rfl, rfl, .inr ⟨_, _, _, _, rfl, rfl⟩⟩, trivial⟩ rfl ?_
          exact xa25
         ·refine rS 1 (qlc7 lh1_5 lh3_5 x176_5 x177_5 x8_5 [(181, s0 1 lh1_5.length), (183, ii ((List.getD lh3_5 (Int.toNat x177_5) (0, 0)).2)), (186, s0 1 lh1_5.length), (187, pp 4 0), (194, s0 5 lh4_5.length)]) ?_
          refine dQ ?_
          refine ⟨rfl, ?_⟩
          show XA _ _ _ _ _ _ _ _ _ _
          exact xa31
        have xa35 : XA E0 272 0 (opsOf (rgt (lft (lft (rgt (rgt f11_L4)))))) 8 #[true, true, false, false, false, true, true, true, true, true, false, false, true, true, false, false, false] (qlc7 lh1_5 lh3_5 x176_5 x177_5 x8_5 ((181, s0 1 lh1_5.length) :: (182, pp 4 1) :: qlc11 lh1_5 lh3_5 x177_5 [(194, s0 5 lh4_5.length)])) ((5, rc encP lh4_5 0 55 2) :: (4, .cells [ii ((List.getD lh3_5 (Int.toNat x177_5) (0, 0)).1), ii ((List.getD lh3_5 (Int.toNat x177_5) (0, 0)).2)] 0 55 0) :: (3, rc encP lh3_5 0 55 2) :: qlc12 lh1_5 lh3_5 lh4_5 xh0_0_5 xh2_0_5 []) 6 (fun xe xσ xh xc => xe = .normal ∧ (xσ, xh, xc) = ((qlc7 lh1_5 lh3_5 x176_5 x177_5 x8_5 []), ((4, rc encP ([(List.getD lh1_5 (Int.toNat ((List.getD lh3_5 (Int.toNat x177_5) (0, 0)).2)) 0, List.getD lh1_5 (Int.toNat ((List.getD lh3_5 (Int.toNat x177_5) (0, 0)).1)) 0)] ++ lh4_5) 0 55 2) :: (3, rc encP lh3_5 0 55 2) :: qlc8 lh1_5 lh3_5 lh4_5 x177_5 xh0_0_5 xh2_0_5 []), 5)) := by
         refine XA.step E0_ok [2] (by kernel_rfl) rfl (by kernel_rfl) ⟨?_, trivial⟩
         ·refine rS 1 (qlc7 lh1_5 lh3_5 x176_5 x177_5 x8_5 ((181, s0 1 lh1_5.length) :: (183, ii ((List.getD lh3_5 (Int.toNat x177_5) (0, 0)).2)) :: qlc11 lh1_5 lh3_5 x177_5 [(194, s0 5 lh4_5.length)])) ?_
          refine dQ ?_
          refine ⟨rfl, ?_⟩
          show XA _ _ _ _ _ _ _ _ _ _
          refine XA.ren (σ' := (qlc7 lh1_5 lh3_5 x176_5 x177_5 x8_5 ((181, s0 1 lh1_5.length) :: (183, ii ((List.getD lh3_5 (Int.toNat x177_5) (0, 0)).2)) :: qlc11 lh1_5 lh3_5 x177_5 [(194, s0 4 lh4_5.length)]))) (h' := ((4, rc encP lh4_5 0 55 2) :: (3, rc encP lh3_5 0 55 2) :: qlc9 lh1_5 lh3_5 lh4_5 xh0_0_5 xh2_0_5 [])) (c' := 5) [0, 1, 2, 3, 5] (by decide) rfl ⟨rfl, rfl, rfl, rfl, rfl, rfl, rfl, rfl, rfl, rfl, rfl, trivial⟩ ⟨⟨_, _, rfl, rfl, .inl ⟨rfl, rwP⟩⟩, ⟨_, _, rfl, rfl, .inl ⟨rfl, rwP⟩⟩, ⟨_, _, rfl, rfl, .inr ⟨_, _, _, _, rfl, rfl⟩⟩, ⟨_, _, rfl, rfl, .inl ⟨rfl, rwI⟩⟩, ⟨_, _, rfl, rfl, .inr ⟨_, _, _, _, rfl, rfl⟩⟩, trivial⟩ rfl ?_
          exact xa28
        have xa34 : XA E0 272 0 (opsOf (rgt (lft (lft (rgt (rgt f11_L4)))))) 9 #[true, true, false, false, false, true, true, true, true, true, false, false, true, false, false, false, false] (qlc7 lh1_5 lh3_5 x176_5 x177_5 x8_5 ((181, s0 1 lh1_5.length) :: (182, pp 4 1) :: qlc11 lh1_5 lh3_5 x177_5 [(193, pp 2 1)])) ((5, rc encP lh4_5 0 55 2) :: (4, .cells [ii ((List.getD lh3_5 (Int.toNat x177_5) (0, 0)).1), ii ((List.getD lh3_5 (Int.toNat x177_5) (0, 0)).2)] 0 55 0) :: (3, rc encP lh3_5 0 55 2) :: qlc12 lh1_5 lh3_5 lh4_5 xh0_0_5 xh2_0_5 []) 6 (fun xe xσ xh xc => xe = .normal ∧ (xσ, xh, xc) = ((qlc7 lh1_5 lh3_5 x176_5 x177_5 x8_5 []), ((4, rc encP ([(List.getD lh1_5 (Int.toNat ((List.getD lh3_5 (Int.toNat x177_5) (0, 0)).2)) 0, List.getD lh1_5 (Int.toNat ((List.getD lh3_5 (Int.toNat x177_5) (0, 0)).1)) 0)] ++ lh4_5) 0 55 2) :: (3, rc encP lh3_5 0 55 2) :: qlc8 lh1_5 lh3_5 lh4_5 x177_5 xh0_0_5 xh2_0_5 []), 5)) := by
         refine XA.step E0_ok [2, 13] (by kernel_rfl) rfl (by kernel_rfl) ⟨?_, ?_, trivial⟩
         ·refine rS 1 (qlc7 lh1_5 lh3_5 x176_5 x177_5 x8_5 ((181, s0 1 lh1_5.length) :: (183, ii ((List.getD lh3_5 (Int.toNat x177_5) (0, 0)).2)) :: qlc11 lh1_5 lh3_5 x177_5 [(193, pp 2 1)])) ?_
          refine dQ ?_
          refine ⟨rfl, ?_⟩
          show XA _ _ _ _ _ _ _ _ _ _
          refine XA.ren (σ' := (qlc7 lh1_5 lh3_5 x176_5 x177_5 x8_5 ((181, s0 1 lh1_5.length) :: (183, ii ((List.getD lh3_5 (Int.toNat x177_5) (0, 0)).2)) :: qlc11 lh1_5 lh3_5 x177_5 [(193, pp 2 1)]))) (h' := ((4, rc encP lh4_5 0 55 2) :: (3, rc encP lh3_5 0 55 2) :: qlc9 lh1_5 lh3_5 lh4_5 xh0_0_5 xh2_0_5 [])) (c' := 5) [0, 1, 2, 3, 5] (by decide) rfl ⟨rfl, rfl, rfl, rfl, rfl, rfl, rfl, rfl, rfl, rfl, rfl, trivial⟩ ⟨⟨_, _, rfl, rfl, .inl ⟨rfl, rwP⟩⟩, ⟨_, _, rfl, rfl, .inl ⟨rfl, rwP⟩⟩, ⟨_, _, rfl, rfl, .inr ⟨_, _, _, _, rfl, rfl⟩⟩, ⟨_, _, rfl, rfl, .inl ⟨rfl, rwI⟩⟩, ⟨_, _, rfl, rfl, .inr ⟨_, _, _, _, rfl, rfl⟩⟩, trivial⟩ rfl ?_
          exact xa27
         ·refine rS 1 (qlc7 lh1_5 lh3_5 x176_5 x177_5 x8_5 ((181, s0 1 lh1_5.length) :: (182, pp 4 1) :: qlc11 lh1_5 lh3_5 x177_5 [(194, s0 5 lh4_5.length)])) ?_
          refine dQ ?_
          refine ⟨rfl, ?_⟩
          show XA _ _ _ _ _ _ _ _ _ _
          exact xa35
        have xa36 : XA E0 272 0 (opsOf (rgt (lft (lft (rgt (rgt f11_L4)))))) 9 #[true, true, false, false, false, true, true, true, true, false, false, false, true, true, false, false, false] (qlc7 lh1_5 lh3_5 x176_5 x177_5 x8_5 ((181, s0 1 lh1_5.length) :: (182, pp 4 1) :: qlc13 lh3_5 x177_5 [(194, s0 5 lh4_5.length)])) ((5, rc encP lh4_5 0 55 2) :: (4, .cells [ii ((List.getD lh3_5 (Int.toNat x177_5) (0, 0)).1), ii ((List.getD lh3_5 (Int.toNat x177_5) (0, 0)).2)] 0 55 0) :: (3, rc encP lh3_5 0 55 2) :: qlc12 lh1_5 lh3_5 lh4_5 xh0_0_5 xh2_0_5 []) 6 (fun xe xσ xh xc => xe = .normal ∧ (xσ, xh, xc) = ((qlc7 lh1_5 lh3_5 x176_5 x177_5 x8_5 []), ((4, rc encP ([(List.getD lh1_5 (Int.toNat ((List.getD lh3_5 (Int.toNat x177_5) (0, 0)).2)) 0, List.getD lh1_5 (Int.toNat ((List.getD lh3_5 (Int.toNat x177_5) (0, 0)).1)) 0)] ++ lh4_5) 0 55 2) :: (3, rc encP lh3_5 0 55 2) :: qlc8 lh1_5 lh3_5 lh4_5 x177_5 xh0_0_5 xh2_0_5 []), 5)) := by
         refine XA.step E0_ok [2, 9] (by kernel_rfl) rfl (by kernel_rfl) ⟨?_, ?_, trivial⟩
         ·refine rS 1 (qlc7 lh1_5 lh3_5 x176_5 x177_5 x8_5 ((181, s0 1 lh1_5.length) :: (183, ii ((List.getD lh3_5 (Int.toNat x177_5) (0, 0)).2)) :: qlc13 lh3_5 x177_5 [(194, s0 5 lh4_5.length)])) ?_
          refine dQ ?_
          refine ⟨rfl, ?_⟩
          show XA _ _ _ _ _ _ _ _ _ _
          refine XA.ren (σ' := (qlc7 lh1_5 lh3_5 x176_5 x177_5 x8_5 ((181, s0 1 lh1_5.length) :: (183, ii ((List.getD lh3_5 (Int.toNat x177_5) (0, 0)).2)) :: qlc13 lh3_5 x177_5 [(194, s0 4 lh4_5.length)]))) (h' := ((4, rc encP lh4_5 0 55 2) :: (3, rc encP lh3_5 0 55 2) :: qlc9 lh1_5 lh3_5 lh4_5 xh0_0_5 xh2_0_5 [])) (c' := 5) [0, 1, 2, 3, 5] (by decide) rfl ⟨rfl, rfl, rfl, rfl, rfl, rfl, rfl, rfl, rfl, rfl, rfl, trivial⟩ ⟨⟨_, _, rfl, rfl, .inl ⟨rfl, rwP⟩⟩, ⟨_, _, rfl, rfl, .inl ⟨rfl, rwP⟩⟩, ⟨_, _, rfl, rfl, .inr ⟨_, _, _, _, rfl, rfl⟩⟩, ⟨_, _, rfl, rfl, .inl ⟨rfl, rwI⟩⟩, ⟨_, _, rfl, rfl, .inr ⟨_, _, _, _, rfl, rfl⟩⟩, trivial⟩ rfl ?_
          exact xa29
         ·refine XR.rd E0_ok [7, 8, 10, 29, 175, 176, 177, 181, 182, 190, 194] rfl (v := ii (List.getD lh1_5 (Int.toNat ((List.getD lh3_5 (Int.toNat x177_5) (0, 0)).1)) 0)) (v_load1 (encI_ok .i64) (x := (src 272 (.tmp 189))) (b := 1) (off := (Int.toNat ((List.getD lh3_5 (Int.toNat x177_5) (0, 0)).1)) * 1) (xs := lh1_5) (fz := 0) (e := 3) (es := 1) (d := (some (path 12 190))) (by kernel_rfl) (by kernel_rfl) (by kernel_rfl) (Int.toNat ((List.getD lh3_5 (Int.toNat x177_5) (0, 0)).1)) 0 0 (by first | with_reducible rfl | omega | rfl) (row_len (inRow_toNat b4) (by simp)) rfl rfl) (σ' := (qlc7 lh1_5 lh3_5 x176_5 x177_5 x8_5 ((181, s0 1 lh1_5.length) :: (182, pp 4 1) :: qlc11 lh1_5 lh3_5 x177_5 [(194, s0 5 lh4_5.length)]))) (by kernel_rfl) ?_
          refine dQ ?_
          refine ⟨rfl, ?_⟩
          show XA _ _ _ _ _ _ _ _ _ _
          exact xa35
        have xa33 : XA E0 272 0 (opsOf (rgt (lft (lft (rgt (rgt f11_L4)))))) 10 #[true, true, false, false, false, true, true, true, true, false, false, false, true, false, false, false, false] (qlc7 lh1_5 lh3_5 x176_5 x177_5 x8_5 ((181, s0 1 lh1_5.length) :: (182, pp 4 1) :: qlc13 lh3_5 x177_5 [(193, pp 2 1)])) ((5, rc encP lh4_5 0 55 2) :: (4, .cells [ii ((List.getD lh3_5 (Int.toNat x177_5) (0, 0)).1), ii ((List.getD lh3_5 (Int.toNat x177_5) (0, 0)).2)] 0 55 0) :: (3, rc encP lh3_5 0 55 2) :: qlc12 lh1_5 lh3_5 lh4_5 xh0_0_5 xh2_0_5 []) 6 (fun xe xσ xh xc => xe = .normal ∧ (xσ, xh, xc) = ((qlc7 lh1_5 lh3_5 x176_5 x177_5 x8_5 []), ((4, rc encP ([(List.getD lh1_5 (Int.toNat ((List.getD lh3_5 (Int.toNat x177_5) (0, 0)).2)) 0, List.getD lh1_5 (Int.toNat ((List.getD lh3_5 (Int.toNat x177_5) (0, 0)).1)) 0)] ++ lh4_5) 0 55 2) :: (3, rc encP lh3_5 0 55 2) :: qlc8 lh1_5 lh3_5 lh4_5 x177_5 xh0_0_5 xh2_0_5 []), 5)) := by
         refine XA.step E0_ok [2, 9, 13] (by kernel_rfl) rfl (by kernel_rfl) ⟨?_, ?_, ?_, trivial⟩
         ·refine rS 1 (qlc7 lh1_5 lh3_5 x176_5 x177_5 x8_5 ((181, s0 1 lh1_5.length) :: (183, ii ((List.getD lh3_5 (Int.toNat x177_5) (0, 0)).2)) :: qlc13 lh3_5 x177_5 [(193, pp 2 1)])) ?_
          refine dQ ?_
          refine ⟨rfl, ?_⟩
          show XA _ _ _ _ _ _ _ _ _ _
          refine XA.ren (σ' := (qlc7 lh1_5 lh3_5 x176_5 x177_5 x8_5 ((181, s0 1 lh1_5.length) :: (183, ii ((List.getD lh3_5 (Int.toNat x177_5) (0, 0)).2)) :: qlc13 lh3_5 x177_5 [(193, pp 2 1)]))) (h' := ((4, rc encP lh4_5 0 55 2) :: (3, rc encP lh3_5 0 55 2) :: qlc9 lh1_5 lh3_5 lh4_5 xh0_0_5 xh2_0_5 [])) (c' := 5) [0, 1, 2, 3, 5] (by decide) rfl ⟨rfl, rfl, rfl, rfl, rfl, rfl, rfl, rfl, rfl, rfl, rfl, trivial⟩ ⟨⟨_, _, rfl, rfl, .inl ⟨rfl, rwP⟩⟩, ⟨_, _, rfl, rfl, .inl ⟨rfl, rwP⟩⟩, ⟨_, _, rfl, rfl, .inr ⟨_, _, _, _, rfl, rfl⟩⟩, ⟨_, _, rfl, rfl, .inl ⟨rfl, rwI⟩⟩, ⟨_, _, rfl, rfl, .inr ⟨_, _, _, _, rfl, rfl⟩⟩, trivial⟩ rfl ?_
          exact xa26
         ·refine XR.rd E0_ok [7, 8, 10, 29, 175, 176, 177, 181, 182, 190, 193] rfl (v := ii (List.getD lh1_5 (Int.toNat ((List.getD lh3_5 (Int.toNat x177_5) (0, 0)).1)) 0)) (v_load1 (encI_ok .i64) (x := (src 272 (.tmp 189))) (b := 1) (off := (Int.toNat ((List.getD lh3_5 (Int.toNat x177_5) (0, 0)).1)) * 1) (xs := lh1_5) (fz := 0) (e := 3) (es := 1) (d := (some (path 12 190))) (by kernel_rfl) (by kernel_rfl) (by kernel_rfl) (Int.toNat ((List.getD lh3_5 (Int.toNat x177_5) (0, 0)).1)) 0 0 (by first | with_reducible rfl | omega | rfl) (row_len (inRow_toNat b4) (by simp)) rfl rfl) (σ' := (qlc7 lh1_5 lh3_5 x176_5 x177_5 x8_5 ((181, s0 1 lh1_5.length) :: (182, pp 4 1) :: qlc11 lh1_5 lh3_5 x177_5 [(193, pp 2 1)]))) (by kernel_rfl) ?_
          refine dQ ?_
          refine ⟨rfl, ?_⟩
          show XA _ _ _ _ _ _ _ _ _ _
          exact xa34
         ·refine rS 1 (qlc7 lh1_5 lh3_5 x176_5 x177_5 x8_5 ((181, s0 1 lh1_5.length) :: (182, pp 4 1) :: qlc13 lh3_5 x177_5 [(194, s0 5 lh4_5.length)])) ?_
          refine dQ ?_
          refine ⟨rfl, ?_⟩
          show XA _ _ _ _ _ _ _ _ _ _
          exact xa36
        have xa37 : XA E0 272 0 (opsOf (rgt (lft (lft (rgt (rgt f11_L4)))))) 10 #[true, true, false, false, false, true, true, true, false, false, false, false, true, true, false, false, false] (qlc7 lh1_5 lh3_5 x176_5 x177_5 x8_5 ((181, s0 1 lh1_5.length) :: (182, pp 4 1) :: qlc10 lh1_5 lh3_5 x177_5 [(194, s0 5 lh4_5.length)])) ((5, rc encP lh4_5 0 55 2) :: (4, .cells [ii ((List.getD lh3_5 (Int.toNat x177_5) (0, 0)).1), ii ((List.getD lh3_5 (Int.toNat x177_5) (0, 0)).2)] 0 55 0) :: (3, rc encP lh3_5 0 55 2) :: qlc12 lh1_5 lh3_5 lh4_5 xh0_0_5 xh2_0_5 []) 6 (fun xe xσ xh xc => xe = .normal ∧ (xσ, xh, xc) = ((qlc7 lh1_5 lh3_5 x176_5 x177_5 x8_5 []), ((4, rc encP ([(List.getD lh1_5 (Int.toNat ((List.getD lh3_5 (Int.toNat x177_5) (0, 0)).2)) 0, List.getD lh1_5 (Int.toNat ((List.getD lh3_5 (Int.toNat x177_5) (0, 0)).1)) 0)] ++ lh4_5) 0 55 2) :: (3, rc encP lh3_5 0 55 2) :: qlc8 lh1_5 lh3_5 lh4_5 x177_5 xh0_0_5 xh2_0_5 []), 5)) := by
         refine XA.step E0_ok [2, 8] (by kernel_rfl) rfl (by kernel_rfl) ⟨?_, ?_, trivial⟩
         ·refine rS 1 (qlc7 lh1_5 lh3_5 x176_5 x177_5 x8_5 ((181, s0 1 lh1_5.length) :: (183, ii ((List.getD lh3_5 (Int.toNat x177_5) (0, 0)).2)) :: qlc10 lh1_5 lh3_5 x177_5 [(194, s0 5 lh4_5.length)])) ?_
          refine dQ ?_
          refine ⟨rfl, ?_⟩
          show XA _ _ _ _ _ _ _ _ _ _
          refine XA.ren (σ' := (qlc7 lh1_5 lh3_5 x176_5 x177_5 x8_5 ((181, s0 1 lh1_5.length) :: (183, ii ((List.getD lh3_5 (Int.toNat x177_5) (0, 0)).2)) :: qlc10 lh1_5 lh3_5 x177_5 [(194, s0 4 lh4_5.length)]))) (h' := ((4, rc encP lh4_5 0 55 2) :: (3, rc encP lh3_5 0 55 2) :: qlc9 lh1_5 lh3_5 lh4_5 xh0_0_5 xh2_0_5 [])) (c' := 5) [0, 1, 2, 3, 5] (by decide) rfl ⟨rfl, rfl, rfl, rfl, rfl, rfl, rfl, rfl, rfl, rfl, rfl, rfl, trivial⟩ ⟨⟨_, _, rfl, rfl, .inl ⟨rfl, rwP⟩⟩, ⟨_, _, rfl, rfl, .inl ⟨rfl, rwP⟩⟩, ⟨_, _, rfl, rfl, .inr ⟨_, _, _, _, rfl, rfl⟩⟩, ⟨_, _, rfl, rfl, .inl ⟨rfl, rwI⟩⟩, ⟨_, _, rfl, rfl, .inr ⟨_, _, _, _, rfl, rfl⟩⟩, trivial⟩ rfl ?_
          exact xa30
         ·refine XR.rd E0_ok [7, 8, 10, 29, 175, 176, 177, 181, 182, 189, 194] rfl (v := pp 1 ((Int.toNat ((List.getD lh3_5 (Int.toNat x177_5) (0, 0)).1)) * 1)) (v_idx (s := 1) (x := (src 272 (.tmp 186))) (y := (src 272 (.tmp 188))) (b := 1) (o := 0) (len := lh1_5.length) (cap := lh1_5.length) (ik := .i64) (i := (List.getD lh3_5 (Int.toNat x177_5) (0, 0)).1) (off := (Int.toNat ((List.getD lh3_5 (Int.toNat x177_5) (0, 0)).1)) * 1) (d := (some (path 12 189))) (by kernel_rfl) (by kernel_rfl) (by kernel_rfl) b4 (by omega)) (σ' := (qlc7 lh1_5 lh3_5 x176_5 x177_5 x8_5 ((181, s0 1 lh1_5.length) :: (182, pp 4 1) :: qlc13 lh3_5 x177_5 [(194, s0 5 lh4_5.length)]))) (by kernel_rfl) ?_
          refine dQ ?_
          refine ⟨rfl, ?_⟩
          show XA _ _ _ _ _ _ _ _ _ _
          exact xa36
        have xa32 : XA E0 272 0 (opsOf (rgt (lft (lft (rgt (rgt f11_L4)))))) 11 #[true, true, false, false, false, true, true, true, false, false, false, false, true, false, false, false, false] (qlc7 lh1_5 lh3_5 x176_5 x177_5 x8_5 ((181, s0 1 lh1_5.length) :: (182, pp 4 1) :: qlc10 lh1_5 lh3_5 x177_5 [(193, pp 2 1)])) ((5, rc encP lh4_5 0 55 2) :: (4, .cells [ii ((List.getD lh3_5 (Int.toNat x177_5) (0, 0)).1), ii ((List.getD lh3_5 (Int.toNat x177_5) (0, 0)).2)] 0 55 0) :: (3, rc encP lh3_5 0 55 2) :: qlc12 lh1_5 lh3_5 lh4_5 xh0_0_5 xh2_0_5 []) 6 (fun xe xσ xh xc => xe = .normal ∧ (xσ, xh, xc) = ((qlc7 lh1_5 lh3_5 x176_5 x177_5 x8_5 []), ((4, rc encP ([(List.getD lh1_5 (Int.toNat ((List.getD lh3_5 (Int.toNat x177_5) (0, 0)).2)) 0, List.getD lh1_5 (Int.toNat ((List.getD lh3_5 (Int.toNat x177_5) (0, 0)).1)) 0)] ++ lh4_5) 0 55 2) :: (3, rc encP lh3_5 0 55 2) :: qlc8 lh1_5 lh3_5 lh4_5 x177_5 xh0_0_5 xh2_0_5 []), 5)) := by
         refine XA.step E0_ok [2, 8, 13] (by kernel_rfl) rfl (by kernel_rfl) ⟨?_, ?_, ?_, trivial⟩
         ·refine rS 1 (qlc7 lh1_5 lh3_5 x176_5 x177_5 x8_5 ((181, s0 1 lh1_5.length) :: (183, ii ((List.getD lh3_5 (Int.toNat x177_5) (0, 0)).2)) :: qlc10 lh1_5 lh3_5 x177_5 [(193, pp 2 1)])) ?_
          refine dQ ?_
          refine ⟨rfl, ?_⟩
          show XA _ _ _ _ _ _ _ _ _ _
          refine XA.ren (σ' := (qlc7 lh1_5 lh3_5 x176_5 x177_5 x8_5 ((181, s0 1 lh1_5.length) :: (183, ii ((List.getD lh3_5 (Int.toNat x177_5) (0, 0)).2)) :: qlc10 lh1_5 lh3_5 x177_5 [(193, pp 2 1)]))) (h' := ((4, rc encP lh4_5 0 55 2) :: (3, rc encP lh3_5 0 55 2) :: qlc9 lh1_5 lh3_5 lh4_5 xh0_0_5 xh2_0_5 [])) (c' := 5) [0, 1, 2, 3, 5] (by decide) rfl ⟨rfl, rfl, rfl, rfl, rfl, rfl, rfl, rfl, rfl, rfl, rfl, rfl, trivial⟩ ⟨⟨_, _, rfl, rfl, .inl ⟨rfl, rwP⟩⟩, ⟨_, _, rfl, rfl, .inl ⟨rfl, rwP⟩⟩, ⟨_, _, rfl, rfl, .inr ⟨_, _, _, _, rfl, rfl⟩⟩, ⟨_, _, rfl, rfl, .inl ⟨rfl, rwI⟩⟩, ⟨_, _, rfl, rfl, .inr ⟨_, _, _, _, rfl, rfl⟩⟩, trivial⟩ rfl ?_
          exact xa25
         ·refine XR.rd E0_ok [7, 8, 10, 29, 175, 176, 177, 181, 182, 189, 193] rfl (v := pp 1 ((Int.toNat ((List.getD lh3_5 (Int.toNat x177_5) (0, 0)).1)) * 1)) (v_idx (s := 1) (x := (src 272 (.tmp 186))) (y := (src 272 (.tmp 188))) (b := 1) (o := 0) (len := lh1_5.length) (cap := lh1_5.length) (ik := .i64) (i := (List.getD lh3_5 (Int.toNat x177_5) (0, 0)).1) (off := (Int.toNat ((List.getD lh3_5 (Int.toNat x177_5) (0, 0)).1)) * 1) (d := (some (path 12 189))) (by kernel_rfl) (by kernel_rfl) (by kernel_rfl) b4 (by omega)) (σ' := (qlc7 lh1_5 lh3_5 x176_5 x177_5 x8_5 ((181, s0 1 lh1_5.length) :: (182, pp 4 1) :: qlc13 lh3_5 x177_5 [(193, pp 2 1)]))) (by kernel_rfl) ?_
          refine dQ ?_
          refine ⟨rfl, ?_⟩
          show XA _ _ _ _ _ _ _ _ _ _
          exact xa33
         ·refine rS 1 (qlc7 lh1_5 lh3_5 x176_5 x177_5 x8_5 ((181, s0 1 lh1_5.length) :: (182, pp 4 1) :: qlc10 lh1_5 lh3_5 x177_5 [(194, s0 5 lh4_5.length)])) ?_
          refine dQ ?_
          refine ⟨rfl, ?_⟩
          show XA _ _ _ _ _ _ _ _ _ _
          exact xa37
        have xa38 : XA E0 272 0 (opsOf (rgt (lft (lft (rgt (rgt f11_L4)))))) 11 #[true, true, false, false, false, true, true, false, false, false, false, false, true, true, false, false, false] (qlc7 lh1_5 lh3_5 x176_5 x177_5 x8_5 [(181, s0 1 lh1_5.length), (182, pp 4 1), (186, s0 1 lh1_5.length), (187, pp 4 0), (194, s0 5 lh4_5.length)]) ((5, rc encP lh4_5 0 55 2) :: (4, .cells [ii ((List.getD lh3_5 (Int.toNat x177_5) (0, 0)).1), ii ((List.getD lh3_5 (Int.toNat x177_5) (0, 0)).2)] 0 55 0) :: (3, rc encP lh3_5 0 55 2) :: qlc12 lh1_5 lh3_5 lh4_5 xh0_0_5 xh2_0_5 []) 6 (fun xe xσ xh xc => xe = .normal ∧ (xσ, xh, xc) = ((qlc7 lh1_5 lh3_5 x176_5 x177_5 x8_5 []), ((4, rc encP ([(List.getD lh1_5 (Int.toNat ((List.getD lh3_5 (Int.toNat x177_5) (0, 0)).2)) 0, List.getD lh1_5 (Int.toNat ((List.getD lh3_5 (Int.toNat x177_5) (0, 0)).1)) 0)] ++ lh4_5) 0 55 2) :: (3, rc encP lh3_5 0 55 2) :: qlc8 lh1_5 lh3_5 lh4_5 x177_5 xh0_0_5 xh2_0_5 []), 5)) := by
         refine XA.step E0_ok [2, 7] (by kernel_rfl) rfl (by kernel_rfl) ⟨?_, ?_, trivial⟩
         ·refine rS 1 (qlc7 lh1_5 lh3_5 x176_5 x177_5 x8_5 [(181, s0 1 lh1_5.length), (183, ii ((List.getD lh3_5 (Int.toNat x177_5) (0, 0)).2)), (186, s0 1 lh1_5.length), (187, pp 4 0), (194, s0 5 lh4_5.length)]) ?_
          refine dQ ?_
          refine ⟨rfl, ?_⟩
          show XA _ _ _ _ _ _ _ _ _ _
          exact xa31
         ·refine rS 1 (qlc7 lh1_5 lh3_5 x176_5 x177_5 x8_5 ((181, s0 1 lh1_5.length) :: (182, pp 4 1) :: qlc10 lh1_5 lh3_5 x177_5 [(194, s0 5 lh4_5.length)])) ?_
          refine dQ ?_
          refine ⟨rfl, ?_⟩
          show XA _ _ _ _ _ _ _ _ _ _
          exact xa37
        have xa0 : XA E0 272 0 (opsOf (rgt (lft (lft (rgt (rgt f11_L4)))))) 12 #[true, true, false, false, false, true, true, false, false, false, false, false, true, false, false, false, false] (qlc7 lh1_5 lh3_5 x176_5 x177_5 x8_5 [(181, s0 1 lh1_5.length), (182, pp 4 1), (186, s0 1 lh1_5.length), (187, pp 4 0), (193, pp 2 1)]) ((5, rc encP lh4_5 0 55 2) :: (4, .cells [ii ((List.getD lh3_5 (Int.toNat x177_5) (0, 0)).1), ii ((List.getD lh3_5 (Int.toNat x177_5) (0, 0)).2)] 0 55 0) :: (3, rc encP lh3_5 0 55 2) :: qlc12 lh1_5 lh3_5 lh4_5 xh0_0_5 xh2_0_5 []) 6 (fun xe xσ xh xc => xe = .normal ∧ (xσ, xh, xc) = ((qlc7 lh1_5 lh3_5 x176_5 x177_5 x8_5 []), ((4, rc encP ([(List.getD lh1_5 (Int.toNat ((List.getD lh3_5 (Int.toNat x177_5) (0, 0)).2)) 0, List.getD lh1_5 (Int.toNat ((List.getD lh3_5 (Int.toNat x177_5) (0, 0)).1)) 0)] ++ lh4_5) 0 55 2) :: (3, rc encP lh3_5 0 55 2) :: qlc8 lh1_5 lh3_5 lh4_5 x177_5 xh0_0_5 xh2_0_5 []), 5)) := by
         refine XA.step E0_ok [2, 7, 13] (by kernel_rfl) rfl (by kernel_rfl) ⟨?_, ?_, ?_, trivial⟩
         ·refine rS 1 (qlc7 lh1_5 lh3_5 x176_5 x177_5 x8_5 [(181, s0 1 lh1_5.length), (183, ii ((List.getD lh3_5 (Int.toNat x177_5) (0, 0)).2)), (186, s0 1 lh1_5.length), (187, pp 4 0), (193, pp 2 1)]) ?_
          refine dQ ?_
          refine ⟨rfl, ?_⟩
          show XA _ _ _ _ _ _ _ _ _ _
          exact xa1
         ·refine rS 1 (qlc7 lh1_5 lh3_5 x176_5 x177_5 x8_5 ((181, s0 1 lh1_5.length) :: (182, pp 4 1) :: qlc10 lh1_5 lh3_5 x177_5 [(193, pp 2 1)])) ?_
          refine dQ ?_
          refine ⟨rfl, ?_⟩
          show XA _ _ _ _ _ _ _ _ _ _
          exact xa32
         ·refine rS 1 (qlc7 lh1_5 lh3_5 x176_5 x177_5 x8_5 [(181, s0 1 lh1_5.length), (182, pp 4 1), (186, s0 1 lh1_5.length), (187, pp 4 0), (194, s0 5 lh4_5.length)]) ?_
          refine dQ ?_
          refine ⟨rfl, ?_⟩
          show XA _ _ _ _ _ _ _ _ _ _
          exact xa38
        refine XP.step E0_ok 5 [7, 8, 10, 29, 175, 176, 177, 181, 182, 186, 187, 193] rfl (σ' := (qlc7 lh1_5 lh3_5 x176_5 x177_5 x8_5 [(181, s0 1 lh1_5.length), (182, pp 5 1), (186, s0 1 lh1_5.length), (187, pp 5 0), (193, pp 2 1)])) (by kernel_rfl) ?_
        refine XP.done (by kernel_rfl) ?_
        show XA _ _ _ _ _ _ _ _ _ _
        refine XA.ren (σ' := (qlc7 lh1_5 lh3_5 x176_5 x177_5 x8_5 [(181, s0 1 lh1_5.length), (182, pp 4 1), (186, s0 1 lh1_5.length), (187, pp 4 0), (193, pp 2 1)])) (h' := ((5, rc encP lh4_5 0 55 2) :: (4, .cells [ii ((List.getD lh3_5 (Int.toNat x177_5) (0, 0)).1), ii ((List.getD lh3_5 (Int.toNat x177_5) (0, 0)).2)] 0 55 0) :: (3, rc encP lh3_5 0 55 2) :: qlc12 lh1_5 lh3_5 lh4_5 xh0_0_5 xh2_0_5 [])) (c' := 6) [0, 1, 2, 3, 5, 4] (by decide) rfl ⟨rfl, rfl, rfl, rfl, rfl, rfl, rfl, rfl, rfl, rfl, rfl, rfl, trivial⟩ ⟨⟨_, _, rfl, rfl, .inl ⟨rfl, rwP⟩⟩, ⟨_, _, rfl, rfl, .inr ⟨_, _, _, _, rfl, rfl⟩⟩, ⟨_, _, rfl, rfl, .inl ⟨rfl, rwP⟩⟩, ⟨_, _, rfl, rfl, .inr ⟨_, _, _, _, rfl, rfl⟩⟩, ⟨_, _, rfl, rfl, .inl ⟨rfl, rwI⟩⟩, ⟨_, _, rfl, rfl, .inr ⟨_, _, _, _, rfl, rfl⟩⟩, trivial⟩ rfl ?_
        exact xa0
  | false =>
   have h := cF b1 h
   refine iF (.tmp 178) ?_
   refine XQ.ren (σ' := [(7, pp 0 0), (8, ii x8_5), (10, s0 1 lh1_5.length), (29, pp 2 0)]) (h' := ((4, rc encP lh4_5 0 55 2) :: (3, rc encP lh3_5 0 55 2) :: qlc9 lh1_5 lh3_5 lh4_5 xh0_0_5 xh2_0_5 [])) (c' := 5) [0, 1, 2, 3, 4] (by decide) rfl ⟨rfl, rfl, rfl, rfl, trivial⟩ ⟨⟨_, _, rfl, rfl, .inl ⟨rfl, rwP⟩⟩, ⟨_, _, rfl, rfl, .inl ⟨rfl, rwP⟩⟩, ⟨_, _, rfl, rfl, .inr ⟨_, _, _, _, rfl, rfl⟩⟩, ⟨_, _, rfl, rfl, .inl ⟨rfl, rwI⟩⟩, ⟨_, _, rfl, rfl, .inr ⟨_, _, _, _, rfl, rfl⟩⟩, trivial⟩ rfl ?_
   refine XQ.exit (i := 6) (by kernel_rfl) ?_
   cases h
   exact hQ
inductive Of11_6 where
 | r
 | x8
def f11_6 (m : Nat) : Nat → Int → Int → List Int → List Int → List Int → Option Of11_6
 | 0, _, _, _, _, _ => none
 | fuel + 1, x254_6, x255_6, lh0_6, lh1_6, lh2_6 =>
  cond (decide (x255_6 < x254_6)) (
   cond (inRow x255_6 lh1_6.length) (
    cond (inRow x255_6 lh0_6.length) (
     cond (inRow (List.getD lh0_6 (Int.toNat x255_6) 0) lh2_6.length) (
      cond ((List.getD lh1_6 (Int.toNat x255_6) 0) != (List.getD lh2_6 (Int.toNat (List.getD lh0_6 (Int.toNat x255_6) 0)) 0)) (
       some (.r)
      ) (
       f11_6 m fuel x254_6 (w64 (x255_6 + 1)) lh0_6 lh1_6 lh2_6
      )
     ) none
    ) none
   ) none
  ) (
   some (.x8)
  )

abbrev qlc15 (lh0_6 : List Int) (lh1_6 : List Int) (lh2_6 : List Int) (t : St) : St := (10, s0 0 lh0_6.length) :: (32, s0 1 lh1_6.length) :: (33, s0 2 lh2_6.length) :: t
theorem f11_6_ok (m : Nat) : ∀ (fuel : Nat) (x254_6 : Int) (x255_6 : Int) (lh0_6 : List Int) (lh1_6 : List Int) (lh2_6 : List Int) (o : Of11_6), f11_6 m fuel x254_6 x255_6 lh0_6 lh1_6 lh2_6 = some o → ∀ Q : QP, (match o with | .r => Q .ret [(6, .bool false)] [] 0 | .x8 => Q (.exit 8) [] [] 0) → XL E0 272 0 fuel f11_L5 (qlc15 lh0_6 lh1_6 lh2_6 [(254, ii x254_6), (255, ii x255_6)]) [(2, rI lh2_6), (1, rI lh1_6), (0, rI lh0_6)] 3 Q
 | 0, x254_6, x255_6, lh0_6, lh1_6, lh2_6, o, h, Q, hQ => by cases h
 | fuel + 1, x254_6, x255_6, lh0_6, lh1_6, lh2_6, o, h, Q, hQ => by
  unfold f11_6 at h
  refine XL.succ E0_ok ?_
  refine qQ ?_
  refine rS 1 (qlc15 lh0_6 lh1_6 lh2_6 [(254, ii x254_6), (255, ii x255_6), (256, .bool (decide (x255_6 < x254_6)))]) ?_
  refine dQ ?_
  show XQ _ _ _ _ _ _ _ _
  refine sQ ?_
  cases b1 : (decide (x255_6 < x254_6) : Bool) with
  | true =>
   have h := cT b1 h
   refine iT (.tmp 256) ?_
   refine kQ ?_
   show XQ _ _ _ _ _ _ _ _
   refine sQ ?_
   refine XQ.block (id := 9) (by kernel_rfl) ?_
   refine qQ ?_
   refine rS 2 (qlc15 lh0_6 lh1_6 lh2_6 [(36, ii x255_6), (254, ii x254_6), (255, ii x255_6)]) ?_
   refine dQ ?_
   show XQ _ _ _ _ _ _ _ _
   refine sQ ?_
   refine XQ.quiet E0_ok (by kernel_rfl) (by kernel_rfl) ?_
   refine XU.run E0_ok 1 2 [10, 32, 33, 36, 254, 255, 258, 259] rfl (σ' := (qlc15 lh0_6 lh1_6 lh2_6 [(36, ii x255_6), (254, ii x254_6), (255, ii x255_6), (258, s0 1 lh1_6.length), (259, ii x255_6)])) (by kernel_rfl) ?_
   cases b2 : (inRow x255_6 lh1_6.length : Bool) with
   | false => cases (cF b2 h)
   | true =>
    have h := cT b2 h
    refine XU.rd E0_ok [10, 32, 33, 36, 254, 255, 260] rfl (v := pp 1 ((Int.toNat x255_6) * 1)) (v_idx (s := 1) (x := (src 272 (.tmp 258))) (y := (src 272 (.tmp 259))) (b := 1) (o := 0) (len := lh1_6.length) (cap := lh1_6.length) (ik := .i64) (i := x255_6) (off := (Int.toNat x255_6) * 1) (d := (some (path 12 260))) (by kernel_rfl) (by kernel_rfl) (by kernel_rfl) b2 (by omega)) (σ' := (qlc15 lh0_6 lh1_6 lh2_6 [(36, ii x255_6), (254, ii x254_6), (255, ii x255_6), (260, pp 1 ((Int.toNat x255_6) * 1))])) (by kernel_rfl) ?_
    refine XU.rd E0_ok [10, 32, 33, 36, 254, 255, 261] rfl (v := ii (List.getD lh1_6 (Int.toNat x255_6) 0)) (v_load1 (encI_ok .i64) (x := (src 272 (.tmp 260))) (b := 1) (off := (Int.toNat x255_6) * 1) (xs := lh1_6) (fz := 0) (e := 3) (es := 1) (d := (some (path 12 261))) (by kernel_rfl) (by kernel_rfl) (by kernel_rfl) (Int.toNat x255_6) 0 0 (by first | with_reducible rfl | omega | rfl) (row_len (inRow_toNat b2) (by simp)) rfl rfl) (σ' := (qlc15 lh0_6 lh1_6 lh2_6 [(36, ii x255_6), (254, ii x254_6), (255, ii x255_6), (261, ii (List.getD lh1_6 (Int.toNat x255_6) 0))])) (by kernel_rfl) ?_
    refine XU.run E0_ok 1 3 [10, 32, 33, 254, 255, 261, 262, 263, 264] rfl (σ' := (qlc15 lh0_6 lh1_6 lh2_6 [(254, ii x254_6), (255, ii x255_6), (261, ii (List.getD lh1_6 (Int.toNat x255_6) 0)), (262, s0 2 lh2_6.length), (263, s0 0 lh0_6.length), (264, ii x255_6)])) (by kernel_rfl) ?_
    cases b3 : (inRow x255_6 lh0_6.length : Bool) with
    | false => cases (cF b3 h)
    | true =>
     have h := cT b3 h
     refine XU.rd E0_ok [10, 32, 33, 254, 255, 261, 262, 265] rfl (v := pp 0 ((Int.toNat x255_6) * 1)) (v_idx (s := 1) (x := (src 272 (.tmp 263))) (y := (src 272 (.tmp 264))) (b := 0) (o := 0) (len := lh0_6.length) (cap := lh0_6.length) (ik := .i64) (i := x255_6) (off := (Int.toNat x255_6) * 1) (d := (some (path 12 265))) (by kernel_rfl) (by kernel_rfl) (by kernel_rfl) b3 (by omega)) (σ' := (qlc15 lh0_6 lh1_6 lh2_6 [(254, ii x254_6), (255, ii x255_6), (261, ii (List.getD lh1_6 (Int.toNat x255_6) 0)), (262, s0 2 lh2_6.length), (265, pp 0 ((Int.toNat x255_6) * 1))])) (by kernel_rfl) ?_
     refine XU.rd E0_ok [10, 32, 33, 254, 255, 261, 262, 266] rfl (v := ii (List.getD lh0_6 (Int.toNat x255_6) 0)) (v_load1 (encI_ok .i64) (x := (src 272 (.tmp 265))) (b := 0) (off := (Int.toNat x255_6) * 1) (xs := lh0_6) (fz := 0) (e := 3) (es := 1) (d := (some (path 12 266))) (by kernel_rfl) (by kernel_rfl) (by kernel_rfl) (Int.toNat x255_6) 0 0 (by first | with_reducible rfl | omega | rfl) (row_len (inRow_toNat b3) (by simp)) rfl rfl) (σ' := (qlc15 lh0_6 lh1_6 lh2_6 [(254, ii x254_6), (255, ii x255_6), (261, ii (List.getD lh1_6 (Int.toNat x255_6) 0)), (262, s0 2 lh2_6.length), (266, ii (List.getD lh0_6 (Int.toNat x255_6) 0))])) (by kernel_rfl) ?_
     cases b4 : (inRow (List.getD lh0_6 (Int.toNat x255_6) 0) lh2_6.length : Bool) with
     | false => cases (cF b4 h)
     | true =>
      have h := cT b4 h
      refine XU.rd E0_ok [10, 32, 33, 254, 255, 261, 267] rfl (v := pp 2 ((Int.toNat (List.getD lh0_6 (Int.toNat x255_6) 0)) * 1)) (v_idx (s := 1) (x := (src 272 (.tmp 262))) (y := (src 272 (.tmp 266))) (b := 2) (o := 0) (len := lh2_6.length) (cap := lh2_6.length) (ik := .i64) (i := List.getD lh0_6 (Int.toNat x255_6) 0) (off := (Int.toNat (List.getD lh0_6 (Int.toNat x255_6) 0)) * 1) (d := (some (path 12 267))) (by kernel_rfl) (by kernel_rfl) (by kernel_rfl) b4 (by omega)) (σ' := (qlc15 lh0_6 lh1_6 lh2_6 [(254, ii x254_6), (255, ii x255_6), (261, ii (List.getD lh1_6 (Int.toNat x255_6) 0)), (267, pp 2 ((Int.toNat (List.getD lh0_6 (Int.toNat x255_6) 0)) * 1))])) (by kernel_rfl) ?_
      refine XU.rd E0_ok [10, 32, 33, 254, 255, 261, 268] rfl (v := ii (List.getD lh2_6 (Int.toNat (List.getD lh0_6 (Int.toNat x255_6) 0)) 0)) (v_load1 (encI_ok .i64) (x := (src 272 (.tmp 267))) (b := 2) (off := (Int.toNat (List.getD lh0_6 (Int.toNat x255_6) 0)) * 1) (xs := lh2_6) (fz := 0) (e := 3) (es := 1) (d := (some (path 12 268))) (by kernel_rfl) (by kernel_rfl) (by kernel_rfl) (Int.toNat (List.getD lh0_6 (Int.toNat x255_6) 0)) 0 0 (by first | with_reducible rfl | omega | rfl) (row_len (inRow_toNat b4) (by simp)) rfl rfl) (σ' := (qlc15 lh0_6 lh1_6 lh2_6 [(254, ii x254_6), (255, ii x255_6), (261, ii (List.getD lh1_6 (Int.toNat x255_6) 0)), (268, ii (List.getD lh2_6 (Int.toNat (List.getD lh0_6 (Int.toNat x255_6) 0)) 0))])) (by kernel_rfl) ?_
      refine XU.run E0_ok 1 1 [10, 32, 33, 254, 255, 269] rfl (σ' := (qlc15 lh0_6 lh1_6 lh2_6 [(254, ii x254_6), (255, ii x255_6), (269, .bool ((List.getD lh1_6 (Int.toNat x255_6) 0) != (List.getD lh2_6 (Int.toNat (List.getD lh0_6 (Int.toNat x255_6) 0)) 0)))])) (by kernel_rfl) ?_
      refine XU.done (by kernel_rfl) ?_
      show XQ _ _ _ _ _ _ _ _
      cases b5 : ((List.getD lh1_6 (Int.toNat x255_6) 0) != (List.getD lh2_6 (Int.toNat (List.getD lh0_6 (Int.toNat x255_6) 0)) 0) : Bool) with
      | true =>
       have h := cT b5 h
       refine iT (.tmp 269) ?_
       refine qQ ?_
       refine rS 1 [(6, .bool false)] ?_
       refine dQ ?_
       show XQ _ _ _ _ _ _ _ _
       refine XQ.ren (σ' := [(6, .bool false)]) (h' := []) (c' := 0) [] (by decide) rfl ⟨rfl, trivial⟩ trivial rfl ?_
       refine XQ.ret (by kernel_rfl) ?_
       cases h
       exact hQ
      | false =>
       have h := cF b5 h
       refine iF (.tmp 269) ?_
       refine kQ ?_
       show XQ _ _ _ _ _ _ _ _
       refine rQ ?_
       refine rS 2 (qlc15 lh0_6 lh1_6 lh2_6 [(254, ii x254_6), (255, ii (w64 (x255_6 + 1)))]) ?_
       refine dQ ?_
       show XL _ _ _ _ _ _ _ _ _
       refine XL.ren (σ' := (qlc15 lh0_6 lh1_6 lh2_6 [(254, ii x254_6), (255, ii (w64 (x255_6 + 1)))])) (h' := [(2, rI lh2_6), (1, rI lh1_6), (0, rI lh0_6)]) (c' := 3) [0, 1, 2] (by decide) rfl ⟨rfl, rfl, rfl, rfl, rfl, trivial⟩ ⟨⟨_, _, rfl, rfl, .inl ⟨rfl, rwI⟩⟩, ⟨_, _, rfl, rfl, .inl ⟨rfl, rwI⟩⟩, ⟨_, _, rfl, rfl, .inl ⟨rfl, rwI⟩⟩, trivial⟩ rfl ?_
       refine XL.conv (f11_6_ok m fuel x254_6 (w64 (x255_6 + 1)) lh0_6 lh1_6 lh2_6 o h Q hQ) (by first | with_reducible rfl | simp | rfl)
  | false =>
   have h := cF b1 h
   refine iF (.tmp 256) ?_
   refine XQ.ren (σ' := []) (h' := []) (c' := 0) [] (by decide) rfl trivial trivial rfl ?_
   refine XQ.exit (i := 8) (by kernel_rfl) ?_
   cases h
   exact hQ
def f11 (m : Nat) (a_Sorters : Int) (a_Tables : Int) (b_0 : Int) (b_1 : Int) (b_2 : Int) (b_3 : Int) (b_4 : Int) (b_5 : Int) (b_6 : Int) (b_7 : Int) (c_0 : Int) (c_1 : Int) (c_2 : Int) (c_3 : Int) (c_4 : Int) (c_5 : Int) (c_6 : Int) (c_7 : Int) : Option (Bool) :=
 (f36 m a_Sorters a_Tables 6).bind fun r1 =>
  (f11_1 m m b_0 b_1 b_2 b_3 b_4 b_5 b_6 b_7 c_0 c_1 c_2 c_3 c_4 c_5 c_6 c_7 r1.1 r1.1 0 r1.1 [] r1.2).bind fun o1 =>
   (f11_2 m m b_0 b_1 b_2 b_3 b_4 b_5 b_6 b_7 o1.1 o1.1 0 [c_0, c_1, c_2, c_3, c_4, c_5, c_6, c_7] o1.2.1 o1.2.2.1 [] o1.2.2.2).bind fun o2 =>
    cond (mkOK o2.1 o2.1 8) (
     (f11_4 m m o2.1 o2.1 0 [b_0, b_1, b_2, b_3, b_4, b_5, b_6, b_7] o2.2.1 o2.2.2.1 (List.replicate (Int.toNat o2.1) 0) (List.replicate (Int.toNat o2.1) 0) o2.2.2.2).bind fun o4 =>
      (f15 m o4.2.2.2.1).bind fun r2 =>
       (f15 m o4.2.2.2.2.1).bind fun r3 =>
        (f17 m o4.2.2.2.1).bind fun r4 =>
         (f17 m o4.2.2.2.2.1).bind fun r5 =>
          (f26 m o4.2.2.2.1).bind fun r6 =>
           (f26 m o4.2.2.2.2.1).bind fun r7 =>
            cond (r2.2 != 0) (
             some (false)
            ) (
             cond (r3.2 != 0) (
              some (false)
             ) (
              cond (!(r2.1 == r3.1)) (
               some (false)
              ) (
               cond (r4.1 != r5.1) (
                some (false)
               ) (
                cond (r4.2 != r5.2) (
                 some (false)
                ) (
                 cond (r6.2 != 0) (
                  some (false)
                 ) (
                  cond (r7.2 != 0) (
                   some (false)
                  ) (
                   cond (r6.1 != r7.1) (
                    some (false)
                   ) (
                    cond (!(r2.1 == (decide (r6.1 > 0)))) (
                     some (false)
                    ) (
                     (f11_5 m m o4.1 ((o4.2.2.2.2.2.length : Nat) : Int) 0 o4.2.1 o4.2.2.1 o4.1 o4.2.2.2.2.2 []).bind fun o5 =>
                      (f43 m o5.2.1 o5.2.2.2.2.1).bind fun r8 =>
                       (f43 m o5.2.2.2.1 o5.2.2.2.2.2).bind fun r9 =>
                        (f41 m o5.2.1 o5.2.2.2.2.1).bind fun r10 =>
                         (f41 m o5.2.2.2.1 o5.2.2.2.2.2).bind fun r11 =>
                          cond (r8.2 != 0) (
                           some (false)
                          ) (
                           cond (r9.2 != 0) (
                            some (false)
                           ) (
                            cond (r10.2 != 0) (
                             some (false)
                            ) (
                             cond (r11.2 != 0) (
                              some (false)
                             ) (
                              cond (r10.1 != r11.1) (
                               some (false)
                              ) (
                               cond (((r8.1.length : Nat) : Int) != o5.1) (
                                some (false)
                               ) (
                                cond (((r9.1.length : Nat) : Int) != o5.1) (
                                 some (false)
                                ) (
                                 (f47 m o5.2.2.2.1 o5.2.2.2.2.2).bind fun r12 =>
                                  cond (r12 != 0) (
                                   some (false)
                                  ) (
                                   (f11_6 m m o5.1 0 o5.2.2.1 r8.1 r9.1).bind fun o6 =>
                                    match o6 with
                                    | .r =>
                                     some (false)
                                    | .x8 =>
                                     some (true)
                                  )
                                )
                               )
                              )
                             )
                            )
                           )
                          )
                    )
                   )
                  )
                 )
                )
               )
              )
             )
            )
    ) none
set_option maxHeartbeats 8000000 in

abbrev qlc16 (b_0 : Int) (b_1 : Int) (b_2 : Int) (b_3 : Int) (b_4 : Int) (b_5 : Int) (b_6 : Int) (b_7 : Int) (t : Heap) : Heap := (0, .cells [.int .u8 b_0, .int .u8 b_1, .int .u8 b_2, .int .u8 b_3, .int .u8 b_4, .int .u8 b_5, .int .u8 b_6, .int .u8 b_7] 0 76 0) :: t

abbrev qlc17 (a_Sorters : Int) (a_Tables : Int) (b_0 : Int) (b_1 : Int) (b_2 : Int) (b_3 : Int) (b_4 : Int) (b_5 : Int) (b_6 : Int) (b_7 : Int) (c_0 : Int) (c_1 : Int) (c_2 : Int) (c_3 : Int) (c_4 : Int) (c_5 : Int) (c_6 : Int) (c_7 : Int) (t : Heap) : Heap := (2, .cells [.int .u8 c_0, .int .u8 c_1, .int .u8 c_2, .int .u8 c_3, .int .u8 c_4, .int .u8 c_5, .int .u8 c_6, .int .u8 c_7] 0 76 0) :: (1, .cells [.int .u8 b_0, .int .u8 b_1, .int .u8 b_2, .int .u8 b_3, .int .u8 b_4, .int .u8 b_5, .int .u8 b_6, .int .u8 b_7] 0 76 0) :: (0, .cells [.int .u8 a_Sorters, .int .u32 a_Tables] 0 53 0) :: t
theorem f11_ok (m : Nat) (a_Sorters : Int) (a_Tables : Int) (b_0 : Int) (b_1 : Int) (b_2 : Int) (b_3 : Int) (b_4 : Int) (b_5 : Int) (b_6 : Int) (b_7 : Int) (c_0 : Int) (c_1 : Int) (c_2 : Int) (c_3 : Int) (c_4 : Int) (c_5 : Int) (c_6 : Int) (c_7 : Int) (o : Bool) (h : f11 m a_Sorters a_Tables b_0 b_1 b_2 b_3 b_4 b_5 b_6 b_7 c_0 c_1 c_2 c_3 c_4 c_5 c_6 c_7 = some o) (w : World) (hI : seatInv w) : Calls Proofs.Tryd.prog 11 #[.agg #[.int .u8 a_Sorters, .int .u32 a_Tables], .agg #[.int .u8 b_0, .int .u8 b_1, .int .u8 b_2, .int .u8 b_3, .int .u8 b_4, .int .u8 b_5, .int .u8 b_6, .int .u8 b_7], .agg #[.int .u8 c_0, .int .u8 c_1, .int .u8 c_2, .int .u8 c_3, .int .u8 c_4, .int .u8 c_5, .int .u8 c_6, .int .u8 c_7]] w fun e w' => e = .returned (.bool o) ∧ Below w.heap.size w w' := by
 refine KC.calls (E := E0) (args := [.agg #[.int .u8 a_Sorters, .int .u32 a_Tables], .agg #[.int .u8 b_0, .int .u8 b_1, .int .u8 b_2, .int .u8 b_3, .int .u8 b_4, .int .u8 b_5, .int .u8 b_6, .int .u8 b_7], .agg #[.int .u8 c_0, .int .u8 c_1, .int .u8 c_2, .int .u8 c_3, .int .u8 c_4, .int .u8 c_5, .int .u8 c_6, .int .u8 c_7]]) (v := .bool o) rfl rfl (KC.bodyN E0_ok (F := Proofs.Tryd.f11) (by kernel_rfl) (code := f11_C11) (by kernel_rfl) (nt := 272) (by kernel_rfl) (rs := [.tmp 6]) (by kernel_rfl) (by kernel_rfl) (σ := [(0, .agg #[.int .u8 a_Sorters, .int .u32 a_Tables]), (1, .agg #[.int .u8 b_0, .int .u8 b_1, .int .u8 b_2, .int .u8 b_3, .int .u8 b_4, .int .u8 b_5, .int .u8 b_6, .int .u8 b_7]), (2, .agg #[.int .u8 c_0, .int .u8 c_1, .int .u8 c_2, .int .u8 c_3, .int .u8 c_4, .int .u8 c_5, .int .u8 c_6, .int .u8 c_7])]) (by kernel_rfl) ?_) w (seatInv_size hI) hI
 unfold f11 at h
 refine qQ ?_
 refine rT 4 [(3, pp 0 0), (4, pp 1 0), (5, pp 2 0)] (qlc17 a_Sorters a_Tables b_0 b_1 b_2 b_3 b_4 b_5 b_6 b_7 c_0 c_1 c_2 c_3 c_4 c_5 c_6 c_7 []) 3 ?_
 refine nQ id ?_
 refine rS 1 [(4, pp 1 0), (5, pp 2 0), (37, .agg #[.int .u8 a_Sorters, .int .u32 a_Tables])] ?_
 obtain ⟨r1, r1_h, h⟩ := bS h
 refine XR.call E0_ok [4, 5, 38] rfl (K := 36) (args := [.agg #[.int .u8 a_Sorters, .int .u32 a_Tables], ii 6]) (d := (some (path 12 38))) (by kernel_rfl) (KC.lift (V2 := .agg #[ii r1.1, s0 3 r1.2.length]) (H2 := [(3, rc encP r1.2 0 55 2)]) [1, 2, 3, 0] (f36_ok m a_Sorters a_Tables 6 r1 r1_h) rfl (by decide) (by decide) (by kernel_rfl) ⟨⟨_, _, rfl, rfl, .inl ⟨rfl, rwP⟩⟩, trivial⟩ (by rfl)) ?_
 rintro _ _ _ ⟨rfl, rfl, rfl⟩
 refine XR.conv (σ' := [(4, pp 1 0), (5, pp 2 0), (38, .agg #[ii r1.1, s0 3 r1.2.length])]) (h' := ((3, rc encP r1.2 0 55 2) :: qlc17 a_Sorters a_Tables b_0 b_1 b_2 b_3 b_4 b_5 b_6 b_7 c_0 c_1 c_2 c_3 c_4 c_5 c_6 c_7 [])) (c' := 4) ?_ (by kernel_rfl)
 refine rT 2 [(4, pp 1 0), (5, pp 2 0), (7, pp 4 0)] ((4, .cells [ii r1.1, s0 3 r1.2.length] 0 34 0) :: (3, rc encP r1.2 0 55 2) :: qlc17 a_Sorters a_Tables b_0 b_1 b_2 b_3 b_4 b_5 b_6 b_7 c_0 c_1 c_2 c_3 c_4 c_5 c_6 c_7 []) 5 ?_
 refine nQ id ?_
 refine rS 3 [(4, pp 1 0), (5, pp 2 0), (7, pp 4 0), (8, ii r1.1)] ?_
 refine nQ id ?_
 refine rS 2 [(4, pp 1 0), (5, pp 2 0), (7, pp 4 0), (8, ii r1.1), (9, .slice none 0 0), (10, .slice none 0 0)] ?_
 refine dQ ?_
 show XQ _ _ _ _ _ _ _ _
 refine XQ.ghost 3 1 rfl (σ' := [(4, pp 1 0), (5, pp 2 0), (7, pp 4 0), (8, ii r1.1), (9, s0 5 0), (10, .slice none 0 0)]) (h' := ((4, .cells [ii r1.1, s0 3 r1.2.length] 0 34 0) :: (3, rc encP r1.2 0 55 2) :: qlc17 a_Sorters a_Tables b_0 b_1 b_2 b_3 b_4 b_5 b_6 b_7 c_0 c_1 c_2 c_3 c_4 c_5 c_6 c_7 [])) ⟨rfl, rfl, rfl, rfl, rfl, rfl, trivial⟩ ⟨⟨_, rfl, .inl rfl⟩, ⟨_, rfl, .inl rfl⟩, ⟨_, rfl, .inl rfl⟩, ⟨_, rfl, .inl rfl⟩, ⟨_, rfl, .inl rfl⟩, trivial⟩ ?_
 refine XQ.conv (σ' := [(4, pp 1 0), (5, pp 2 0), (7, pp 4 0), (8, ii r1.1), (9, s0 5 0), (10, .slice none 0 0)]) (h' := ((5, rI []) :: (4, .cells [ii r1.1, s0 3 r1.2.length] 0 34 0) :: (3, rc encP r1.2 0 55 2) :: qlc17 a_Sorters a_Tables b_0 b_1 b_2 b_3 b_4 b_5 b_6 b_7 c_0 c_1 c_2 c_3 c_4 c_5 c_6 c_7 [])) (c' := 6) ?_ (by kernel_rfl)
 refine XQ.ghost 3 1 rfl (σ' := [(4, pp 1 0), (5, pp 2 0), (7, pp 4 0), (8, ii r1.1), (9, s0 5 0), (10, s0 6 0)]) (h' := ((5, rI []) :: (4, .cells [ii r1.1, s0 3 r1.2.length] 0 34 0) :: (3, rc encP r1.2 0 55 2) :: qlc17 a_Sorters a_Tables b_0 b_1 b_2 b_3 b_4 b_5 b_6 b_7 c_0 c_1 c_2 c_3 c_4 c_5 c_6 c_7 [])) ⟨rfl, rfl, rfl, rfl, rfl, rfl, trivial⟩ ⟨⟨_, rfl, .inl rfl⟩, ⟨_, rfl, .inl rfl⟩, ⟨_, rfl, .inl rfl⟩, ⟨_, rfl, .inl rfl⟩, ⟨_, rfl, .inl rfl⟩, ⟨_, rfl, .inl rfl⟩, trivial⟩ ?_
 refine XQ.conv (σ' := [(4, pp 1 0), (5, pp 2 0), (7, pp 4 0), (8, ii r1.1), (9, s0 5 0), (10, s0 6 0)]) (h' := ((6, rI []) :: (5, rI []) :: (4, .cells [ii r1.1, s0 3 r1.2.length] 0 34 0) :: (3, rc encP r1.2 0 55 2) :: qlc17 a_Sorters a_Tables b_0 b_1 b_2 b_3 b_4 b_5 b_6 b_7 c_0 c_1 c_2 c_3 c_4 c_5 c_6 c_7 [])) (c' := 7) ?_ (by kernel_rfl)
 refine sQ ?_
 refine qQ ?_
 refine rS 2 [(4, pp 1 0), (5, pp 2 0), (7, pp 4 0), (8, ii r1.1), (9, s0 5 0), (10, s0 6 0), (41, ii r1.1), (42, ii 0)] ?_
 refine dQ ?_
 show XQ _ _ _ _ _ _ _ _
 refine XQ.block (id := 0) (by kernel_rfl) ?_
 refine XQ.loop m (by kernel_rfl) ?_
 obtain ⟨o1, o1_h, h⟩ := bS h
 refine XL.ren (σ' := [(4, pp 0 0), (5, pp 1 0), (7, pp 2 0), (8, ii r1.1), (9, s0 3 0), (10, s0 4 0), (41, ii r1.1), (42, ii 0)]) (h' := ((5, rc encP r1.2 0 55 2) :: (4, rI []) :: (3, rI []) :: (2, .cells [ii r1.1, s0 5 r1.2.length] 0 34 0) :: (1, .cells [.int .u8 c_0, .int .u8 c_1, .int .u8 c_2, .int .u8 c_3, .int .u8 c_4, .int .u8 c_5, .int .u8 c_6, .int .u8 c_7] 0 76 0) :: qlc16 b_0 b_1 b_2 b_3 b_4 b_5 b_6 b_7 [])) (c' := 6) [1, 2, 4, 5, 6, 3] (by decide) rfl ⟨rfl, rfl, rfl, rfl, rfl, rfl, rfl, rfl, trivial⟩ ⟨⟨_, _, rfl, rfl, .inl ⟨rfl, rwP⟩⟩, ⟨_, _, rfl, rfl, .inl ⟨rfl, rwI⟩⟩, ⟨_, _, rfl, rfl, .inl ⟨rfl, rwI⟩⟩, ⟨_, _, rfl, rfl, .inr ⟨_, _, _, _, rfl, rfl⟩⟩, ⟨_, _, rfl, rfl, .inr ⟨_, _, _, _, rfl, rfl⟩⟩, ⟨_, _, rfl, rfl, .inr ⟨_, _, _, _, rfl, rfl⟩⟩, trivial⟩ rfl ?_
 refine XL.conv (f11_1_ok m m b_0 b_1 b_2 b_3 b_4 b_5 b_6 b_7 c_0 c_1 c_2 c_3 c_4 c_5 c_6 c_7 r1.1 r1.1 0 r1.1 [] r1.2 o1 o1_h _ ?_) (by first | with_reducible rfl | simp | rfl)
 show XQ _ _ _ _ _ _ _ _
 refine sQ ?_
 refine qQ ?_
 refine rS 2 [(4, pp 0 0), (5, pp 1 0), (7, pp 2 0), (8, ii o1.1), (9, s0 3 o1.2.2.1.length), (10, s0 4 0), (50, ii o1.1), (51, ii 0)] ?_
 refine dQ ?_
 show XQ _ _ _ _ _ _ _ _
 refine XQ.block (id := 2) (by kernel_rfl) ?_
 refine XQ.loop m (by kernel_rfl) ?_
 obtain ⟨o2, o2_h, h⟩ := bS h
 refine XL.ren (σ' := [(4, pp 0 0), (5, pp 1 0), (7, pp 2 0), (8, ii o1.1), (9, s0 3 o1.2.2.1.length), (10, s0 4 0), (50, ii o1.1), (51, ii 0)]) (h' := ((5, rc encP o1.2.2.2 0 55 2) :: (4, rI []) :: (3, rI o1.2.2.1) :: (2, .cells [ii o1.2.1, s0 5 o1.2.2.2.length] 0 34 0) :: (1, .cells [.int .u8 c_0, .int .u8 c_1, .int .u8 c_2, .int .u8 c_3, .int .u8 c_4, .int .u8 c_5, .int .u8 c_6, .int .u8 c_7] 0 76 0) :: qlc16 b_0 b_1 b_2 b_3 b_4 b_5 b_6 b_7 [])) (c' := 6) [0, 1, 2, 3, 4, 5] (by decide) rfl ⟨rfl, rfl, rfl, rfl, rfl, rfl, rfl, rfl, trivial⟩ ⟨⟨_, _, rfl, rfl, .inl ⟨rfl, rwP⟩⟩, ⟨_, _, rfl, rfl, .inl ⟨rfl, rwI⟩⟩, ⟨_, _, rfl, rfl, .inl ⟨rfl, rwI⟩⟩, ⟨_, _, rfl, rfl, .inr ⟨_, _, _, _, rfl, rfl⟩⟩, ⟨_, _, rfl, rfl, .inr ⟨_, _, _, _, rfl, rfl⟩⟩, ⟨_, _, rfl, rfl, .inr ⟨_, _, _, _, rfl, rfl⟩⟩, trivial⟩ rfl ?_
 refine XL.conv (σ' := [(4, pp 0 0), (5, pp 1 0), (7, pp 2 0), (8, ii o1.1), (9, s0 3 o1.2.2.1.length), (10, s0 4 0), (50, ii o1.1), (51, ii 0)]) (h' := ((5, rc encP o1.2.2.2 0 55 2) :: (4, rI []) :: (3, rI o1.2.2.1) :: (2, .cells [ii o1.2.1, s0 5 o1.2.2.2.length] 0 34 0) :: (1, rc (encI .u8) [c_0, c_1, c_2, c_3, c_4, c_5, c_6, c_7] 0 76 0) :: qlc16 b_0 b_1 b_2 b_3 b_4 b_5 b_6 b_7 [])) (c' := 6) ?_ (by kernel_rfl)
 refine XL.conv (f11_2_ok m m b_0 b_1 b_2 b_3 b_4 b_5 b_6 b_7 o1.1 o1.1 0 [c_0, c_1, c_2, c_3, c_4, c_5, c_6, c_7] o1.2.1 o1.2.2.1 [] o1.2.2.2 o2 o2_h _ ?_) (by first | with_reducible rfl | simp | rfl)
 show XQ _ _ _ _ _ _ _ _
 refine sQ ?_
 cases b3 : (mkOK o2.1 o2.1 8 : Bool) with
 | false => cases (cF b3 h)
 | true =>
  have h := cT b3 h
  refine XQ.preA E0_ok [0, 2] (by kernel_rfl) (g := 4) (listed := #[true, false, true, false, false, false]) (by kernel_rfl) (by kernel_rfl) (by kernel_rfl) (by kernel_rfl) (by kernel_rfl) (σ' := [(4, pp 0 0), (7, pp 1 0), (8, ii o2.1), (10, s0 2 o2.2.2.1.length), (14, s0 3 (Int.toNat o2.1)), (15, s0 4 (Int.toNat o2.1))]) (h' := ((5, rc encP o2.2.2.2 0 55 2) :: (4, rI (List.replicate (Int.toNat o2.1) 0)) :: (3, rI (List.replicate (Int.toNat o2.1) 0)) :: (2, rI o2.2.2.1) :: (1, .cells [ii o2.2.1, s0 5 o2.2.2.2.length] 0 34 0) :: qlc16 b_0 b_1 b_2 b_3 b_4 b_5 b_6 b_7 [])) (c' := 6) ?_ ?_
  ·show XQ _ _ _ _ _ _ _ _
   refine sQ ?_
   refine qQ ?_
   refine rS 2 [(4, pp 0 0), (7, pp 1 0), (8, ii o2.1), (10, s0 2 o2.2.2.1.length), (14, s0 3 (Int.toNat o2.1)), (15, s0 4 (Int.toNat o2.1)), (78, ii o2.1), (79, ii 0)] ?_
   refine dQ ?_
   show XQ _ _ _ _ _ _ _ _
   refine XQ.block (id := 4) (by kernel_rfl) ?_
   refine XQ.loop m (by kernel_rfl) ?_
   obtain ⟨o4, o4_h, h⟩ := bS h
   refine XL.ren (σ' := [(4, pp 0 0), (7, pp 1 0), (8, ii o2.1), (10, s0 2 o2.2.2.1.length), (14, s0 3 (Int.toNat o2.1)), (15, s0 4 (Int.toNat o2.1)), (78, ii o2.1), (79, ii 0)]) (h' := ((5, rc encP o2.2.2.2 0 55 2) :: (4, rI (List.replicate (Int.toNat o2.1) 0)) :: (3, rI (List.replicate (Int.toNat o2.1) 0)) :: (2, rI o2.2.2.1) :: (1, .cells [ii o2.2.1, s0 5 o2.2.2.2.length] 0 34 0) :: qlc16 b_0 b_1 b_2 b_3 b_4 b_5 b_6 b_7 [])) (c' := 6) [0, 1, 2, 3, 4, 5] (by decide) rfl ⟨rfl, rfl, rfl, rfl, rfl, rfl, rfl, rfl, trivial⟩ ⟨⟨_, _, rfl, rfl, .inl ⟨rfl, rwP⟩⟩, ⟨_, _, rfl, rfl, .inl ⟨rfl, rwI⟩⟩, ⟨_, _, rfl, rfl, .inl ⟨rfl, rwI⟩⟩, ⟨_, _, rfl, rfl, .inl ⟨rfl, rwI⟩⟩, ⟨_, _, rfl, rfl, .inr ⟨_, _, _, _, rfl, rfl⟩⟩, ⟨_, _, rfl, rfl, .inr ⟨_, _, _, _, rfl, rfl⟩⟩, trivial⟩ rfl ?_
   refine XL.conv (σ' := [(4, pp 0 0), (7, pp 1 0), (8, ii o2.1), (10, s0 2 o2.2.2.1.length), (14, s0 3 (Int.toNat o2.1)), (15, s0 4 (Int.toNat o2.1)), (78, ii o2.1), (79, ii 0)]) (h' := [(5, rc encP o2.2.2.2 0 55 2), (4, rI (List.replicate (Int.toNat o2.1) 0)), (3, rI (List.replicate (Int.toNat o2.1) 0)), (2, rI o2.2.2.1), (1, .cells [ii o2.2.1, s0 5 o2.2.2.2.length] 0 34 0), (0, rc (encI .u8) [b_0, b_1, b_2, b_3, b_4, b_5, b_6, b_7] 0 76 0)]) (c' := 6) ?_ (by kernel_rfl)
   refine XL.conv (f11_4_ok m m o2.1 o2.1 0 [b_0, b_1, b_2, b_3, b_4, b_5, b_6, b_7] o2.2.1 o2.2.2.1 (List.replicate (Int.toNat o2.1) 0) (List.replicate (Int.toNat o2.1) 0) o2.2.2.2 o4 o4_h _ ?_) (by first | with_reducible rfl | simp | rfl)
   show XQ _ _ _ _ _ _ _ _
   refine qQ ?_
   refine rS 1 [(7, pp 0 0), (8, ii o4.1), (10, s0 1 o4.2.2.1.length), (14, s0 2 o4.2.2.2.1.length), (15, s0 3 o4.2.2.2.2.1.length), (103, s0 2 o4.2.2.2.1.length)] ?_
   obtain ⟨r2, r2_h, h⟩ := bS h
   refine XR.call E0_ok [7, 8, 10, 14, 15, 104] rfl (K := 15) (args := [s0 2 o4.2.2.2.1.length]) (d := (some (path 12 104))) (by kernel_rfl) (KQ.call (KC.quiet E0_ok (args0 := [s0 0 o4.2.2.2.1.length]) (h0 := [(0, rc (encI .i64) o4.2.2.2.1 (0 + ((rowC (encI .i64) o4.2.2.2.1).length + 1)) 3 1)]) (n := 1) (V := .tuple #[.bool r2.1, ii r2.2]) [2] (f15_ok m (0 + ((rowC (encI .i64) o4.2.2.2.1).length + 1)) 3 o4.2.2.2.1 r2 r2_h) rfl (by rfl) (by decide) rfl (by kernel_rfl) ⟨⟨_, _, rfl, rfl, .inl ⟨rfl, rwI⟩⟩, trivial⟩) rfl) ?_
   rintro _ _ _ ⟨rfl, rfl, rfl⟩
   refine XR.conv (σ' := [(7, pp 0 0), (8, ii o4.1), (10, s0 1 o4.2.2.1.length), (14, s0 2 o4.2.2.2.1.length), (15, s0 3 o4.2.2.2.2.1.length), (104, .tuple #[.bool r2.1, ii r2.2])]) (h' := [(4, rc encP o4.2.2.2.2.2 0 55 2), (3, rI o4.2.2.2.2.1), (2, rI o4.2.2.2.1), (1, rI o4.2.2.1), (0, .cells [ii o4.2.1, s0 4 o4.2.2.2.2.2.length] 0 34 0)]) (c' := 5) ?_ (by kernel_rfl)
   refine rS 5 [(7, pp 0 0), (8, ii o4.1), (10, s0 1 o4.2.2.1.length), (14, s0 2 o4.2.2.2.1.length), (15, s0 3 o4.2.2.2.2.1.length), (17, .bool r2.1), (18, ii r2.2)] ?_
   refine nQ id ?_
   refine rS 1 [(7, pp 0 0), (8, ii o4.1), (10, s0 1 o4.2.2.1.length), (14, s0 2 o4.2.2.2.1.length), (15, s0 3 o4.2.2.2.2.1.length), (17, .bool r2.1), (18, ii r2.2), (108, s0 3 o4.2.2.2.2.1.length)] ?_
   obtain ⟨r3, r3_h, h⟩ := bS h
   refine XR.call E0_ok [7, 8, 10, 14, 15, 17, 18, 109] rfl (K := 15) (args := [s0 3 o4.2.2.2.2.1.length]) (d := (some (path 12 109))) (by kernel_rfl) (KQ.call (KC.quiet E0_ok (args0 := [s0 0 o4.2.2.2.2.1.length]) (h0 := [(0, rc (encI .i64) o4.2.2.2.2.1 (0 + ((rowC (encI .i64) o4.2.2.2.2.1).length + 1)) 3 1)]) (n := 1) (V := .tuple #[.bool r3.1, ii r3.2]) [3] (f15_ok m (0 + ((rowC (encI .i64) o4.2.2.2.2.1).length + 1)) 3 o4.2.2.2.2.1 r3 r3_h) rfl (by rfl) (by decide) rfl (by kernel_rfl) ⟨⟨_, _, rfl, rfl, .inl ⟨rfl, rwI⟩⟩, trivial⟩) rfl) ?_
   rintro _ _ _ ⟨rfl, rfl, rfl⟩
   refine XR.conv (σ' := [(7, pp 0 0), (8, ii o4.1), (10, s0 1 o4.2.2.1.length), (14, s0 2 o4.2.2.2.1.length), (15, s0 3 o4.2.2.2.2.1.length), (17, .bool r2.1), (18, ii r2.2), (109, .tuple #[.bool r3.1, ii r3.2])]) (h' := [(4, rc encP o4.2.2.2.2.2 0 55 2), (3, rI o4.2.2.2.2.1), (2, rI o4.2.2.2.1), (1, rI o4.2.2.1), (0, .cells [ii o4.2.1, s0 4 o4.2.2.2.2.2.length] 0 34 0)]) (c' := 5) ?_ (by kernel_rfl)
   refine rS 5 [(7, pp 0 0), (8, ii o4.1), (10, s0 1 o4.2.2.1.length), (14, s0 2 o4.2.2.2.1.length), (15, s0 3 o4.2.2.2.2.1.length), (17, .bool r2.1), (18, ii r2.2), (19, .bool r3.1), (20, ii r3.2)] ?_
   refine nQ id ?_
   refine rS 1 [(7, pp 0 0), (8, ii o4.1), (10, s0 1 o4.2.2.1.length), (14, s0 2 o4.2.2.2.1.length), (15, s0 3 o4.2.2.2.2.1.length), (17, .bool r2.1), (18, ii r2.2), (19, .bool r3.1), (20, ii r3.2), (113, s0 2 o4.2.2.2.1.length)] ?_
   obtain ⟨r4, r4_h, h⟩ := bS h
   refine XR.call E0_ok [7, 8, 10, 14, 15, 17, 18, 19, 20, 114] rfl (K := 17) (args := [s0 2 o4.2.2.2.1.length]) (d := (some (path 12 114))) (by kernel_rfl) (KQ.call (KC.quiet E0_ok (args0 := [s0 0 o4.2.2.2.1.length]) (h0 := [(0, rc (encI .i64) o4.2.2.2.1 (0 + ((rowC (encI .i64) o4.2.2.2.1).length + 1)) 3 1)]) (n := 1) (V := .tuple #[ii r4.1, ii r4.2]) [2] (f17_ok m (0 + ((rowC (encI .i64) o4.2.2.2.1).length + 1)) 3 o4.2.2.2.1 r4 r4_h) rfl (by rfl) (by decide) rfl (by kernel_rfl) ⟨⟨_, _, rfl, rfl, .inl ⟨rfl, rwI⟩⟩, trivial⟩) rfl) ?_
   rintro _ _ _ ⟨rfl, rfl, rfl⟩
   refine XR.conv (σ' := [(7, pp 0 0), (8, ii o4.1), (10, s0 1 o4.2.2.1.length), (14, s0 2 o4.2.2.2.1.length), (15, s0 3 o4.2.2.2.2.1.length), (17, .bool r2.1), (18, ii r2.2), (19, .bool r3.1), (20, ii r3.2), (114, .tuple #[ii r4.1, ii r4.2])]) (h' := [(4, rc encP o4.2.2.2.2.2 0 55 2), (3, rI o4.2.2.2.2.1), (2, rI o4.2.2.2.1), (1, rI o4.2.2.1), (0, .cells [ii o4.2.1, s0 4 o4.2.2.2.2.2.length] 0 34 0)]) (c' := 5) ?_ (by kernel_rfl)
   refine rS 5 [(7, pp 0 0), (8, ii o4.1), (10, s0 1 o4.2.2.1.length), (14, s0 2 o4.2.2.2.1.length), (15, s0 3 o4.2.2.2.2.1.length), (17, .bool r2.1), (18, ii r2.2), (19, .bool r3.1), (20, ii r3.2), (21, ii r4.1), (22, ii r4.2)] ?_
   refine nQ id ?_
   refine rS 1 [(7, pp 0 0), (8, ii o4.1), (10, s0 1 o4.2.2.1.length), (14, s0 2 o4.2.2.2.1.length), (15, s0 3 o4.2.2.2.2.1.length), (17, .bool r2.1), (18, ii r2.2), (19, .bool r3.1), (20, ii r3.2), (21, ii r4.1), (22, ii r4.2), (118, s0 3 o4.2.2.2.2.1.length)] ?_
   obtain ⟨r5, r5_h, h⟩ := bS h
   refine XR.call E0_ok [7, 8, 10, 14, 15, 17, 18, 19, 20, 21, 22, 119] rfl (K := 17) (args := [s0 3 o4.2.2.2.2.1.length]) (d := (some (path 12 119))) (by kernel_rfl) (KQ.call (KC.quiet E0_ok (args0 := [s0 0 o4.2.2.2.2.1.length]) (h0 := [(0, rc (encI .i64) o4.2.2.2.2.1 (0 + ((rowC (encI .i64) o4.2.2.2.2.1).length + 1)) 3 1)]) (n := 1) (V := .tuple #[ii r5.1, ii r5.2]) [3] (f17_ok m (0 + ((rowC (encI .i64) o4.2.2.2.2.1).length + 1)) 3 o4.2.2.2.2.1 r5 r5_h) rfl (by rfl) (by decide) rfl (by kernel_rfl) ⟨⟨_, _, rfl, rfl, .inl ⟨rfl, rwI⟩⟩, trivial⟩) rfl) ?_
   rintro _ _ _ ⟨rfl, rfl, rfl⟩
   refine XR.conv (σ' := [(7, pp 0 0), (8, ii o4.1), (10, s0 1 o4.2.2.1.length), (14, s0 2 o4.2.2.2.1.length), (15, s0 3 o4.2.2.2.2.1.length), (17, .bool r2.1), (18, ii r2.2), (19, .bool r3.1), (20, ii r3.2), (21, ii r4.1), (22, ii r4.2), (119, .tuple #[ii r5.1, ii r5.2])]) (h' := [(4, rc encP o4.2.2.2.2.2 0 55 2), (3, rI o4.2.2.2.2.1), (2, rI o4.2.2.2.1), (1, rI o4.2.2.1), (0, .cells [ii o4.2.1, s0 4 o4.2.2.2.2.2.length] 0 34 0)]) (c' := 5) ?_ (by kernel_rfl)
   refine rS 5 [(7, pp 0 0), (8, ii o4.1), (10, s0 1 o4.2.2.1.length), (14, s0 2 o4.2.2.2.1.length), (15, s0 3 o4.2.2.2.2.1.length), (17, .bool r2.1), (18, ii r2.2), (19, .bool r3.1), (20, ii r3.2), (21, ii r4.1), (22, ii r4.2), (23, ii r5.1), (24, ii r5.2)] ?_
   refine nQ id ?_
   refine rS 1 [(7, pp 0 0), (8, ii o4.1), (10, s0 1 o4.2.2.1.length), (15, s0 3 o4.2.2.2.2.1.length), (17, .bool r2.1), (18, ii r2.2), (19, .bool r3.1), (20, ii r3.2), (21, ii r4.1), (22, ii r4.2), (23, ii r5.1), (24, ii r5.2), (123, s0 2 o4.2.2.2.1.length)] ?_
   obtain ⟨r6, r6_h, h⟩ := bS h
   refine XR.call E0_ok [7, 8, 10, 15, 17, 18, 19, 20, 21, 22, 23, 24, 124] rfl (K := 26) (args := [s0 2 o4.2.2.2.1.length]) (d := (some (path 12 124))) (by kernel_rfl) (KQ.call (KC.quiet E0_ok (args0 := [s0 0 o4.2.2.2.1.length]) (h0 := [(0, rc (encI .i64) o4.2.2.2.1 (0 + ((rowC (encI .i64) o4.2.2.2.1).length + 1)) 3 1)]) (n := 1) (V := .tuple #[ii r6.1, ii r6.2]) [2] (f26_ok m (0 + ((rowC (encI .i64) o4.2.2.2.1).length + 1)) 3 o4.2.2.2.1 r6 r6_h) rfl (by rfl) (by decide) rfl (by kernel_rfl) ⟨⟨_, _, rfl, rfl, .inl ⟨rfl, rwI⟩⟩, trivial⟩) rfl) ?_
   rintro _ _ _ ⟨rfl, rfl, rfl⟩
   refine XR.conv (σ' := [(7, pp 0 0), (8, ii o4.1), (10, s0 1 o4.2.2.1.length), (15, s0 3 o4.2.2.2.2.1.length), (17, .bool r2.1), (18, ii r2.2), (19, .bool r3.1), (20, ii r3.2), (21, ii r4.1), (22, ii r4.2), (23, ii r5.1), (24, ii r5.2), (124, .tuple #[ii r6.1, ii r6.2])]) (h' := [(4, rc encP o4.2.2.2.2.2 0 55 2), (3, rI o4.2.2.2.2.1), (2, rI o4.2.2.2.1), (1, rI o4.2.2.1), (0, .cells [ii o4.2.1, s0 4 o4.2.2.2.2.2.length] 0 34 0)]) (c' := 5) ?_ (by kernel_rfl)
   refine rS 5 [(7, pp 0 0), (8, ii o4.1), (10, s0 1 o4.2.2.1.length), (15, s0 3 o4.2.2.2.2.1.length), (17, .bool r2.1), (18, ii r2.2), (19, .bool r3.1), (20, ii r3.2), (21, ii r4.1), (22, ii r4.2), (23, ii r5.1), (24, ii r5.2), (25, ii r6.1), (26, ii r6.2)] ?_
   refine nQ id ?_
   refine rS 1 [(7, pp 0 0), (8, ii o4.1), (10, s0 1 o4.2.2.1.length), (17, .bool r2.1), (18, ii r2.2), (19, .bool r3.1), (20, ii r3.2), (21, ii r4.1), (22, ii r4.2), (23, ii r5.1), (24, ii r5.2), (25, ii r6.1), (26, ii r6.2), (128, s0 3 o4.2.2.2.2.1.length)] ?_
   obtain ⟨r7, r7_h, h⟩ := bS h
   refine XR.call E0_ok [7, 8, 10, 17, 18, 19, 20, 21, 22, 23, 24, 25, 26, 129] rfl (K := 26) (args := [s0 3 o4.2.2.2.2.1.length]) (d := (some (path 12 129))) (by kernel_rfl) (KQ.call (KC.quiet E0_ok (args0 := [s0 0 o4.2.2.2.2.1.length]) (h0 := [(0, rc (encI .i64) o4.2.2.2.2.1 (0 + ((rowC (encI .i64) o4.2.2.2.2.1).length + 1)) 3 1)]) (n := 1) (V := .tuple #[ii r7.1, ii r7.2]) [3] (f26_ok m (0 + ((rowC (encI .i64) o4.2.2.2.2.1).length + 1)) 3 o4.2.2.2.2.1 r7 r7_h) rfl (by rfl) (by decide) rfl (by kernel_rfl) ⟨⟨_, _, rfl, rfl, .inl ⟨rfl, rwI⟩⟩, trivial⟩) rfl) ?_
   rintro _ _ _ ⟨rfl, rfl, rfl⟩
   refine XR.conv (σ' := [(7, pp 0 0), (8, ii o4.1), (10, s0 1 o4.2.2.1.length), (17, .bool r2.1), (18, ii r2.2), (19, .bool r3.1), (20, ii r3.2), (21, ii r4.1), (22, ii r4.2), (23, ii r5.1), (24, ii r5.2), (25, ii r6.1), (26, ii r6.2), (129, .tuple #[ii r7.1, ii r7.2])]) (h' := [(4, rc encP o4.2.2.2.2.2 0 55 2), (3, rI o4.2.2.2.2.1), (2, rI o4.2.2.2.1), (1, rI o4.2.2.1), (0, .cells [ii o4.2.1, s0 4 o4.2.2.2.2.2.length] 0 34 0)]) (c' := 5) ?_ (by kernel_rfl)
   refine rS 5 [(7, pp 0 0), (8, ii o4.1), (10, s0 1 o4.2.2.1.length), (17, .bool r2.1), (18, ii r2.2), (19, .bool r3.1), (20, ii r3.2), (21, ii r4.1), (22, ii r4.2), (23, ii r5.1), (24, ii r5.2), (25, ii r6.1), (26, ii r6.2), (27, ii r7.1), (28, ii r7.2)] ?_
   refine dQ ?_
   show XQ _ _ _ _ _ _ _ _
   refine sQ ?_
   refine qQ ?_
   refine rS 3 [(7, pp 0 0), (8, ii o4.1), (10, s0 1 o4.2.2.1.length), (17, .bool r2.1), (19, .bool r3.1), (20, ii r3.2), (21, ii r4.1), (22, ii r4.2), (23, ii r5.1), (24, ii r5.2), (25, ii r6.1), (26, ii r6.2), (27, ii r7.1), (28, ii r7.2), (134, .bool (r2.2 != 0))] ?_
   cases b5 : (r2.2 != 0 : Bool) with
   | true =>
    have h := cT b5 h
    refine rS 37 [(7, pp 0 0), (8, ii o4.1), (10, s0 1 o4.2.2.1.length), (171, .bool true)] ?_
    refine dQ ?_
    show XQ _ _ _ _ _ _ _ _
    refine iT (.tmp 171) ?_
    refine qQ ?_
    refine rS 1 [(6, .bool false)] ?_
    refine dQ ?_
    show XQ _ _ _ _ _ _ _ _
    refine XQ.ret (by kernel_rfl) ?_
    have h := Option.some.inj h
    subst h
    exact ⟨fun i q => (by cases q), .bool false, (by kernel_rfl), rfl⟩
   | false =>
    have h := cF b5 h
    refine rS 4 [(7, pp 0 0), (8, ii o4.1), (10, s0 1 o4.2.2.1.length), (17, .bool r2.1), (19, .bool r3.1), (21, ii r4.1), (22, ii r4.2), (23, ii r5.1), (24, ii r5.2), (25, ii r6.1), (26, ii r6.2), (27, ii r7.1), (28, ii r7.2), (138, .bool (r3.2 != 0))] ?_
    cases b6 : (r3.2 != 0 : Bool) with
    | true =>
     have h := cT b6 h
     refine rS 33 [(7, pp 0 0), (8, ii o4.1), (10, s0 1 o4.2.2.1.length), (171, .bool true)] ?_
     refine dQ ?_
     show XQ _ _ _ _ _ _ _ _
     refine iT (.tmp 171) ?_
     refine qQ ?_
     refine rS 1 [(6, .bool false)] ?_
     refine dQ ?_
     show XQ _ _ _ _ _ _ _ _
     refine XQ.ret (by kernel_rfl) ?_
     have h := Option.some.inj h
     subst h
     exact ⟨fun i q => (by cases q), .bool false, (by kernel_rfl), rfl⟩
    | false =>
     have h := cF b6 h
     refine rS 5 [(7, pp 0 0), (8, ii o4.1), (10, s0 1 o4.2.2.1.length), (17, .bool r2.1), (21, ii r4.1), (22, ii r4.2), (23, ii r5.1), (24, ii r5.2), (25, ii r6.1), (26, ii r6.2), (27, ii r7.1), (28, ii r7.2), (143, .bool (!(r2.1 == r3.1)))] ?_
     cases b7 : (!(r2.1 == r3.1) : Bool) with
     | true =>
      have h := cT b7 h
      refine rS 28 [(7, pp 0 0), (8, ii o4.1), (10, s0 1 o4.2.2.1.length), (171, .bool true)] ?_
      refine dQ ?_
      show XQ _ _ _ _ _ _ _ _
      refine iT (.tmp 171) ?_
      refine qQ ?_
      refine rS 1 [(6, .bool false)] ?_
      refine dQ ?_
      show XQ _ _ _ _ _ _ _ _
      refine XQ.ret (by kernel_rfl) ?_
      have h := Option.some.inj h
      subst h
      exact ⟨fun i q => (by cases q), .bool false, (by kernel_rfl), rfl⟩
     | false =>
      have h := cF b7 h
      refine rS 5 [(7, pp 0 0), (8, ii o4.1), (10, s0 1 o4.2.2.1.length), (17, .bool r2.1), (22, ii r4.2), (24, ii r5.2), (25, ii r6.1), (26, ii r6.2), (27, ii r7.1), (28, ii r7.2), (148, .bool (r4.1 != r5.1))] ?_
      cases b8 : (r4.1 != r5.1 : Bool) with
      | true =>
       have h := cT b8 h
       refine rS 23 [(7, pp 0 0), (8, ii o4.1), (10, s0 1 o4.2.2.1.length), (171, .bool true)] ?_
       refine dQ ?_
       show XQ _ _ _ _ _ _ _ _
       refine iT (.tmp 171) ?_
       refine qQ ?_
       refine rS 1 [(6, .bool false)] ?_
       refine dQ ?_
       show XQ _ _ _ _ _ _ _ _
       refine XQ.ret (by kernel_rfl) ?_
       have h := Option.some.inj h
       subst h
       exact ⟨fun i q => (by cases q), .bool false, (by kernel_rfl), rfl⟩
      | false =>
       have h := cF b8 h
       refine rS 5 [(7, pp 0 0), (8, ii o4.1), (10, s0 1 o4.2.2.1.length), (17, .bool r2.1), (25, ii r6.1), (26, ii r6.2), (27, ii r7.1), (28, ii r7.2), (153, .bool (r4.2 != r5.2))] ?_
       cases b9 : (r4.2 != r5.2 : Bool) with
       | true =>
        have h := cT b9 h
        refine rS 18 [(7, pp 0 0), (8, ii o4.1), (10, s0 1 o4.2.2.1.length), (171, .bool true)] ?_
        refine dQ ?_
        show XQ _ _ _ _ _ _ _ _
        refine iT (.tmp 171) ?_
        refine qQ ?_
        refine rS 1 [(6, .bool false)] ?_
        refine dQ ?_
        show XQ _ _ _ _ _ _ _ _
        refine XQ.ret (by kernel_rfl) ?_
        have h := Option.some.inj h
        subst h
        exact ⟨fun i q => (by cases q), .bool false, (by kernel_rfl), rfl⟩
       | false =>
        have h := cF b9 h
        refine rS 4 [(7, pp 0 0), (8, ii o4.1), (10, s0 1 o4.2.2.1.length), (17, .bool r2.1), (25, ii r6.1), (27, ii r7.1), (28, ii r7.2), (157, .bool (r6.2 != 0))] ?_
        cases b10 : (r6.2 != 0 : Bool) with
        | true =>
         have h := cT b10 h
         refine rS 14 [(7, pp 0 0), (8, ii o4.1), (10, s0 1 o4.2.2.1.length), (171, .bool true)] ?_
         refine dQ ?_
         show XQ _ _ _ _ _ _ _ _
         refine iT (.tmp 171) ?_
         refine qQ ?_
         refine rS 1 [(6, .bool false)] ?_
         refine dQ ?_
         show XQ _ _ _ _ _ _ _ _
         refine XQ.ret (by kernel_rfl) ?_
         have h := Option.some.inj h
         subst h
         exact ⟨fun i q => (by cases q), .bool false, (by kernel_rfl), rfl⟩
        | false =>
         have h := cF b10 h
         refine rS 4 [(7, pp 0 0), (8, ii o4.1), (10, s0 1 o4.2.2.1.length), (17, .bool r2.1), (25, ii r6.1), (27, ii r7.1), (161, .bool (r7.2 != 0))] ?_
         cases b11 : (r7.2 != 0 : Bool) with
         | true =>
          have h := cT b11 h
          refine rS 10 [(7, pp 0 0), (8, ii o4.1), (10, s0 1 o4.2.2.1.length), (171, .bool true)] ?_
          refine dQ ?_
          show XQ _ _ _ _ _ _ _ _
          refine iT (.tmp 171) ?_
          refine qQ ?_
          refine rS 1 [(6, .bool false)] ?_
          refine dQ ?_
          show XQ _ _ _ _ _ _ _ _
          refine XQ.ret (by kernel_rfl) ?_
          have h := Option.some.inj h
          subst h
          exact ⟨fun i q => (by cases q), .bool false, (by kernel_rfl), rfl⟩
         | false =>
          have h := cF b11 h
          refine rS 5 [(7, pp 0 0), (8, ii o4.1), (10, s0 1 o4.2.2.1.length), (17, .bool r2.1), (25, ii r6.1), (166, .bool (r6.1 != r7.1))] ?_
          cases b12 : (r6.1 != r7.1 : Bool) with
          | true =>
           have h := cT b12 h
           refine rS 5 [(7, pp 0 0), (8, ii o4.1), (10, s0 1 o4.2.2.1.length), (171, .bool true)] ?_
           refine dQ ?_
           show XQ _ _ _ _ _ _ _ _
           refine iT (.tmp 171) ?_
           refine qQ ?_
           refine rS 1 [(6, .bool false)] ?_
           refine dQ ?_
           show XQ _ _ _ _ _ _ _ _
           refine XQ.ret (by kernel_rfl) ?_
           have h := Option.some.inj h
           subst h
           exact ⟨fun i q => (by cases q), .bool false, (by kernel_rfl), rfl⟩
          | false =>
           have h := cF b12 h
           refine rS 5 [(7, pp 0 0), (8, ii o4.1), (10, s0 1 o4.2.2.1.length), (171, .bool (!(r2.1 == (decide (r6.1 > 0)))))] ?_
           refine dQ ?_
           show XQ _ _ _ _ _ _ _ _
           cases b13 : (!(r2.1 == (decide (r6.1 > 0))) : Bool) with
           | true =>
            have h := cT b13 h
            refine iT (.tmp 171) ?_
            refine qQ ?_
            refine rS 1 [(6, .bool false)] ?_
            refine dQ ?_
            show XQ _ _ _ _ _ _ _ _
            refine XQ.ret (by kernel_rfl) ?_
            have h := Option.some.inj h
            subst h
            exact ⟨fun i q => (by cases q), .bool false, (by kernel_rfl), rfl⟩
           | false =>
            have h := cF b13 h
            refine iF (.tmp 171) ?_
            refine kQ ?_
            show XQ _ _ _ _ _ _ _ _
            refine qQ ?_
            refine rT 4 [(7, pp 0 0), (8, ii o4.1), (10, s0 1 o4.2.2.1.length), (29, pp 5 0)] [(5, .cells [ii o4.1, .slice none 0 0] 0 34 0), (4, rc encP o4.2.2.2.2.2 0 55 2), (3, rI o4.2.2.2.2.1), (2, rI o4.2.2.2.1), (1, rI o4.2.2.1), (0, .cells [ii o4.2.1, s0 4 o4.2.2.2.2.2.length] 0 34 0)] 6 ?_
            refine dQ ?_
            show XQ _ _ _ _ _ _ _ _
            refine XQ.ghost 55 2 rfl (σ' := [(7, pp 0 0), (8, ii o4.1), (10, s0 1 o4.2.2.1.length), (29, pp 5 0)]) (h' := [(5, .cells [ii o4.1, s0 6 0] 0 34 0), (4, rc encP o4.2.2.2.2.2 0 55 2), (3, rI o4.2.2.2.2.1), (2, rI o4.2.2.2.1), (1, rI o4.2.2.1), (0, .cells [ii o4.2.1, s0 4 o4.2.2.2.2.2.length] 0 34 0)]) ⟨rfl, rfl, rfl, rfl, trivial⟩ ⟨⟨_, rfl, .inr ⟨_, _, _, _, rfl, rfl⟩⟩, ⟨_, rfl, .inl rfl⟩, ⟨_, rfl, .inl rfl⟩, ⟨_, rfl, .inl rfl⟩, ⟨_, rfl, .inl rfl⟩, ⟨_, rfl, .inl rfl⟩, trivial⟩ ?_
            refine XQ.conv (σ' := [(7, pp 0 0), (8, ii o4.1), (10, s0 1 o4.2.2.1.length), (29, pp 5 0)]) (h' := [(6, rc encP [] 0 55 2), (5, .cells [ii o4.1, s0 6 0] 0 34 0), (4, rc encP o4.2.2.2.2.2 0 55 2), (3, rI o4.2.2.2.2.1), (2, rI o4.2.2.2.1), (1, rI o4.2.2.1), (0, .cells [ii o4.2.1, s0 4 o4.2.2.2.2.2.length] 0 34 0)]) (c' := 7) ?_ (by kernel_rfl)
            refine sQ ?_
            refine qQ ?_
            refine rS 4 [(7, pp 0 0), (8, ii o4.1), (10, s0 1 o4.2.2.1.length), (29, pp 5 0), (175, s0 4 o4.2.2.2.2.2.length), (176, ii ((o4.2.2.2.2.2.length : Nat) : Int)), (177, ii 0)] ?_
            refine dQ ?_
            show XQ _ _ _ _ _ _ _ _
            refine XQ.block (id := 6) (by kernel_rfl) ?_
            refine XQ.loop m (by kernel_rfl) ?_
            obtain ⟨o5, o5_h, h⟩ := bS h
            refine XL.ren (σ' := [(7, pp 0 0), (8, ii o4.1), (10, s0 1 o4.2.2.1.length), (29, pp 2 0), (175, s0 3 o4.2.2.2.2.2.length), (176, ii ((o4.2.2.2.2.2.length : Nat) : Int)), (177, ii 0)]) (h' := [(4, rc encP [] 0 55 2), (3, rc encP o4.2.2.2.2.2 0 55 2), (2, .cells [ii o4.1, s0 4 0] 0 34 0), (1, rI o4.2.2.1), (0, .cells [ii o4.2.1, s0 3 o4.2.2.2.2.2.length] 0 34 0)]) (c' := 5) [0, 1, 5, 4, 6] (by decide) rfl ⟨rfl, rfl, rfl, rfl, rfl, rfl, rfl, trivial⟩ ⟨⟨_, _, rfl, rfl, .inl ⟨rfl, rwP⟩⟩, ⟨_, _, rfl, rfl, .inl ⟨rfl, rwP⟩⟩, ⟨_, _, rfl, rfl, .inr ⟨_, _, _, _, rfl, rfl⟩⟩, ⟨_, _, rfl, rfl, .inl ⟨rfl, rwI⟩⟩, ⟨_, _, rfl, rfl, .inr ⟨_, _, _, _, rfl, rfl⟩⟩, trivial⟩ rfl ?_
            refine XL.conv (f11_5_ok m m o4.1 ((o4.2.2.2.2.2.length : Nat) : Int) 0 o4.2.1 o4.2.2.1 o4.1 o4.2.2.2.2.2 [] o5 o5_h _ ?_) (by first | with_reducible rfl | simp | rfl)
            show XQ _ _ _ _ _ _ _ _
            refine qQ ?_
            refine rS 1 [(7, pp 0 0), (8, ii o5.1), (10, s0 1 o5.2.2.1.length), (29, pp 2 0), (199, .agg #[ii o5.2.1, s0 3 o5.2.2.2.2.1.length])] ?_
            obtain ⟨r8, r8_h, h⟩ := bS h
            refine XR.call E0_ok [7, 8, 10, 29, 200] rfl (K := 43) (args := [.agg #[ii o5.2.1, s0 3 o5.2.2.2.2.1.length]]) (d := (some (path 12 200))) (by kernel_rfl) (KC.liftH (n0 := 1) (m := 1) (args0 := [.agg #[ii o5.2.1, s0 0 o5.2.2.2.2.1.length]]) (h0 := [(0, rc encP o5.2.2.2.2.1 (0 + ((rowC encP o5.2.2.2.2.1).length + 1)) 55 2)]) (V := .tuple #[s0 1 r8.1.length, ii r8.2]) (V2 := .tuple #[s0 5 r8.1.length, ii r8.2]) (H := [(1, rI r8.1)]) (H2 := [(5, rI r8.1)]) [3] [2, 3, 4, 5, 6, 1] (f43_ok m (0 + ((rowC encP o5.2.2.2.2.1).length + 1)) 55 o5.2.1 o5.2.2.2.2.1 r8 r8_h) (by rfl) (by decide) rfl (by kernel_rfl) ⟨⟨_, _, rfl, rfl, .inl ⟨rfl, rwP⟩⟩, trivial⟩ (by decide) (by decide) (by kernel_rfl) ⟨⟨_, _, rfl, rfl, .inl ⟨rfl, rwI⟩⟩, trivial⟩ (by rfl)) ?_
            rintro _ _ _ ⟨rfl, rfl, rfl⟩
            refine XR.conv (σ' := [(7, pp 0 0), (8, ii o5.1), (10, s0 1 o5.2.2.1.length), (29, pp 2 0), (200, .tuple #[s0 5 r8.1.length, ii r8.2])]) (h' := [(5, rI r8.1), (4, rc encP o5.2.2.2.2.2 0 55 2), (3, rc encP o5.2.2.2.2.1 0 55 2), (2, .cells [ii o5.2.2.2.1, s0 4 o5.2.2.2.2.2.length] 0 34 0), (1, rI o5.2.2.1), (0, .cells [ii o5.2.1, s0 3 o5.2.2.2.2.1.length] 0 34 0)]) (c' := 6) ?_ (by kernel_rfl)
            refine rS 5 [(7, pp 0 0), (8, ii o5.1), (10, s0 1 o5.2.2.1.length), (18, ii r8.2), (29, pp 2 0), (32, s0 5 r8.1.length)] ?_
            refine nQ id ?_
            refine rS 1 [(7, pp 0 0), (8, ii o5.1), (10, s0 1 o5.2.2.1.length), (18, ii r8.2), (29, pp 2 0), (32, s0 5 r8.1.length), (204, .agg #[ii o5.2.2.2.1, s0 4 o5.2.2.2.2.2.length])] ?_
            obtain ⟨r9, r9_h, h⟩ := bS h
            refine XR.call E0_ok [7, 8, 10, 18, 29, 32, 205] rfl (K := 43) (args := [.agg #[ii o5.2.2.2.1, s0 4 o5.2.2.2.2.2.length]]) (d := (some (path 12 205))) (by kernel_rfl) (KC.liftH (n0 := 1) (m := 1) (args0 := [.agg #[ii o5.2.2.2.1, s0 0 o5.2.2.2.2.2.length]]) (h0 := [(0, rc encP o5.2.2.2.2.2 (0 + ((rowC encP o5.2.2.2.2.2).length + 1)) 55 2)]) (V := .tuple #[s0 1 r9.1.length, ii r9.2]) (V2 := .tuple #[s0 6 r9.1.length, ii r9.2]) (H := [(1, rI r9.1)]) (H2 := [(6, rI r9.1)]) [4] [2, 3, 4, 5, 6, 7, 1] (f43_ok m (0 + ((rowC encP o5.2.2.2.2.2).length + 1)) 55 o5.2.2.2.1 o5.2.2.2.2.2 r9 r9_h) (by rfl) (by decide) rfl (by kernel_rfl) ⟨⟨_, _, rfl, rfl, .inl ⟨rfl, rwP⟩⟩, trivial⟩ (by decide) (by decide) (by kernel_rfl) ⟨⟨_, _, rfl, rfl, .inl ⟨rfl, rwI⟩⟩, trivial⟩ (by rfl)) ?_
            rintro _ _ _ ⟨rfl, rfl, rfl⟩
            refine XR.conv (σ' := [(7, pp 0 0), (8, ii o5.1), (10, s0 1 o5.2.2.1.length), (18, ii r8.2), (29, pp 2 0), (32, s0 5 r8.1.length), (205, .tuple #[s0 6 r9.1.length, ii r9.2])]) (h' := [(6, rI r9.1), (5, rI r8.1), (4, rc encP o5.2.2.2.2.2 0 55 2), (3, rc encP o5.2.2.2.2.1 0 55 2), (2, .cells [ii o5.2.2.2.1, s0 4 o5.2.2.2.2.2.length] 0 34 0), (1, rI o5.2.2.1), (0, .cells [ii o5.2.1, s0 3 o5.2.2.2.2.1.length] 0 34 0)]) (c' := 7) ?_ (by kernel_rfl)
            refine rS 5 [(7, pp 0 0), (8, ii o5.1), (10, s0 1 o5.2.2.1.length), (18, ii r8.2), (20, ii r9.2), (29, pp 2 0), (32, s0 5 r8.1.length), (33, s0 6 r9.1.length)] ?_
            refine nQ id ?_
            refine rS 1 [(8, ii o5.1), (10, s0 1 o5.2.2.1.length), (18, ii r8.2), (20, ii r9.2), (29, pp 2 0), (32, s0 5 r8.1.length), (33, s0 6 r9.1.length), (209, .agg #[ii o5.2.1, s0 3 o5.2.2.2.2.1.length])] ?_
            obtain ⟨r10, r10_h, h⟩ := bS h
            refine XR.call E0_ok [8, 10, 18, 20, 29, 32, 33, 210] rfl (K := 41) (args := [.agg #[ii o5.2.1, s0 3 o5.2.2.2.2.1.length]]) (d := (some (path 12 210))) (by kernel_rfl) (KQ.call (KC.quiet E0_ok (args0 := [.agg #[ii o5.2.1, s0 0 o5.2.2.2.2.1.length]]) (h0 := [(0, rc encP o5.2.2.2.2.1 (0 + ((rowC encP o5.2.2.2.2.1).length + 1)) 55 2)]) (n := 1) (V := .tuple #[ii r10.1, ii r10.2]) [3] (f41_ok m (0 + ((rowC encP o5.2.2.2.2.1).length + 1)) 55 o5.2.1 o5.2.2.2.2.1 r10 r10_h) rfl (by rfl) (by decide) rfl (by kernel_rfl) ⟨⟨_, _, rfl, rfl, .inl ⟨rfl, rwP⟩⟩, trivial⟩) rfl) ?_
            rintro _ _ _ ⟨rfl, rfl, rfl⟩
            refine XR.conv (σ' := [(8, ii o5.1), (10, s0 1 o5.2.2.1.length), (18, ii r8.2), (20, ii r9.2), (29, pp 2 0), (32, s0 5 r8.1.length), (33, s0 6 r9.1.length), (210, .tuple #[ii r10.1, ii r10.2])]) (h' := [(6, rI r9.1), (5, rI r8.1), (4, rc encP o5.2.2.2.2.2 0 55 2), (3, rc encP o5.2.2.2.2.1 0 55 2), (2, .cells [ii o5.2.2.2.1, s0 4 o5.2.2.2.2.2.length] 0 34 0), (1, rI o5.2.2.1), (0, .cells [ii o5.2.1, s0 3 o5.2.2.2.2.1.length] 0 34 0)]) (c' := 7) ?_ (by kernel_rfl)
            refine rS 5 [(8, ii o5.1), (10, s0 1 o5.2.2.1.length), (18, ii r8.2), (20, ii r9.2), (22, ii r10.2), (29, pp 2 0), (32, s0 5 r8.1.length), (33, s0 6 r9.1.length), (34, ii r10.1)] ?_
            refine nQ id ?_
            refine rS 1 [(8, ii o5.1), (10, s0 1 o5.2.2.1.length), (18, ii r8.2), (20, ii r9.2), (22, ii r10.2), (29, pp 2 0), (32, s0 5 r8.1.length), (33, s0 6 r9.1.length), (34, ii r10.1), (214, .agg #[ii o5.2.2.2.1, s0 4 o5.2.2.2.2.2.length])] ?_
            obtain ⟨r11, r11_h, h⟩ := bS h
            refine XR.call E0_ok [8, 10, 18, 20, 22, 29, 32, 33, 34, 215] rfl (K := 41) (args := [.agg #[ii o5.2.2.2.1, s0 4 o5.2.2.2.2.2.length]]) (d := (some (path 12 215))) (by kernel_rfl) (KQ.call (KC.quiet E0_ok (args0 := [.agg #[ii o5.2.2.2.1, s0 0 o5.2.2.2.2.2.length]]) (h0 := [(0, rc encP o5.2.2.2.2.2 (0 + ((rowC encP o5.2.2.2.2.2).length + 1)) 55 2)]) (n := 1) (V := .tuple #[ii r11.1, ii r11.2]) [4] (f41_ok m (0 + ((rowC encP o5.2.2.2.2.2).length + 1)) 55 o5.2.2.2.1 o5.2.2.2.2.2 r11 r11_h) rfl (by rfl) (by decide) rfl (by kernel_rfl) ⟨⟨_, _, rfl, rfl, .inl ⟨rfl, rwP⟩⟩, trivial⟩) rfl) ?_
            rintro _ _ _ ⟨rfl, rfl, rfl⟩
            refine XR.conv (σ' := [(8, ii o5.1), (10, s0 1 o5.2.2.1.length), (18, ii r8.2), (20, ii r9.2), (22, ii r10.2), (29, pp 2 0), (32, s0 5 r8.1.length), (33, s0 6 r9.1.length), (34, ii r10.1), (215, .tuple #[ii r11.1, ii r11.2])]) (h' := [(6, rI r9.1), (5, rI r8.1), (4, rc encP o5.2.2.2.2.2 0 55 2), (3, rc encP o5.2.2.2.2.1 0 55 2), (2, .cells [ii o5.2.2.2.1, s0 4 o5.2.2.2.2.2.length] 0 34 0), (1, rI o5.2.2.1), (0, .cells [ii o5.2.1, s0 3 o5.2.2.2.2.1.length] 0 34 0)]) (c' := 7) ?_ (by kernel_rfl)
            refine rS 5 [(8, ii o5.1), (10, s0 1 o5.2.2.1.length), (18, ii r8.2), (20, ii r9.2), (22, ii r10.2), (24, ii r11.2), (29, pp 2 0), (32, s0 5 r8.1.length), (33, s0 6 r9.1.length), (34, ii r10.1), (35, ii r11.1)] ?_
            refine dQ ?_
            show XQ _ _ _ _ _ _ _ _
            refine sQ ?_
            refine qQ ?_
            refine rS 3 [(8, ii o5.1), (10, s0 1 o5.2.2.1.length), (20, ii r9.2), (22, ii r10.2), (24, ii r11.2), (29, pp 2 0), (32, s0 5 r8.1.length), (33, s0 6 r9.1.length), (34, ii r10.1), (35, ii r11.1), (220, .bool (r8.2 != 0))] ?_
            cases b15 : (r8.2 != 0 : Bool) with
            | true =>
             have h := cT b15 h
             refine rS 33 [(8, ii o5.1), (10, s0 1 o5.2.2.1.length), (32, s0 5 r8.1.length), (33, s0 6 r9.1.length), (253, .bool true)] ?_
             refine dQ ?_
             show XQ _ _ _ _ _ _ _ _
             refine iT (.tmp 253) ?_
             refine qQ ?_
             refine rS 1 [(6, .bool false)] ?_
             refine dQ ?_
             show XQ _ _ _ _ _ _ _ _
             refine XQ.ret (by kernel_rfl) ?_
             have h := Option.some.inj h
             subst h
             exact ⟨fun i q => (by cases q), .bool false, (by kernel_rfl), rfl⟩
            | false =>
             have h := cF b15 h
             refine rS 4 [(8, ii o5.1), (10, s0 1 o5.2.2.1.length), (22, ii r10.2), (24, ii r11.2), (29, pp 2 0), (32, s0 5 r8.1.length), (33, s0 6 r9.1.length), (34, ii r10.1), (35, ii r11.1), (224, .bool (r9.2 != 0))] ?_
             cases b16 : (r9.2 != 0 : Bool) with
             | true =>
              have h := cT b16 h
              refine rS 29 [(8, ii o5.1), (10, s0 1 o5.2.2.1.length), (32, s0 5 r8.1.length), (33, s0 6 r9.1.length), (253, .bool true)] ?_
              refine dQ ?_
              show XQ _ _ _ _ _ _ _ _
              refine iT (.tmp 253) ?_
              refine qQ ?_
              refine rS 1 [(6, .bool false)] ?_
              refine dQ ?_
              show XQ _ _ _ _ _ _ _ _
              refine XQ.ret (by kernel_rfl) ?_
              have h := Option.some.inj h
              subst h
              exact ⟨fun i q => (by cases q), .bool false, (by kernel_rfl), rfl⟩
             | false =>
              have h := cF b16 h
              refine rS 4 [(8, ii o5.1), (10, s0 1 o5.2.2.1.length), (24, ii r11.2), (29, pp 2 0), (32, s0 5 r8.1.length), (33, s0 6 r9.1.length), (34, ii r10.1), (35, ii r11.1), (228, .bool (r10.2 != 0))] ?_
              cases b17 : (r10.2 != 0 : Bool) with
              | true =>
               have h := cT b17 h
               refine rS 25 [(8, ii o5.1), (10, s0 1 o5.2.2.1.length), (32, s0 5 r8.1.length), (33, s0 6 r9.1.length), (253, .bool true)] ?_
               refine dQ ?_
               show XQ _ _ _ _ _ _ _ _
               refine iT (.tmp 253) ?_
               refine qQ ?_
               refine rS 1 [(6, .bool false)] ?_
               refine dQ ?_
               show XQ _ _ _ _ _ _ _ _
               refine XQ.ret (by kernel_rfl) ?_
               have h := Option.some.inj h
               subst h
               exact ⟨fun i q => (by cases q), .bool false, (by kernel_rfl), rfl⟩
              | false =>
               have h := cF b17 h
               refine rS 4 [(8, ii o5.1), (10, s0 1 o5.2.2.1.length), (29, pp 2 0), (32, s0 5 r8.1.length), (33, s0 6 r9.1.length), (34, ii r10.1), (35, ii r11.1), (232, .bool (r11.2 != 0))] ?_
               cases b18 : (r11.2 != 0 : Bool) with
               | true =>
                have h := cT b18 h
                refine rS 21 [(8, ii o5.1), (10, s0 1 o5.2.2.1.length), (32, s0 5 r8.1.length), (33, s0 6 r9.1.length), (253, .bool true)] ?_
                refine dQ ?_
                show XQ _ _ _ _ _ _ _ _
                refine iT (.tmp 253) ?_
                refine qQ ?_
                refine rS 1 [(6, .bool false)] ?_
                refine dQ ?_
                show XQ _ _ _ _ _ _ _ _
                refine XQ.ret (by kernel_rfl) ?_
                have h := Option.some.inj h
                subst h
                exact ⟨fun i q => (by cases q), .bool false, (by kernel_rfl), rfl⟩
               | false =>
                have h := cF b18 h
                refine rS 5 [(8, ii o5.1), (10, s0 1 o5.2.2.1.length), (29, pp 2 0), (32, s0 5 r8.1.length), (33, s0 6 r9.1.length), (237, .bool (r10.1 != r11.1))] ?_
                cases b19 : (r10.1 != r11.1 : Bool) with
                | true =>
                 have h := cT b19 h
                 refine rS 16 [(8, ii o5.1), (10, s0 1 o5.2.2.1.length), (32, s0 5 r8.1.length), (33, s0 6 r9.1.length), (253, .bool true)] ?_
                 refine dQ ?_
                 show XQ _ _ _ _ _ _ _ _
                 refine iT (.tmp 253) ?_
                 refine qQ ?_
                 refine rS 1 [(6, .bool false)] ?_
                 refine dQ ?_
                 show XQ _ _ _ _ _ _ _ _
                 refine XQ.ret (by kernel_rfl) ?_
                 have h := Option.some.inj h
                 subst h
                 exact ⟨fun i q => (by cases q), .bool false, (by kernel_rfl), rfl⟩
                | false =>
                 have h := cF b19 h
                 refine rS 6 [(8, ii o5.1), (10, s0 1 o5.2.2.1.length), (29, pp 2 0), (32, s0 5 r8.1.length), (33, s0 6 r9.1.length), (243, .bool (((r8.1.length : Nat) : Int) != o5.1))] ?_
                 cases b20 : (((r8.1.length : Nat) : Int) != o5.1 : Bool) with
                 | true =>
                  have h := cT b20 h
                  refine rS 10 [(8, ii o5.1), (10, s0 1 o5.2.2.1.length), (32, s0 5 r8.1.length), (33, s0 6 r9.1.length), (253, .bool true)] ?_
                  refine dQ ?_
                  show XQ _ _ _ _ _ _ _ _
                  refine iT (.tmp 253) ?_
                  refine qQ ?_
                  refine rS 1 [(6, .bool false)] ?_
                  refine dQ ?_
                  show XQ _ _ _ _ _ _ _ _
                  refine XQ.ret (by kernel_rfl) ?_
                  have h := Option.some.inj h
                  subst h
                  exact ⟨fun i q => (by cases q), .bool false, (by kernel_rfl), rfl⟩
                 | false =>
                  have h := cF b20 h
                  refine rS 6 [(8, ii o5.1), (10, s0 1 o5.2.2.1.length), (29, pp 2 0), (32, s0 5 r8.1.length), (33, s0 6 r9.1.length), (249, .bool (((r9.1.length : Nat) : Int) != o5.1))] ?_
                  cases b21 : (((r9.1.length : Nat) : Int) != o5.1 : Bool) with
                  | true =>
                   have h := cT b21 h
                   refine rS 4 [(8, ii o5.1), (10, s0 1 o5.2.2.1.length), (32, s0 5 r8.1.length), (33, s0 6 r9.1.length), (253, .bool true)] ?_
                   refine dQ ?_
                   show XQ _ _ _ _ _ _ _ _
                   refine iT (.tmp 253) ?_
                   refine qQ ?_
                   refine rS 1 [(6, .bool false)] ?_
                   refine dQ ?_
                   show XQ _ _ _ _ _ _ _ _
                   refine XQ.ret (by kernel_rfl) ?_
                   have h := Option.some.inj h
                   subst h
                   exact ⟨fun i q => (by cases q), .bool false, (by kernel_rfl), rfl⟩
                  | false =>
                   have h := cF b21 h
                   refine rS 1 [(8, ii o5.1), (10, s0 1 o5.2.2.1.length), (32, s0 5 r8.1.length), (33, s0 6 r9.1.length), (249, .bool false), (250, .agg #[ii o5.2.2.2.1, s0 4 o5.2.2.2.2.2.length])] ?_
                   obtain ⟨r12, r12_h, h⟩ := bS h
                   refine XR.call E0_ok [8, 10, 32, 33, 249, 251] rfl (K := 47) (args := [.agg #[ii o5.2.2.2.1, s0 4 o5.2.2.2.2.2.length]]) (d := (some (path 12 251))) (by kernel_rfl) (KQ.call (KC.quiet E0_ok (args0 := [.agg #[ii o5.2.2.2.1, s0 0 o5.2.2.2.2.2.length]]) (h0 := [(0, rc encP o5.2.2.2.2.2 (0 + ((rowC encP o5.2.2.2.2.2).length + 1)) 55 2)]) (n := 1) (V := ii r12) [4] (f47_ok m (0 + ((rowC encP o5.2.2.2.2.2).length + 1)) 55 o5.2.2.2.1 o5.2.2.2.2.2 r12 r12_h) rfl (by rfl) (by decide) rfl (by kernel_rfl) ⟨⟨_, _, rfl, rfl, .inl ⟨rfl, rwP⟩⟩, trivial⟩) rfl) ?_
                   rintro _ _ _ ⟨rfl, rfl, rfl⟩
                   refine XR.conv (σ' := [(8, ii o5.1), (10, s0 1 o5.2.2.1.length), (32, s0 5 r8.1.length), (33, s0 6 r9.1.length), (249, .bool false), (251, ii r12)]) (h' := [(6, rI r9.1), (5, rI r8.1), (4, rc encP o5.2.2.2.2.2 0 55 2), (3, rc encP o5.2.2.2.2.1 0 55 2), (2, .cells [ii o5.2.2.2.1, s0 4 o5.2.2.2.2.2.length] 0 34 0), (1, rI o5.2.2.1), (0, .cells [ii o5.2.1, s0 3 o5.2.2.2.2.1.length] 0 34 0)]) (c' := 7) ?_ (by kernel_rfl)
                   refine rS 2 [(8, ii o5.1), (10, s0 1 o5.2.2.1.length), (32, s0 5 r8.1.length), (33, s0 6 r9.1.length), (253, .bool (r12 != 0))] ?_
                   refine dQ ?_
                   show XQ _ _ _ _ _ _ _ _
                   cases b22 : (r12 != 0 : Bool) with
                   | true =>
                    have h := cT b22 h
                    refine iT (.tmp 253) ?_
                    refine qQ ?_
                    refine rS 1 [(6, .bool false)] ?_
                    refine dQ ?_
                    show XQ _ _ _ _ _ _ _ _
                    refine XQ.ret (by kernel_rfl) ?_
                    have h := Option.some.inj h
                    subst h
                    exact ⟨fun i q => (by cases q), .bool false, (by kernel_rfl), rfl⟩
                   | false =>
                    have h := cF b22 h
                    refine iF (.tmp 253) ?_
                    refine kQ ?_
                    show XQ _ _ _ _ _ _ _ _
                    refine sQ ?_
                    refine qQ ?_
                    refine rS 2 [(10, s0 1 o5.2.2.1.length), (32, s0 5 r8.1.length), (33, s0 6 r9.1.length), (254, ii o5.1), (255, ii 0)] ?_
                    refine dQ ?_
                    show XQ _ _ _ _ _ _ _ _
                    refine XQ.block (id := 8) (by kernel_rfl) ?_
                    refine XQ.loop m (by kernel_rfl) ?_
                    obtain ⟨o6, o6_h, h⟩ := bS h
                    refine XL.ren (σ' := [(10, s0 0 o5.2.2.1.length), (32, s0 1 r8.1.length), (33, s0 2 r9.1.length), (254, ii o5.1), (255, ii 0)]) (h' := [(2, rI r9.1), (1, rI r8.1), (0, rI o5.2.2.1)]) (c' := 3) [1, 5, 6] (by decide) rfl ⟨rfl, rfl, rfl, rfl, rfl, trivial⟩ ⟨⟨_, _, rfl, rfl, .inl ⟨rfl, rwI⟩⟩, ⟨_, _, rfl, rfl, .inl ⟨rfl, rwI⟩⟩, ⟨_, _, rfl, rfl, .inl ⟨rfl, rwI⟩⟩, trivial⟩ rfl ?_
                    cases o6 with
                    | r =>
                     dsimp only at h
                     refine XL.conv (f11_6_ok m m o5.1 0 o5.2.2.1 r8.1 r9.1 (.r) o6_h _ ?_) (by first | with_reducible rfl | simp | rfl)
                     have h := Option.some.inj h
                     subst h
                     exact ⟨fun i q => (by cases q), .bool false, (by kernel_rfl), rfl⟩
                    | x8 =>
                     dsimp only at h
                     refine XL.conv (f11_6_ok m m o5.1 0 o5.2.2.1 r8.1 r9.1 (.x8) o6_h _ ?_) (by first | with_reducible rfl | simp | rfl)
                     show XQ _ _ _ _ _ _ _ _
                     refine qQ ?_
                     refine XR.call E0_ok [271] rfl (K := 14) (args := []) (d := (some (path 12 271))) (by kernel_rfl) (KC.of_calls E0_ok (F := Proofs.Tryd.f14) (v := .bool true) (by kernel_rfl) rfl rfl (works_ok)) ?_
                     rintro _ _ _ ⟨rfl, rfl, rfl⟩
                     refine XR.conv (σ' := [(271, .bool true)]) (h' := []) (c' := 0) ?_ (by kernel_rfl)
                     refine rS 1 [(6, .bool true)] ?_
                     refine dQ ?_
                     show XQ _ _ _ _ _ _ _ _
                     refine XQ.ret (by kernel_rfl) ?_
                     have h := Option.some.inj h
                     subst h
                     exact ⟨fun i q => (by cases q), .bool true, (by kernel_rfl), rfl⟩
  ·have xa4 : XA E0 272 0 (opsOf (lft (rgt (rgt (rgt (rgt (rgt (rgt f11_C11)))))))) 0 #[true, true, true, true, true, true] [(4, pp 0 0), (7, pp 1 0), (8, ii o2.1), (10, s0 2 o2.2.2.1.length), (14, s0 3 (Int.toNat o2.1)), (15, s0 4 (Int.toNat o2.1))] ((5, rc encP o2.2.2.2 0 55 2) :: (4, rI (List.replicate (Int.toNat o2.1) 0)) :: (3, rI (List.replicate (Int.toNat o2.1) 0)) :: (2, rI o2.2.2.1) :: (1, .cells [ii o2.2.1, s0 5 o2.2.2.2.length] 0 34 0) :: qlc16 b_0 b_1 b_2 b_3 b_4 b_5 b_6 b_7 []) 6 (fun xe xσ xh xc => xe = .normal ∧ (xσ, xh, xc) = ([(4, pp 0 0), (7, pp 1 0), (8, ii o2.1), (10, s0 2 o2.2.2.1.length), (14, s0 3 (Int.toNat o2.1)), (15, s0 4 (Int.toNat o2.1))], ((5, rc encP o2.2.2.2 0 55 2) :: (4, rI (List.replicate (Int.toNat o2.1) 0)) :: (3, rI (List.replicate (Int.toNat o2.1) 0)) :: (2, rI o2.2.2.1) :: (1, .cells [ii o2.2.1, s0 5 o2.2.2.2.length] 0 34 0) :: qlc16 b_0 b_1 b_2 b_3 b_4 b_5 b_6 b_7 []), 6)) := by
    exact XA.done (by kernel_rfl) ⟨rfl, rfl⟩
   have xa3 : XA E0 272 0 (opsOf (lft (rgt (rgt (rgt (rgt (rgt (rgt f11_C11)))))))) 1 #[true, true, true, true, true, false] [(4, pp 0 0), (7, pp 1 0), (8, ii o2.1), (10, s0 2 o2.2.2.1.length), (14, s0 3 (Int.toNat o2.1)), (77, s0 4 (Int.toNat o2.1))] ((5, rc encP o2.2.2.2 0 55 2) :: (4, rI (List.replicate (Int.toNat o2.1) 0)) :: (3, rI (List.replicate (Int.toNat o2.1) 0)) :: (2, rI o2.2.2.1) :: (1, .cells [ii o2.2.1, s0 5 o2.2.2.2.length] 0 34 0) :: qlc16 b_0 b_1 b_2 b_3 b_4 b_5 b_6 b_7 []) 6 (fun xe xσ xh xc => xe = .normal ∧ (xσ, xh, xc) = ([(4, pp 0 0), (7, pp 1 0), (8, ii o2.1), (10, s0 2 o2.2.2.1.length), (14, s0 3 (Int.toNat o2.1)), (15, s0 4 (Int.toNat o2.1))], ((5, rc encP o2.2.2.2 0 55 2) :: (4, rI (List.replicate (Int.toNat o2.1) 0)) :: (3, rI (List.replicate (Int.toNat o2.1) 0)) :: (2, rI o2.2.2.1) :: (1, .cells [ii o2.2.1, s0 5 o2.2.2.2.length] 0 34 0) :: qlc16 b_0 b_1 b_2 b_3 b_4 b_5 b_6 b_7 []), 6)) := by
    refine XA.step E0_ok [5] (by kernel_rfl) rfl (by kernel_rfl) ⟨?_, trivial⟩
    ·refine rS 1 [(4, pp 0 0), (7, pp 1 0), (8, ii o2.1), (10, s0 2 o2.2.2.1.length), (14, s0 3 (Int.toNat o2.1)), (15, s0 4 (Int.toNat o2.1))] ?_
     refine dQ ?_
     refine ⟨rfl, ?_⟩
     show XA _ _ _ _ _ _ _ _ _ _
     exact xa4
   have xa2 : XA E0 272 0 (opsOf (lft (rgt (rgt (rgt (rgt (rgt (rgt f11_C11)))))))) 2 #[true, true, true, true, false, false] [(4, pp 0 0), (7, pp 1 0), (8, ii o2.1), (10, s0 2 o2.2.2.1.length), (75, s0 3 (Int.toNat o2.1)), (77, s0 4 (Int.toNat o2.1))] ((5, rc encP o2.2.2.2 0 55 2) :: (4, rI (List.replicate (Int.toNat o2.1) 0)) :: (3, rI (List.replicate (Int.toNat o2.1) 0)) :: (2, rI o2.2.2.1) :: (1, .cells [ii o2.2.1, s0 5 o2.2.2.2.length] 0 34 0) :: qlc16 b_0 b_1 b_2 b_3 b_4 b_5 b_6 b_7 []) 6 (fun xe xσ xh xc => xe = .normal ∧ (xσ, xh, xc) = ([(4, pp 0 0), (7, pp 1 0), (8, ii o2.1), (10, s0 2 o2.2.2.1.length), (14, s0 3 (Int.toNat o2.1)), (15, s0 4 (Int.toNat o2.1))], ((5, rc encP o2.2.2.2 0 55 2) :: (4, rI (List.replicate (Int.toNat o2.1) 0)) :: (3, rI (List.replicate (Int.toNat o2.1) 0)) :: (2, rI o2.2.2.1) :: (1, .cells [ii o2.2.1, s0 5 o2.2.2.2.length] 0 34 0) :: qlc16 b_0 b_1 b_2 b_3 b_4 b_5 b_6 b_7 []), 6)) := by
    refine XA.step E0_ok [4] (by kernel_rfl) rfl (by kernel_rfl) ⟨?_, trivial⟩
    ·refine rS 1 [(4, pp 0 0), (7, pp 1 0), (8, ii o2.1), (10, s0 2 o2.2.2.1.length), (14, s0 3 (Int.toNat o2.1)), (77, s0 4 (Int.toNat o2.1))] ?_
     refine dQ ?_
     refine ⟨rfl, ?_⟩
     show XA _ _ _ _ _ _ _ _ _ _
     exact xa3
   have xa5 : XA E0 272 0 (opsOf (lft (rgt (rgt (rgt (rgt (rgt (rgt f11_C11)))))))) 2 #[true, true, true, false, true, false] [(4, pp 0 0), (7, pp 1 0), (8, ii o2.1), (10, s0 2 o2.2.2.1.length), (14, s0 3 (Int.toNat o2.1)), (76, ii o2.1)] ((4, rc encP o2.2.2.2 0 55 2) :: (3, rI (List.replicate (Int.toNat o2.1) 0)) :: (2, rI o2.2.2.1) :: (1, .cells [ii o2.2.1, s0 4 o2.2.2.2.length] 0 34 0) :: qlc16 b_0 b_1 b_2 b_3 b_4 b_5 b_6 b_7 []) 5 (fun xe xσ xh xc => xe = .normal ∧ (xσ, xh, xc) = ([(4, pp 0 0), (7, pp 1 0), (8, ii o2.1), (10, s0 2 o2.2.2.1.length), (14, s0 3 (Int.toNat o2.1)), (15, s0 4 (Int.toNat o2.1))], ((5, rc encP o2.2.2.2 0 55 2) :: (4, rI (List.replicate (Int.toNat o2.1) 0)) :: (3, rI (List.replicate (Int.toNat o2.1) 0)) :: (2, rI o2.2.2.1) :: (1, .cells [ii o2.2.1, s0 5 o2.2.2.2.length] 0 34 0) :: qlc16 b_0 b_1 b_2 b_3 b_4 b_5 b_6 b_7 []), 6)) := by
    refine XA.step E0_ok [3] (by kernel_rfl) rfl (by kernel_rfl) ⟨?_, trivial⟩
    ·refine XR.ef E0_ok [4, 7, 8, 10, 14, 77] rfl (e_make (encI_ok .i64) (x := (src 272 (.tmp 76))) (y := (src 272 (.tmp 76))) (l := o2.1) (n := o2.1) (bytes := 8) (e := 3) (z := #[ii 0]) (d := (some (path 12 77))) (by kernel_rfl) (by kernel_rfl) (by kernel_rfl) 0 rfl (by kernel_rfl) b3) (σ' := [(4, pp 0 0), (7, pp 1 0), (8, ii o2.1), (10, s0 2 o2.2.2.1.length), (14, s0 3 (Int.toNat o2.1)), (77, s0 5 (Int.toNat o2.1))]) (by kernel_rfl) ?_
     refine dQ ?_
     refine ⟨rfl, ?_⟩
     show XA _ _ _ _ _ _ _ _ _ _
     refine XA.ren (σ' := [(4, pp 0 0), (7, pp 1 0), (8, ii o2.1), (10, s0 2 o2.2.2.1.length), (14, s0 3 (Int.toNat o2.1)), (77, s0 4 (Int.toNat o2.1))]) (h' := ((5, rc encP o2.2.2.2 0 55 2) :: (4, rI (List.replicate (Int.toNat o2.1) 0)) :: (3, rI (List.replicate (Int.toNat o2.1) 0)) :: (2, rI o2.2.2.1) :: (1, .cells [ii o2.2.1, s0 5 o2.2.2.2.length] 0 34 0) :: qlc16 b_0 b_1 b_2 b_3 b_4 b_5 b_6 b_7 [])) (c' := 6) [0, 1, 2, 3, 5, 4] (by decide) rfl ⟨rfl, rfl, rfl, rfl, rfl, rfl, trivial⟩ ⟨⟨_, _, rfl, rfl, .inl ⟨rfl, rwP⟩⟩, ⟨_, _, rfl, rfl, .inl ⟨rfl, rwI⟩⟩, ⟨_, _, rfl, rfl, .inl ⟨rfl, rwI⟩⟩, ⟨_, _, rfl, rfl, .inl ⟨rfl, rwI⟩⟩, ⟨_, _, rfl, rfl, .inr ⟨_, _, _, _, rfl, rfl⟩⟩, ⟨_, _, rfl, rfl, .inr ⟨_, _, _, _, rfl, rfl⟩⟩, trivial⟩ rfl ?_
     exact xa3
   have xa1 : XA E0 272 0 (opsOf (lft (rgt (rgt (rgt (rgt (rgt (rgt f11_C11)))))))) 3 #[true, true, true, false, false, false] [(4, pp 0 0), (7, pp 1 0), (8, ii o2.1), (10, s0 2 o2.2.2.1.length), (75, s0 3 (Int.toNat o2.1)), (76, ii o2.1)] ((4, rc encP o2.2.2.2 0 55 2) :: (3, rI (List.replicate (Int.toNat o2.1) 0)) :: (2, rI o2.2.2.1) :: (1, .cells [ii o2.2.1, s0 4 o2.2.2.2.length] 0 34 0) :: qlc16 b_0 b_1 b_2 b_3 b_4 b_5 b_6 b_7 []) 5 (fun xe xσ xh xc => xe = .normal ∧ (xσ, xh, xc) = ([(4, pp 0 0), (7, pp 1 0), (8, ii o2.1), (10, s0 2 o2.2.2.1.length), (14, s0 3 (Int.toNat o2.1)), (15, s0 4 (Int.toNat o2.1))], ((5, rc encP o2.2.2.2 0 55 2) :: (4, rI (List.replicate (Int.toNat o2.1) 0)) :: (3, rI (List.replicate (Int.toNat o2.1) 0)) :: (2, rI o2.2.2.1) :: (1, .cells [ii o2.2.1, s0 5 o2.2.2.2.length] 0 34 0) :: qlc16 b_0 b_1 b_2 b_3 b_4 b_5 b_6 b_7 []), 6)) := by
    refine XA.step E0_ok [3, 4] (by kernel_rfl) rfl (by kernel_rfl) ⟨?_, ?_, trivial⟩
    ·refine XR.ef E0_ok [4, 7, 8, 10, 75, 77] rfl (e_make (encI_ok .i64) (x := (src 272 (.tmp 76))) (y := (src 272 (.tmp 76))) (l := o2.1) (n := o2.1) (bytes := 8) (e := 3) (z := #[ii 0]) (d := (some (path 12 77))) (by kernel_rfl) (by kernel_rfl) (by kernel_rfl) 0 rfl (by kernel_rfl) b3) (σ' := [(4, pp 0 0), (7, pp 1 0), (8, ii o2.1), (10, s0 2 o2.2.2.1.length), (75, s0 3 (Int.toNat o2.1)), (77, s0 5 (Int.toNat o2.1))]) (by kernel_rfl) ?_
     refine dQ ?_
     refine ⟨rfl, ?_⟩
     show XA _ _ _ _ _ _ _ _ _ _
     refine XA.ren (σ' := [(4, pp 0 0), (7, pp 1 0), (8, ii o2.1), (10, s0 2 o2.2.2.1.length), (75, s0 3 (Int.toNat o2.1)), (77, s0 4 (Int.toNat o2.1))]) (h' := ((5, rc encP o2.2.2.2 0 55 2) :: (4, rI (List.replicate (Int.toNat o2.1) 0)) :: (3, rI (List.replicate (Int.toNat o2.1) 0)) :: (2, rI o2.2.2.1) :: (1, .cells [ii o2.2.1, s0 5 o2.2.2.2.length] 0 34 0) :: qlc16 b_0 b_1 b_2 b_3 b_4 b_5 b_6 b_7 [])) (c' := 6) [0, 1, 2, 3, 5, 4] (by decide) rfl ⟨rfl, rfl, rfl, rfl, rfl, rfl, trivial⟩ ⟨⟨_, _, rfl, rfl, .inl ⟨rfl, rwP⟩⟩, ⟨_, _, rfl, rfl, .inl ⟨rfl, rwI⟩⟩, ⟨_, _, rfl, rfl, .inl ⟨rfl, rwI⟩⟩, ⟨_, _, rfl, rfl, .inl ⟨rfl, rwI⟩⟩, ⟨_, _, rfl, rfl, .inr ⟨_, _, _, _, rfl, rfl⟩⟩, ⟨_, _, rfl, rfl, .inr ⟨_, _, _, _, rfl, rfl⟩⟩, trivial⟩ rfl ?_
     exact xa2
    ·refine rS 1 [(4, pp 0 0), (7, pp 1 0), (8, ii o2.1), (10, s0 2 o2.2.2.1.length), (14, s0 3 (Int.toNat o2.1)), (76, ii o2.1)] ?_
     refine dQ ?_
     refine ⟨rfl, ?_⟩
     show XA _ _ _ _ _ _ _ _ _ _
     exact xa5
   have xa6 : XA E0 272 0 (opsOf (lft (rgt (rgt (rgt (rgt (rgt (rgt f11_C11)))))))) 3 #[true, false, true, true, false, false] [(4, pp 0 0), (7, pp 1 0), (8, ii o2.1), (10, s0 2 o2.2.2.1.length), (74, ii o2.1), (77, s0 3 (Int.toNat o2.1))] ((4, rc encP o2.2.2.2 0 55 2) :: (3, rI (List.replicate (Int.toNat o2.1) 0)) :: (2, rI o2.2.2.1) :: (1, .cells [ii o2.2.1, s0 4 o2.2.2.2.length] 0 34 0) :: qlc16 b_0 b_1 b_2 b_3 b_4 b_5 b_6 b_7 []) 5 (fun xe xσ xh xc => xe = .normal ∧ (xσ, xh, xc) = ([(4, pp 0 0), (7, pp 1 0), (8, ii o2.1), (10, s0 2 o2.2.2.1.length), (14, s0 3 (Int.toNat o2.1)), (15, s0 4 (Int.toNat o2.1))], ((5, rc encP o2.2.2.2 0 55 2) :: (4, rI (List.replicate (Int.toNat o2.1) 0)) :: (3, rI (List.replicate (Int.toNat o2.1) 0)) :: (2, rI o2.2.2.1) :: (1, .cells [ii o2.2.1, s0 5 o2.2.2.2.length] 0 34 0) :: qlc16 b_0 b_1 b_2 b_3 b_4 b_5 b_6 b_7 []), 6)) := by
    refine XA.step E0_ok [1] (by kernel_rfl) rfl (by kernel_rfl) ⟨?_, trivial⟩
    ·refine XR.ef E0_ok [4, 7, 8, 10, 75, 77] rfl (e_make (encI_ok .i64) (x := (src 272 (.tmp 74))) (y := (src 272 (.tmp 74))) (l := o2.1) (n := o2.1) (bytes := 8) (e := 3) (z := #[ii 0]) (d := (some (path 12 75))) (by kernel_rfl) (by kernel_rfl) (by kernel_rfl) 0 rfl (by kernel_rfl) b3) (σ' := [(4, pp 0 0), (7, pp 1 0), (8, ii o2.1), (10, s0 2 o2.2.2.1.length), (75, s0 5 (Int.toNat o2.1)), (77, s0 3 (Int.toNat o2.1))]) (by kernel_rfl) ?_
     refine dQ ?_
     refine ⟨rfl, ?_⟩
     show XA _ _ _ _ _ _ _ _ _ _
     refine XA.ren (σ' := [(4, pp 0 0), (7, pp 1 0), (8, ii o2.1), (10, s0 2 o2.2.2.1.length), (75, s0 3 (Int.toNat o2.1)), (77, s0 4 (Int.toNat o2.1))]) (h' := ((5, rc encP o2.2.2.2 0 55 2) :: (4, rI (List.replicate (Int.toNat o2.1) 0)) :: (3, rI (List.replicate (Int.toNat o2.1) 0)) :: (2, rI o2.2.2.1) :: (1, .cells [ii o2.2.1, s0 5 o2.2.2.2.length] 0 34 0) :: qlc16 b_0 b_1 b_2 b_3 b_4 b_5 b_6 b_7 [])) (c' := 6) [0, 1, 2, 5, 3, 4] (by decide) rfl ⟨rfl, rfl, rfl, rfl, rfl, rfl, trivial⟩ ⟨⟨_, _, rfl, rfl, .inl ⟨rfl, rwP⟩⟩, ⟨_, _, rfl, rfl, .inl ⟨rfl, rwI⟩⟩, ⟨_, _, rfl, rfl, .inl ⟨rfl, rwI⟩⟩, ⟨_, _, rfl, rfl, .inl ⟨rfl, rwI⟩⟩, ⟨_, _, rfl, rfl, .inr ⟨_, _, _, _, rfl, rfl⟩⟩, ⟨_, _, rfl, rfl, .inr ⟨_, _, _, _, rfl, rfl⟩⟩, trivial⟩ rfl ?_
     exact xa2
   have xa0 : XA E0 272 0 (opsOf (lft (rgt (rgt (rgt (rgt (rgt (rgt f11_C11)))))))) 4 #[true, false, true, false, false, false] [(4, pp 0 0), (7, pp 1 0), (8, ii o2.1), (10, s0 2 o2.2.2.1.length), (74, ii o2.1), (76, ii o2.1)] ((3, rc encP o2.2.2.2 0 55 2) :: (2, rI o2.2.2.1) :: (1, .cells [ii o2.2.1, s0 3 o2.2.2.2.length] 0 34 0) :: qlc16 b_0 b_1 b_2 b_3 b_4 b_5 b_6 b_7 []) 4 (fun xe xσ xh xc => xe = .normal ∧ (xσ, xh, xc) = ([(4, pp 0 0), (7, pp 1 0), (8, ii o2.1), (10, s0 2 o2.2.2.1.length), (14, s0 3 (Int.toNat o2.1)), (15, s0 4 (Int.toNat o2.1))], ((5, rc encP o2.2.2.2 0 55 2) :: (4, rI (List.replicate (Int.toNat o2.1) 0)) :: (3, rI (List.replicate (Int.toNat o2.1) 0)) :: (2, rI o2.2.2.1) :: (1, .cells [ii o2.2.1, s0 5 o2.2.2.2.length] 0 34 0) :: qlc16 b_0 b_1 b_2 b_3 b_4 b_5 b_6 b_7 []), 6)) := by
    refine XA.step E0_ok [1, 3] (by kernel_rfl) rfl (by kernel_rfl) ⟨?_, ?_, trivial⟩
    ·refine XR.ef E0_ok [4, 7, 8, 10, 75, 76] rfl (e_make (encI_ok .i64) (x := (src 272 (.tmp 74))) (y := (src 272 (.tmp 74))) (l := o2.1) (n := o2.1) (bytes := 8) (e := 3) (z := #[ii 0]) (d := (some (path 12 75))) (by kernel_rfl) (by kernel_rfl) (by kernel_rfl) 0 rfl (by kernel_rfl) b3) (σ' := [(4, pp 0 0), (7, pp 1 0), (8, ii o2.1), (10, s0 2 o2.2.2.1.length), (75, s0 4 (Int.toNat o2.1)), (76, ii o2.1)]) (by kernel_rfl) ?_
     refine dQ ?_
     refine ⟨rfl, ?_⟩
     show XA _ _ _ _ _ _ _ _ _ _
     refine XA.ren (σ' := [(4, pp 0 0), (7, pp 1 0), (8, ii o2.1), (10, s0 2 o2.2.2.1.length), (75, s0 3 (Int.toNat o2.1)), (76, ii o2.1)]) (h' := ((4, rc encP o2.2.2.2 0 55 2) :: (3, rI (List.replicate (Int.toNat o2.1) 0)) :: (2, rI o2.2.2.1) :: (1, .cells [ii o2.2.1, s0 4 o2.2.2.2.length] 0 34 0) :: qlc16 b_0 b_1 b_2 b_3 b_4 b_5 b_6 b_7 [])) (c' := 5) [0, 1, 2, 4, 3] (by decide) rfl ⟨rfl, rfl, rfl, rfl, rfl, rfl, trivial⟩ ⟨⟨_, _, rfl, rfl, .inl ⟨rfl, rwP⟩⟩, ⟨_, _, rfl, rfl, .inl ⟨rfl, rwI⟩⟩, ⟨_, _, rfl, rfl, .inl ⟨rfl, rwI⟩⟩, ⟨_, _, rfl, rfl, .inr ⟨_, _, _, _, rfl, rfl⟩⟩, ⟨_, _, rfl, rfl, .inr ⟨_, _, _, _, rfl, rfl⟩⟩, trivial⟩ rfl ?_
     exact xa1
    ·refine XR.ef E0_ok [4, 7, 8, 10, 74, 77] rfl (e_make (encI_ok .i64) (x := (src 272 (.tmp 76))) (y := (src 272 (.tmp 76))) (l := o2.1) (n := o2.1) (bytes := 8) (e := 3) (z := #[ii 0]) (d := (some (path 12 77))) (by kernel_rfl) (by kernel_rfl) (by kernel_rfl) 0 rfl (by kernel_rfl) b3) (σ' := [(4, pp 0 0), (7, pp 1 0), (8, ii o2.1), (10, s0 2 o2.2.2.1.length), (74, ii o2.1), (77, s0 4 (Int.toNat o2.1))]) (by kernel_rfl) ?_
     refine dQ ?_
     refine ⟨rfl, ?_⟩
     show XA _ _ _ _ _ _ _ _ _ _
     refine XA.ren (σ' := [(4, pp 0 0), (7, pp 1 0), (8, ii o2.1), (10, s0 2 o2.2.2.1.length), (74, ii o2.1), (77, s0 3 (Int.toNat o2.1))]) (h' := ((4, rc encP o2.2.2.2 0 55 2) :: (3, rI (List.replicate (Int.toNat o2.1) 0)) :: (2, rI o2.2.2.1) :: (1, .cells [ii o2.2.1, s0 4 o2.2.2.2.length] 0 34 0) :: qlc16 b_0 b_1 b_2 b_3 b_4 b_5 b_6 b_7 [])) (c' := 5) [0, 1, 2, 4, 3] (by decide) rfl ⟨rfl, rfl, rfl, rfl, rfl, rfl, trivial⟩ ⟨⟨_, _, rfl, rfl, .inl ⟨rfl, rwP⟩⟩, ⟨_, _, rfl, rfl, .inl ⟨rfl, rwI⟩⟩, ⟨_, _, rfl, rfl, .inl ⟨rfl, rwI⟩⟩, ⟨_, _, rfl, rfl, .inr ⟨_, _, _, _, rfl, rfl⟩⟩, ⟨_, _, rfl, rfl, .inr ⟨_, _, _, _, rfl, rfl⟩⟩, trivial⟩ rfl ?_
     exact xa6
   refine XP.step E0_ok 2 [4, 7, 8, 10, 74, 76] rfl (σ' := [(4, pp 0 0), (7, pp 1 0), (8, ii o2.1), (10, s0 2 o2.2.2.1.length), (74, ii o2.1), (76, ii o2.1)]) (by kernel_rfl) ?_
   refine XP.done (by kernel_rfl) ?_
   show XA _ _ _ _ _ _ _ _ _ _
   exact xa0
end Go.Xm
