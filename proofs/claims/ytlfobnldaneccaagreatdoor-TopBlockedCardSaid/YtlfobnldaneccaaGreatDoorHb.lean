/- What these functions of the program compute, as functions in Lean, and the proofs that they do: beetle.floor).spread, beetle.opened, beetle.Blocks. Conditions: the library's variables hold what their texts lay. -/
import Derived.Test.YtlfobnldaneccaaGreatDoorZk
import Derived.Test.YtlfobnldaneccaaGreatDoorBa
import Derived.Test.YtlfobnldaneccaaGreatDoorWd
namespace Go.Xm
open Go.RowKit
set_option linter.unusedVariables false
set_option linter.unusedSimpArgs false
set_option maxRecDepth 20000
set_option maxHeartbeats 4000000
noncomputable def f36_C36 : Code := Proofs.Tryz.f36.body.getD .skip
noncomputable def f36_L1 : Code := lft (lft (lft (rgt (rgt (rgt f36_C36)))))
noncomputable def f36_L2 : Code := lft (lft (rgt (rgt (rgt (lft (rgt f36_L1))))))
def f36_2 (m : Nat) : Nat → Int → Int → Int → List Int → Int → Int → Int → Int → Int → List Int → List Int → Option (Int × (List Int))
 | 0, _, _, _, _, _, _, _, _, _, _, _ => none
 | fuel + 1, a_rows, a_columns, a_bales, a_near, b_sick, b_frozen, x5_2, x41_2, x42_2, lh2_2, lh3_2 =>
  cond (decide (x42_2 < x41_2)) (
   cond (inRow x42_2 lh3_2.length) (
    cond (inRow (List.getD lh3_2 (Int.toNat x42_2) 0) 25) (
     cond (decide (Int.toNat (List.getD lh3_2 (Int.toNat x42_2) 0) < a_near.length)) (
      (f56 m (andV .u32 (List.getD a_near (Int.toNat (List.getD lh3_2 (Int.toNat x42_2) 0)) 0) x5_2)).bind fun r18 =>
       cond (decide (r18 > 1)) (
        cond (decide (0 ≤ List.getD lh3_2 (Int.toNat x42_2) 0)) (
         cond (fitsB (lh2_2.length + 1) 8) (
          f36_2 m fuel a_rows a_columns a_bales a_near b_sick b_frozen (orV .u32 x5_2 (shV true .u32 1 (List.getD lh3_2 (Int.toNat x42_2) 0))) x41_2 (w64 (x42_2 + 1)) (lh2_2 ++ [List.getD lh3_2 (Int.toNat x42_2) 0]) lh3_2
         ) none
        ) none
       ) (
        f36_2 m fuel a_rows a_columns a_bales a_near b_sick b_frozen x5_2 x41_2 (w64 (x42_2 + 1)) lh2_2 lh3_2
       )
     ) none
    ) none
   ) none
  ) (
   some (x5_2, lh2_2)
  )
abbrev qhb1 (lh2_2 : List Int) (lh3_2 : List Int) (x41_2 : Int) (x42_2 : Int) (t : St) : St := (6, s0 2 lh2_2.length) :: (9, ii (List.getD lh3_2 (Int.toNat x42_2) 0)) :: (40, s0 3 lh3_2.length) :: (41, ii x41_2) :: (42, ii x42_2) :: t
abbrev qhb2 (lh2_2 : List Int) (lh3_2 : List Int) (x41_2 : Int) (x5_2 : Int) (t : St) : St := (0, pp 0 0) :: (3, pp 1 0) :: (5, .int .u32 x5_2) :: (6, s0 2 lh2_2.length) :: (40, s0 3 lh3_2.length) :: (41, ii x41_2) :: t
abbrev qhb3 (b_frozen : Int) (b_sick : Int) (t : Heap) : Heap := (1, .cells [.int .u32 b_sick, .int .u32 b_frozen] 0 63 0) :: t
theorem f36_2_ok (m : Nat) : ∀ (fuel : Nat) (z0 : Nat) (a_rows : Int) (a_columns : Int) (a_bales : Int) (a_near : List Int) (b_sick : Int) (b_frozen : Int) (x5_2 : Int) (x41_2 : Int) (x42_2 : Int) (lh2_2 : List Int) (lh3_2 : List Int) (o : (Int × (List Int))), f36_2 m fuel a_rows a_columns a_bales a_near b_sick b_frozen x5_2 x41_2 x42_2 lh2_2 lh3_2 = some o → ∀ Q : QP, Q (.exit 2) [(0, pp 0 0), (3, pp 1 0), (5, .int .u32 o.1), (6, s0 2 o.2.length)] ((2, rI o.2) :: qhb3 b_frozen b_sick [(0, .cells ([ii a_rows, ii a_columns, ii a_bales] ++ rowC (encI .u32) a_near) z0 72 0)]) 3 → XL E0 66 1 fuel f36_L2 (qhb2 lh2_2 lh3_2 x41_2 x5_2 [(42, ii x42_2)]) ((3, rI lh3_2) :: (2, rI lh2_2) :: qhb3 b_frozen b_sick [(0, .cells ([ii a_rows, ii a_columns, ii a_bales] ++ rowC (encI .u32) a_near) z0 72 0)]) 4 Q
 | 0, z0, a_rows, a_columns, a_bales, a_near, b_sick, b_frozen, x5_2, x41_2, x42_2, lh2_2, lh3_2, o, h, Q, hQ => by cases h
 | fuel + 1, z0, a_rows, a_columns, a_bales, a_near, b_sick, b_frozen, x5_2, x41_2, x42_2, lh2_2, lh3_2, o, h, Q, hQ => by
  unfold f36_2 at h
  refine XL.succ E0_ok ?_
  refine qQ ?_
  refine rS 1 (qhb2 lh2_2 lh3_2 x41_2 x5_2 [(42, ii x42_2), (43, .bool (decide (x42_2 < x41_2)))]) ?_
  refine dQ ?_
  show XQ _ _ _ _ _ _ _ _
  refine sQ ?_
  cases b1 : (decide (x42_2 < x41_2) : Bool) with
  | true =>
   have h := cT b1 h
   refine iT (.tmp 43) ?_
   refine kQ ?_
   show XQ _ _ _ _ _ _ _ _
   refine sQ ?_
   refine XQ.block (id := 3) (by kernel_rfl) ?_
   refine qQ ?_
   cases b2 : (inRow x42_2 lh3_2.length : Bool) with
   | false => cases (cF b2 h)
   | true =>
    have h := cT b2 h
    refine XR.rd E0_ok [0, 3, 5, 6, 40, 41, 42, 44] rfl (v := pp 3 ((Int.toNat x42_2) * 1)) (v_idx (s := 1) (x := (src 66 (.tmp 40))) (y := (src 66 (.tmp 42))) (b := 3) (o := 0) (len := lh3_2.length) (cap := lh3_2.length) (ik := .i64) (i := x42_2) (off := (Int.toNat x42_2) * 1) (d := (some (path 12 44))) (by kernel_rfl) (by kernel_rfl) (by kernel_rfl) b2 (by omega)) (σ' := (qhb2 lh2_2 lh3_2 x41_2 x5_2 [(42, ii x42_2), (44, pp 3 ((Int.toNat x42_2) * 1))])) (by kernel_rfl) ?_
    refine XR.rd E0_ok [0, 3, 5, 6, 40, 41, 42, 45] rfl (v := ii (List.getD lh3_2 (Int.toNat x42_2) 0)) (v_load1 (encI_ok .i64) (x := (src 66 (.tmp 44))) (b := 3) (off := (Int.toNat x42_2) * 1) (xs := lh3_2) (fz := 0) (e := 3) (es := 1) (d := (some (path 12 45))) (by kernel_rfl) (by kernel_rfl) (by kernel_rfl) (Int.toNat x42_2) 0 0 (by first | with_reducible rfl | omega | rfl) (row_len (inRow_toNat b2) (by simp)) rfl rfl) (σ' := (qhb2 lh2_2 lh3_2 x41_2 x5_2 [(42, ii x42_2), (45, ii (List.getD lh3_2 (Int.toNat x42_2) 0))])) (by kernel_rfl) ?_
    refine rS 1 ((0, pp 0 0) :: (3, pp 1 0) :: (5, .int .u32 x5_2) :: qhb1 lh2_2 lh3_2 x41_2 x42_2 []) ?_
    refine nQ id ?_
    refine rS 4 ((0, pp 0 0) :: (3, pp 1 0) :: (5, .int .u32 x5_2) :: qhb1 lh2_2 lh3_2 x41_2 x42_2 [(47, ii (List.getD lh3_2 (Int.toNat x42_2) 0)), (49, pp 0 3)]) ?_
    cases b3 : (inRow (List.getD lh3_2 (Int.toNat x42_2) 0) 25 : Bool) with
    | false => cases (cF b3 h)
    | true =>
     have h := cT b3 h
     refine XR.rd E0_ok [0, 3, 5, 6, 9, 40, 41, 42, 50] rfl (v := pp 0 ((Int.toNat (List.getD lh3_2 (Int.toNat x42_2) 0)) * 1 + 3)) (v_idxA (s := 1) (len := 25) (x := (src 66 (.tmp 49))) (y := (src 66 (.tmp 47))) (b := 0) (o := 3) (ik := .i64) (i := List.getD lh3_2 (Int.toNat x42_2) 0) (off := (Int.toNat (List.getD lh3_2 (Int.toNat x42_2) 0)) * 1 + 3) (d := (some (path 12 50))) (by kernel_rfl) (by kernel_rfl) (by kernel_rfl) b3 (by omega)) (σ' := ((0, pp 0 0) :: (3, pp 1 0) :: (5, .int .u32 x5_2) :: qhb1 lh2_2 lh3_2 x41_2 x42_2 [(50, pp 0 ((Int.toNat (List.getD lh3_2 (Int.toNat x42_2) 0)) * 1 + 3))])) (by kernel_rfl) ?_
     cases b4 : (decide (Int.toNat (List.getD lh3_2 (Int.toNat x42_2) 0) < a_near.length) : Bool) with
     | false => cases (cF b4 h)
     | true =>
      have h := cT b4 h
      refine XR.rd E0_ok [0, 3, 5, 6, 9, 40, 41, 42, 51] rfl (v := .int .u32 (List.getD a_near (Int.toNat (List.getD lh3_2 (Int.toNat x42_2) 0)) 0)) (v_load1P (encI_ok .u32) (x := (src 66 (.tmp 50))) (b := 0) (off := (Int.toNat (List.getD lh3_2 (Int.toNat x42_2) 0)) * 1 + 3) (pre := [ii a_rows, ii a_columns, ii a_bales]) (p := 3) rfl (xs := a_near) (fz := z0) (e := 72) (es := 0) (d := (some (path 12 51))) (by kernel_rfl) (by kernel_rfl) (by kernel_rfl) (Int.toNat (List.getD lh3_2 (Int.toNat x42_2) 0)) 0 0 (by first | with_reducible rfl | omega | rfl) (row_len b4 (by simp)) rfl rfl) (σ' := ((0, pp 0 0) :: (3, pp 1 0) :: (5, .int .u32 x5_2) :: qhb1 lh2_2 lh3_2 x41_2 x42_2 [(51, .int .u32 (List.getD a_near (Int.toNat (List.getD lh3_2 (Int.toNat x42_2) 0)) 0))])) (by kernel_rfl) ?_
      refine rS 2 ((0, pp 0 0) :: (3, pp 1 0) :: (5, .int .u32 x5_2) :: qhb1 lh2_2 lh3_2 x41_2 x42_2 [(53, .int .u32 (andV .u32 (List.getD a_near (Int.toNat (List.getD lh3_2 (Int.toNat x42_2) 0)) 0) x5_2))]) ?_
      obtain ⟨r18, r18_h, h⟩ := bS h
      refine XR.call E0_ok [0, 3, 5, 6, 9, 40, 41, 42, 54] rfl (K := 56) (args := [.int .u32 (andV .u32 (List.getD a_near (Int.toNat (List.getD lh3_2 (Int.toNat x42_2) 0)) 0) x5_2)]) (d := (some (path 12 54))) (by kernel_rfl) (KC.of_calls E0_ok (F := Proofs.Tryz.f56) (v := ii r18) (by kernel_rfl) rfl rfl (fun w hI => f56_ok m (andV .u32 (List.getD a_near (Int.toNat (List.getD lh3_2 (Int.toNat x42_2) 0)) 0) x5_2) r18 r18_h w hI)) ?_
      rintro _ _ _ ⟨rfl, rfl, rfl⟩
      refine XR.conv (σ' := ((0, pp 0 0) :: (3, pp 1 0) :: (5, .int .u32 x5_2) :: qhb1 lh2_2 lh3_2 x41_2 x42_2 [(54, ii r18)])) (h' := ((3, rI lh3_2) :: (2, rI lh2_2) :: qhb3 b_frozen b_sick [(0, .cells ([ii a_rows, ii a_columns, ii a_bales] ++ rowC (encI .u32) a_near) z0 72 0)])) (c' := 4) ?_ (by kernel_rfl)
      refine rS 1 ((0, pp 0 0) :: (3, pp 1 0) :: (5, .int .u32 x5_2) :: qhb1 lh2_2 lh3_2 x41_2 x42_2 [(55, .bool (decide (r18 > 1)))]) ?_
      refine dQ ?_
      show XQ _ _ _ _ _ _ _ _
      cases b5 : (decide (r18 > 1) : Bool) with
      | true =>
       have h := cT b5 h
       refine iT (.tmp 55) ?_
       refine qQ ?_
       refine rS 2 ((0, pp 0 0) :: (3, pp 1 0) :: qhb1 lh2_2 lh3_2 x41_2 x42_2 [(56, .int .u32 x5_2), (57, ii (List.getD lh3_2 (Int.toNat x42_2) 0))]) ?_
       cases b6 : (decide (0 ≤ List.getD lh3_2 (Int.toNat x42_2) 0) : Bool) with
       | false => cases (cF b6 h)
       | true =>
        have h := cT b6 h
        have e7 : insV (headI ((gsOf E0 66 (opsOf (lft (lft (rgt (rgt (lft (lft (rgt (rgt f36_L2)))))))))).drop 2) (trS 66 ((0, pp 0 0) :: (3, pp 1 0) :: qhb1 lh2_2 lh3_2 x41_2 x42_2 [(56, .int .u32 x5_2), (57, ii (List.getD lh3_2 (Int.toNat x42_2) 0))]))) (trS 66 ((0, pp 0 0) :: (3, pp 1 0) :: qhb1 lh2_2 lh3_2 x41_2 x42_2 [(56, .int .u32 x5_2), (57, ii (List.getD lh3_2 (Int.toNat x42_2) 0))])) ((3, rI lh3_2) :: (2, rI lh2_2) :: qhb3 b_frozen b_sick [(0, .cells ([ii a_rows, ii a_columns, ii a_bales] ++ rowC (encI .u32) a_near) z0 72 0)]) = (match (decide (0 ≤ List.getD lh3_2 (Int.toNat x42_2) 0) : Bool) with | true => some (.int .u32 (shV true .u32 1 (List.getD lh3_2 (Int.toNat x42_2) 0))) | false => none) := by kernel_rfl
        refine XR.rd E0_ok [0, 3, 6, 9, 40, 41, 42, 56, 58] rfl (e7.trans (by rw [b6])) (σ' := ((0, pp 0 0) :: (3, pp 1 0) :: qhb1 lh2_2 lh3_2 x41_2 x42_2 [(56, .int .u32 x5_2), (58, .int .u32 (shV true .u32 1 (List.getD lh3_2 (Int.toNat x42_2) 0)))])) (by kernel_rfl) ?_
        refine rS 2 ((0, pp 0 0) :: (3, pp 1 0) :: (5, .int .u32 (orV .u32 x5_2 (shV true .u32 1 (List.getD lh3_2 (Int.toNat x42_2) 0)))) :: qhb1 lh2_2 lh3_2 x41_2 x42_2 []) ?_
        refine dQ ?_
        show XQ _ _ _ _ _ _ _ _
        refine rQ ?_
        refine rT 3 [(0, pp 0 0), (3, pp 1 0), (5, .int .u32 (orV .u32 x5_2 (shV true .u32 1 (List.getD lh3_2 (Int.toNat x42_2) 0)))), (40, s0 3 lh3_2.length), (41, ii x41_2), (42, ii x42_2), (60, s0 2 lh2_2.length), (62, s0 4 1)] ((4, .cells [ii (List.getD lh3_2 (Int.toNat x42_2) 0)] 0 3 1) :: (3, rI lh3_2) :: (2, rI lh2_2) :: qhb3 b_frozen b_sick [(0, .cells ([ii a_rows, ii a_columns, ii a_bales] ++ rowC (encI .u32) a_near) z0 72 0)]) 5 ?_
        cases b8 : (fitsB (lh2_2.length + 1) 8 : Bool) with
        | false => cases (cF b8 h)
        | true =>
         have h := cT b8 h
         refine XR.ef E0_ok [0, 3, 5, 40, 41, 42, 63] rfl (e_append (encI_ok .i64) (bytes := 8) (e := 3) (x := (src 66 (.tmp 60))) (y := (src 66 (.tmp 62))) (b := 2) (len := lh2_2.length) (cap := lh2_2.length) (xs := lh2_2) (m := 0) (ys := [List.getD lh3_2 (Int.toNat x42_2) 0]) (d := (some (path 12 63))) (n' := (lh2_2 ++ [List.getD lh3_2 (Int.toNat x42_2) 0]).length) (h' := ((5, rI (lh2_2 ++ [List.getD lh3_2 (Int.toNat x42_2) 0])) :: (4, .cells [ii (List.getD lh3_2 (Int.toNat x42_2) 0)] 0 3 1) :: (3, rI lh3_2) :: qhb3 b_frozen b_sick [(0, .cells ([ii a_rows, ii a_columns, ii a_bales] ++ rowC (encI .u32) a_near) z0 72 0)])) (by kernel_rfl) (by kernel_rfl) (by kernel_rfl) (by kernel_rfl) rfl (by simp) (by simp) b8 (by simp) (by kernel_rfl)) (σ' := [(0, pp 0 0), (3, pp 1 0), (5, .int .u32 (orV .u32 x5_2 (shV true .u32 1 (List.getD lh3_2 (Int.toNat x42_2) 0)))), (40, s0 3 lh3_2.length), (41, ii x41_2), (42, ii x42_2), (63, s0 5 ((lh2_2 ++ [List.getD lh3_2 (Int.toNat x42_2) 0]).length))]) (by kernel_rfl) ?_
         refine rS 1 [(0, pp 0 0), (3, pp 1 0), (5, .int .u32 (orV .u32 x5_2 (shV true .u32 1 (List.getD lh3_2 (Int.toNat x42_2) 0)))), (6, s0 5 ((lh2_2 ++ [List.getD lh3_2 (Int.toNat x42_2) 0]).length)), (40, s0 3 lh3_2.length), (41, ii x41_2), (42, ii x42_2)] ?_
         refine dQ ?_
         show XQ _ _ _ _ _ _ _ _
         refine rQ ?_
         refine rS 2 [(0, pp 0 0), (3, pp 1 0), (5, .int .u32 (orV .u32 x5_2 (shV true .u32 1 (List.getD lh3_2 (Int.toNat x42_2) 0)))), (6, s0 5 ((lh2_2 ++ [List.getD lh3_2 (Int.toNat x42_2) 0]).length)), (40, s0 3 lh3_2.length), (41, ii x41_2), (42, ii (w64 (x42_2 + 1)))] ?_
         refine dQ ?_
         show XL _ _ _ _ _ _ _ _ _
         refine XL.ren (σ' := [(0, pp 0 0), (3, pp 1 0), (5, .int .u32 (orV .u32 x5_2 (shV true .u32 1 (List.getD lh3_2 (Int.toNat x42_2) 0)))), (6, s0 2 ((lh2_2 ++ [List.getD lh3_2 (Int.toNat x42_2) 0]).length)), (40, s0 3 lh3_2.length), (41, ii x41_2), (42, ii (w64 (x42_2 + 1)))]) (h' := ((3, rI lh3_2) :: (2, rI (lh2_2 ++ [List.getD lh3_2 (Int.toNat x42_2) 0])) :: qhb3 b_frozen b_sick [(0, .cells ([ii a_rows, ii a_columns, ii a_bales] ++ rowC (encI .u32) a_near) z0 72 0)])) (c' := 4) [0, 1, 5, 3] (by decide) rfl ⟨rfl, rfl, rfl, rfl, rfl, rfl, rfl, trivial⟩ ⟨⟨_, _, rfl, rfl, .inl ⟨rfl, rwI⟩⟩, ⟨_, _, rfl, rfl, .inl ⟨rfl, rwI⟩⟩, ⟨_, _, rfl, rfl, .inr ⟨_, _, _, _, rfl, rfl⟩⟩, ⟨_, _, rfl, rfl, .inl ⟨rfl, preC_scal rfl (rowC_scal (encI_ok .u32) _)⟩⟩, trivial⟩ rfl ?_
         refine XL.conv (f36_2_ok m fuel z0 a_rows a_columns a_bales a_near b_sick b_frozen (orV .u32 x5_2 (shV true .u32 1 (List.getD lh3_2 (Int.toNat x42_2) 0))) x41_2 (w64 (x42_2 + 1)) (lh2_2 ++ [List.getD lh3_2 (Int.toNat x42_2) 0]) lh3_2 o h Q hQ) (by first | with_reducible rfl | simp | rfl)
      | false =>
       have h := cF b5 h
       refine iF (.tmp 55) ?_
       refine kQ ?_
       show XQ _ _ _ _ _ _ _ _
       refine rQ ?_
       refine rS 2 (qhb2 lh2_2 lh3_2 x41_2 x5_2 [(42, ii (w64 (x42_2 + 1)))]) ?_
       refine dQ ?_
       show XL _ _ _ _ _ _ _ _ _
       refine XL.ren (σ' := (qhb2 lh2_2 lh3_2 x41_2 x5_2 [(42, ii (w64 (x42_2 + 1)))])) (h' := ((3, rI lh3_2) :: (2, rI lh2_2) :: qhb3 b_frozen b_sick [(0, .cells ([ii a_rows, ii a_columns, ii a_bales] ++ rowC (encI .u32) a_near) z0 72 0)])) (c' := 4) [0, 1, 2, 3] (by decide) rfl ⟨rfl, rfl, rfl, rfl, rfl, rfl, rfl, trivial⟩ ⟨⟨_, _, rfl, rfl, .inl ⟨rfl, rwI⟩⟩, ⟨_, _, rfl, rfl, .inl ⟨rfl, rwI⟩⟩, ⟨_, _, rfl, rfl, .inr ⟨_, _, _, _, rfl, rfl⟩⟩, ⟨_, _, rfl, rfl, .inl ⟨rfl, preC_scal rfl (rowC_scal (encI_ok .u32) _)⟩⟩, trivial⟩ rfl ?_
       refine XL.conv (f36_2_ok m fuel z0 a_rows a_columns a_bales a_near b_sick b_frozen x5_2 x41_2 (w64 (x42_2 + 1)) lh2_2 lh3_2 o h Q hQ) (by first | with_reducible rfl | simp | rfl)
  | false =>
   have h := cF b1 h
   refine iF (.tmp 43) ?_
   refine XQ.ren (σ' := [(0, pp 0 0), (3, pp 1 0), (5, .int .u32 x5_2), (6, s0 2 lh2_2.length)]) (h' := ((2, rI lh2_2) :: qhb3 b_frozen b_sick [(0, .cells ([ii a_rows, ii a_columns, ii a_bales] ++ rowC (encI .u32) a_near) z0 72 0)])) (c' := 3) [0, 1, 2] (by decide) rfl ⟨rfl, rfl, rfl, rfl, trivial⟩ ⟨⟨_, _, rfl, rfl, .inl ⟨rfl, rwI⟩⟩, ⟨_, _, rfl, rfl, .inr ⟨_, _, _, _, rfl, rfl⟩⟩, ⟨_, _, rfl, rfl, .inl ⟨rfl, preC_scal rfl (rowC_scal (encI_ok .u32) _)⟩⟩, trivial⟩ rfl ?_
   refine XQ.exit (i := 2) (by kernel_rfl) ?_
   cases h
   exact hQ
def f36_1 (m : Nat) : Nat → Int → Int → Int → List Int → Int → Int → Int → List Int → Option Int
 | 0, _, _, _, _, _, _, _, _ => none
 | fuel + 1, a_rows, a_columns, a_bales, a_near, b_sick, b_frozen, x5_1, lh2_1 =>
  cond (decide (((lh2_1.length : Nat) : Int) > 0)) (
   cond (inRow (w64 (((lh2_1.length : Nat) : Int) - 1)) lh2_1.length) (
    cond (cutOK 0 (w64 (((lh2_1.length : Nat) : Int) - 1)) ((lh2_1.length : Nat) : Int) lh2_1.length) (
     cond (Nat.ble (Int.toNat (w64 (((lh2_1.length : Nat) : Int) - 1))) lh2_1.length && Nat.ble (Int.toNat (w64 (((lh2_1.length : Nat) : Int) - 1))) lh2_1.length) (
      cond (inRow (List.getD lh2_1 (Int.toNat (w64 (((lh2_1.length : Nat) : Int) - 1))) 0) 25) (
       cond (decide (Int.toNat (List.getD lh2_1 (Int.toNat (w64 (((lh2_1.length : Nat) : Int) - 1))) 0) < a_near.length)) (
        (f37 m (andNotV .u32 (andNotV .u32 (List.getD a_near (Int.toNat (List.getD lh2_1 (Int.toNat (w64 (((lh2_1.length : Nat) : Int) - 1))) 0)) 0) x5_1) b_frozen)).bind fun r15 =>
         (f36_2 m m a_rows a_columns a_bales a_near b_sick b_frozen x5_1 ((r15.length : Nat) : Int) 0 (List.take (Int.toNat (w64 (((lh2_1.length : Nat) : Int) - 1))) lh2_1) r15).bind fun o2 =>
          f36_1 m fuel a_rows a_columns a_bales a_near b_sick b_frozen o2.1 o2.2
       ) none
      ) none
     ) none
    ) none
   ) none
  ) (
   some (x5_1)
  )
abbrev qhb4 (lh2_1 : List Int) (x5_1 : Int) (t : St) : St := (0, pp 0 0) :: (3, pp 1 0) :: (5, .int .u32 x5_1) :: (6, s0 2 ((List.take (Int.toNat (w64 (((lh2_1.length : Nat) : Int) - 1))) lh2_1).length)) :: t
abbrev qhb5 (b_frozen : Int) (b_sick : Int) (lh2_1 : List Int) (t : Heap) : Heap := (2, rI (List.take (Int.toNat (w64 (((lh2_1.length : Nat) : Int) - 1))) lh2_1)) :: (1, .cells [.int .u32 b_sick, .int .u32 b_frozen] 0 63 0) :: t
abbrev qhb6 (lh2_1 : List Int) (t : St) : St := (30, ii (List.getD lh2_1 (Int.toNat (w64 (((lh2_1.length : Nat) : Int) - 1))) 0)) :: t
abbrev qhb7 (b_frozen : Int) (x5_1 : Int) (t : St) : St := (35, .int .u32 x5_1) :: (38, .int .u32 b_frozen) :: (42, ii 0) :: t
abbrev qhb8 (lh2_1 : List Int) (t : St) : St := (7, ii (List.getD lh2_1 (Int.toNat (w64 (((lh2_1.length : Nat) : Int) - 1))) 0)) :: t
abbrev qhb9 (x5_1 : Int) (t : St) : St := (35, .int .u32 x5_1) :: (37, pp 1 1) :: (42, ii 0) :: t
theorem f36_1_ok (m : Nat) : ∀ (fuel : Nat) (z0 : Nat) (a_rows : Int) (a_columns : Int) (a_bales : Int) (a_near : List Int) (b_sick : Int) (b_frozen : Int) (x5_1 : Int) (lh2_1 : List Int) (o : Int), f36_1 m fuel a_rows a_columns a_bales a_near b_sick b_frozen x5_1 lh2_1 = some o → ∀ Q : QP, Q (.exit 0) [(5, .int .u32 o)] [(0, .cells ([ii a_rows, ii a_columns, ii a_bales] ++ rowC (encI .u32) a_near) z0 72 0)] 1 → XL E0 66 1 fuel f36_L1 [(0, pp 0 0), (3, pp 1 0), (5, .int .u32 x5_1), (6, s0 2 lh2_1.length)] [(2, rI lh2_1), (1, .cells [.int .u32 b_sick, .int .u32 b_frozen] 0 63 0), (0, .cells ([ii a_rows, ii a_columns, ii a_bales] ++ rowC (encI .u32) a_near) z0 72 0)] 3 Q
 | 0, z0, a_rows, a_columns, a_bales, a_near, b_sick, b_frozen, x5_1, lh2_1, o, h, Q, hQ => by cases h
 | fuel + 1, z0, a_rows, a_columns, a_bales, a_near, b_sick, b_frozen, x5_1, lh2_1, o, h, Q, hQ => by
  unfold f36_1 at h
  refine XL.succ E0_ok ?_
  refine sQ ?_
  refine qQ ?_
  refine rS 3 [(0, pp 0 0), (3, pp 1 0), (5, .int .u32 x5_1), (6, s0 2 lh2_1.length), (17, .bool (decide (((lh2_1.length : Nat) : Int) > 0)))] ?_
  refine dQ ?_
  show XQ _ _ _ _ _ _ _ _
  cases b1 : (decide (((lh2_1.length : Nat) : Int) > 0) : Bool) with
  | true =>
   have h := cT b1 h
   refine iT (.tmp 17) ?_
   refine kQ ?_
   show XQ _ _ _ _ _ _ _ _
   refine XQ.block (id := 1) (by kernel_rfl) ?_
   refine qQ ?_
   refine rS 4 [(0, pp 0 0), (3, pp 1 0), (5, .int .u32 x5_1), (6, s0 2 lh2_1.length), (18, s0 2 lh2_1.length), (21, ii (w64 (((lh2_1.length : Nat) : Int) - 1)))] ?_
   cases b2 : (inRow (w64 (((lh2_1.length : Nat) : Int) - 1)) lh2_1.length : Bool) with
   | false => cases (cF b2 h)
   | true =>
    have h := cT b2 h
    refine XR.rd E0_ok [0, 3, 5, 6, 22] rfl (v := pp 2 ((Int.toNat (w64 (((lh2_1.length : Nat) : Int) - 1))) * 1)) (v_idx (s := 1) (x := (src 66 (.tmp 18))) (y := (src 66 (.tmp 21))) (b := 2) (o := 0) (len := lh2_1.length) (cap := lh2_1.length) (ik := .i64) (i := w64 (((lh2_1.length : Nat) : Int) - 1)) (off := (Int.toNat (w64 (((lh2_1.length : Nat) : Int) - 1))) * 1) (d := (some (path 12 22))) (by kernel_rfl) (by kernel_rfl) (by kernel_rfl) b2 (by omega)) (σ' := [(0, pp 0 0), (3, pp 1 0), (5, .int .u32 x5_1), (6, s0 2 lh2_1.length), (22, pp 2 ((Int.toNat (w64 (((lh2_1.length : Nat) : Int) - 1))) * 1))]) (by kernel_rfl) ?_
    refine XR.rd E0_ok [0, 3, 5, 6, 23] rfl (v := ii (List.getD lh2_1 (Int.toNat (w64 (((lh2_1.length : Nat) : Int) - 1))) 0)) (v_load1 (encI_ok .i64) (x := (src 66 (.tmp 22))) (b := 2) (off := (Int.toNat (w64 (((lh2_1.length : Nat) : Int) - 1))) * 1) (xs := lh2_1) (fz := 0) (e := 3) (es := 1) (d := (some (path 12 23))) (by kernel_rfl) (by kernel_rfl) (by kernel_rfl) (Int.toNat (w64 (((lh2_1.length : Nat) : Int) - 1))) 0 0 (by first | with_reducible rfl | omega | rfl) (row_len (inRow_toNat b2) (by simp)) rfl rfl) (σ' := [(0, pp 0 0), (3, pp 1 0), (5, .int .u32 x5_1), (6, s0 2 lh2_1.length), (23, ii (List.getD lh2_1 (Int.toNat (w64 (((lh2_1.length : Nat) : Int) - 1))) 0))]) (by kernel_rfl) ?_
    refine rS 1 ((0, pp 0 0) :: (3, pp 1 0) :: (5, .int .u32 x5_1) :: (6, s0 2 lh2_1.length) :: qhb8 lh2_1 []) ?_
    refine nQ id ?_
    refine rS 4 ((0, pp 0 0) :: (3, pp 1 0) :: (5, .int .u32 x5_1) :: qhb8 lh2_1 [(24, s0 2 lh2_1.length), (27, ii (w64 (((lh2_1.length : Nat) : Int) - 1)))]) ?_
    cases b3 : (cutOK 0 (w64 (((lh2_1.length : Nat) : Int) - 1)) ((lh2_1.length : Nat) : Int) lh2_1.length : Bool) with
    | false => cases (cF b3 h)
    | true =>
     have h := cT b3 h
     refine XR.rd E0_ok [0, 3, 5, 7, 28] rfl (v := sl 2 0 (Int.toNat (w64 (((lh2_1.length : Nat) : Int) - 1))) lh2_1.length) (v_cut (nt := 66) (s := 1) (x := (src 66 (.tmp 24))) (lo := none) (hi := (some (.tmp 27))) (mx := none) (b := 2) (o := 0) (len := lh2_1.length) (cap := lh2_1.length) (l := none) (u := (some (w64 (((lh2_1.length : Nat) : Int) - 1)))) (m := none) (cs := rowC (encI .i64) lh2_1) (fz := 0) (e := 3) (es := 1) (o' := 0) (len' := Int.toNat (w64 (((lh2_1.length : Nat) : Int) - 1))) (cap' := lh2_1.length) (d := (some (path 12 28))) (by kernel_rfl) (by kernel_rfl) (by kernel_rfl) (by kernel_rfl) (by kernel_rfl) (by kernel_rfl) (by kernel_rfl) rfl b3 (by simp only [Option.getD_none, Option.getD_some] <;> omega) (by simp only [Option.getD_none, Option.getD_some] <;> omega) (by simp only [Option.getD_none, Option.getD_some] <;> omega)) (σ' := ((0, pp 0 0) :: (3, pp 1 0) :: (5, .int .u32 x5_1) :: qhb8 lh2_1 [(28, sl 2 0 (Int.toNat (w64 (((lh2_1.length : Nat) : Int) - 1))) lh2_1.length)])) (by kernel_rfl) ?_
     refine rS 1 ((0, pp 0 0) :: (3, pp 1 0) :: (5, .int .u32 x5_1) :: (6, sl 2 0 (Int.toNat (w64 (((lh2_1.length : Nat) : Int) - 1))) lh2_1.length) :: qhb8 lh2_1 []) ?_
     refine dQ ?_
     show XQ _ _ _ _ _ _ _ _
     cases b4 : (Nat.ble (Int.toNat (w64 (((lh2_1.length : Nat) : Int) - 1))) lh2_1.length && Nat.ble (Int.toNat (w64 (((lh2_1.length : Nat) : Int) - 1))) lh2_1.length : Bool) with
     | false => cases (cF b4 h)
     | true =>
      have h := cT b4 h
      refine XQ.trimR 2 3 1 6 lh2_1 (Int.toNat (w64 (((lh2_1.length : Nat) : Int) - 1))) lh2_1.length (by kernel_rfl) (g := (encI .i64)) (by kernel_rfl) (by kernel_rfl) b4 ?_
      refine XQ.conv (σ' := (6, s0 2 ((List.take (Int.toNat (w64 (((lh2_1.length : Nat) : Int) - 1))) lh2_1).length)) :: ((0, pp 0 0) :: (3, pp 1 0) :: (5, .int .u32 x5_1) :: (6, sl 2 0 (Int.toNat (w64 (((lh2_1.length : Nat) : Int) - 1))) lh2_1.length) :: qhb8 lh2_1 [])) (h' := (qhb5 b_frozen b_sick lh2_1 [(0, .cells ([ii a_rows, ii a_columns, ii a_bales] ++ rowC (encI .u32) a_near) z0 72 0)])) (c' := 3) ?_ (by kernel_rfl)
      refine XQ.drop (σ' := (qhb4 lh2_1 x5_1 (qhb8 lh2_1 []))) ⟨rfl, rfl, rfl, rfl, rfl, trivial⟩ ?_
      refine sQ ?_
      cases b5 : (inRow (List.getD lh2_1 (Int.toNat (w64 (((lh2_1.length : Nat) : Int) - 1))) 0) 25 : Bool) with
      | false => cases (cF b5 h)
      | true =>
       have h := cT b5 h
       cases b6 : (decide (Int.toNat (List.getD lh2_1 (Int.toNat (w64 (((lh2_1.length : Nat) : Int) - 1))) 0) < a_near.length) : Bool) with
       | false => cases (cF b6 h)
       | true =>
        have h := cT b6 h
        obtain ⟨r15, r15_h, h⟩ := bS h
        refine XQ.preA E0_ok [0, 1, 6, 8, 13] (by kernel_rfl) (g := 9) (listed := #[true, true, false, false, false, false, true, false, true, false, false, false, false, true]) (by kernel_rfl) (by kernel_rfl) (by kernel_rfl) (by kernel_rfl) (by kernel_rfl) (σ' := (qhb4 lh2_1 x5_1 [(40, s0 3 r15.length), (41, ii ((r15.length : Nat) : Int)), (42, ii 0)])) (h' := ((3, rI r15) :: qhb5 b_frozen b_sick lh2_1 [(0, .cells ([ii a_rows, ii a_columns, ii a_bales] ++ rowC (encI .u32) a_near) z0 72 0)])) (c' := 4) ?_ ?_
        ·show XQ _ _ _ _ _ _ _ _
         refine XQ.block (id := 2) (by kernel_rfl) ?_
         refine XQ.loop m (by kernel_rfl) ?_
         obtain ⟨o2, o2_h, h⟩ := bS h
         refine XL.ren (σ' := (qhb4 lh2_1 x5_1 [(40, s0 3 r15.length), (41, ii ((r15.length : Nat) : Int)), (42, ii 0)])) (h' := ((3, rI r15) :: qhb5 b_frozen b_sick lh2_1 [(0, .cells ([ii a_rows, ii a_columns, ii a_bales] ++ rowC (encI .u32) a_near) z0 72 0)])) (c' := 4) [0, 1, 2, 3] (by decide) rfl ⟨rfl, rfl, rfl, rfl, rfl, rfl, rfl, trivial⟩ ⟨⟨_, _, rfl, rfl, .inl ⟨rfl, rwI⟩⟩, ⟨_, _, rfl, rfl, .inl ⟨rfl, rwI⟩⟩, ⟨_, _, rfl, rfl, .inr ⟨_, _, _, _, rfl, rfl⟩⟩, ⟨_, _, rfl, rfl, .inl ⟨rfl, preC_scal rfl (rowC_scal (encI_ok .u32) _)⟩⟩, trivial⟩ rfl ?_
         refine XL.conv (f36_2_ok m m z0 a_rows a_columns a_bales a_near b_sick b_frozen x5_1 ((r15.length : Nat) : Int) 0 (List.take (Int.toNat (w64 (((lh2_1.length : Nat) : Int) - 1))) lh2_1) r15 o2 o2_h _ ?_) (by first | with_reducible rfl | simp | rfl)
         show XL _ _ _ _ _ _ _ _ _
         refine XL.ren (σ' := [(0, pp 0 0), (3, pp 1 0), (5, .int .u32 o2.1), (6, s0 2 o2.2.length)]) (h' := [(2, rI o2.2), (1, .cells [.int .u32 b_sick, .int .u32 b_frozen] 0 63 0), (0, .cells ([ii a_rows, ii a_columns, ii a_bales] ++ rowC (encI .u32) a_near) z0 72 0)]) (c' := 3) [0, 1, 2] (by decide) rfl ⟨rfl, rfl, rfl, rfl, trivial⟩ ⟨⟨_, _, rfl, rfl, .inl ⟨rfl, rwI⟩⟩, ⟨_, _, rfl, rfl, .inr ⟨_, _, _, _, rfl, rfl⟩⟩, ⟨_, _, rfl, rfl, .inl ⟨rfl, preC_scal rfl (rowC_scal (encI_ok .u32) _)⟩⟩, trivial⟩ rfl ?_
         refine XL.conv (f36_1_ok m fuel z0 a_rows a_columns a_bales a_near b_sick b_frozen o2.1 o2.2 o h Q hQ) (by first | with_reducible rfl | simp | rfl)
        ·have xa9 : XA E0 66 1 (opsOf (lft (rgt (rgt (lft (rgt f36_L1)))))) 0 #[true, true, true, true, true, true, true, true, true, true, true, true, true, true] (qhb4 lh2_1 x5_1 [(40, s0 3 r15.length), (41, ii ((r15.length : Nat) : Int)), (42, ii 0)]) ((3, rI r15) :: qhb5 b_frozen b_sick lh2_1 [(0, .cells ([ii a_rows, ii a_columns, ii a_bales] ++ rowC (encI .u32) a_near) z0 72 0)]) 4 (fun xe xσ xh xc => xe = .normal ∧ (xσ, xh, xc) = ((qhb4 lh2_1 x5_1 [(40, s0 3 r15.length), (41, ii ((r15.length : Nat) : Int)), (42, ii 0)]), ((3, rI r15) :: qhb5 b_frozen b_sick lh2_1 [(0, .cells ([ii a_rows, ii a_columns, ii a_bales] ++ rowC (encI .u32) a_near) z0 72 0)]), 4)) := by
          exact XA.done (by kernel_rfl) ⟨rfl, rfl⟩
         have xa8 : XA E0 66 1 (opsOf (lft (rgt (rgt (lft (rgt f36_L1)))))) 1 #[true, true, true, true, true, true, true, true, true, true, true, true, false, true] (qhb4 lh2_1 x5_1 [(40, s0 3 r15.length), (42, ii 0)]) ((3, rI r15) :: qhb5 b_frozen b_sick lh2_1 [(0, .cells ([ii a_rows, ii a_columns, ii a_bales] ++ rowC (encI .u32) a_near) z0 72 0)]) 4 (fun xe xσ xh xc => xe = .normal ∧ (xσ, xh, xc) = ((qhb4 lh2_1 x5_1 [(40, s0 3 r15.length), (41, ii ((r15.length : Nat) : Int)), (42, ii 0)]), ((3, rI r15) :: qhb5 b_frozen b_sick lh2_1 [(0, .cells ([ii a_rows, ii a_columns, ii a_bales] ++ rowC (encI .u32) a_near) z0 72 0)]), 4)) := by
          refine XA.step E0_ok [12] (by kernel_rfl) rfl (by kernel_rfl) ⟨?_, trivial⟩
          ·refine rS 1 (qhb4 lh2_1 x5_1 [(40, s0 3 r15.length), (41, ii ((r15.length : Nat) : Int)), (42, ii 0)]) ?_
           refine dQ ?_
           refine ⟨rfl, ?_⟩
           show XA _ _ _ _ _ _ _ _ _ _
           exact xa9
         have xa7 : XA E0 66 1 (opsOf (lft (rgt (rgt (lft (rgt f36_L1)))))) 2 #[true, true, true, true, true, true, true, true, true, true, true, false, false, true] (qhb4 lh2_1 x5_1 [(39, .int .u32 (andNotV .u32 (andNotV .u32 (List.getD a_near (Int.toNat (List.getD lh2_1 (Int.toNat (w64 (((lh2_1.length : Nat) : Int) - 1))) 0)) 0) x5_1) b_frozen)), (42, ii 0)]) (qhb5 b_frozen b_sick lh2_1 [(0, .cells ([ii a_rows, ii a_columns, ii a_bales] ++ rowC (encI .u32) a_near) z0 72 0)]) 3 (fun xe xσ xh xc => xe = .normal ∧ (xσ, xh, xc) = ((qhb4 lh2_1 x5_1 [(40, s0 3 r15.length), (41, ii ((r15.length : Nat) : Int)), (42, ii 0)]), ((3, rI r15) :: qhb5 b_frozen b_sick lh2_1 [(0, .cells ([ii a_rows, ii a_columns, ii a_bales] ++ rowC (encI .u32) a_near) z0 72 0)]), 4)) := by
          refine XA.step E0_ok [11] (by kernel_rfl) rfl (by kernel_rfl) ⟨?_, trivial⟩
          ·refine XR.call E0_ok [0, 3, 5, 6, 40, 42] rfl (K := 37) (args := [.int .u32 (andNotV .u32 (andNotV .u32 (List.getD a_near (Int.toNat (List.getD lh2_1 (Int.toNat (w64 (((lh2_1.length : Nat) : Int) - 1))) 0)) 0) x5_1) b_frozen)]) (d := (some (path 12 40))) (by kernel_rfl) (KC.lift (V2 := s0 3 r15.length) (H2 := [(3, rI r15)]) [1, 2, 3, 0] (f37_ok m (andNotV .u32 (andNotV .u32 (List.getD a_near (Int.toNat (List.getD lh2_1 (Int.toNat (w64 (((lh2_1.length : Nat) : Int) - 1))) 0)) 0) x5_1) b_frozen) r15 r15_h) rfl (by decide) (by decide) (by kernel_rfl) ⟨⟨_, _, rfl, rfl, .inl ⟨rfl, rwI⟩⟩, trivial⟩ (by rfl)) ?_
           rintro _ _ _ ⟨rfl, rfl, rfl⟩
           refine XR.conv (σ' := (qhb4 lh2_1 x5_1 [(40, s0 3 r15.length), (42, ii 0)])) (h' := ((3, rI r15) :: qhb5 b_frozen b_sick lh2_1 [(0, .cells ([ii a_rows, ii a_columns, ii a_bales] ++ rowC (encI .u32) a_near) z0 72 0)])) (c' := 4) ?_ (by kernel_rfl)
           refine dQ ?_
           refine ⟨rfl, ?_⟩
           show XA _ _ _ _ _ _ _ _ _ _
           exact xa8
         have xa6 : XA E0 66 1 (opsOf (lft (rgt (rgt (lft (rgt f36_L1)))))) 3 #[true, true, true, true, true, true, true, true, true, true, false, false, false, true] (qhb4 lh2_1 x5_1 [(36, .int .u32 (andNotV .u32 (List.getD a_near (Int.toNat (List.getD lh2_1 (Int.toNat (w64 (((lh2_1.length : Nat) : Int) - 1))) 0)) 0) x5_1)), (38, .int .u32 b_frozen), (42, ii 0)]) (qhb5 b_frozen b_sick lh2_1 [(0, .cells ([ii a_rows, ii a_columns, ii a_bales] ++ rowC (encI .u32) a_near) z0 72 0)]) 3 (fun xe xσ xh xc => xe = .normal ∧ (xσ, xh, xc) = ((qhb4 lh2_1 x5_1 [(40, s0 3 r15.length), (41, ii ((r15.length : Nat) : Int)), (42, ii 0)]), ((3, rI r15) :: qhb5 b_frozen b_sick lh2_1 [(0, .cells ([ii a_rows, ii a_columns, ii a_bales] ++ rowC (encI .u32) a_near) z0 72 0)]), 4)) := by
          refine XA.step E0_ok [10] (by kernel_rfl) rfl (by kernel_rfl) ⟨?_, trivial⟩
          ·refine rS 1 (qhb4 lh2_1 x5_1 [(39, .int .u32 (andNotV .u32 (andNotV .u32 (List.getD a_near (Int.toNat (List.getD lh2_1 (Int.toNat (w64 (((lh2_1.length : Nat) : Int) - 1))) 0)) 0) x5_1) b_frozen)), (42, ii 0)]) ?_
           refine dQ ?_
           refine ⟨rfl, ?_⟩
           show XA _ _ _ _ _ _ _ _ _ _
           exact xa7
         have xa5 : XA E0 66 1 (opsOf (lft (rgt (rgt (lft (rgt f36_L1)))))) 4 #[true, true, true, true, true, true, true, true, true, false, false, false, false, true] (qhb4 lh2_1 x5_1 [(36, .int .u32 (andNotV .u32 (List.getD a_near (Int.toNat (List.getD lh2_1 (Int.toNat (w64 (((lh2_1.length : Nat) : Int) - 1))) 0)) 0) x5_1)), (37, pp 1 1), (42, ii 0)]) (qhb5 b_frozen b_sick lh2_1 [(0, .cells ([ii a_rows, ii a_columns, ii a_bales] ++ rowC (encI .u32) a_near) z0 72 0)]) 3 (fun xe xσ xh xc => xe = .normal ∧ (xσ, xh, xc) = ((qhb4 lh2_1 x5_1 [(40, s0 3 r15.length), (41, ii ((r15.length : Nat) : Int)), (42, ii 0)]), ((3, rI r15) :: qhb5 b_frozen b_sick lh2_1 [(0, .cells ([ii a_rows, ii a_columns, ii a_bales] ++ rowC (encI .u32) a_near) z0 72 0)]), 4)) := by
          refine XA.step E0_ok [9] (by kernel_rfl) rfl (by kernel_rfl) ⟨?_, trivial⟩
          ·refine rS 1 (qhb4 lh2_1 x5_1 [(36, .int .u32 (andNotV .u32 (List.getD a_near (Int.toNat (List.getD lh2_1 (Int.toNat (w64 (((lh2_1.length : Nat) : Int) - 1))) 0)) 0) x5_1)), (38, .int .u32 b_frozen), (42, ii 0)]) ?_
           refine dQ ?_
           refine ⟨rfl, ?_⟩
           show XA _ _ _ _ _ _ _ _ _ _
           exact xa6
         have xa10 : XA E0 66 1 (opsOf (lft (rgt (rgt (lft (rgt f36_L1)))))) 4 #[true, true, true, true, true, true, true, false, true, true, false, false, false, true] (qhb4 lh2_1 x5_1 ((34, .int .u32 (List.getD a_near (Int.toNat (List.getD lh2_1 (Int.toNat (w64 (((lh2_1.length : Nat) : Int) - 1))) 0)) 0)) :: qhb7 b_frozen x5_1 [])) (qhb5 b_frozen b_sick lh2_1 [(0, .cells ([ii a_rows, ii a_columns, ii a_bales] ++ rowC (encI .u32) a_near) z0 72 0)]) 3 (fun xe xσ xh xc => xe = .normal ∧ (xσ, xh, xc) = ((qhb4 lh2_1 x5_1 [(40, s0 3 r15.length), (41, ii ((r15.length : Nat) : Int)), (42, ii 0)]), ((3, rI r15) :: qhb5 b_frozen b_sick lh2_1 [(0, .cells ([ii a_rows, ii a_columns, ii a_bales] ++ rowC (encI .u32) a_near) z0 72 0)]), 4)) := by
          refine XA.step E0_ok [7] (by kernel_rfl) rfl (by kernel_rfl) ⟨?_, trivial⟩
          ·refine rS 1 (qhb4 lh2_1 x5_1 [(36, .int .u32 (andNotV .u32 (List.getD a_near (Int.toNat (List.getD lh2_1 (Int.toNat (w64 (((lh2_1.length : Nat) : Int) - 1))) 0)) 0) x5_1)), (38, .int .u32 b_frozen), (42, ii 0)]) ?_
           refine dQ ?_
           refine ⟨rfl, ?_⟩
           show XA _ _ _ _ _ _ _ _ _ _
           exact xa6
         have xa4 : XA E0 66 1 (opsOf (lft (rgt (rgt (lft (rgt f36_L1)))))) 5 #[true, true, true, true, true, true, true, false, true, false, false, false, false, true] (qhb4 lh2_1 x5_1 ((34, .int .u32 (List.getD a_near (Int.toNat (List.getD lh2_1 (Int.toNat (w64 (((lh2_1.length : Nat) : Int) - 1))) 0)) 0)) :: qhb9 x5_1 [])) (qhb5 b_frozen b_sick lh2_1 [(0, .cells ([ii a_rows, ii a_columns, ii a_bales] ++ rowC (encI .u32) a_near) z0 72 0)]) 3 (fun xe xσ xh xc => xe = .normal ∧ (xσ, xh, xc) = ((qhb4 lh2_1 x5_1 [(40, s0 3 r15.length), (41, ii ((r15.length : Nat) : Int)), (42, ii 0)]), ((3, rI r15) :: qhb5 b_frozen b_sick lh2_1 [(0, .cells ([ii a_rows, ii a_columns, ii a_bales] ++ rowC (encI .u32) a_near) z0 72 0)]), 4)) := by
          refine XA.step E0_ok [7, 9] (by kernel_rfl) rfl (by kernel_rfl) ⟨?_, ?_, trivial⟩
          ·refine rS 1 (qhb4 lh2_1 x5_1 [(36, .int .u32 (andNotV .u32 (List.getD a_near (Int.toNat (List.getD lh2_1 (Int.toNat (w64 (((lh2_1.length : Nat) : Int) - 1))) 0)) 0) x5_1)), (37, pp 1 1), (42, ii 0)]) ?_
           refine dQ ?_
           refine ⟨rfl, ?_⟩
           show XA _ _ _ _ _ _ _ _ _ _
           exact xa5
          ·refine rS 1 (qhb4 lh2_1 x5_1 ((34, .int .u32 (List.getD a_near (Int.toNat (List.getD lh2_1 (Int.toNat (w64 (((lh2_1.length : Nat) : Int) - 1))) 0)) 0)) :: qhb7 b_frozen x5_1 [])) ?_
           refine dQ ?_
           refine ⟨rfl, ?_⟩
           show XA _ _ _ _ _ _ _ _ _ _
           exact xa10
         have xa11 : XA E0 66 1 (opsOf (lft (rgt (rgt (lft (rgt f36_L1)))))) 5 #[true, true, true, true, true, false, true, false, true, true, false, false, false, true] (qhb4 lh2_1 x5_1 ((33, pp 0 ((Int.toNat (List.getD lh2_1 (Int.toNat (w64 (((lh2_1.length : Nat) : Int) - 1))) 0)) * 1 + 3)) :: qhb7 b_frozen x5_1 [])) (qhb5 b_frozen b_sick lh2_1 [(0, .cells ([ii a_rows, ii a_columns, ii a_bales] ++ rowC (encI .u32) a_near) z0 72 0)]) 3 (fun xe xσ xh xc => xe = .normal ∧ (xσ, xh, xc) = ((qhb4 lh2_1 x5_1 [(40, s0 3 r15.length), (41, ii ((r15.length : Nat) : Int)), (42, ii 0)]), ((3, rI r15) :: qhb5 b_frozen b_sick lh2_1 [(0, .cells ([ii a_rows, ii a_columns, ii a_bales] ++ rowC (encI .u32) a_near) z0 72 0)]), 4)) := by
          refine XA.step E0_ok [5] (by kernel_rfl) rfl (by kernel_rfl) ⟨?_, trivial⟩
          ·refine XR.rd E0_ok [0, 3, 5, 6, 34, 35, 38, 42] rfl (v := .int .u32 (List.getD a_near (Int.toNat (List.getD lh2_1 (Int.toNat (w64 (((lh2_1.length : Nat) : Int) - 1))) 0)) 0)) (v_load1P (encI_ok .u32) (x := (src 66 (.tmp 33))) (b := 0) (off := (Int.toNat (List.getD lh2_1 (Int.toNat (w64 (((lh2_1.length : Nat) : Int) - 1))) 0)) * 1 + 3) (pre := [ii a_rows, ii a_columns, ii a_bales]) (p := 3) rfl (xs := a_near) (fz := z0) (e := 72) (es := 0) (d := (some (path 12 34))) (by kernel_rfl) (by kernel_rfl) (by kernel_rfl) (Int.toNat (List.getD lh2_1 (Int.toNat (w64 (((lh2_1.length : Nat) : Int) - 1))) 0)) 0 0 (by first | with_reducible rfl | omega | rfl) (row_len b6 (by simp)) rfl rfl) (σ' := (qhb4 lh2_1 x5_1 ((34, .int .u32 (List.getD a_near (Int.toNat (List.getD lh2_1 (Int.toNat (w64 (((lh2_1.length : Nat) : Int) - 1))) 0)) 0)) :: qhb7 b_frozen x5_1 []))) (by kernel_rfl) ?_
           refine dQ ?_
           refine ⟨rfl, ?_⟩
           show XA _ _ _ _ _ _ _ _ _ _
           exact xa10
         have xa3 : XA E0 66 1 (opsOf (lft (rgt (rgt (lft (rgt f36_L1)))))) 6 #[true, true, true, true, true, false, true, false, true, false, false, false, false, true] (qhb4 lh2_1 x5_1 ((33, pp 0 ((Int.toNat (List.getD lh2_1 (Int.toNat (w64 (((lh2_1.length : Nat) : Int) - 1))) 0)) * 1 + 3)) :: qhb9 x5_1 [])) (qhb5 b_frozen b_sick lh2_1 [(0, .cells ([ii a_rows, ii a_columns, ii a_bales] ++ rowC (encI .u32) a_near) z0 72 0)]) 3 (fun xe xσ xh xc => xe = .normal ∧ (xσ, xh, xc) = ((qhb4 lh2_1 x5_1 [(40, s0 3 r15.length), (41, ii ((r15.length : Nat) : Int)), (42, ii 0)]), ((3, rI r15) :: qhb5 b_frozen b_sick lh2_1 [(0, .cells ([ii a_rows, ii a_columns, ii a_bales] ++ rowC (encI .u32) a_near) z0 72 0)]), 4)) := by
          refine XA.step E0_ok [5, 9] (by kernel_rfl) rfl (by kernel_rfl) ⟨?_, ?_, trivial⟩
          ·refine XR.rd E0_ok [0, 3, 5, 6, 34, 35, 37, 42] rfl (v := .int .u32 (List.getD a_near (Int.toNat (List.getD lh2_1 (Int.toNat (w64 (((lh2_1.length : Nat) : Int) - 1))) 0)) 0)) (v_load1P (encI_ok .u32) (x := (src 66 (.tmp 33))) (b := 0) (off := (Int.toNat (List.getD lh2_1 (Int.toNat (w64 (((lh2_1.length : Nat) : Int) - 1))) 0)) * 1 + 3) (pre := [ii a_rows, ii a_columns, ii a_bales]) (p := 3) rfl (xs := a_near) (fz := z0) (e := 72) (es := 0) (d := (some (path 12 34))) (by kernel_rfl) (by kernel_rfl) (by kernel_rfl) (Int.toNat (List.getD lh2_1 (Int.toNat (w64 (((lh2_1.length : Nat) : Int) - 1))) 0)) 0 0 (by first | with_reducible rfl | omega | rfl) (row_len b6 (by simp)) rfl rfl) (σ' := (qhb4 lh2_1 x5_1 ((34, .int .u32 (List.getD a_near (Int.toNat (List.getD lh2_1 (Int.toNat (w64 (((lh2_1.length : Nat) : Int) - 1))) 0)) 0)) :: qhb9 x5_1 []))) (by kernel_rfl) ?_
           refine dQ ?_
           refine ⟨rfl, ?_⟩
           show XA _ _ _ _ _ _ _ _ _ _
           exact xa4
          ·refine rS 1 (qhb4 lh2_1 x5_1 ((33, pp 0 ((Int.toNat (List.getD lh2_1 (Int.toNat (w64 (((lh2_1.length : Nat) : Int) - 1))) 0)) * 1 + 3)) :: qhb7 b_frozen x5_1 [])) ?_
           refine dQ ?_
           refine ⟨rfl, ?_⟩
           show XA _ _ _ _ _ _ _ _ _ _
           exact xa11
         have xa12 : XA E0 66 1 (opsOf (lft (rgt (rgt (lft (rgt f36_L1)))))) 6 #[true, true, true, true, false, false, true, false, true, true, false, false, false, true] (qhb4 lh2_1 x5_1 (qhb6 lh2_1 ((32, pp 0 3) :: qhb7 b_frozen x5_1 []))) (qhb5 b_frozen b_sick lh2_1 [(0, .cells ([ii a_rows, ii a_columns, ii a_bales] ++ rowC (encI .u32) a_near) z0 72 0)]) 3 (fun xe xσ xh xc => xe = .normal ∧ (xσ, xh, xc) = ((qhb4 lh2_1 x5_1 [(40, s0 3 r15.length), (41, ii ((r15.length : Nat) : Int)), (42, ii 0)]), ((3, rI r15) :: qhb5 b_frozen b_sick lh2_1 [(0, .cells ([ii a_rows, ii a_columns, ii a_bales] ++ rowC (encI .u32) a_near) z0 72 0)]), 4)) := by
          refine XA.step E0_ok [4] (by kernel_rfl) rfl (by kernel_rfl) ⟨?_, trivial⟩
          ·refine XR.rd E0_ok [0, 3, 5, 6, 33, 35, 38, 42] rfl (v := pp 0 ((Int.toNat (List.getD lh2_1 (Int.toNat (w64 (((lh2_1.length : Nat) : Int) - 1))) 0)) * 1 + 3)) (v_idxA (s := 1) (len := 25) (x := (src 66 (.tmp 32))) (y := (src 66 (.tmp 30))) (b := 0) (o := 3) (ik := .i64) (i := List.getD lh2_1 (Int.toNat (w64 (((lh2_1.length : Nat) : Int) - 1))) 0) (off := (Int.toNat (List.getD lh2_1 (Int.toNat (w64 (((lh2_1.length : Nat) : Int) - 1))) 0)) * 1 + 3) (d := (some (path 12 33))) (by kernel_rfl) (by kernel_rfl) (by kernel_rfl) b5 (by omega)) (σ' := (qhb4 lh2_1 x5_1 ((33, pp 0 ((Int.toNat (List.getD lh2_1 (Int.toNat (w64 (((lh2_1.length : Nat) : Int) - 1))) 0)) * 1 + 3)) :: qhb7 b_frozen x5_1 []))) (by kernel_rfl) ?_
           refine dQ ?_
           refine ⟨rfl, ?_⟩
           show XA _ _ _ _ _ _ _ _ _ _
           exact xa11
         have xa2 : XA E0 66 1 (opsOf (lft (rgt (rgt (lft (rgt f36_L1)))))) 7 #[true, true, true, true, false, false, true, false, true, false, false, false, false, true] (qhb4 lh2_1 x5_1 (qhb6 lh2_1 ((32, pp 0 3) :: qhb9 x5_1 []))) (qhb5 b_frozen b_sick lh2_1 [(0, .cells ([ii a_rows, ii a_columns, ii a_bales] ++ rowC (encI .u32) a_near) z0 72 0)]) 3 (fun xe xσ xh xc => xe = .normal ∧ (xσ, xh, xc) = ((qhb4 lh2_1 x5_1 [(40, s0 3 r15.length), (41, ii ((r15.length : Nat) : Int)), (42, ii 0)]), ((3, rI r15) :: qhb5 b_frozen b_sick lh2_1 [(0, .cells ([ii a_rows, ii a_columns, ii a_bales] ++ rowC (encI .u32) a_near) z0 72 0)]), 4)) := by
          refine XA.step E0_ok [4, 9] (by kernel_rfl) rfl (by kernel_rfl) ⟨?_, ?_, trivial⟩
          ·refine XR.rd E0_ok [0, 3, 5, 6, 33, 35, 37, 42] rfl (v := pp 0 ((Int.toNat (List.getD lh2_1 (Int.toNat (w64 (((lh2_1.length : Nat) : Int) - 1))) 0)) * 1 + 3)) (v_idxA (s := 1) (len := 25) (x := (src 66 (.tmp 32))) (y := (src 66 (.tmp 30))) (b := 0) (o := 3) (ik := .i64) (i := List.getD lh2_1 (Int.toNat (w64 (((lh2_1.length : Nat) : Int) - 1))) 0) (off := (Int.toNat (List.getD lh2_1 (Int.toNat (w64 (((lh2_1.length : Nat) : Int) - 1))) 0)) * 1 + 3) (d := (some (path 12 33))) (by kernel_rfl) (by kernel_rfl) (by kernel_rfl) b5 (by omega)) (σ' := (qhb4 lh2_1 x5_1 ((33, pp 0 ((Int.toNat (List.getD lh2_1 (Int.toNat (w64 (((lh2_1.length : Nat) : Int) - 1))) 0)) * 1 + 3)) :: qhb9 x5_1 []))) (by kernel_rfl) ?_
           refine dQ ?_
           refine ⟨rfl, ?_⟩
           show XA _ _ _ _ _ _ _ _ _ _
           exact xa3
          ·refine rS 1 (qhb4 lh2_1 x5_1 (qhb6 lh2_1 ((32, pp 0 3) :: qhb7 b_frozen x5_1 []))) ?_
           refine dQ ?_
           refine ⟨rfl, ?_⟩
           show XA _ _ _ _ _ _ _ _ _ _
           exact xa12
         have xa13 : XA E0 66 1 (opsOf (lft (rgt (rgt (lft (rgt f36_L1)))))) 7 #[true, true, true, false, false, false, true, false, true, true, false, false, false, true] (qhb4 lh2_1 x5_1 (qhb6 lh2_1 ((31, pp 0 0) :: qhb7 b_frozen x5_1 []))) (qhb5 b_frozen b_sick lh2_1 [(0, .cells ([ii a_rows, ii a_columns, ii a_bales] ++ rowC (encI .u32) a_near) z0 72 0)]) 3 (fun xe xσ xh xc => xe = .normal ∧ (xσ, xh, xc) = ((qhb4 lh2_1 x5_1 [(40, s0 3 r15.length), (41, ii ((r15.length : Nat) : Int)), (42, ii 0)]), ((3, rI r15) :: qhb5 b_frozen b_sick lh2_1 [(0, .cells ([ii a_rows, ii a_columns, ii a_bales] ++ rowC (encI .u32) a_near) z0 72 0)]), 4)) := by
          refine XA.step E0_ok [3] (by kernel_rfl) rfl (by kernel_rfl) ⟨?_, trivial⟩
          ·refine rS 1 (qhb4 lh2_1 x5_1 (qhb6 lh2_1 ((32, pp 0 3) :: qhb7 b_frozen x5_1 []))) ?_
           refine dQ ?_
           refine ⟨rfl, ?_⟩
           show XA _ _ _ _ _ _ _ _ _ _
           exact xa12
         have xa1 : XA E0 66 1 (opsOf (lft (rgt (rgt (lft (rgt f36_L1)))))) 8 #[true, true, true, false, false, false, true, false, true, false, false, false, false, true] (qhb4 lh2_1 x5_1 (qhb6 lh2_1 ((31, pp 0 0) :: qhb9 x5_1 []))) (qhb5 b_frozen b_sick lh2_1 [(0, .cells ([ii a_rows, ii a_columns, ii a_bales] ++ rowC (encI .u32) a_near) z0 72 0)]) 3 (fun xe xσ xh xc => xe = .normal ∧ (xσ, xh, xc) = ((qhb4 lh2_1 x5_1 [(40, s0 3 r15.length), (41, ii ((r15.length : Nat) : Int)), (42, ii 0)]), ((3, rI r15) :: qhb5 b_frozen b_sick lh2_1 [(0, .cells ([ii a_rows, ii a_columns, ii a_bales] ++ rowC (encI .u32) a_near) z0 72 0)]), 4)) := by
          refine XA.step E0_ok [3, 9] (by kernel_rfl) rfl (by kernel_rfl) ⟨?_, ?_, trivial⟩
          ·refine rS 1 (qhb4 lh2_1 x5_1 (qhb6 lh2_1 ((32, pp 0 3) :: qhb9 x5_1 []))) ?_
           refine dQ ?_
           refine ⟨rfl, ?_⟩
           show XA _ _ _ _ _ _ _ _ _ _
           exact xa2
          ·refine rS 1 (qhb4 lh2_1 x5_1 (qhb6 lh2_1 ((31, pp 0 0) :: qhb7 b_frozen x5_1 []))) ?_
           refine dQ ?_
           refine ⟨rfl, ?_⟩
           show XA _ _ _ _ _ _ _ _ _ _
           exact xa13
         have xa14 : XA E0 66 1 (opsOf (lft (rgt (rgt (lft (rgt f36_L1)))))) 8 #[true, true, false, false, false, false, true, false, true, true, false, false, false, true] (qhb4 lh2_1 x5_1 ((29, pp 0 0) :: qhb6 lh2_1 (qhb7 b_frozen x5_1 []))) (qhb5 b_frozen b_sick lh2_1 [(0, .cells ([ii a_rows, ii a_columns, ii a_bales] ++ rowC (encI .u32) a_near) z0 72 0)]) 3 (fun xe xσ xh xc => xe = .normal ∧ (xσ, xh, xc) = ((qhb4 lh2_1 x5_1 [(40, s0 3 r15.length), (41, ii ((r15.length : Nat) : Int)), (42, ii 0)]), ((3, rI r15) :: qhb5 b_frozen b_sick lh2_1 [(0, .cells ([ii a_rows, ii a_columns, ii a_bales] ++ rowC (encI .u32) a_near) z0 72 0)]), 4)) := by
          refine XA.step E0_ok [2] (by kernel_rfl) rfl (by kernel_rfl) ⟨?_, trivial⟩
          ·refine rS 1 (qhb4 lh2_1 x5_1 (qhb6 lh2_1 ((31, pp 0 0) :: qhb7 b_frozen x5_1 []))) ?_
           refine dQ ?_
           refine ⟨rfl, ?_⟩
           show XA _ _ _ _ _ _ _ _ _ _
           exact xa13
         have xa0 : XA E0 66 1 (opsOf (lft (rgt (rgt (lft (rgt f36_L1)))))) 9 #[true, true, false, false, false, false, true, false, true, false, false, false, false, true] (qhb4 lh2_1 x5_1 ((29, pp 0 0) :: qhb6 lh2_1 (qhb9 x5_1 []))) (qhb5 b_frozen b_sick lh2_1 [(0, .cells ([ii a_rows, ii a_columns, ii a_bales] ++ rowC (encI .u32) a_near) z0 72 0)]) 3 (fun xe xσ xh xc => xe = .normal ∧ (xσ, xh, xc) = ((qhb4 lh2_1 x5_1 [(40, s0 3 r15.length), (41, ii ((r15.length : Nat) : Int)), (42, ii 0)]), ((3, rI r15) :: qhb5 b_frozen b_sick lh2_1 [(0, .cells ([ii a_rows, ii a_columns, ii a_bales] ++ rowC (encI .u32) a_near) z0 72 0)]), 4)) := by
          refine XA.step E0_ok [2, 9] (by kernel_rfl) rfl (by kernel_rfl) ⟨?_, ?_, trivial⟩
          ·refine rS 1 (qhb4 lh2_1 x5_1 (qhb6 lh2_1 ((31, pp 0 0) :: qhb9 x5_1 []))) ?_
           refine dQ ?_
           refine ⟨rfl, ?_⟩
           show XA _ _ _ _ _ _ _ _ _ _
           exact xa1
          ·refine rS 1 (qhb4 lh2_1 x5_1 ((29, pp 0 0) :: qhb6 lh2_1 (qhb7 b_frozen x5_1 []))) ?_
           refine dQ ?_
           refine ⟨rfl, ?_⟩
           show XA _ _ _ _ _ _ _ _ _ _
           exact xa14
         refine XP.step E0_ok 5 [0, 3, 5, 6, 29, 30, 35, 37, 42] rfl (σ' := (qhb4 lh2_1 x5_1 ((29, pp 0 0) :: qhb6 lh2_1 (qhb9 x5_1 [])))) (by kernel_rfl) ?_
         refine XP.done (by kernel_rfl) ?_
         show XA _ _ _ _ _ _ _ _ _ _
         exact xa0
  | false =>
   have h := cF b1 h
   refine iF (.tmp 17) ?_
   refine XQ.ren (σ' := [(5, .int .u32 x5_1)]) (h' := [(0, .cells ([ii a_rows, ii a_columns, ii a_bales] ++ rowC (encI .u32) a_near) z0 72 0)]) (c' := 1) [0] (by decide) rfl ⟨rfl, trivial⟩ ⟨⟨_, _, rfl, rfl, .inl ⟨rfl, preC_scal rfl (rowC_scal (encI_ok .u32) _)⟩⟩, trivial⟩ rfl ?_
   refine XQ.exit (i := 0) (by kernel_rfl) ?_
   cases h
   exact hQ
def f36 (m : Nat) (a_rows : Int) (a_columns : Int) (a_bales : Int) (a_near : List Int) (b_sick : Int) (b_frozen : Int) : Option (Int) :=
 (f37 m b_sick).bind fun r1 =>
  (f36_1 m m a_rows a_columns a_bales a_near b_sick b_frozen b_sick r1).bind fun o1 =>
   some (o1)
theorem f36_ok (m : Nat) (z0 : Nat) (a_rows : Int) (a_columns : Int) (a_bales : Int) (a_near : List Int) (b_sick : Int) (b_frozen : Int) (o : Int) (h : f36 m a_rows a_columns a_bales a_near b_sick b_frozen = some o) : KC E0 36 [pp 0 0, .agg #[.int .u32 b_sick, .int .u32 b_frozen]] [(0, .cells ([ii a_rows, ii a_columns, ii a_bales] ++ rowC (encI .u32) a_near) z0 72 0)] 1 (fun v _ _ => v = .int .u32 o) := by
 refine KC.bodyN E0_ok (F := Proofs.Tryz.f36) (by kernel_rfl) (code := f36_C36) (by kernel_rfl) (nt := 66) (by kernel_rfl) (rs := [.tmp 4]) (by kernel_rfl) (by kernel_rfl) (σ := [(0, pp 0 0), (1, .agg #[.int .u32 b_sick, .int .u32 b_frozen])]) (by kernel_rfl) ?_
 unfold f36 at h
 refine qQ ?_
 refine rT 2 [(0, pp 0 0), (3, pp 1 0)] [(1, .cells [.int .u32 b_sick, .int .u32 b_frozen] 0 63 0), (0, .cells ([ii a_rows, ii a_columns, ii a_bales] ++ rowC (encI .u32) a_near) z0 72 0)] 2 ?_
 refine nQ id ?_
 refine rS 3 [(0, pp 0 0), (3, pp 1 0), (5, .int .u32 b_sick)] ?_
 refine nQ id ?_
 refine rS 2 [(0, pp 0 0), (3, pp 1 0), (5, .int .u32 b_sick), (13, .int .u32 b_sick)] ?_
 obtain ⟨r1, r1_h, h⟩ := bS h
 refine XR.call E0_ok [0, 3, 5, 14] rfl (K := 37) (args := [.int .u32 b_sick]) (d := (some (path 12 14))) (by kernel_rfl) (KC.lift (V2 := s0 2 r1.length) (H2 := [(2, rI r1)]) [1, 2, 0] (f37_ok m b_sick r1 r1_h) rfl (by decide) (by decide) (by kernel_rfl) ⟨⟨_, _, rfl, rfl, .inl ⟨rfl, rwI⟩⟩, trivial⟩ (by rfl)) ?_
 rintro _ _ _ ⟨rfl, rfl, rfl⟩
 refine XR.conv (σ' := [(0, pp 0 0), (3, pp 1 0), (5, .int .u32 b_sick), (14, s0 2 r1.length)]) (h' := [(2, rI r1), (1, .cells [.int .u32 b_sick, .int .u32 b_frozen] 0 63 0), (0, .cells ([ii a_rows, ii a_columns, ii a_bales] ++ rowC (encI .u32) a_near) z0 72 0)]) (c' := 3) ?_ (by kernel_rfl)
 refine rS 1 [(0, pp 0 0), (3, pp 1 0), (5, .int .u32 b_sick), (6, s0 2 r1.length)] ?_
 refine dQ ?_
 show XQ _ _ _ _ _ _ _ _
 refine sQ ?_
 refine XQ.block (id := 0) (by kernel_rfl) ?_
 refine XQ.loop m (by kernel_rfl) ?_
 obtain ⟨o1, o1_h, h⟩ := bS h
 refine XL.ren (σ' := [(0, pp 0 0), (3, pp 1 0), (5, .int .u32 b_sick), (6, s0 2 r1.length)]) (h' := [(2, rI r1), (1, .cells [.int .u32 b_sick, .int .u32 b_frozen] 0 63 0), (0, .cells ([ii a_rows, ii a_columns, ii a_bales] ++ rowC (encI .u32) a_near) z0 72 0)]) (c' := 3) [0, 1, 2] (by decide) rfl ⟨rfl, rfl, rfl, rfl, trivial⟩ ⟨⟨_, _, rfl, rfl, .inl ⟨rfl, rwI⟩⟩, ⟨_, _, rfl, rfl, .inr ⟨_, _, _, _, rfl, rfl⟩⟩, ⟨_, _, rfl, rfl, .inl ⟨rfl, preC_scal rfl (rowC_scal (encI_ok .u32) _)⟩⟩, trivial⟩ rfl ?_
 refine XL.conv (f36_1_ok m m z0 a_rows a_columns a_bales a_near b_sick b_frozen b_sick r1 o1 o1_h _ ?_) (by first | with_reducible rfl | simp | rfl)
 show XQ _ _ _ _ _ _ _ _
 refine qQ ?_
 refine rS 2 [(4, .int .u32 o1)] ?_
 refine dQ ?_
 show XQ _ _ _ _ _ _ _ _
 refine XQ.ret (by kernel_rfl) ?_
 have h := Option.some.inj h
 subst h
 exact ⟨fun i q => (by cases q), .int .u32 o1, (by kernel_rfl), rfl⟩
noncomputable def f24_C24 : Code := Proofs.Tryz.f24.body.getD .skip
noncomputable def f24_L1 : Code := lft (lft (rgt (lft (rgt (rgt (rgt (rgt f24_C24)))))))
noncomputable def f24_L2 : Code := lft (lft (rgt (lft (rgt (rgt (rgt (rgt (rgt f24_C24))))))))
inductive Of24_1 where
 | r (x4_r1 : Int)
 | x0 (xh4_0_x01 : Int) (xh4_1_x01 : Int) (xh4_2_x01 : Int) (lh4_x01 : List Int) (xh5_0_x01 : Int)
def f24_1 (m : Nat) : Nat → Int → Int → List Int → List Int → Int → Int → Int → Int → Int → List Int → Int → Option Of24_1
 | 0, _, _, _, _, _, _, _, _, _, _, _ => none
 | fuel + 1, a_Rows, a_Columns, a_Sick, a_Frozen, x25_1, x26_1, xh4_0_1, xh4_1_1, xh4_2_1, lh4_1, xh5_0_1 =>
  cond (decide (x26_1 < x25_1)) (
   cond (inRow x26_1 a_Sick.length) (
    cond (decide ((List.getD a_Sick (Int.toNat x26_1) 0) < 0)) (
     some (.r 2)
    ) (
     cond (decide ((List.getD a_Sick (Int.toNat x26_1) 0) ≥ xh4_2_1)) (
      some (.r 2)
     ) (
      (f40 m xh5_0_1 (List.getD a_Sick (Int.toNat x26_1) 0)).bind fun r5 =>
       cond (r5) (
        some (.r 6)
       ) (
        cond (decide (0 ≤ List.getD a_Sick (Int.toNat x26_1) 0)) (
         f24_1 m fuel a_Rows a_Columns a_Sick a_Frozen x25_1 (w64 (x26_1 + 1)) xh4_0_1 xh4_1_1 xh4_2_1 lh4_1 (orV .u32 xh5_0_1 (shV true .u32 1 (List.getD a_Sick (Int.toNat x26_1) 0)))
        ) none
       )
     )
    )
   ) none
  ) (
   some (.x0 xh4_0_1 xh4_1_1 xh4_2_1 lh4_1 xh5_0_1)
  )
abbrev qhb10 (a_Columns : Int) (a_Frozen : List Int) (a_Rows : Int) (a_Sick : List Int) (y0 : Nat) (y1 : Nat) (z0 : Nat) (z1 : Nat) (t : Heap) : Heap := (3, .cells [.int .u32 0, .int .u32 0] 0 63 0) :: (2, .cells [ii a_Rows, ii a_Columns, s0 0 a_Sick.length, s0 1 a_Frozen.length] 0 29 0) :: (1, rc (encI .i64) a_Frozen z1 y1 1) :: (0, rc (encI .i64) a_Sick z0 y0 1) :: t
abbrev qhb11 (t : St) : St := (1, pp 2 0) :: (3, pp 3 0) :: (5, pp 4 0) :: (6, pp 5 0) :: t
abbrev qhb12 (a_Sick : List Int) (x25_1 : Int) (x26_1 : Int) (t : St) : St := (8, ii (List.getD a_Sick (Int.toNat x26_1) 0)) :: (24, s0 0 a_Sick.length) :: (25, ii x25_1) :: (26, ii x26_1) :: t
abbrev qhb13 (a_Sick : List Int) (x25_1 : Int) (x26_1 : Int) (t : St) : St := (24, s0 0 a_Sick.length) :: (25, ii x25_1) :: (26, ii x26_1) :: t
theorem f24_1_ok (m : Nat) : ∀ (fuel : Nat) (z0 : Nat) (y0 : Nat) (z1 : Nat) (y1 : Nat) (a_Rows : Int) (a_Columns : Int) (a_Sick : List Int) (a_Frozen : List Int) (x25_1 : Int) (x26_1 : Int) (xh4_0_1 : Int) (xh4_1_1 : Int) (xh4_2_1 : Int) (lh4_1 : List Int) (xh5_0_1 : Int) (o : Of24_1), f24_1 m fuel a_Rows a_Columns a_Sick a_Frozen x25_1 x26_1 xh4_0_1 xh4_1_1 xh4_2_1 lh4_1 xh5_0_1 = some o → ∀ Q : QP, (match o with | .r x4_r1 => Q .ret [(2, .pointer none), (3, pp 2 0), (4, ii x4_r1)] [(2, .cells [.int .u32 0, .int .u32 0] 0 63 0), (1, rc (encI .i64) a_Frozen z1 y1 1), (0, rc (encI .i64) a_Sick z0 y0 1)] 3 | .x0 xh4_0_x01 xh4_1_x01 xh4_2_x01 lh4_x01 xh5_0_x01 => Q (.exit 0) (qhb11 []) ((5, .cells [.int .u32 xh5_0_x01, .int .u32 0] 0 63 0) :: (4, .cells ([ii xh4_0_x01, ii xh4_1_x01, ii xh4_2_x01] ++ rowC (encI .u32) lh4_x01) 0 72 0) :: qhb10 a_Columns a_Frozen a_Rows a_Sick y0 y1 z0 z1 []) 6) → XL E0 95 2 fuel f24_L1 (qhb11 (qhb13 a_Sick x25_1 x26_1 [])) ((5, .cells [.int .u32 xh5_0_1, .int .u32 0] 0 63 0) :: (4, .cells ([ii xh4_0_1, ii xh4_1_1, ii xh4_2_1] ++ rowC (encI .u32) lh4_1) 0 72 0) :: qhb10 a_Columns a_Frozen a_Rows a_Sick y0 y1 z0 z1 []) 6 Q
 | 0, z0, y0, z1, y1, a_Rows, a_Columns, a_Sick, a_Frozen, x25_1, x26_1, xh4_0_1, xh4_1_1, xh4_2_1, lh4_1, xh5_0_1, o, h, Q, hQ => by cases h
 | fuel + 1, z0, y0, z1, y1, a_Rows, a_Columns, a_Sick, a_Frozen, x25_1, x26_1, xh4_0_1, xh4_1_1, xh4_2_1, lh4_1, xh5_0_1, o, h, Q, hQ => by
  unfold f24_1 at h
  refine XL.succ E0_ok ?_
  refine qQ ?_
  refine rS 1 (qhb11 (qhb13 a_Sick x25_1 x26_1 [(27, .bool (decide (x26_1 < x25_1)))])) ?_
  refine dQ ?_
  show XQ _ _ _ _ _ _ _ _
  refine sQ ?_
  cases b1 : (decide (x26_1 < x25_1) : Bool) with
  | true =>
   have h := cT b1 h
   refine iT (.tmp 27) ?_
   refine kQ ?_
   show XQ _ _ _ _ _ _ _ _
   refine sQ ?_
   refine XQ.block (id := 1) (by kernel_rfl) ?_
   refine qQ ?_
   cases b2 : (inRow x26_1 a_Sick.length : Bool) with
   | false => cases (cF b2 h)
   | true =>
    have h := cT b2 h
    refine XR.rd E0_ok [1, 3, 5, 6, 24, 25, 26, 28] rfl (v := pp 0 ((Int.toNat x26_1) * 1)) (v_idx (s := 1) (x := (src 95 (.tmp 24))) (y := (src 95 (.tmp 26))) (b := 0) (o := 0) (len := a_Sick.length) (cap := a_Sick.length) (ik := .i64) (i := x26_1) (off := (Int.toNat x26_1) * 1) (d := (some (path 12 28))) (by kernel_rfl) (by kernel_rfl) (by kernel_rfl) b2 (by omega)) (σ' := (qhb11 (qhb13 a_Sick x25_1 x26_1 [(28, pp 0 ((Int.toNat x26_1) * 1))]))) (by kernel_rfl) ?_
    refine XR.rd E0_ok [1, 3, 5, 6, 24, 25, 26, 29] rfl (v := ii (List.getD a_Sick (Int.toNat x26_1) 0)) (v_load1 (encI_ok .i64) (x := (src 95 (.tmp 28))) (b := 0) (off := (Int.toNat x26_1) * 1) (xs := a_Sick) (fz := z0) (e := y0) (es := 1) (d := (some (path 12 29))) (by kernel_rfl) (by kernel_rfl) (by kernel_rfl) (Int.toNat x26_1) 0 0 (by first | with_reducible rfl | omega | rfl) (row_len (inRow_toNat b2) (by simp)) rfl rfl) (σ' := (qhb11 (qhb13 a_Sick x25_1 x26_1 [(29, ii (List.getD a_Sick (Int.toNat x26_1) 0))]))) (by kernel_rfl) ?_
    refine rS 1 (qhb11 (qhb12 a_Sick x25_1 x26_1 [])) ?_
    refine dQ ?_
    show XQ _ _ _ _ _ _ _ _
    refine sQ ?_
    refine XQ.block (id := 2) (by kernel_rfl) ?_
    refine qQ ?_
    refine rS 3 (qhb11 (qhb12 a_Sick x25_1 x26_1 [(33, .bool (decide ((List.getD a_Sick (Int.toNat x26_1) 0) < 0)))])) ?_
    cases b3 : (decide ((List.getD a_Sick (Int.toNat x26_1) 0) < 0) : Bool) with
    | true =>
     have h := cT b3 h
     refine rS 8 (qhb11 (qhb12 a_Sick x25_1 x26_1 [(30, .bool true)])) ?_
     refine dQ ?_
     show XQ _ _ _ _ _ _ _ _
     refine iT (.tmp 30) ?_
     refine qQ ?_
     refine rS 4 [(2, .pointer none), (3, pp 3 0), (4, ii 2)] ?_
     refine dQ ?_
     show XQ _ _ _ _ _ _ _ _
     refine XQ.ren (σ' := [(2, .pointer none), (3, pp 2 0), (4, ii 2)]) (h' := [(2, .cells [.int .u32 0, .int .u32 0] 0 63 0), (1, rc (encI .i64) a_Frozen z1 y1 1), (0, rc (encI .i64) a_Sick z0 y0 1)]) (c' := 3) [0, 1, 3] (by decide) rfl ⟨rfl, rfl, rfl, trivial⟩ ⟨⟨_, _, rfl, rfl, .inr ⟨_, _, _, _, rfl, rfl⟩⟩, ⟨_, _, rfl, rfl, .inl ⟨rfl, rwI⟩⟩, ⟨_, _, rfl, rfl, .inl ⟨rfl, rwI⟩⟩, trivial⟩ rfl ?_
     refine XQ.ret (by kernel_rfl) ?_
     cases h
     exact hQ
    | false =>
     have h := cF b3 h
     refine rS 8 (qhb11 (qhb12 a_Sick x25_1 x26_1 [(30, .bool (decide ((List.getD a_Sick (Int.toNat x26_1) 0) ≥ xh4_2_1)))])) ?_
     refine dQ ?_
     show XQ _ _ _ _ _ _ _ _
     cases b4 : (decide ((List.getD a_Sick (Int.toNat x26_1) 0) ≥ xh4_2_1) : Bool) with
     | true =>
      have h := cT b4 h
      refine iT (.tmp 30) ?_
      refine qQ ?_
      refine rS 4 [(2, .pointer none), (3, pp 3 0), (4, ii 2)] ?_
      refine dQ ?_
      show XQ _ _ _ _ _ _ _ _
      refine XQ.ren (σ' := [(2, .pointer none), (3, pp 2 0), (4, ii 2)]) (h' := [(2, .cells [.int .u32 0, .int .u32 0] 0 63 0), (1, rc (encI .i64) a_Frozen z1 y1 1), (0, rc (encI .i64) a_Sick z0 y0 1)]) (c' := 3) [0, 1, 3] (by decide) rfl ⟨rfl, rfl, rfl, trivial⟩ ⟨⟨_, _, rfl, rfl, .inr ⟨_, _, _, _, rfl, rfl⟩⟩, ⟨_, _, rfl, rfl, .inl ⟨rfl, rwI⟩⟩, ⟨_, _, rfl, rfl, .inl ⟨rfl, rwI⟩⟩, trivial⟩ rfl ?_
      refine XQ.ret (by kernel_rfl) ?_
      cases h
      exact hQ
     | false =>
      have h := cF b4 h
      refine iF (.tmp 30) ?_
      refine qQ ?_
      refine rS 3 (qhb11 (qhb12 a_Sick x25_1 x26_1 [(44, .int .u32 xh5_0_1), (45, ii (List.getD a_Sick (Int.toNat x26_1) 0))])) ?_
      obtain ⟨r5, r5_h, h⟩ := bS h
      refine XR.call E0_ok [1, 3, 5, 6, 8, 24, 25, 26, 46] rfl (K := 40) (args := [.int .u32 xh5_0_1, ii (List.getD a_Sick (Int.toNat x26_1) 0)]) (d := (some (path 12 46))) (by kernel_rfl) (KC.of_calls E0_ok (F := Proofs.Tryz.f40) (v := .bool r5) (by kernel_rfl) rfl rfl (fun w hI => f40_ok m xh5_0_1 (List.getD a_Sick (Int.toNat x26_1) 0) r5 r5_h w hI)) ?_
      rintro _ _ _ ⟨rfl, rfl, rfl⟩
      refine XR.conv (σ' := (qhb11 (qhb12 a_Sick x25_1 x26_1 [(46, .bool r5)]))) (h' := ((5, .cells [.int .u32 xh5_0_1, .int .u32 0] 0 63 0) :: (4, .cells ([ii xh4_0_1, ii xh4_1_1, ii xh4_2_1] ++ rowC (encI .u32) lh4_1) 0 72 0) :: qhb10 a_Columns a_Frozen a_Rows a_Sick y0 y1 z0 z1 [])) (c' := 6) ?_ (by kernel_rfl)
      refine rS 1 (qhb11 (qhb12 a_Sick x25_1 x26_1 [(42, .bool r5)])) ?_
      refine dQ ?_
      show XQ _ _ _ _ _ _ _ _
      cases b5 : (r5 : Bool) with
      | true =>
       have h := cT b5 h
       refine iT (.tmp 42) ?_
       refine qQ ?_
       refine rS 4 [(2, .pointer none), (3, pp 3 0), (4, ii 6)] ?_
       refine dQ ?_
       show XQ _ _ _ _ _ _ _ _
       refine XQ.ren (σ' := [(2, .pointer none), (3, pp 2 0), (4, ii 6)]) (h' := [(2, .cells [.int .u32 0, .int .u32 0] 0 63 0), (1, rc (encI .i64) a_Frozen z1 y1 1), (0, rc (encI .i64) a_Sick z0 y0 1)]) (c' := 3) [0, 1, 3] (by decide) rfl ⟨rfl, rfl, rfl, trivial⟩ ⟨⟨_, _, rfl, rfl, .inr ⟨_, _, _, _, rfl, rfl⟩⟩, ⟨_, _, rfl, rfl, .inl ⟨rfl, rwI⟩⟩, ⟨_, _, rfl, rfl, .inl ⟨rfl, rwI⟩⟩, trivial⟩ rfl ?_
       refine XQ.ret (by kernel_rfl) ?_
       cases h
       exact hQ
      | false =>
       have h := cF b5 h
       refine iF (.tmp 42) ?_
       refine kQ ?_
       show XQ _ _ _ _ _ _ _ _
       refine XQ.tail E0_ok 6 (by kernel_rfl) (by kernel_rfl) ?_
       refine XS.step E0_ok 3 rfl [1, 3, 5, 6, 24, 25, 26, 49, 50] rfl (σ' := (qhb11 (qhb13 a_Sick x25_1 x26_1 [(49, .int .u32 xh5_0_1), (50, ii (List.getD a_Sick (Int.toNat x26_1) 0))]))) (by kernel_rfl) ?_
       cases b6 : (decide (0 ≤ List.getD a_Sick (Int.toNat x26_1) 0) : Bool) with
       | false => cases (cF b6 h)
       | true =>
        have h := cT b6 h
        have e7 : insV (headI ((gsOf E0 95 (opsOf (rgt (rgt (lft (lft (rgt (rgt f24_L1)))))))).drop 3) (trS 95 (qhb11 (qhb13 a_Sick x25_1 x26_1 [(49, .int .u32 xh5_0_1), (50, ii (List.getD a_Sick (Int.toNat x26_1) 0))])))) (trS 95 (qhb11 (qhb13 a_Sick x25_1 x26_1 [(49, .int .u32 xh5_0_1), (50, ii (List.getD a_Sick (Int.toNat x26_1) 0))]))) ((5, .cells [.int .u32 xh5_0_1, .int .u32 0] 0 63 0) :: (4, .cells ([ii xh4_0_1, ii xh4_1_1, ii xh4_2_1] ++ rowC (encI .u32) lh4_1) 0 72 0) :: qhb10 a_Columns a_Frozen a_Rows a_Sick y0 y1 z0 z1 []) = (match (decide (0 ≤ List.getD a_Sick (Int.toNat x26_1) 0) : Bool) with | true => some (.int .u32 (shV true .u32 1 (List.getD a_Sick (Int.toNat x26_1) 0))) | false => none) := by kernel_rfl
        refine XS.rd E0_ok rfl [1, 3, 5, 6, 24, 25, 26, 49, 51] rfl (e7.trans (by rw [b6])) (σ' := (qhb11 (qhb13 a_Sick x25_1 x26_1 [(49, .int .u32 xh5_0_1), (51, .int .u32 (shV true .u32 1 (List.getD a_Sick (Int.toNat x26_1) 0)))]))) (by kernel_rfl) ?_
        refine XS.step E0_ok 2 rfl [1, 3, 5, 6, 24, 25, 26, 52, 53] rfl (σ' := (qhb11 (qhb13 a_Sick x25_1 x26_1 [(52, .int .u32 (orV .u32 xh5_0_1 (shV true .u32 1 (List.getD a_Sick (Int.toNat x26_1) 0)))), (53, pp 5 0)]))) (by kernel_rfl) ?_
        refine XS.done (by kernel_rfl) ?_
        refine rT 1 (qhb11 (qhb13 a_Sick x25_1 x26_1 [])) ((5, .cells [.int .u32 (orV .u32 xh5_0_1 (shV true .u32 1 (List.getD a_Sick (Int.toNat x26_1) 0))), .int .u32 0] 0 63 0) :: (4, .cells ([ii xh4_0_1, ii xh4_1_1, ii xh4_2_1] ++ rowC (encI .u32) lh4_1) 0 72 0) :: qhb10 a_Columns a_Frozen a_Rows a_Sick y0 y1 z0 z1 []) 6 ?_
        refine dQ ?_
        show XQ _ _ _ _ _ _ _ _
        refine rQ ?_
        refine rS 2 (qhb11 [(24, s0 0 a_Sick.length), (25, ii x25_1), (26, ii (w64 (x26_1 + 1)))]) ?_
        refine dQ ?_
        show XL _ _ _ _ _ _ _ _ _
        refine XL.ren (σ' := (qhb11 [(24, s0 0 a_Sick.length), (25, ii x25_1), (26, ii (w64 (x26_1 + 1)))])) (h' := ((5, .cells [.int .u32 (orV .u32 xh5_0_1 (shV true .u32 1 (List.getD a_Sick (Int.toNat x26_1) 0))), .int .u32 0] 0 63 0) :: (4, .cells ([ii xh4_0_1, ii xh4_1_1, ii xh4_2_1] ++ rowC (encI .u32) lh4_1) 0 72 0) :: qhb10 a_Columns a_Frozen a_Rows a_Sick y0 y1 z0 z1 [])) (c' := 6) [0, 1, 2, 3, 4, 5] (by decide) rfl ⟨rfl, rfl, rfl, rfl, rfl, rfl, rfl, trivial⟩ ⟨⟨_, _, rfl, rfl, .inr ⟨_, _, _, _, rfl, rfl⟩⟩, ⟨_, _, rfl, rfl, .inl ⟨rfl, preC_scal rfl (rowC_scal (encI_ok .u32) _)⟩⟩, ⟨_, _, rfl, rfl, .inr ⟨_, _, _, _, rfl, rfl⟩⟩, ⟨_, _, rfl, rfl, .inr ⟨_, _, _, _, rfl, rfl⟩⟩, ⟨_, _, rfl, rfl, .inl ⟨rfl, rwI⟩⟩, ⟨_, _, rfl, rfl, .inl ⟨rfl, rwI⟩⟩, trivial⟩ rfl ?_
        refine XL.conv (f24_1_ok m fuel z0 y0 z1 y1 a_Rows a_Columns a_Sick a_Frozen x25_1 (w64 (x26_1 + 1)) xh4_0_1 xh4_1_1 xh4_2_1 lh4_1 (orV .u32 xh5_0_1 (shV true .u32 1 (List.getD a_Sick (Int.toNat x26_1) 0))) o h Q hQ) (by first | with_reducible rfl | simp | rfl)
  | false =>
   have h := cF b1 h
   refine iF (.tmp 27) ?_
   refine XQ.ren (σ' := (qhb11 [])) (h' := ((5, .cells [.int .u32 xh5_0_1, .int .u32 0] 0 63 0) :: (4, .cells ([ii xh4_0_1, ii xh4_1_1, ii xh4_2_1] ++ rowC (encI .u32) lh4_1) 0 72 0) :: qhb10 a_Columns a_Frozen a_Rows a_Sick y0 y1 z0 z1 [])) (c' := 6) [0, 1, 2, 3, 4, 5] (by decide) rfl ⟨rfl, rfl, rfl, rfl, trivial⟩ ⟨⟨_, _, rfl, rfl, .inr ⟨_, _, _, _, rfl, rfl⟩⟩, ⟨_, _, rfl, rfl, .inl ⟨rfl, preC_scal rfl (rowC_scal (encI_ok .u32) _)⟩⟩, ⟨_, _, rfl, rfl, .inr ⟨_, _, _, _, rfl, rfl⟩⟩, ⟨_, _, rfl, rfl, .inr ⟨_, _, _, _, rfl, rfl⟩⟩, ⟨_, _, rfl, rfl, .inl ⟨rfl, rwI⟩⟩, ⟨_, _, rfl, rfl, .inl ⟨rfl, rwI⟩⟩, trivial⟩ rfl ?_
   refine XQ.exit (i := 0) (by kernel_rfl) ?_
   cases h
   exact hQ
inductive Of24_2 where
 | r (x4_r2 : Int)
 | x3 (xh4_1_x32 : Int)
def f24_2 (m : Nat) : Nat → List Int → List Int → Int → Int → Int → List Int → Int → Int → Int → Int → Option Of24_2
 | 0, _, _, _, _, _, _, _, _, _, _ => none
 | fuel + 1, a_Sick, a_Frozen, xh4_0_x01, xh4_1_x01, xh4_2_x01, lh4_x01, xh5_0_x01, x57_2, x58_2, xh4_1_2 =>
  cond (decide (x58_2 < x57_2)) (
   cond (inRow x58_2 a_Frozen.length) (
    cond (decide ((List.getD a_Frozen (Int.toNat x58_2) 0) < 0)) (
     some (.r 2)
    ) (
     cond (decide ((List.getD a_Frozen (Int.toNat x58_2) 0) ≥ xh4_2_x01)) (
      some (.r 2)
     ) (
      (f40 m xh4_1_2 (List.getD a_Frozen (Int.toNat x58_2) 0)).bind fun r10 =>
       cond (r10) (
        some (.r 6)
       ) (
        (f40 m xh5_0_x01 (List.getD a_Frozen (Int.toNat x58_2) 0)).bind fun r11 =>
         cond (r11) (
          some (.r 13)
         ) (
          cond (decide (0 ≤ List.getD a_Frozen (Int.toNat x58_2) 0)) (
           f24_2 m fuel a_Sick a_Frozen xh4_0_x01 xh4_1_x01 xh4_2_x01 lh4_x01 xh5_0_x01 x57_2 (w64 (x58_2 + 1)) (orV .u32 xh4_1_2 (shV true .u32 1 (List.getD a_Frozen (Int.toNat x58_2) 0)))
          ) none
         )
       )
     )
    )
   ) none
  ) (
   some (.x3 xh4_1_2)
  )
abbrev qhb14 (a_Frozen : List Int) (x57_2 : Int) (x58_2 : Int) (t : St) : St := (3, pp 2 0) :: (5, pp 3 0) :: (6, pp 4 0) :: (10, ii (List.getD a_Frozen (Int.toNat x58_2) 0)) :: (56, s0 1 a_Frozen.length) :: (57, ii x57_2) :: (58, ii x58_2) :: t
abbrev qhb15 (a_Frozen : List Int) (a_Sick : List Int) (y0 : Nat) (y1 : Nat) (z0 : Nat) (z1 : Nat) (t : Heap) : Heap := (2, .cells [.int .u32 0, .int .u32 0] 0 63 0) :: (1, rc (encI .i64) a_Frozen z1 y1 1) :: (0, rc (encI .i64) a_Sick z0 y0 1) :: t
abbrev qhb16 (a_Frozen : List Int) (x57_2 : Int) (t : St) : St := (3, pp 2 0) :: (5, pp 3 0) :: (6, pp 4 0) :: (56, s0 1 a_Frozen.length) :: (57, ii x57_2) :: t
theorem f24_2_ok (m : Nat) : ∀ (fuel : Nat) (z0 : Nat) (y0 : Nat) (z1 : Nat) (y1 : Nat) (a_Sick : List Int) (a_Frozen : List Int) (xh4_0_x01 : Int) (xh4_1_x01 : Int) (xh4_2_x01 : Int) (lh4_x01 : List Int) (xh5_0_x01 : Int) (x57_2 : Int) (x58_2 : Int) (xh4_1_2 : Int) (o : Of24_2), f24_2 m fuel a_Sick a_Frozen xh4_0_x01 xh4_1_x01 xh4_2_x01 lh4_x01 xh5_0_x01 x57_2 x58_2 xh4_1_2 = some o → ∀ Q : QP, (match o with | .r x4_r2 => Q .ret [(2, .pointer none), (3, pp 2 0), (4, ii x4_r2)] (qhb15 a_Frozen a_Sick y0 y1 z0 z1 []) 3 | .x3 xh4_1_x32 => Q (.exit 3) [(3, pp 2 0), (5, pp 3 0), (6, pp 4 0)] ((4, .cells [.int .u32 xh5_0_x01, .int .u32 xh4_1_x32] 0 63 0) :: (3, .cells ([ii xh4_0_x01, ii xh4_1_x01, ii xh4_2_x01] ++ rowC (encI .u32) lh4_x01) 0 72 0) :: qhb15 a_Frozen a_Sick y0 y1 z0 z1 []) 5) → XL E0 95 2 fuel f24_L2 (qhb16 a_Frozen x57_2 [(58, ii x58_2)]) ((4, .cells [.int .u32 xh5_0_x01, .int .u32 xh4_1_2] 0 63 0) :: (3, .cells ([ii xh4_0_x01, ii xh4_1_x01, ii xh4_2_x01] ++ rowC (encI .u32) lh4_x01) 0 72 0) :: qhb15 a_Frozen a_Sick y0 y1 z0 z1 []) 5 Q
 | 0, z0, y0, z1, y1, a_Sick, a_Frozen, xh4_0_x01, xh4_1_x01, xh4_2_x01, lh4_x01, xh5_0_x01, x57_2, x58_2, xh4_1_2, o, h, Q, hQ => by cases h
 | fuel + 1, z0, y0, z1, y1, a_Sick, a_Frozen, xh4_0_x01, xh4_1_x01, xh4_2_x01, lh4_x01, xh5_0_x01, x57_2, x58_2, xh4_1_2, o, h, Q, hQ => by
  unfold f24_2 at h
  refine XL.succ E0_ok ?_
  refine qQ ?_
  refine rS 1 (qhb16 a_Frozen x57_2 [(58, ii x58_2), (59, .bool (decide (x58_2 < x57_2)))]) ?_
  refine dQ ?_
  show XQ _ _ _ _ _ _ _ _
  refine sQ ?_
  cases b1 : (decide (x58_2 < x57_2) : Bool) with
  | true =>
   have h := cT b1 h
   refine iT (.tmp 59) ?_
   refine kQ ?_
   show XQ _ _ _ _ _ _ _ _
   refine sQ ?_
   refine XQ.block (id := 4) (by kernel_rfl) ?_
   refine qQ ?_
   cases b2 : (inRow x58_2 a_Frozen.length : Bool) with
   | false => cases (cF b2 h)
   | true =>
    have h := cT b2 h
    refine XR.rd E0_ok [3, 5, 6, 56, 57, 58, 60] rfl (v := pp 1 ((Int.toNat x58_2) * 1)) (v_idx (s := 1) (x := (src 95 (.tmp 56))) (y := (src 95 (.tmp 58))) (b := 1) (o := 0) (len := a_Frozen.length) (cap := a_Frozen.length) (ik := .i64) (i := x58_2) (off := (Int.toNat x58_2) * 1) (d := (some (path 12 60))) (by kernel_rfl) (by kernel_rfl) (by kernel_rfl) b2 (by omega)) (σ' := (qhb16 a_Frozen x57_2 [(58, ii x58_2), (60, pp 1 ((Int.toNat x58_2) * 1))])) (by kernel_rfl) ?_
    refine XR.rd E0_ok [3, 5, 6, 56, 57, 58, 61] rfl (v := ii (List.getD a_Frozen (Int.toNat x58_2) 0)) (v_load1 (encI_ok .i64) (x := (src 95 (.tmp 60))) (b := 1) (off := (Int.toNat x58_2) * 1) (xs := a_Frozen) (fz := z1) (e := y1) (es := 1) (d := (some (path 12 61))) (by kernel_rfl) (by kernel_rfl) (by kernel_rfl) (Int.toNat x58_2) 0 0 (by first | with_reducible rfl | omega | rfl) (row_len (inRow_toNat b2) (by simp)) rfl rfl) (σ' := (qhb16 a_Frozen x57_2 [(58, ii x58_2), (61, ii (List.getD a_Frozen (Int.toNat x58_2) 0))])) (by kernel_rfl) ?_
    refine rS 1 (qhb14 a_Frozen x57_2 x58_2 []) ?_
    refine dQ ?_
    show XQ _ _ _ _ _ _ _ _
    refine sQ ?_
    refine XQ.block (id := 5) (by kernel_rfl) ?_
    refine qQ ?_
    refine rS 3 (qhb14 a_Frozen x57_2 x58_2 [(65, .bool (decide ((List.getD a_Frozen (Int.toNat x58_2) 0) < 0)))]) ?_
    cases b3 : (decide ((List.getD a_Frozen (Int.toNat x58_2) 0) < 0) : Bool) with
    | true =>
     have h := cT b3 h
     refine rS 8 (qhb14 a_Frozen x57_2 x58_2 [(62, .bool true)]) ?_
     refine dQ ?_
     show XQ _ _ _ _ _ _ _ _
     refine iT (.tmp 62) ?_
     refine qQ ?_
     refine rS 4 [(2, .pointer none), (3, pp 2 0), (4, ii 2)] ?_
     refine dQ ?_
     show XQ _ _ _ _ _ _ _ _
     refine XQ.ren (σ' := [(2, .pointer none), (3, pp 2 0), (4, ii 2)]) (h' := (qhb15 a_Frozen a_Sick y0 y1 z0 z1 [])) (c' := 3) [0, 1, 2] (by decide) rfl ⟨rfl, rfl, rfl, trivial⟩ ⟨⟨_, _, rfl, rfl, .inr ⟨_, _, _, _, rfl, rfl⟩⟩, ⟨_, _, rfl, rfl, .inl ⟨rfl, rwI⟩⟩, ⟨_, _, rfl, rfl, .inl ⟨rfl, rwI⟩⟩, trivial⟩ rfl ?_
     refine XQ.ret (by kernel_rfl) ?_
     cases h
     exact hQ
    | false =>
     have h := cF b3 h
     refine rS 8 (qhb14 a_Frozen x57_2 x58_2 [(62, .bool (decide ((List.getD a_Frozen (Int.toNat x58_2) 0) ≥ xh4_2_x01)))]) ?_
     refine dQ ?_
     show XQ _ _ _ _ _ _ _ _
     cases b4 : (decide ((List.getD a_Frozen (Int.toNat x58_2) 0) ≥ xh4_2_x01) : Bool) with
     | true =>
      have h := cT b4 h
      refine iT (.tmp 62) ?_
      refine qQ ?_
      refine rS 4 [(2, .pointer none), (3, pp 2 0), (4, ii 2)] ?_
      refine dQ ?_
      show XQ _ _ _ _ _ _ _ _
      refine XQ.ren (σ' := [(2, .pointer none), (3, pp 2 0), (4, ii 2)]) (h' := (qhb15 a_Frozen a_Sick y0 y1 z0 z1 [])) (c' := 3) [0, 1, 2] (by decide) rfl ⟨rfl, rfl, rfl, trivial⟩ ⟨⟨_, _, rfl, rfl, .inr ⟨_, _, _, _, rfl, rfl⟩⟩, ⟨_, _, rfl, rfl, .inl ⟨rfl, rwI⟩⟩, ⟨_, _, rfl, rfl, .inl ⟨rfl, rwI⟩⟩, trivial⟩ rfl ?_
      refine XQ.ret (by kernel_rfl) ?_
      cases h
      exact hQ
     | false =>
      have h := cF b4 h
      refine iF (.tmp 62) ?_
      refine qQ ?_
      refine rS 3 (qhb14 a_Frozen x57_2 x58_2 [(76, .int .u32 xh4_1_2), (77, ii (List.getD a_Frozen (Int.toNat x58_2) 0))]) ?_
      obtain ⟨r10, r10_h, h⟩ := bS h
      refine XR.call E0_ok [3, 5, 6, 10, 56, 57, 58, 78] rfl (K := 40) (args := [.int .u32 xh4_1_2, ii (List.getD a_Frozen (Int.toNat x58_2) 0)]) (d := (some (path 12 78))) (by kernel_rfl) (KC.of_calls E0_ok (F := Proofs.Tryz.f40) (v := .bool r10) (by kernel_rfl) rfl rfl (fun w hI => f40_ok m xh4_1_2 (List.getD a_Frozen (Int.toNat x58_2) 0) r10 r10_h w hI)) ?_
      rintro _ _ _ ⟨rfl, rfl, rfl⟩
      refine XR.conv (σ' := (qhb14 a_Frozen x57_2 x58_2 [(78, .bool r10)])) (h' := ((4, .cells [.int .u32 xh5_0_x01, .int .u32 xh4_1_2] 0 63 0) :: (3, .cells ([ii xh4_0_x01, ii xh4_1_x01, ii xh4_2_x01] ++ rowC (encI .u32) lh4_x01) 0 72 0) :: qhb15 a_Frozen a_Sick y0 y1 z0 z1 [])) (c' := 5) ?_ (by kernel_rfl)
      refine rS 1 (qhb14 a_Frozen x57_2 x58_2 [(74, .bool r10)]) ?_
      refine dQ ?_
      show XQ _ _ _ _ _ _ _ _
      cases b5 : (r10 : Bool) with
      | true =>
       have h := cT b5 h
       refine iT (.tmp 74) ?_
       refine qQ ?_
       refine rS 4 [(2, .pointer none), (3, pp 2 0), (4, ii 6)] ?_
       refine dQ ?_
       show XQ _ _ _ _ _ _ _ _
       refine XQ.ren (σ' := [(2, .pointer none), (3, pp 2 0), (4, ii 6)]) (h' := (qhb15 a_Frozen a_Sick y0 y1 z0 z1 [])) (c' := 3) [0, 1, 2] (by decide) rfl ⟨rfl, rfl, rfl, trivial⟩ ⟨⟨_, _, rfl, rfl, .inr ⟨_, _, _, _, rfl, rfl⟩⟩, ⟨_, _, rfl, rfl, .inl ⟨rfl, rwI⟩⟩, ⟨_, _, rfl, rfl, .inl ⟨rfl, rwI⟩⟩, trivial⟩ rfl ?_
       refine XQ.ret (by kernel_rfl) ?_
       cases h
       exact hQ
      | false =>
       have h := cF b5 h
       refine iF (.tmp 74) ?_
       refine qQ ?_
       refine rS 3 (qhb14 a_Frozen x57_2 x58_2 [(82, .int .u32 xh5_0_x01), (83, ii (List.getD a_Frozen (Int.toNat x58_2) 0))]) ?_
       obtain ⟨r11, r11_h, h⟩ := bS h
       refine XR.call E0_ok [3, 5, 6, 10, 56, 57, 58, 84] rfl (K := 40) (args := [.int .u32 xh5_0_x01, ii (List.getD a_Frozen (Int.toNat x58_2) 0)]) (d := (some (path 12 84))) (by kernel_rfl) (KC.of_calls E0_ok (F := Proofs.Tryz.f40) (v := .bool r11) (by kernel_rfl) rfl rfl (fun w hI => f40_ok m xh5_0_x01 (List.getD a_Frozen (Int.toNat x58_2) 0) r11 r11_h w hI)) ?_
       rintro _ _ _ ⟨rfl, rfl, rfl⟩
       refine XR.conv (σ' := (qhb14 a_Frozen x57_2 x58_2 [(84, .bool r11)])) (h' := ((4, .cells [.int .u32 xh5_0_x01, .int .u32 xh4_1_2] 0 63 0) :: (3, .cells ([ii xh4_0_x01, ii xh4_1_x01, ii xh4_2_x01] ++ rowC (encI .u32) lh4_x01) 0 72 0) :: qhb15 a_Frozen a_Sick y0 y1 z0 z1 [])) (c' := 5) ?_ (by kernel_rfl)
       refine rS 1 (qhb14 a_Frozen x57_2 x58_2 [(80, .bool r11)]) ?_
       refine dQ ?_
       show XQ _ _ _ _ _ _ _ _
       cases b6 : (r11 : Bool) with
       | true =>
        have h := cT b6 h
        refine iT (.tmp 80) ?_
        refine qQ ?_
        refine rS 4 [(2, .pointer none), (3, pp 2 0), (4, ii 13)] ?_
        refine dQ ?_
        show XQ _ _ _ _ _ _ _ _
        refine XQ.ren (σ' := [(2, .pointer none), (3, pp 2 0), (4, ii 13)]) (h' := (qhb15 a_Frozen a_Sick y0 y1 z0 z1 [])) (c' := 3) [0, 1, 2] (by decide) rfl ⟨rfl, rfl, rfl, trivial⟩ ⟨⟨_, _, rfl, rfl, .inr ⟨_, _, _, _, rfl, rfl⟩⟩, ⟨_, _, rfl, rfl, .inl ⟨rfl, rwI⟩⟩, ⟨_, _, rfl, rfl, .inl ⟨rfl, rwI⟩⟩, trivial⟩ rfl ?_
        refine XQ.ret (by kernel_rfl) ?_
        cases h
        exact hQ
       | false =>
        have h := cF b6 h
        refine iF (.tmp 80) ?_
        refine kQ ?_
        show XQ _ _ _ _ _ _ _ _
        refine XQ.tail E0_ok 6 (by kernel_rfl) (by kernel_rfl) ?_
        refine XS.step E0_ok 3 rfl [3, 5, 6, 56, 57, 58, 87, 88] rfl (σ' := (qhb16 a_Frozen x57_2 [(58, ii x58_2), (87, .int .u32 xh4_1_2), (88, ii (List.getD a_Frozen (Int.toNat x58_2) 0))])) (by kernel_rfl) ?_
        cases b7 : (decide (0 ≤ List.getD a_Frozen (Int.toNat x58_2) 0) : Bool) with
        | false => cases (cF b7 h)
        | true =>
         have h := cT b7 h
         have e8 : insV (headI ((gsOf E0 95 (opsOf (rgt (rgt (lft (lft (rgt (rgt f24_L2)))))))).drop 3) (trS 95 (qhb16 a_Frozen x57_2 [(58, ii x58_2), (87, .int .u32 xh4_1_2), (88, ii (List.getD a_Frozen (Int.toNat x58_2) 0))]))) (trS 95 (qhb16 a_Frozen x57_2 [(58, ii x58_2), (87, .int .u32 xh4_1_2), (88, ii (List.getD a_Frozen (Int.toNat x58_2) 0))])) ((4, .cells [.int .u32 xh5_0_x01, .int .u32 xh4_1_2] 0 63 0) :: (3, .cells ([ii xh4_0_x01, ii xh4_1_x01, ii xh4_2_x01] ++ rowC (encI .u32) lh4_x01) 0 72 0) :: qhb15 a_Frozen a_Sick y0 y1 z0 z1 []) = (match (decide (0 ≤ List.getD a_Frozen (Int.toNat x58_2) 0) : Bool) with | true => some (.int .u32 (shV true .u32 1 (List.getD a_Frozen (Int.toNat x58_2) 0))) | false => none) := by kernel_rfl
         refine XS.rd E0_ok rfl [3, 5, 6, 56, 57, 58, 87, 89] rfl (e8.trans (by rw [b7])) (σ' := (qhb16 a_Frozen x57_2 [(58, ii x58_2), (87, .int .u32 xh4_1_2), (89, .int .u32 (shV true .u32 1 (List.getD a_Frozen (Int.toNat x58_2) 0)))])) (by kernel_rfl) ?_
         refine XS.step E0_ok 2 rfl [3, 5, 6, 56, 57, 58, 90, 91] rfl (σ' := (qhb16 a_Frozen x57_2 [(58, ii x58_2), (90, .int .u32 (orV .u32 xh4_1_2 (shV true .u32 1 (List.getD a_Frozen (Int.toNat x58_2) 0)))), (91, pp 4 1)])) (by kernel_rfl) ?_
         refine XS.done (by kernel_rfl) ?_
         refine rT 1 (qhb16 a_Frozen x57_2 [(58, ii x58_2)]) ((4, .cells [.int .u32 xh5_0_x01, .int .u32 (orV .u32 xh4_1_2 (shV true .u32 1 (List.getD a_Frozen (Int.toNat x58_2) 0)))] 0 63 0) :: (3, .cells ([ii xh4_0_x01, ii xh4_1_x01, ii xh4_2_x01] ++ rowC (encI .u32) lh4_x01) 0 72 0) :: qhb15 a_Frozen a_Sick y0 y1 z0 z1 []) 5 ?_
         refine dQ ?_
         show XQ _ _ _ _ _ _ _ _
         refine rQ ?_
         refine rS 2 (qhb16 a_Frozen x57_2 [(58, ii (w64 (x58_2 + 1)))]) ?_
         refine dQ ?_
         show XL _ _ _ _ _ _ _ _ _
         refine XL.ren (σ' := (qhb16 a_Frozen x57_2 [(58, ii (w64 (x58_2 + 1)))])) (h' := ((4, .cells [.int .u32 xh5_0_x01, .int .u32 (orV .u32 xh4_1_2 (shV true .u32 1 (List.getD a_Frozen (Int.toNat x58_2) 0)))] 0 63 0) :: (3, .cells ([ii xh4_0_x01, ii xh4_1_x01, ii xh4_2_x01] ++ rowC (encI .u32) lh4_x01) 0 72 0) :: qhb15 a_Frozen a_Sick y0 y1 z0 z1 [])) (c' := 5) [0, 1, 2, 3, 4] (by decide) rfl ⟨rfl, rfl, rfl, rfl, rfl, rfl, trivial⟩ ⟨⟨_, _, rfl, rfl, .inr ⟨_, _, _, _, rfl, rfl⟩⟩, ⟨_, _, rfl, rfl, .inl ⟨rfl, preC_scal rfl (rowC_scal (encI_ok .u32) _)⟩⟩, ⟨_, _, rfl, rfl, .inr ⟨_, _, _, _, rfl, rfl⟩⟩, ⟨_, _, rfl, rfl, .inl ⟨rfl, rwI⟩⟩, ⟨_, _, rfl, rfl, .inl ⟨rfl, rwI⟩⟩, trivial⟩ rfl ?_
         refine XL.conv (f24_2_ok m fuel z0 y0 z1 y1 a_Sick a_Frozen xh4_0_x01 xh4_1_x01 xh4_2_x01 lh4_x01 xh5_0_x01 x57_2 (w64 (x58_2 + 1)) (orV .u32 xh4_1_2 (shV true .u32 1 (List.getD a_Frozen (Int.toNat x58_2) 0))) o h Q hQ) (by first | with_reducible rfl | simp | rfl)
  | false =>
   have h := cF b1 h
   refine iF (.tmp 59) ?_
   refine XQ.ren (σ' := [(3, pp 2 0), (5, pp 3 0), (6, pp 4 0)]) (h' := ((4, .cells [.int .u32 xh5_0_x01, .int .u32 xh4_1_2] 0 63 0) :: (3, .cells ([ii xh4_0_x01, ii xh4_1_x01, ii xh4_2_x01] ++ rowC (encI .u32) lh4_x01) 0 72 0) :: qhb15 a_Frozen a_Sick y0 y1 z0 z1 [])) (c' := 5) [0, 1, 2, 3, 4] (by decide) rfl ⟨rfl, rfl, rfl, trivial⟩ ⟨⟨_, _, rfl, rfl, .inr ⟨_, _, _, _, rfl, rfl⟩⟩, ⟨_, _, rfl, rfl, .inl ⟨rfl, preC_scal rfl (rowC_scal (encI_ok .u32) _)⟩⟩, ⟨_, _, rfl, rfl, .inr ⟨_, _, _, _, rfl, rfl⟩⟩, ⟨_, _, rfl, rfl, .inl ⟨rfl, rwI⟩⟩, ⟨_, _, rfl, rfl, .inl ⟨rfl, rwI⟩⟩, trivial⟩ rfl ?_
   refine XQ.exit (i := 3) (by kernel_rfl) ?_
   cases h
   exact hQ
def f24 (m : Nat) (a_Rows : Int) (a_Columns : Int) (a_Sick : List Int) (a_Frozen : List Int) : Option (Int × Int × Int × (List Int) × Int × Int × Int) :=
 (f54 m a_Rows a_Columns).bind fun r1 =>
  cond (!r1) (
   none
  ) (
   (f55 m a_Rows a_Columns).bind fun r2 =>
    (f24_1 m m a_Rows a_Columns a_Sick a_Frozen ((a_Sick.length : Nat) : Int) 0 r2.1 r2.2.1 r2.2.2.1 r2.2.2.2 0).bind fun o1 =>
     match o1 with
     | .r x4_r1 =>
      none
     | .x0 xh4_0_x01 xh4_1_x01 xh4_2_x01 lh4_x01 xh5_0_x01 =>
      (f24_2 m m a_Sick a_Frozen xh4_0_x01 xh4_1_x01 xh4_2_x01 lh4_x01 xh5_0_x01 ((a_Frozen.length : Nat) : Int) 0 0).bind fun o2 =>
       match o2 with
       | .r x4_r2 =>
        none
       | .x3 xh4_1_x32 =>
        some (xh4_0_x01, xh4_1_x01, xh4_2_x01, lh4_x01, xh5_0_x01, xh4_1_x32, 0)
  )
abbrev qhb17 (a_Columns : Int) (a_Frozen : List Int) (a_Rows : Int) (a_Sick : List Int) (y0 : Nat) (y1 : Nat) (z0 : Nat) (z1 : Nat) (t : Heap) : Heap := (3, .cells [.int .u32 0, .int .u32 0] 0 63 0) :: (2, .cells [ii a_Rows, ii a_Columns, s0 0 a_Sick.length, s0 1 a_Frozen.length] 0 29 0) :: (1, rc (encI .i64) a_Frozen z1 y1 1) :: (0, rc (encI .i64) a_Sick z0 y0 1) :: t
theorem f24_ok (m : Nat) (z0 : Nat) (y0 : Nat) (z1 : Nat) (y1 : Nat) (a_Rows : Int) (a_Columns : Int) (a_Sick : List Int) (a_Frozen : List Int) (o : Int × Int × Int × (List Int) × Int × Int × Int) (h : f24 m a_Rows a_Columns a_Sick a_Frozen = some o) : KC E0 24 [.agg #[ii a_Rows, ii a_Columns, s0 0 a_Sick.length, s0 1 a_Frozen.length]] [(1, rc (encI .i64) a_Frozen z1 y1 1), (0, rc (encI .i64) a_Sick z0 y0 1)] 2 (fun v h' c' => v = .tuple #[pp 2 0, .agg #[.int .u32 o.2.2.2.2.1, .int .u32 o.2.2.2.2.2.1], ii o.2.2.2.2.2.2] ∧ h' = [(2, .cells ([ii o.1, ii o.2.1, ii o.2.2.1] ++ rowC (encI .u32) o.2.2.2.1) 0 72 0)] ++ [(1, rc (encI .i64) a_Frozen z1 y1 1), (0, rc (encI .i64) a_Sick z0 y0 1)] ∧ c' = 3) := by
 refine KC.renO ?_
 refine KC.bodyN E0_ok (F := Proofs.Tryz.f24) (by kernel_rfl) (code := f24_C24) (by kernel_rfl) (nt := 95) (by kernel_rfl) (rs := [.tmp 2, .cell 3 63, .tmp 4]) (by kernel_rfl) (by kernel_rfl) (σ := [(0, .agg #[ii a_Rows, ii a_Columns, s0 0 a_Sick.length, s0 1 a_Frozen.length])]) (by kernel_rfl) ?_
 unfold f24 at h
 refine qQ ?_
 refine rT 4 [(1, pp 2 0), (3, pp 3 0)] (qhb17 a_Columns a_Frozen a_Rows a_Sick y0 y1 z0 z1 []) 4 ?_
 refine dQ ?_
 show XQ _ _ _ _ _ _ _ _
 refine sQ ?_
 refine qQ ?_
 refine rS 4 [(1, pp 2 0), (3, pp 3 0), (12, ii a_Rows), (14, ii a_Columns)] ?_
 obtain ⟨r1, r1_h, h⟩ := bS h
 refine XR.call E0_ok [1, 3, 15] rfl (K := 54) (args := [ii a_Rows, ii a_Columns]) (d := (some (path 12 15))) (by kernel_rfl) (KC.of_calls E0_ok (F := Proofs.Tryz.f54) (v := .bool r1) (by kernel_rfl) rfl rfl (fun w hI => f54_ok m a_Rows a_Columns r1 r1_h w hI)) ?_
 rintro _ _ _ ⟨rfl, rfl, rfl⟩
 refine XR.conv (σ' := [(1, pp 2 0), (3, pp 3 0), (15, .bool r1)]) (h' := (qhb17 a_Columns a_Frozen a_Rows a_Sick y0 y1 z0 z1 [])) (c' := 4) ?_ (by kernel_rfl)
 refine rS 1 [(1, pp 2 0), (3, pp 3 0), (16, .bool (!r1))] ?_
 refine dQ ?_
 show XQ _ _ _ _ _ _ _ _
 cases b1 : (!r1 : Bool) with
 | true =>
  have h := cT b1 h
  refine iT (.tmp 16) ?_
  refine qQ ?_
  refine rS 4 [(2, .pointer none), (3, pp 3 0), (4, ii 1)] ?_
  refine dQ ?_
  show XQ _ _ _ _ _ _ _ _
  refine XQ.ren (σ' := [(2, .pointer none), (3, pp 2 0), (4, ii 1)]) (h' := [(2, .cells [.int .u32 0, .int .u32 0] 0 63 0), (1, rc (encI .i64) a_Frozen z1 y1 1), (0, rc (encI .i64) a_Sick z0 y0 1)]) (c' := 3) [0, 1, 3] (by decide) rfl ⟨rfl, rfl, rfl, trivial⟩ ⟨⟨_, _, rfl, rfl, .inr ⟨_, _, _, _, rfl, rfl⟩⟩, ⟨_, _, rfl, rfl, .inl ⟨rfl, rwI⟩⟩, ⟨_, _, rfl, rfl, .inl ⟨rfl, rwI⟩⟩, trivial⟩ rfl ?_
  refine XQ.ret (by kernel_rfl) ?_
  cases h
 | false =>
  have h := cF b1 h
  refine iF (.tmp 16) ?_
  refine kQ ?_
  show XQ _ _ _ _ _ _ _ _
  refine qQ ?_
  refine rS 4 [(1, pp 2 0), (3, pp 3 0), (19, ii a_Rows), (21, ii a_Columns)] ?_
  obtain ⟨r2, r2_h, h⟩ := bS h
  refine XR.call E0_ok [1, 3, 22] rfl (K := 55) (args := [ii a_Rows, ii a_Columns]) (d := (some (path 12 22))) (by kernel_rfl) (KC.lift (V2 := pp 4 0) (H2 := [(4, .cells ([ii r2.1, ii r2.2.1, ii r2.2.2.1] ++ rowC (encI .u32) r2.2.2.2) 0 72 0)]) [1, 2, 3, 4, 0] (f55_ok m a_Rows a_Columns r2 r2_h) rfl (by decide) (by decide) (by kernel_rfl) ⟨⟨_, _, rfl, rfl, .inl ⟨rfl, preC_scal rfl (rowC_scal (encI_ok .u32) _)⟩⟩, trivial⟩ (by rfl)) ?_
  rintro _ _ _ ⟨rfl, rfl, rfl⟩
  refine XR.conv (σ' := [(1, pp 2 0), (3, pp 3 0), (22, pp 4 0)]) (h' := ((4, .cells ([ii r2.1, ii r2.2.1, ii r2.2.2.1] ++ rowC (encI .u32) r2.2.2.2) 0 72 0) :: qhb17 a_Columns a_Frozen a_Rows a_Sick y0 y1 z0 z1 [])) (c' := 5) ?_ (by kernel_rfl)
  refine rS 1 [(1, pp 2 0), (3, pp 3 0), (5, pp 4 0)] ?_
  refine nQ id ?_
  refine rT 1 [(1, pp 2 0), (3, pp 3 0), (5, pp 4 0), (6, pp 5 0)] ((5, .cells [.int .u32 0, .int .u32 0] 0 63 0) :: (4, .cells ([ii r2.1, ii r2.2.1, ii r2.2.2.1] ++ rowC (encI .u32) r2.2.2.2) 0 72 0) :: qhb17 a_Columns a_Frozen a_Rows a_Sick y0 y1 z0 z1 []) 6 ?_
  refine dQ ?_
  show XQ _ _ _ _ _ _ _ _
  refine sQ ?_
  refine qQ ?_
  refine rS 4 [(1, pp 2 0), (3, pp 3 0), (5, pp 4 0), (6, pp 5 0), (24, s0 0 a_Sick.length), (25, ii ((a_Sick.length : Nat) : Int)), (26, ii 0)] ?_
  refine dQ ?_
  show XQ _ _ _ _ _ _ _ _
  refine XQ.block (id := 0) (by kernel_rfl) ?_
  refine XQ.loop m (by kernel_rfl) ?_
  obtain ⟨o1, o1_h, h⟩ := bS h
  refine XL.ren (σ' := [(1, pp 2 0), (3, pp 3 0), (5, pp 4 0), (6, pp 5 0), (24, s0 0 a_Sick.length), (25, ii ((a_Sick.length : Nat) : Int)), (26, ii 0)]) (h' := ((5, .cells [.int .u32 0, .int .u32 0] 0 63 0) :: (4, .cells ([ii r2.1, ii r2.2.1, ii r2.2.2.1] ++ rowC (encI .u32) r2.2.2.2) 0 72 0) :: qhb17 a_Columns a_Frozen a_Rows a_Sick y0 y1 z0 z1 [])) (c' := 6) [0, 1, 2, 3, 4, 5] (by decide) rfl ⟨rfl, rfl, rfl, rfl, rfl, rfl, rfl, trivial⟩ ⟨⟨_, _, rfl, rfl, .inr ⟨_, _, _, _, rfl, rfl⟩⟩, ⟨_, _, rfl, rfl, .inl ⟨rfl, preC_scal rfl (rowC_scal (encI_ok .u32) _)⟩⟩, ⟨_, _, rfl, rfl, .inr ⟨_, _, _, _, rfl, rfl⟩⟩, ⟨_, _, rfl, rfl, .inr ⟨_, _, _, _, rfl, rfl⟩⟩, ⟨_, _, rfl, rfl, .inl ⟨rfl, rwI⟩⟩, ⟨_, _, rfl, rfl, .inl ⟨rfl, rwI⟩⟩, trivial⟩ rfl ?_
  cases o1 with
  | r x4_r1 =>
   dsimp only at h
   refine XL.conv (f24_1_ok m m z0 y0 z1 y1 a_Rows a_Columns a_Sick a_Frozen ((a_Sick.length : Nat) : Int) 0 r2.1 r2.2.1 r2.2.2.1 r2.2.2.2 0 (.r x4_r1) o1_h _ ?_) (by first | with_reducible rfl | simp | rfl)
   cases h
  | x0 xh4_0_x01 xh4_1_x01 xh4_2_x01 lh4_x01 xh5_0_x01 =>
   dsimp only at h
   refine XL.conv (f24_1_ok m m z0 y0 z1 y1 a_Rows a_Columns a_Sick a_Frozen ((a_Sick.length : Nat) : Int) 0 r2.1 r2.2.1 r2.2.2.1 r2.2.2.2 0 (.x0 xh4_0_x01 xh4_1_x01 xh4_2_x01 lh4_x01 xh5_0_x01) o1_h _ ?_) (by first | with_reducible rfl | simp | rfl)
   show XQ _ _ _ _ _ _ _ _
   refine sQ ?_
   refine qQ ?_
   refine rS 4 [(3, pp 3 0), (5, pp 4 0), (6, pp 5 0), (56, s0 1 a_Frozen.length), (57, ii ((a_Frozen.length : Nat) : Int)), (58, ii 0)] ?_
   refine dQ ?_
   show XQ _ _ _ _ _ _ _ _
   refine XQ.block (id := 3) (by kernel_rfl) ?_
   refine XQ.loop m (by kernel_rfl) ?_
   obtain ⟨o2, o2_h, h⟩ := bS h
   refine XL.ren (σ' := [(3, pp 2 0), (5, pp 3 0), (6, pp 4 0), (56, s0 1 a_Frozen.length), (57, ii ((a_Frozen.length : Nat) : Int)), (58, ii 0)]) (h' := [(4, .cells [.int .u32 xh5_0_x01, .int .u32 0] 0 63 0), (3, .cells ([ii xh4_0_x01, ii xh4_1_x01, ii xh4_2_x01] ++ rowC (encI .u32) lh4_x01) 0 72 0), (2, .cells [.int .u32 0, .int .u32 0] 0 63 0), (1, rc (encI .i64) a_Frozen z1 y1 1), (0, rc (encI .i64) a_Sick z0 y0 1)]) (c' := 5) [0, 1, 3, 4, 5] (by decide) rfl ⟨rfl, rfl, rfl, rfl, rfl, rfl, trivial⟩ ⟨⟨_, _, rfl, rfl, .inr ⟨_, _, _, _, rfl, rfl⟩⟩, ⟨_, _, rfl, rfl, .inl ⟨rfl, preC_scal rfl (rowC_scal (encI_ok .u32) _)⟩⟩, ⟨_, _, rfl, rfl, .inr ⟨_, _, _, _, rfl, rfl⟩⟩, ⟨_, _, rfl, rfl, .inl ⟨rfl, rwI⟩⟩, ⟨_, _, rfl, rfl, .inl ⟨rfl, rwI⟩⟩, trivial⟩ rfl ?_
   cases o2 with
   | r x4_r2 =>
    dsimp only at h
    refine XL.conv (f24_2_ok m m z0 y0 z1 y1 a_Sick a_Frozen xh4_0_x01 xh4_1_x01 xh4_2_x01 lh4_x01 xh5_0_x01 ((a_Frozen.length : Nat) : Int) 0 0 (.r x4_r2) o2_h _ ?_) (by first | with_reducible rfl | simp | rfl)
    cases h
   | x3 xh4_1_x32 =>
    dsimp only at h
    refine XL.conv (f24_2_ok m m z0 y0 z1 y1 a_Sick a_Frozen xh4_0_x01 xh4_1_x01 xh4_2_x01 lh4_x01 xh5_0_x01 ((a_Frozen.length : Nat) : Int) 0 0 (.x3 xh4_1_x32) o2_h _ ?_) (by first | with_reducible rfl | simp | rfl)
    show XQ _ _ _ _ _ _ _ _
    refine sQ ?_
    refine XQ.tail E0_ok 3 (by kernel_rfl) (by kernel_rfl) ?_
    refine XS.step E0_ok 3 rfl [2, 3, 94] rfl (σ' := [(2, pp 3 0), (3, pp 2 0), (94, .agg #[.int .u32 xh5_0_x01, .int .u32 xh4_1_x32])]) (by kernel_rfl) ?_
    refine XS.done (by kernel_rfl) ?_
    refine rT 2 [(2, pp 3 0), (3, pp 2 0), (4, ii 0)] [(4, .cells [.int .u32 xh5_0_x01, .int .u32 xh4_1_x32] 0 63 0), (3, .cells ([ii xh4_0_x01, ii xh4_1_x01, ii xh4_2_x01] ++ rowC (encI .u32) lh4_x01) 0 72 0), (2, .cells [.int .u32 xh5_0_x01, .int .u32 xh4_1_x32] 0 63 0), (1, rc (encI .i64) a_Frozen z1 y1 1), (0, rc (encI .i64) a_Sick z0 y0 1)] 5 ?_
    refine dQ ?_
    show XQ _ _ _ _ _ _ _ _
    refine XQ.ren (σ' := [(2, pp 2 0), (3, pp 3 0), (4, ii 0)]) (h' := [(3, .cells [.int .u32 xh5_0_x01, .int .u32 xh4_1_x32] 0 63 0), (2, .cells ([ii xh4_0_x01, ii xh4_1_x01, ii xh4_2_x01] ++ rowC (encI .u32) lh4_x01) 0 72 0), (1, rc (encI .i64) a_Frozen z1 y1 1), (0, rc (encI .i64) a_Sick z0 y0 1)]) (c' := 4) [0, 1, 3, 2] (by decide) rfl ⟨rfl, rfl, rfl, trivial⟩ ⟨⟨_, _, rfl, rfl, .inr ⟨_, _, _, _, rfl, rfl⟩⟩, ⟨_, _, rfl, rfl, .inl ⟨rfl, preC_scal rfl (rowC_scal (encI_ok .u32) _)⟩⟩, ⟨_, _, rfl, rfl, .inl ⟨rfl, rwI⟩⟩, ⟨_, _, rfl, rfl, .inl ⟨rfl, rwI⟩⟩, trivial⟩ rfl ?_
    refine XQ.ret (by kernel_rfl) ?_
    have h := Option.some.inj h
    subst h
    exact ⟨fun i q => (by cases q), .tuple #[pp 2 0, .agg #[.int .u32 xh5_0_x01, .int .u32 xh4_1_x32], ii 0], (by kernel_rfl), [0, 1, 2], .tuple #[pp 2 0, .agg #[.int .u32 xh5_0_x01, .int .u32 xh4_1_x32], ii 0], [(2, .cells ([ii xh4_0_x01, ii xh4_1_x01, ii xh4_2_x01] ++ rowC (encI .u32) lh4_x01) 0 72 0), (1, rc (encI .i64) a_Frozen z1 y1 1), (0, rc (encI .i64) a_Sick z0 y0 1)], (by decide), rfl, (by kernel_rfl), ⟨⟨_, _, rfl, rfl, .inl ⟨rfl, preC_scal rfl (rowC_scal (encI_ok .u32) _)⟩⟩, ⟨_, _, rfl, rfl, .inl ⟨rfl, rwI⟩⟩, ⟨_, _, rfl, rfl, .inl ⟨rfl, rwI⟩⟩, trivial⟩, (by kernel_rfl), (by kernel_rfl), rfl⟩
noncomputable def f15_C15 : Code := Proofs.Tryz.f15.body.getD .skip
noncomputable def f15_L1 : Code := lft (lft (rgt (lft (rgt (rgt (rgt (rgt f15_C15)))))))
noncomputable def f15_L2 : Code := lft (lft (lft (rgt (rgt (rgt (lft (rgt f15_L1)))))))
noncomputable def f15_L3 : Code := lft (lft (lft (rgt (rgt (rgt (rgt (lft (rgt f15_L1))))))))
noncomputable def f15_L4 : Code := lft (lft (rgt (lft (rgt (rgt (rgt (rgt (rgt (lft (rgt f15_L1))))))))))
noncomputable def f15_L5 : Code := lft (lft (rgt (lft (lft (rgt f15_L4)))))
def f15_2 (m : Nat) : Nat → List Int → List Int → Int → Int → Int → Int → List Int → List (Int × Int × Int × Int) → Int → Int → Int → Int → Int → Int → Option (Int × Int × Int × Int × Int)
 | 0, _, _, _, _, _, _, _, _, _, _, _, _, _, _ => none
 | fuel + 1, a_Sick, a_Frozen, x8_1, xh2_0_1, xh2_1_1, xh2_2_1, lh2_1, lh3_1, x10_2, x11_2, xh4_0_2, xh4_1_2, xh4_2_2, xh4_3_2 =>
  cond (decide ((w64 (xh4_2_2 + 1)) < xh2_0_1)) (
   (f40 m x8_1 (w64 ((w64 ((w64 (xh4_2_2 + 1)) * xh2_1_1)) + x11_2))).bind fun r12 =>
    cond (r12) (
     f15_2 m fuel a_Sick a_Frozen x8_1 xh2_0_1 xh2_1_1 xh2_2_1 lh2_1 lh3_1 x10_2 x11_2 xh4_0_2 xh4_1_2 (w64 (xh4_2_2 + 1)) xh4_3_2
    ) (
     some (x10_2, xh4_0_2, xh4_1_2, xh4_2_2, xh4_3_2)
    )
  ) (
   some (x10_2, xh4_0_2, xh4_1_2, xh4_2_2, xh4_3_2)
  )
abbrev qhb18 (lh3_1 : List (Int × Int × Int × Int)) (x10_2 : Int) (x11_2 : Int) (x8_1 : Int) (t : St) : St := (4, pp 2 0) :: (7, s0 3 lh3_1.length) :: (8, .int .u32 x8_1) :: (10, ii x10_2) :: (11, ii x11_2) :: (12, pp 4 0) :: t
theorem f15_2_ok (m : Nat) : ∀ (fuel : Nat) (z0 : Nat) (y0 : Nat) (z1 : Nat) (y1 : Nat) (a_Sick : List Int) (a_Frozen : List Int) (x8_1 : Int) (xh2_0_1 : Int) (xh2_1_1 : Int) (xh2_2_1 : Int) (lh2_1 : List Int) (lh3_1 : List (Int × Int × Int × Int)) (x10_2 : Int) (x11_2 : Int) (xh4_0_2 : Int) (xh4_1_2 : Int) (xh4_2_2 : Int) (xh4_3_2 : Int) (o : (Int × Int × Int × Int × Int)), f15_2 m fuel a_Sick a_Frozen x8_1 xh2_0_1 xh2_1_1 xh2_2_1 lh2_1 lh3_1 x10_2 x11_2 xh4_0_2 xh4_1_2 xh4_2_2 xh4_3_2 = some o → ∀ Q : QP, Q (.exit 3) [(4, pp 2 0), (7, s0 3 lh3_1.length), (8, .int .u32 x8_1), (10, ii o.1), (12, pp 4 0)] [(4, .cells [ii o.2.1, ii o.2.2.1, ii o.2.2.2.1, ii o.2.2.2.2] 0 43 0), (3, rc encR lh3_1 0 43 4), (2, .cells ([ii xh2_0_1, ii xh2_1_1, ii xh2_2_1] ++ rowC (encI .u32) lh2_1) 0 72 0), (1, rc (encI .i64) a_Frozen z1 y1 1), (0, rc (encI .i64) a_Sick z0 y0 1)] 5 → XL E0 137 2 fuel f15_L2 (qhb18 lh3_1 x10_2 x11_2 x8_1 []) [(4, .cells [ii xh4_0_2, ii xh4_1_2, ii xh4_2_2, ii xh4_3_2] 0 43 0), (3, rc encR lh3_1 0 43 4), (2, .cells ([ii xh2_0_1, ii xh2_1_1, ii xh2_2_1] ++ rowC (encI .u32) lh2_1) 0 72 0), (1, rc (encI .i64) a_Frozen z1 y1 1), (0, rc (encI .i64) a_Sick z0 y0 1)] 5 Q
 | 0, z0, y0, z1, y1, a_Sick, a_Frozen, x8_1, xh2_0_1, xh2_1_1, xh2_2_1, lh2_1, lh3_1, x10_2, x11_2, xh4_0_2, xh4_1_2, xh4_2_2, xh4_3_2, o, h, Q, hQ => by cases h
 | fuel + 1, z0, y0, z1, y1, a_Sick, a_Frozen, x8_1, xh2_0_1, xh2_1_1, xh2_2_1, lh2_1, lh3_1, x10_2, x11_2, xh4_0_2, xh4_1_2, xh4_2_2, xh4_3_2, o, h, Q, hQ => by
  unfold f15_2 at h
  refine XL.succ E0_ok ?_
  refine sQ ?_
  refine sQ ?_
  refine XQ.quiet E0_ok (by kernel_rfl) (by kernel_rfl) ?_
  refine XU.run E0_ok 1 9 [4, 7, 8, 10, 11, 12, 61] rfl (σ' := (qhb18 lh3_1 x10_2 x11_2 x8_1 [(61, .bool (decide ((w64 (xh4_2_2 + 1)) < xh2_0_1)))])) (by kernel_rfl) ?_
  cases b1 : (decide ((w64 (xh4_2_2 + 1)) < xh2_0_1) : Bool) with
  | true =>
   have h := cT b1 h
   refine XU.run E0_ok 1 11 [4, 7, 8, 10, 11, 12, 61, 62, 72] rfl (σ' := (qhb18 lh3_1 x10_2 x11_2 x8_1 [(61, .bool true), (62, .int .u32 x8_1), (72, ii (w64 ((w64 ((w64 (xh4_2_2 + 1)) * xh2_1_1)) + x11_2)))])) (by kernel_rfl) ?_
   obtain ⟨r12, r12_h, h⟩ := bS h
   refine XU.call E0_ok [4, 7, 8, 10, 11, 12, 61, 73] rfl (K := 40) (F := Proofs.Tryz.f40) (args := [.int .u32 x8_1, ii (w64 ((w64 ((w64 (xh4_2_2 + 1)) * xh2_1_1)) + x11_2))]) (d := (some (path 12 73))) (v := .bool r12) (by kernel_rfl) (by kernel_rfl) rfl rfl (fun w hI => f40_ok m x8_1 (w64 ((w64 ((w64 (xh4_2_2 + 1)) * xh2_1_1)) + x11_2)) r12 r12_h w hI) (σ' := (qhb18 lh3_1 x10_2 x11_2 x8_1 [(61, .bool true), (73, .bool r12)])) (by kernel_rfl) ?_
   refine XU.run E0_ok 1 1 [4, 7, 8, 10, 11, 12, 74] rfl (σ' := (qhb18 lh3_1 x10_2 x11_2 x8_1 [(74, .bool r12)])) (by kernel_rfl) ?_
   refine XU.done (by kernel_rfl) ?_
   show XQ _ _ _ _ _ _ _ _
   cases b2 : (r12 : Bool) with
   | true =>
    have h := cT b2 h
    refine iT (.tmp 74) ?_
    refine kQ ?_
    show XQ _ _ _ _ _ _ _ _
    refine XQ.block (id := 4) (by kernel_rfl) ?_
    refine rQ ?_
    refine rT 5 (qhb18 lh3_1 x10_2 x11_2 x8_1 []) [(4, .cells [ii xh4_0_2, ii xh4_1_2, ii (w64 (xh4_2_2 + 1)), ii xh4_3_2] 0 43 0), (3, rc encR lh3_1 0 43 4), (2, .cells ([ii xh2_0_1, ii xh2_1_1, ii xh2_2_1] ++ rowC (encI .u32) lh2_1) 0 72 0), (1, rc (encI .i64) a_Frozen z1 y1 1), (0, rc (encI .i64) a_Sick z0 y0 1)] 5 ?_
    refine dQ ?_
    show XL _ _ _ _ _ _ _ _ _
    refine XL.ren (σ' := (qhb18 lh3_1 x10_2 x11_2 x8_1 [])) (h' := [(4, .cells [ii xh4_0_2, ii xh4_1_2, ii (w64 (xh4_2_2 + 1)), ii xh4_3_2] 0 43 0), (3, rc encR lh3_1 0 43 4), (2, .cells ([ii xh2_0_1, ii xh2_1_1, ii xh2_2_1] ++ rowC (encI .u32) lh2_1) 0 72 0), (1, rc (encI .i64) a_Frozen z1 y1 1), (0, rc (encI .i64) a_Sick z0 y0 1)]) (c' := 5) [0, 1, 2, 3, 4] (by decide) rfl ⟨rfl, rfl, rfl, rfl, rfl, rfl, trivial⟩ ⟨⟨_, _, rfl, rfl, .inr ⟨_, _, _, _, rfl, rfl⟩⟩, ⟨_, _, rfl, rfl, .inl ⟨rfl, rowC_scal encR_ok _⟩⟩, ⟨_, _, rfl, rfl, .inl ⟨rfl, preC_scal rfl (rowC_scal (encI_ok .u32) _)⟩⟩, ⟨_, _, rfl, rfl, .inl ⟨rfl, rwI⟩⟩, ⟨_, _, rfl, rfl, .inl ⟨rfl, rwI⟩⟩, trivial⟩ rfl ?_
    refine XL.conv (f15_2_ok m fuel z0 y0 z1 y1 a_Sick a_Frozen x8_1 xh2_0_1 xh2_1_1 xh2_2_1 lh2_1 lh3_1 x10_2 x11_2 xh4_0_2 xh4_1_2 (w64 (xh4_2_2 + 1)) xh4_3_2 o h Q hQ) (by first | with_reducible rfl | simp | rfl)
   | false =>
    have h := cF b2 h
    refine iF (.tmp 74) ?_
    refine XQ.ren (σ' := [(4, pp 2 0), (7, s0 3 lh3_1.length), (8, .int .u32 x8_1), (10, ii x10_2), (12, pp 4 0)]) (h' := [(4, .cells [ii xh4_0_2, ii xh4_1_2, ii xh4_2_2, ii xh4_3_2] 0 43 0), (3, rc encR lh3_1 0 43 4), (2, .cells ([ii xh2_0_1, ii xh2_1_1, ii xh2_2_1] ++ rowC (encI .u32) lh2_1) 0 72 0), (1, rc (encI .i64) a_Frozen z1 y1 1), (0, rc (encI .i64) a_Sick z0 y0 1)]) (c' := 5) [0, 1, 2, 3, 4] (by decide) rfl ⟨rfl, rfl, rfl, rfl, rfl, trivial⟩ ⟨⟨_, _, rfl, rfl, .inr ⟨_, _, _, _, rfl, rfl⟩⟩, ⟨_, _, rfl, rfl, .inl ⟨rfl, rowC_scal encR_ok _⟩⟩, ⟨_, _, rfl, rfl, .inl ⟨rfl, preC_scal rfl (rowC_scal (encI_ok .u32) _)⟩⟩, ⟨_, _, rfl, rfl, .inl ⟨rfl, rwI⟩⟩, ⟨_, _, rfl, rfl, .inl ⟨rfl, rwI⟩⟩, trivial⟩ rfl ?_
    refine XQ.exit (i := 3) (by kernel_rfl) ?_
    cases h
    exact hQ
  | false =>
   have h := cF b1 h
   refine XU.run E0_ok 1 13 [4, 7, 8, 10, 11, 12, 74] rfl (σ' := (qhb18 lh3_1 x10_2 x11_2 x8_1 [(74, .bool false)])) (by kernel_rfl) ?_
   refine XU.done (by kernel_rfl) ?_
   show XQ _ _ _ _ _ _ _ _
   refine iF (.tmp 74) ?_
   refine XQ.ren (σ' := [(4, pp 2 0), (7, s0 3 lh3_1.length), (8, .int .u32 x8_1), (10, ii x10_2), (12, pp 4 0)]) (h' := [(4, .cells [ii xh4_0_2, ii xh4_1_2, ii xh4_2_2, ii xh4_3_2] 0 43 0), (3, rc encR lh3_1 0 43 4), (2, .cells ([ii xh2_0_1, ii xh2_1_1, ii xh2_2_1] ++ rowC (encI .u32) lh2_1) 0 72 0), (1, rc (encI .i64) a_Frozen z1 y1 1), (0, rc (encI .i64) a_Sick z0 y0 1)]) (c' := 5) [0, 1, 2, 3, 4] (by decide) rfl ⟨rfl, rfl, rfl, rfl, rfl, trivial⟩ ⟨⟨_, _, rfl, rfl, .inr ⟨_, _, _, _, rfl, rfl⟩⟩, ⟨_, _, rfl, rfl, .inl ⟨rfl, rowC_scal encR_ok _⟩⟩, ⟨_, _, rfl, rfl, .inl ⟨rfl, preC_scal rfl (rowC_scal (encI_ok .u32) _)⟩⟩, ⟨_, _, rfl, rfl, .inl ⟨rfl, rwI⟩⟩, ⟨_, _, rfl, rfl, .inl ⟨rfl, rwI⟩⟩, trivial⟩ rfl ?_
   refine XQ.exit (i := 3) (by kernel_rfl) ?_
   cases h
   exact hQ
def f15_3 (m : Nat) : Nat → List Int → List Int → Int → Int → Int → Int → List Int → List (Int × Int × Int × Int) → Int → Int → Int → Int → Int → Option (Int × Int × Int × Int)
 | 0, _, _, _, _, _, _, _, _, _, _, _, _, _ => none
 | fuel + 1, a_Sick, a_Frozen, x8_1, xh2_0_1, xh2_1_1, xh2_2_1, lh2_1, lh3_1, x10_3, xh4_0_3, xh4_1_3, xh4_2_3, xh4_3_3 =>
  cond (decide ((w64 (xh4_3_3 + 1)) < xh2_1_1)) (
   (f40 m x8_1 (w64 ((w64 ((w64 (x10_3 * xh2_1_1)) + xh4_3_3)) + 1))).bind fun r14 =>
    cond (r14) (
     f15_3 m fuel a_Sick a_Frozen x8_1 xh2_0_1 xh2_1_1 xh2_2_1 lh2_1 lh3_1 x10_3 xh4_0_3 xh4_1_3 xh4_2_3 (w64 (xh4_3_3 + 1))
    ) (
     some (xh4_0_3, xh4_1_3, xh4_2_3, xh4_3_3)
    )
  ) (
   some (xh4_0_3, xh4_1_3, xh4_2_3, xh4_3_3)
  )
abbrev qhb19 (lh3_1 : List (Int × Int × Int × Int)) (x10_3 : Int) (x8_1 : Int) (t : St) : St := (4, pp 2 0) :: (7, s0 3 lh3_1.length) :: (8, .int .u32 x8_1) :: (10, ii x10_3) :: (12, pp 4 0) :: t
theorem f15_3_ok (m : Nat) : ∀ (fuel : Nat) (z0 : Nat) (y0 : Nat) (z1 : Nat) (y1 : Nat) (a_Sick : List Int) (a_Frozen : List Int) (x8_1 : Int) (xh2_0_1 : Int) (xh2_1_1 : Int) (xh2_2_1 : Int) (lh2_1 : List Int) (lh3_1 : List (Int × Int × Int × Int)) (x10_3 : Int) (xh4_0_3 : Int) (xh4_1_3 : Int) (xh4_2_3 : Int) (xh4_3_3 : Int) (o : (Int × Int × Int × Int)), f15_3 m fuel a_Sick a_Frozen x8_1 xh2_0_1 xh2_1_1 xh2_2_1 lh2_1 lh3_1 x10_3 xh4_0_3 xh4_1_3 xh4_2_3 xh4_3_3 = some o → ∀ Q : QP, Q (.exit 5) [(4, pp 2 0), (7, s0 3 lh3_1.length), (8, .int .u32 x8_1), (12, pp 4 0)] [(4, .cells [ii o.1, ii o.2.1, ii o.2.2.1, ii o.2.2.2] 0 43 0), (3, rc encR lh3_1 0 43 4), (2, .cells ([ii xh2_0_1, ii xh2_1_1, ii xh2_2_1] ++ rowC (encI .u32) lh2_1) 0 72 0), (1, rc (encI .i64) a_Frozen z1 y1 1), (0, rc (encI .i64) a_Sick z0 y0 1)] 5 → XL E0 137 2 fuel f15_L3 (qhb19 lh3_1 x10_3 x8_1 []) [(4, .cells [ii xh4_0_3, ii xh4_1_3, ii xh4_2_3, ii xh4_3_3] 0 43 0), (3, rc encR lh3_1 0 43 4), (2, .cells ([ii xh2_0_1, ii xh2_1_1, ii xh2_2_1] ++ rowC (encI .u32) lh2_1) 0 72 0), (1, rc (encI .i64) a_Frozen z1 y1 1), (0, rc (encI .i64) a_Sick z0 y0 1)] 5 Q
 | 0, z0, y0, z1, y1, a_Sick, a_Frozen, x8_1, xh2_0_1, xh2_1_1, xh2_2_1, lh2_1, lh3_1, x10_3, xh4_0_3, xh4_1_3, xh4_2_3, xh4_3_3, o, h, Q, hQ => by cases h
 | fuel + 1, z0, y0, z1, y1, a_Sick, a_Frozen, x8_1, xh2_0_1, xh2_1_1, xh2_2_1, lh2_1, lh3_1, x10_3, xh4_0_3, xh4_1_3, xh4_2_3, xh4_3_3, o, h, Q, hQ => by
  unfold f15_3 at h
  refine XL.succ E0_ok ?_
  refine sQ ?_
  refine sQ ?_
  refine XQ.quiet E0_ok (by kernel_rfl) (by kernel_rfl) ?_
  refine XU.run E0_ok 1 9 [4, 7, 8, 10, 12, 87] rfl (σ' := (qhb19 lh3_1 x10_3 x8_1 [(87, .bool (decide ((w64 (xh4_3_3 + 1)) < xh2_1_1)))])) (by kernel_rfl) ?_
  cases b1 : (decide ((w64 (xh4_3_3 + 1)) < xh2_1_1) : Bool) with
  | true =>
   have h := cT b1 h
   refine XU.run E0_ok 1 11 [4, 7, 8, 10, 12, 87, 88, 98] rfl (σ' := (qhb19 lh3_1 x10_3 x8_1 [(87, .bool true), (88, .int .u32 x8_1), (98, ii (w64 ((w64 ((w64 (x10_3 * xh2_1_1)) + xh4_3_3)) + 1)))])) (by kernel_rfl) ?_
   obtain ⟨r14, r14_h, h⟩ := bS h
   refine XU.call E0_ok [4, 7, 8, 10, 12, 87, 99] rfl (K := 40) (F := Proofs.Tryz.f40) (args := [.int .u32 x8_1, ii (w64 ((w64 ((w64 (x10_3 * xh2_1_1)) + xh4_3_3)) + 1))]) (d := (some (path 12 99))) (v := .bool r14) (by kernel_rfl) (by kernel_rfl) rfl rfl (fun w hI => f40_ok m x8_1 (w64 ((w64 ((w64 (x10_3 * xh2_1_1)) + xh4_3_3)) + 1)) r14 r14_h w hI) (σ' := (qhb19 lh3_1 x10_3 x8_1 [(87, .bool true), (99, .bool r14)])) (by kernel_rfl) ?_
   refine XU.run E0_ok 1 1 [4, 7, 8, 10, 12, 100] rfl (σ' := (qhb19 lh3_1 x10_3 x8_1 [(100, .bool r14)])) (by kernel_rfl) ?_
   refine XU.done (by kernel_rfl) ?_
   show XQ _ _ _ _ _ _ _ _
   cases b2 : (r14 : Bool) with
   | true =>
    have h := cT b2 h
    refine iT (.tmp 100) ?_
    refine kQ ?_
    show XQ _ _ _ _ _ _ _ _
    refine XQ.block (id := 6) (by kernel_rfl) ?_
    refine rQ ?_
    refine rT 5 (qhb19 lh3_1 x10_3 x8_1 []) [(4, .cells [ii xh4_0_3, ii xh4_1_3, ii xh4_2_3, ii (w64 (xh4_3_3 + 1))] 0 43 0), (3, rc encR lh3_1 0 43 4), (2, .cells ([ii xh2_0_1, ii xh2_1_1, ii xh2_2_1] ++ rowC (encI .u32) lh2_1) 0 72 0), (1, rc (encI .i64) a_Frozen z1 y1 1), (0, rc (encI .i64) a_Sick z0 y0 1)] 5 ?_
    refine dQ ?_
    show XL _ _ _ _ _ _ _ _ _
    refine XL.ren (σ' := (qhb19 lh3_1 x10_3 x8_1 [])) (h' := [(4, .cells [ii xh4_0_3, ii xh4_1_3, ii xh4_2_3, ii (w64 (xh4_3_3 + 1))] 0 43 0), (3, rc encR lh3_1 0 43 4), (2, .cells ([ii xh2_0_1, ii xh2_1_1, ii xh2_2_1] ++ rowC (encI .u32) lh2_1) 0 72 0), (1, rc (encI .i64) a_Frozen z1 y1 1), (0, rc (encI .i64) a_Sick z0 y0 1)]) (c' := 5) [0, 1, 2, 3, 4] (by decide) rfl ⟨rfl, rfl, rfl, rfl, rfl, trivial⟩ ⟨⟨_, _, rfl, rfl, .inr ⟨_, _, _, _, rfl, rfl⟩⟩, ⟨_, _, rfl, rfl, .inl ⟨rfl, rowC_scal encR_ok _⟩⟩, ⟨_, _, rfl, rfl, .inl ⟨rfl, preC_scal rfl (rowC_scal (encI_ok .u32) _)⟩⟩, ⟨_, _, rfl, rfl, .inl ⟨rfl, rwI⟩⟩, ⟨_, _, rfl, rfl, .inl ⟨rfl, rwI⟩⟩, trivial⟩ rfl ?_
    refine XL.conv (f15_3_ok m fuel z0 y0 z1 y1 a_Sick a_Frozen x8_1 xh2_0_1 xh2_1_1 xh2_2_1 lh2_1 lh3_1 x10_3 xh4_0_3 xh4_1_3 xh4_2_3 (w64 (xh4_3_3 + 1)) o h Q hQ) (by first | with_reducible rfl | simp | rfl)
   | false =>
    have h := cF b2 h
    refine iF (.tmp 100) ?_
    refine XQ.ren (σ' := [(4, pp 2 0), (7, s0 3 lh3_1.length), (8, .int .u32 x8_1), (12, pp 4 0)]) (h' := [(4, .cells [ii xh4_0_3, ii xh4_1_3, ii xh4_2_3, ii xh4_3_3] 0 43 0), (3, rc encR lh3_1 0 43 4), (2, .cells ([ii xh2_0_1, ii xh2_1_1, ii xh2_2_1] ++ rowC (encI .u32) lh2_1) 0 72 0), (1, rc (encI .i64) a_Frozen z1 y1 1), (0, rc (encI .i64) a_Sick z0 y0 1)]) (c' := 5) [0, 1, 2, 3, 4] (by decide) rfl ⟨rfl, rfl, rfl, rfl, trivial⟩ ⟨⟨_, _, rfl, rfl, .inr ⟨_, _, _, _, rfl, rfl⟩⟩, ⟨_, _, rfl, rfl, .inl ⟨rfl, rowC_scal encR_ok _⟩⟩, ⟨_, _, rfl, rfl, .inl ⟨rfl, preC_scal rfl (rowC_scal (encI_ok .u32) _)⟩⟩, ⟨_, _, rfl, rfl, .inl ⟨rfl, rwI⟩⟩, ⟨_, _, rfl, rfl, .inl ⟨rfl, rwI⟩⟩, trivial⟩ rfl ?_
    refine XQ.exit (i := 5) (by kernel_rfl) ?_
    cases h
    exact hQ
  | false =>
   have h := cF b1 h
   refine XU.run E0_ok 1 13 [4, 7, 8, 10, 12, 100] rfl (σ' := (qhb19 lh3_1 x10_3 x8_1 [(100, .bool false)])) (by kernel_rfl) ?_
   refine XU.done (by kernel_rfl) ?_
   show XQ _ _ _ _ _ _ _ _
   refine iF (.tmp 100) ?_
   refine XQ.ren (σ' := [(4, pp 2 0), (7, s0 3 lh3_1.length), (8, .int .u32 x8_1), (12, pp 4 0)]) (h' := [(4, .cells [ii xh4_0_3, ii xh4_1_3, ii xh4_2_3, ii xh4_3_3] 0 43 0), (3, rc encR lh3_1 0 43 4), (2, .cells ([ii xh2_0_1, ii xh2_1_1, ii xh2_2_1] ++ rowC (encI .u32) lh2_1) 0 72 0), (1, rc (encI .i64) a_Frozen z1 y1 1), (0, rc (encI .i64) a_Sick z0 y0 1)]) (c' := 5) [0, 1, 2, 3, 4] (by decide) rfl ⟨rfl, rfl, rfl, rfl, trivial⟩ ⟨⟨_, _, rfl, rfl, .inr ⟨_, _, _, _, rfl, rfl⟩⟩, ⟨_, _, rfl, rfl, .inl ⟨rfl, rowC_scal encR_ok _⟩⟩, ⟨_, _, rfl, rfl, .inl ⟨rfl, preC_scal rfl (rowC_scal (encI_ok .u32) _)⟩⟩, ⟨_, _, rfl, rfl, .inl ⟨rfl, rwI⟩⟩, ⟨_, _, rfl, rfl, .inl ⟨rfl, rwI⟩⟩, trivial⟩ rfl ?_
   refine XQ.exit (i := 5) (by kernel_rfl) ?_
   cases h
   exact hQ
def f15_5 (m : Nat) : Nat → List Int → List Int → Int → Int → Int → List Int → List (Int × Int × Int × Int) → Int → Int → Int → Int → Int → Int → Int → Option Int
 | 0, _, _, _, _, _, _, _, _, _, _, _, _, _, _ => none
 | fuel + 1, a_Sick, a_Frozen, xh2_0_1, xh2_1_1, xh2_2_1, lh2_1, lh3_1, x13_4, xh4_0_4, xh4_1_4, xh4_2_4, xh4_3_4, x8_5, x14_5 =>
  cond (decide (x14_5 ≤ xh4_3_4)) (
   cond (decide (0 ≤ w64 ((w64 (x13_4 * xh2_1_1)) + x14_5))) (
    f15_5 m fuel a_Sick a_Frozen xh2_0_1 xh2_1_1 xh2_2_1 lh2_1 lh3_1 x13_4 xh4_0_4 xh4_1_4 xh4_2_4 xh4_3_4 (andNotV .u32 x8_5 (shV true .u32 1 (w64 ((w64 (x13_4 * xh2_1_1)) + x14_5)))) (w64 (x14_5 + 1))
   ) none
  ) (
   some (x8_5)
  )
theorem f15_5_ok (m : Nat) : ∀ (fuel : Nat) (z0 : Nat) (y0 : Nat) (z1 : Nat) (y1 : Nat) (a_Sick : List Int) (a_Frozen : List Int) (xh2_0_1 : Int) (xh2_1_1 : Int) (xh2_2_1 : Int) (lh2_1 : List Int) (lh3_1 : List (Int × Int × Int × Int)) (x13_4 : Int) (xh4_0_4 : Int) (xh4_1_4 : Int) (xh4_2_4 : Int) (xh4_3_4 : Int) (x8_5 : Int) (x14_5 : Int) (o : Int), f15_5 m fuel a_Sick a_Frozen xh2_0_1 xh2_1_1 xh2_2_1 lh2_1 lh3_1 x13_4 xh4_0_4 xh4_1_4 xh4_2_4 xh4_3_4 x8_5 x14_5 = some o → ∀ Q : QP, Q (.exit 9) [(4, pp 2 0), (7, s0 3 lh3_1.length), (8, .int .u32 o), (12, pp 4 0), (13, ii x13_4)] [(4, .cells [ii xh4_0_4, ii xh4_1_4, ii xh4_2_4, ii xh4_3_4] 0 43 0), (3, rc encR lh3_1 0 43 4), (2, .cells ([ii xh2_0_1, ii xh2_1_1, ii xh2_2_1] ++ rowC (encI .u32) lh2_1) 0 72 0), (1, rc (encI .i64) a_Frozen z1 y1 1), (0, rc (encI .i64) a_Sick z0 y0 1)] 5 → XL E0 137 2 fuel f15_L5 [(4, pp 2 0), (7, s0 3 lh3_1.length), (8, .int .u32 x8_5), (12, pp 4 0), (13, ii x13_4), (14, ii x14_5)] [(4, .cells [ii xh4_0_4, ii xh4_1_4, ii xh4_2_4, ii xh4_3_4] 0 43 0), (3, rc encR lh3_1 0 43 4), (2, .cells ([ii xh2_0_1, ii xh2_1_1, ii xh2_2_1] ++ rowC (encI .u32) lh2_1) 0 72 0), (1, rc (encI .i64) a_Frozen z1 y1 1), (0, rc (encI .i64) a_Sick z0 y0 1)] 5 Q
 | 0, z0, y0, z1, y1, a_Sick, a_Frozen, xh2_0_1, xh2_1_1, xh2_2_1, lh2_1, lh3_1, x13_4, xh4_0_4, xh4_1_4, xh4_2_4, xh4_3_4, x8_5, x14_5, o, h, Q, hQ => by cases h
 | fuel + 1, z0, y0, z1, y1, a_Sick, a_Frozen, xh2_0_1, xh2_1_1, xh2_2_1, lh2_1, lh3_1, x13_4, xh4_0_4, xh4_1_4, xh4_2_4, xh4_3_4, x8_5, x14_5, o, h, Q, hQ => by
  unfold f15_5 at h
  refine XL.succ E0_ok ?_
  refine sQ ?_
  refine qQ ?_
  refine rS 4 [(4, pp 2 0), (7, s0 3 lh3_1.length), (8, .int .u32 x8_5), (12, pp 4 0), (13, ii x13_4), (14, ii x14_5), (118, .bool (decide (x14_5 ≤ xh4_3_4)))] ?_
  refine dQ ?_
  show XQ _ _ _ _ _ _ _ _
  cases b1 : (decide (x14_5 ≤ xh4_3_4) : Bool) with
  | true =>
   have h := cT b1 h
   refine iT (.tmp 118) ?_
   refine kQ ?_
   show XQ _ _ _ _ _ _ _ _
   refine sQ ?_
   refine XQ.block (id := 10) (by kernel_rfl) ?_
   refine rQ ?_
   refine rS 9 [(4, pp 2 0), (7, s0 3 lh3_1.length), (12, pp 4 0), (13, ii x13_4), (14, ii x14_5), (121, .int .u32 x8_5), (129, ii (w64 ((w64 (x13_4 * xh2_1_1)) + x14_5)))] ?_
   cases b2 : (decide (0 ≤ w64 ((w64 (x13_4 * xh2_1_1)) + x14_5)) : Bool) with
   | false => cases (cF b2 h)
   | true =>
    have h := cT b2 h
    have e3 : insV (headI ((gsOf E0 137 (opsOf (lft (lft (rgt f15_L5))))).drop 9) (trS 137 [(4, pp 2 0), (7, s0 3 lh3_1.length), (12, pp 4 0), (13, ii x13_4), (14, ii x14_5), (121, .int .u32 x8_5), (129, ii (w64 ((w64 (x13_4 * xh2_1_1)) + x14_5)))])) (trS 137 [(4, pp 2 0), (7, s0 3 lh3_1.length), (12, pp 4 0), (13, ii x13_4), (14, ii x14_5), (121, .int .u32 x8_5), (129, ii (w64 ((w64 (x13_4 * xh2_1_1)) + x14_5)))]) [(4, .cells [ii xh4_0_4, ii xh4_1_4, ii xh4_2_4, ii xh4_3_4] 0 43 0), (3, rc encR lh3_1 0 43 4), (2, .cells ([ii xh2_0_1, ii xh2_1_1, ii xh2_2_1] ++ rowC (encI .u32) lh2_1) 0 72 0), (1, rc (encI .i64) a_Frozen z1 y1 1), (0, rc (encI .i64) a_Sick z0 y0 1)] = (match (decide (0 ≤ w64 ((w64 (x13_4 * xh2_1_1)) + x14_5)) : Bool) with | true => some (.int .u32 (shV true .u32 1 (w64 ((w64 (x13_4 * xh2_1_1)) + x14_5)))) | false => none) := by kernel_rfl
    refine XR.rd E0_ok [4, 7, 12, 13, 14, 121, 130] rfl (e3.trans (by rw [b2])) (σ' := [(4, pp 2 0), (7, s0 3 lh3_1.length), (12, pp 4 0), (13, ii x13_4), (14, ii x14_5), (121, .int .u32 x8_5), (130, .int .u32 (shV true .u32 1 (w64 ((w64 (x13_4 * xh2_1_1)) + x14_5))))]) (by kernel_rfl) ?_
    refine rS 2 [(4, pp 2 0), (7, s0 3 lh3_1.length), (8, .int .u32 (andNotV .u32 x8_5 (shV true .u32 1 (w64 ((w64 (x13_4 * xh2_1_1)) + x14_5))))), (12, pp 4 0), (13, ii x13_4), (14, ii x14_5)] ?_
    refine dQ ?_
    show XQ _ _ _ _ _ _ _ _
    refine rQ ?_
    refine rS 3 [(4, pp 2 0), (7, s0 3 lh3_1.length), (8, .int .u32 (andNotV .u32 x8_5 (shV true .u32 1 (w64 ((w64 (x13_4 * xh2_1_1)) + x14_5))))), (12, pp 4 0), (13, ii x13_4), (14, ii (w64 (x14_5 + 1)))] ?_
    refine dQ ?_
    show XL _ _ _ _ _ _ _ _ _
    refine XL.ren (σ' := [(4, pp 2 0), (7, s0 3 lh3_1.length), (8, .int .u32 (andNotV .u32 x8_5 (shV true .u32 1 (w64 ((w64 (x13_4 * xh2_1_1)) + x14_5))))), (12, pp 4 0), (13, ii x13_4), (14, ii (w64 (x14_5 + 1)))]) (h' := [(4, .cells [ii xh4_0_4, ii xh4_1_4, ii xh4_2_4, ii xh4_3_4] 0 43 0), (3, rc encR lh3_1 0 43 4), (2, .cells ([ii xh2_0_1, ii xh2_1_1, ii xh2_2_1] ++ rowC (encI .u32) lh2_1) 0 72 0), (1, rc (encI .i64) a_Frozen z1 y1 1), (0, rc (encI .i64) a_Sick z0 y0 1)]) (c' := 5) [0, 1, 2, 3, 4] (by decide) rfl ⟨rfl, rfl, rfl, rfl, rfl, rfl, trivial⟩ ⟨⟨_, _, rfl, rfl, .inr ⟨_, _, _, _, rfl, rfl⟩⟩, ⟨_, _, rfl, rfl, .inl ⟨rfl, rowC_scal encR_ok _⟩⟩, ⟨_, _, rfl, rfl, .inl ⟨rfl, preC_scal rfl (rowC_scal (encI_ok .u32) _)⟩⟩, ⟨_, _, rfl, rfl, .inl ⟨rfl, rwI⟩⟩, ⟨_, _, rfl, rfl, .inl ⟨rfl, rwI⟩⟩, trivial⟩ rfl ?_
    refine XL.conv (f15_5_ok m fuel z0 y0 z1 y1 a_Sick a_Frozen xh2_0_1 xh2_1_1 xh2_2_1 lh2_1 lh3_1 x13_4 xh4_0_4 xh4_1_4 xh4_2_4 xh4_3_4 (andNotV .u32 x8_5 (shV true .u32 1 (w64 ((w64 (x13_4 * xh2_1_1)) + x14_5)))) (w64 (x14_5 + 1)) o h Q hQ) (by first | with_reducible rfl | simp | rfl)
  | false =>
   have h := cF b1 h
   refine iF (.tmp 118) ?_
   refine XQ.ren (σ' := [(4, pp 2 0), (7, s0 3 lh3_1.length), (8, .int .u32 x8_5), (12, pp 4 0), (13, ii x13_4)]) (h' := [(4, .cells [ii xh4_0_4, ii xh4_1_4, ii xh4_2_4, ii xh4_3_4] 0 43 0), (3, rc encR lh3_1 0 43 4), (2, .cells ([ii xh2_0_1, ii xh2_1_1, ii xh2_2_1] ++ rowC (encI .u32) lh2_1) 0 72 0), (1, rc (encI .i64) a_Frozen z1 y1 1), (0, rc (encI .i64) a_Sick z0 y0 1)]) (c' := 5) [0, 1, 2, 3, 4] (by decide) rfl ⟨rfl, rfl, rfl, rfl, rfl, trivial⟩ ⟨⟨_, _, rfl, rfl, .inr ⟨_, _, _, _, rfl, rfl⟩⟩, ⟨_, _, rfl, rfl, .inl ⟨rfl, rowC_scal encR_ok _⟩⟩, ⟨_, _, rfl, rfl, .inl ⟨rfl, preC_scal rfl (rowC_scal (encI_ok .u32) _)⟩⟩, ⟨_, _, rfl, rfl, .inl ⟨rfl, rwI⟩⟩, ⟨_, _, rfl, rfl, .inl ⟨rfl, rwI⟩⟩, trivial⟩ rfl ?_
   refine XQ.exit (i := 9) (by kernel_rfl) ?_
   cases h
   exact hQ
def f15_4 (m : Nat) : Nat → List Int → List Int → Int → Int → Int → List Int → List (Int × Int × Int × Int) → Int → Int → Int → Int → Int → Int → Option (Int × Int × Int × Int × Int)
 | 0, _, _, _, _, _, _, _, _, _, _, _, _, _ => none
 | fuel + 1, a_Sick, a_Frozen, xh2_0_1, xh2_1_1, xh2_2_1, lh2_1, lh3_1, x8_4, x13_4, xh4_0_4, xh4_1_4, xh4_2_4, xh4_3_4 =>
  cond (decide (x13_4 ≤ xh4_2_4)) (
   (f15_5 m m a_Sick a_Frozen xh2_0_1 xh2_1_1 xh2_2_1 lh2_1 lh3_1 x13_4 xh4_0_4 xh4_1_4 xh4_2_4 xh4_3_4 x8_4 xh4_1_4).bind fun o5 =>
    f15_4 m fuel a_Sick a_Frozen xh2_0_1 xh2_1_1 xh2_2_1 lh2_1 lh3_1 o5 (w64 (x13_4 + 1)) xh4_0_4 xh4_1_4 xh4_2_4 xh4_3_4
  ) (
   some (x8_4, xh4_0_4, xh4_1_4, xh4_2_4, xh4_3_4)
  )
theorem f15_4_ok (m : Nat) : ∀ (fuel : Nat) (z0 : Nat) (y0 : Nat) (z1 : Nat) (y1 : Nat) (a_Sick : List Int) (a_Frozen : List Int) (xh2_0_1 : Int) (xh2_1_1 : Int) (xh2_2_1 : Int) (lh2_1 : List Int) (lh3_1 : List (Int × Int × Int × Int)) (x8_4 : Int) (x13_4 : Int) (xh4_0_4 : Int) (xh4_1_4 : Int) (xh4_2_4 : Int) (xh4_3_4 : Int) (o : (Int × Int × Int × Int × Int)), f15_4 m fuel a_Sick a_Frozen xh2_0_1 xh2_1_1 xh2_2_1 lh2_1 lh3_1 x8_4 x13_4 xh4_0_4 xh4_1_4 xh4_2_4 xh4_3_4 = some o → ∀ Q : QP, Q (.exit 7) [(4, pp 2 0), (7, s0 3 lh3_1.length), (8, .int .u32 o.1), (12, pp 4 0)] [(4, .cells [ii o.2.1, ii o.2.2.1, ii o.2.2.2.1, ii o.2.2.2.2] 0 43 0), (3, rc encR lh3_1 0 43 4), (2, .cells ([ii xh2_0_1, ii xh2_1_1, ii xh2_2_1] ++ rowC (encI .u32) lh2_1) 0 72 0), (1, rc (encI .i64) a_Frozen z1 y1 1), (0, rc (encI .i64) a_Sick z0 y0 1)] 5 → XL E0 137 2 fuel f15_L4 [(4, pp 2 0), (7, s0 3 lh3_1.length), (8, .int .u32 x8_4), (12, pp 4 0), (13, ii x13_4)] [(4, .cells [ii xh4_0_4, ii xh4_1_4, ii xh4_2_4, ii xh4_3_4] 0 43 0), (3, rc encR lh3_1 0 43 4), (2, .cells ([ii xh2_0_1, ii xh2_1_1, ii xh2_2_1] ++ rowC (encI .u32) lh2_1) 0 72 0), (1, rc (encI .i64) a_Frozen z1 y1 1), (0, rc (encI .i64) a_Sick z0 y0 1)] 5 Q
 | 0, z0, y0, z1, y1, a_Sick, a_Frozen, xh2_0_1, xh2_1_1, xh2_2_1, lh2_1, lh3_1, x8_4, x13_4, xh4_0_4, xh4_1_4, xh4_2_4, xh4_3_4, o, h, Q, hQ => by cases h
 | fuel + 1, z0, y0, z1, y1, a_Sick, a_Frozen, xh2_0_1, xh2_1_1, xh2_2_1, lh2_1, lh3_1, x8_4, x13_4, xh4_0_4, xh4_1_4, xh4_2_4, xh4_3_4, o, h, Q, hQ => by
  unfold f15_4 at h
  refine XL.succ E0_ok ?_
  refine sQ ?_
  refine qQ ?_
  refine rS 4 [(4, pp 2 0), (7, s0 3 lh3_1.length), (8, .int .u32 x8_4), (12, pp 4 0), (13, ii x13_4), (110, .bool (decide (x13_4 ≤ xh4_2_4)))] ?_
  refine dQ ?_
  show XQ _ _ _ _ _ _ _ _
  cases b1 : (decide (x13_4 ≤ xh4_2_4) : Bool) with
  | true =>
   have h := cT b1 h
   refine iT (.tmp 110) ?_
   refine kQ ?_
   show XQ _ _ _ _ _ _ _ _
   refine sQ ?_
   refine XQ.block (id := 8) (by kernel_rfl) ?_
   refine qQ ?_
   refine rS 3 [(4, pp 2 0), (7, s0 3 lh3_1.length), (8, .int .u32 x8_4), (12, pp 4 0), (13, ii x13_4), (14, ii xh4_1_4)] ?_
   refine dQ ?_
   show XQ _ _ _ _ _ _ _ _
   refine XQ.block (id := 9) (by kernel_rfl) ?_
   refine XQ.loop m (by kernel_rfl) ?_
   obtain ⟨o5, o5_h, h⟩ := bS h
   refine XL.ren (σ' := [(4, pp 2 0), (7, s0 3 lh3_1.length), (8, .int .u32 x8_4), (12, pp 4 0), (13, ii x13_4), (14, ii xh4_1_4)]) (h' := [(4, .cells [ii xh4_0_4, ii xh4_1_4, ii xh4_2_4, ii xh4_3_4] 0 43 0), (3, rc encR lh3_1 0 43 4), (2, .cells ([ii xh2_0_1, ii xh2_1_1, ii xh2_2_1] ++ rowC (encI .u32) lh2_1) 0 72 0), (1, rc (encI .i64) a_Frozen z1 y1 1), (0, rc (encI .i64) a_Sick z0 y0 1)]) (c' := 5) [0, 1, 2, 3, 4] (by decide) rfl ⟨rfl, rfl, rfl, rfl, rfl, rfl, trivial⟩ ⟨⟨_, _, rfl, rfl, .inr ⟨_, _, _, _, rfl, rfl⟩⟩, ⟨_, _, rfl, rfl, .inl ⟨rfl, rowC_scal encR_ok _⟩⟩, ⟨_, _, rfl, rfl, .inl ⟨rfl, preC_scal rfl (rowC_scal (encI_ok .u32) _)⟩⟩, ⟨_, _, rfl, rfl, .inl ⟨rfl, rwI⟩⟩, ⟨_, _, rfl, rfl, .inl ⟨rfl, rwI⟩⟩, trivial⟩ rfl ?_
   refine XL.conv (f15_5_ok m m z0 y0 z1 y1 a_Sick a_Frozen xh2_0_1 xh2_1_1 xh2_2_1 lh2_1 lh3_1 x13_4 xh4_0_4 xh4_1_4 xh4_2_4 xh4_3_4 x8_4 xh4_1_4 o5 o5_h _ ?_) (by first | with_reducible rfl | simp | rfl)
   show XQ _ _ _ _ _ _ _ _
   refine rQ ?_
   refine rS 3 [(4, pp 2 0), (7, s0 3 lh3_1.length), (8, .int .u32 o5), (12, pp 4 0), (13, ii (w64 (x13_4 + 1)))] ?_
   refine dQ ?_
   show XL _ _ _ _ _ _ _ _ _
   refine XL.ren (σ' := [(4, pp 2 0), (7, s0 3 lh3_1.length), (8, .int .u32 o5), (12, pp 4 0), (13, ii (w64 (x13_4 + 1)))]) (h' := [(4, .cells [ii xh4_0_4, ii xh4_1_4, ii xh4_2_4, ii xh4_3_4] 0 43 0), (3, rc encR lh3_1 0 43 4), (2, .cells ([ii xh2_0_1, ii xh2_1_1, ii xh2_2_1] ++ rowC (encI .u32) lh2_1) 0 72 0), (1, rc (encI .i64) a_Frozen z1 y1 1), (0, rc (encI .i64) a_Sick z0 y0 1)]) (c' := 5) [0, 1, 2, 3, 4] (by decide) rfl ⟨rfl, rfl, rfl, rfl, rfl, trivial⟩ ⟨⟨_, _, rfl, rfl, .inr ⟨_, _, _, _, rfl, rfl⟩⟩, ⟨_, _, rfl, rfl, .inl ⟨rfl, rowC_scal encR_ok _⟩⟩, ⟨_, _, rfl, rfl, .inl ⟨rfl, preC_scal rfl (rowC_scal (encI_ok .u32) _)⟩⟩, ⟨_, _, rfl, rfl, .inl ⟨rfl, rwI⟩⟩, ⟨_, _, rfl, rfl, .inl ⟨rfl, rwI⟩⟩, trivial⟩ rfl ?_
   refine XL.conv (f15_4_ok m fuel z0 y0 z1 y1 a_Sick a_Frozen xh2_0_1 xh2_1_1 xh2_2_1 lh2_1 lh3_1 o5 (w64 (x13_4 + 1)) xh4_0_4 xh4_1_4 xh4_2_4 xh4_3_4 o h Q hQ) (by first | with_reducible rfl | simp | rfl)
  | false =>
   have h := cF b1 h
   refine iF (.tmp 110) ?_
   refine XQ.ren (σ' := [(4, pp 2 0), (7, s0 3 lh3_1.length), (8, .int .u32 x8_4), (12, pp 4 0)]) (h' := [(4, .cells [ii xh4_0_4, ii xh4_1_4, ii xh4_2_4, ii xh4_3_4] 0 43 0), (3, rc encR lh3_1 0 43 4), (2, .cells ([ii xh2_0_1, ii xh2_1_1, ii xh2_2_1] ++ rowC (encI .u32) lh2_1) 0 72 0), (1, rc (encI .i64) a_Frozen z1 y1 1), (0, rc (encI .i64) a_Sick z0 y0 1)]) (c' := 5) [0, 1, 2, 3, 4] (by decide) rfl ⟨rfl, rfl, rfl, rfl, trivial⟩ ⟨⟨_, _, rfl, rfl, .inr ⟨_, _, _, _, rfl, rfl⟩⟩, ⟨_, _, rfl, rfl, .inl ⟨rfl, rowC_scal encR_ok _⟩⟩, ⟨_, _, rfl, rfl, .inl ⟨rfl, preC_scal rfl (rowC_scal (encI_ok .u32) _)⟩⟩, ⟨_, _, rfl, rfl, .inl ⟨rfl, rwI⟩⟩, ⟨_, _, rfl, rfl, .inl ⟨rfl, rwI⟩⟩, trivial⟩ rfl ?_
   refine XQ.exit (i := 7) (by kernel_rfl) ?_
   cases h
   exact hQ
def f15_1 (m : Nat) : Nat → List Int → List Int → Int → Int → Int → Int → List Int → List (Int × Int × Int × Int) → Option (List (Int × Int × Int × Int))
 | 0, _, _, _, _, _, _, _, _ => none
 | fuel + 1, a_Sick, a_Frozen, x8_1, xh2_0_1, xh2_1_1, xh2_2_1, lh2_1, lh3_1 =>
  cond (x8_1 != 0) (
   cond (tzD x8_1) (
    cond (xh2_1_1 != 0) (
     (f15_2 m m a_Sick a_Frozen x8_1 xh2_0_1 xh2_1_1 xh2_2_1 lh2_1 lh3_1 (w64 (Int.tdiv (tzG x8_1) xh2_1_1)) (Int.tmod (tzG x8_1) xh2_1_1) (w64 (Int.tdiv (tzG x8_1) xh2_1_1)) (Int.tmod (tzG x8_1) xh2_1_1) (w64 (Int.tdiv (tzG x8_1) xh2_1_1)) (Int.tmod (tzG x8_1) xh2_1_1)).bind fun o2 =>
      (f15_3 m m a_Sick a_Frozen x8_1 xh2_0_1 xh2_1_1 xh2_2_1 lh2_1 lh3_1 o2.1 o2.2.1 o2.2.2.1 o2.2.2.2.1 o2.2.2.2.2).bind fun o3 =>
       (f15_4 m m a_Sick a_Frozen xh2_0_1 xh2_1_1 xh2_2_1 lh2_1 lh3_1 x8_1 o3.1 o3.1 o3.2.1 o3.2.2.1 o3.2.2.2).bind fun o4 =>
        cond (fitsB (lh3_1.length + 1) 32) (
         f15_1 m fuel a_Sick a_Frozen o4.1 xh2_0_1 xh2_1_1 xh2_2_1 lh2_1 (lh3_1 ++ [(o4.2.1, o4.2.2.1, o4.2.2.2.1, o4.2.2.2.2)])
        ) none
    ) none
   ) none
  ) (
   some (lh3_1)
  )
abbrev qhb20 (lh3_1 : List (Int × Int × Int × Int)) (x8_1 : Int) (t : St) : St := (4, pp 2 0) :: (7, s0 3 lh3_1.length) :: (8, .int .u32 x8_1) :: t
abbrev qhb21 (a_Frozen : List Int) (a_Sick : List Int) (y0 : Nat) (y1 : Nat) (z0 : Nat) (z1 : Nat) (t : Heap) : Heap := (1, rc (encI .i64) a_Frozen z1 y1 1) :: (0, rc (encI .i64) a_Sick z0 y0 1) :: t
theorem f15_1_ok (m : Nat) : ∀ (fuel : Nat) (z0 : Nat) (y0 : Nat) (z1 : Nat) (y1 : Nat) (a_Sick : List Int) (a_Frozen : List Int) (x8_1 : Int) (xh2_0_1 : Int) (xh2_1_1 : Int) (xh2_2_1 : Int) (lh2_1 : List Int) (lh3_1 : List (Int × Int × Int × Int)) (o : (List (Int × Int × Int × Int))), f15_1 m fuel a_Sick a_Frozen x8_1 xh2_0_1 xh2_1_1 xh2_2_1 lh2_1 lh3_1 = some o → ∀ Q : QP, Q (.exit 1) [(7, s0 2 o.length)] ((2, rc encR o 0 43 4) :: qhb21 a_Frozen a_Sick y0 y1 z0 z1 []) 3 → XL E0 137 2 fuel f15_L1 (qhb20 lh3_1 x8_1 []) ((3, rc encR lh3_1 0 43 4) :: (2, .cells ([ii xh2_0_1, ii xh2_1_1, ii xh2_2_1] ++ rowC (encI .u32) lh2_1) 0 72 0) :: qhb21 a_Frozen a_Sick y0 y1 z0 z1 []) 4 Q
 | 0, z0, y0, z1, y1, a_Sick, a_Frozen, x8_1, xh2_0_1, xh2_1_1, xh2_2_1, lh2_1, lh3_1, o, h, Q, hQ => by cases h
 | fuel + 1, z0, y0, z1, y1, a_Sick, a_Frozen, x8_1, xh2_0_1, xh2_1_1, xh2_2_1, lh2_1, lh3_1, o, h, Q, hQ => by
  unfold f15_1 at h
  refine XL.succ E0_ok ?_
  refine sQ ?_
  refine qQ ?_
  refine rS 2 (qhb20 lh3_1 x8_1 [(33, .bool (x8_1 != 0))]) ?_
  refine dQ ?_
  show XQ _ _ _ _ _ _ _ _
  cases b1 : (x8_1 != 0 : Bool) with
  | true =>
   have h := cT b1 h
   refine iT (.tmp 33) ?_
   refine kQ ?_
   show XQ _ _ _ _ _ _ _ _
   refine XQ.block (id := 2) (by kernel_rfl) ?_
   refine qQ ?_
   refine rS 1 (qhb20 lh3_1 x8_1 [(34, .int .u32 x8_1)]) ?_
   cases b2 : (tzD x8_1 : Bool) with
   | false => cases (cF b2 h)
   | true =>
    have h := cT b2 h
    refine XR.call E0_ok [4, 7, 8, 35] rfl (K := 39) (args := [.int .u32 x8_1]) (d := (some (path 12 35))) (by kernel_rfl) (KC.of_calls E0_ok (F := Proofs.Tryz.f39) (v := ii (tzG x8_1)) (by kernel_rfl) rfl rfl (tzG_ok b2)) ?_
    rintro _ _ _ ⟨rfl, rfl, rfl⟩
    refine XR.conv (σ' := (qhb20 lh3_1 x8_1 [(35, ii (tzG x8_1))])) (h' := ((3, rc encR lh3_1 0 43 4) :: (2, .cells ([ii xh2_0_1, ii xh2_1_1, ii xh2_2_1] ++ rowC (encI .u32) lh2_1) 0 72 0) :: qhb21 a_Frozen a_Sick y0 y1 z0 z1 [])) (c' := 4) ?_ (by kernel_rfl)
    refine rS 1 (qhb20 lh3_1 x8_1 [(9, ii (tzG x8_1))]) ?_
    refine dQ ?_
    show XQ _ _ _ _ _ _ _ _
    refine sQ ?_
    refine XQ.quiet E0_ok (by kernel_rfl) (by kernel_rfl) ?_
    refine XU.run E0_ok 1 5 [4, 7, 8, 9, 36, 40] rfl (σ' := (qhb20 lh3_1 x8_1 [(9, ii (tzG x8_1)), (36, ii (tzG x8_1)), (40, ii xh2_1_1)])) (by kernel_rfl) ?_
    cases b3 : (xh2_1_1 != 0 : Bool) with
    | false => cases (cF b3 h)
    | true =>
     have h := cT b3 h
     have e4 : insV (headI ((gsOf E0 137 (opsOf (lft (rgt (lft (rgt f15_L1)))))).drop 5) (trS 137 (qhb20 lh3_1 x8_1 [(9, ii (tzG x8_1)), (36, ii (tzG x8_1)), (40, ii xh2_1_1)]))) (trS 137 (qhb20 lh3_1 x8_1 [(9, ii (tzG x8_1)), (36, ii (tzG x8_1)), (40, ii xh2_1_1)])) ((3, rc encR lh3_1 0 43 4) :: (2, .cells ([ii xh2_0_1, ii xh2_1_1, ii xh2_2_1] ++ rowC (encI .u32) lh2_1) 0 72 0) :: qhb21 a_Frozen a_Sick y0 y1 z0 z1 []) = (match (xh2_1_1 != 0 : Bool) with | true => some (ii (w64 (Int.tdiv (tzG x8_1) xh2_1_1))) | false => none) := by kernel_rfl
     refine XU.rd E0_ok [4, 7, 8, 9, 41] rfl (e4.trans (by rw [b3])) (σ' := (qhb20 lh3_1 x8_1 [(9, ii (tzG x8_1)), (41, ii (w64 (Int.tdiv (tzG x8_1) xh2_1_1)))])) (by kernel_rfl) ?_
     refine XU.run E0_ok 1 5 [4, 7, 8, 41, 42, 46] rfl (σ' := (qhb20 lh3_1 x8_1 [(41, ii (w64 (Int.tdiv (tzG x8_1) xh2_1_1))), (42, ii (tzG x8_1)), (46, ii xh2_1_1)])) (by kernel_rfl) ?_
     have e5 : insV (headI ((gsOf E0 137 (opsOf (lft (rgt (lft (rgt f15_L1)))))).drop 11) (trS 137 (qhb20 lh3_1 x8_1 [(41, ii (w64 (Int.tdiv (tzG x8_1) xh2_1_1))), (42, ii (tzG x8_1)), (46, ii xh2_1_1)]))) (trS 137 (qhb20 lh3_1 x8_1 [(41, ii (w64 (Int.tdiv (tzG x8_1) xh2_1_1))), (42, ii (tzG x8_1)), (46, ii xh2_1_1)])) ((3, rc encR lh3_1 0 43 4) :: (2, .cells ([ii xh2_0_1, ii xh2_1_1, ii xh2_2_1] ++ rowC (encI .u32) lh2_1) 0 72 0) :: qhb21 a_Frozen a_Sick y0 y1 z0 z1 []) = (match (xh2_1_1 != 0 : Bool) with | true => some (ii (Int.tmod (tzG x8_1) xh2_1_1)) | false => none) := by kernel_rfl
     refine XU.rd E0_ok [4, 7, 8, 41, 47] rfl (e5.trans (by rw [b3])) (σ' := (qhb20 lh3_1 x8_1 [(41, ii (w64 (Int.tdiv (tzG x8_1) xh2_1_1))), (47, ii (Int.tmod (tzG x8_1) xh2_1_1))])) (by kernel_rfl) ?_
     refine XU.run E0_ok 1 2 [4, 7, 8, 10, 11] rfl (σ' := (qhb20 lh3_1 x8_1 [(10, ii (w64 (Int.tdiv (tzG x8_1) xh2_1_1))), (11, ii (Int.tmod (tzG x8_1) xh2_1_1))])) (by kernel_rfl) ?_
     refine XU.done (by kernel_rfl) ?_
     show XQ _ _ _ _ _ _ _ _
     refine qQ ?_
     refine rT 7 (qhb20 lh3_1 x8_1 [(10, ii (w64 (Int.tdiv (tzG x8_1) xh2_1_1))), (11, ii (Int.tmod (tzG x8_1) xh2_1_1)), (12, pp 4 0)]) ((4, .cells [ii (w64 (Int.tdiv (tzG x8_1) xh2_1_1)), ii (Int.tmod (tzG x8_1) xh2_1_1), ii (w64 (Int.tdiv (tzG x8_1) xh2_1_1)), ii (Int.tmod (tzG x8_1) xh2_1_1)] 0 43 0) :: (3, rc encR lh3_1 0 43 4) :: (2, .cells ([ii xh2_0_1, ii xh2_1_1, ii xh2_2_1] ++ rowC (encI .u32) lh2_1) 0 72 0) :: qhb21 a_Frozen a_Sick y0 y1 z0 z1 []) 5 ?_
     refine dQ ?_
     show XQ _ _ _ _ _ _ _ _
     refine sQ ?_
     refine XQ.block (id := 3) (by kernel_rfl) ?_
     refine XQ.loop m (by kernel_rfl) ?_
     obtain ⟨o2, o2_h, h⟩ := bS h
     refine XL.ren (σ' := (qhb20 lh3_1 x8_1 [(10, ii (w64 (Int.tdiv (tzG x8_1) xh2_1_1))), (11, ii (Int.tmod (tzG x8_1) xh2_1_1)), (12, pp 4 0)])) (h' := ((4, .cells [ii (w64 (Int.tdiv (tzG x8_1) xh2_1_1)), ii (Int.tmod (tzG x8_1) xh2_1_1), ii (w64 (Int.tdiv (tzG x8_1) xh2_1_1)), ii (Int.tmod (tzG x8_1) xh2_1_1)] 0 43 0) :: (3, rc encR lh3_1 0 43 4) :: (2, .cells ([ii xh2_0_1, ii xh2_1_1, ii xh2_2_1] ++ rowC (encI .u32) lh2_1) 0 72 0) :: qhb21 a_Frozen a_Sick y0 y1 z0 z1 [])) (c' := 5) [0, 1, 2, 3, 4] (by decide) rfl ⟨rfl, rfl, rfl, rfl, rfl, rfl, trivial⟩ ⟨⟨_, _, rfl, rfl, .inr ⟨_, _, _, _, rfl, rfl⟩⟩, ⟨_, _, rfl, rfl, .inl ⟨rfl, rowC_scal encR_ok _⟩⟩, ⟨_, _, rfl, rfl, .inl ⟨rfl, preC_scal rfl (rowC_scal (encI_ok .u32) _)⟩⟩, ⟨_, _, rfl, rfl, .inl ⟨rfl, rwI⟩⟩, ⟨_, _, rfl, rfl, .inl ⟨rfl, rwI⟩⟩, trivial⟩ rfl ?_
     refine XL.conv (f15_2_ok m m z0 y0 z1 y1 a_Sick a_Frozen x8_1 xh2_0_1 xh2_1_1 xh2_2_1 lh2_1 lh3_1 (w64 (Int.tdiv (tzG x8_1) xh2_1_1)) (Int.tmod (tzG x8_1) xh2_1_1) (w64 (Int.tdiv (tzG x8_1) xh2_1_1)) (Int.tmod (tzG x8_1) xh2_1_1) (w64 (Int.tdiv (tzG x8_1) xh2_1_1)) (Int.tmod (tzG x8_1) xh2_1_1) o2 o2_h _ ?_) (by first | with_reducible rfl | simp | rfl)
     show XQ _ _ _ _ _ _ _ _
     refine sQ ?_
     refine XQ.block (id := 5) (by kernel_rfl) ?_
     refine XQ.loop m (by kernel_rfl) ?_
     obtain ⟨o3, o3_h, h⟩ := bS h
     refine XL.ren (σ' := (qhb20 lh3_1 x8_1 [(10, ii o2.1), (12, pp 4 0)])) (h' := ((4, .cells [ii o2.2.1, ii o2.2.2.1, ii o2.2.2.2.1, ii o2.2.2.2.2] 0 43 0) :: (3, rc encR lh3_1 0 43 4) :: (2, .cells ([ii xh2_0_1, ii xh2_1_1, ii xh2_2_1] ++ rowC (encI .u32) lh2_1) 0 72 0) :: qhb21 a_Frozen a_Sick y0 y1 z0 z1 [])) (c' := 5) [0, 1, 2, 3, 4] (by decide) rfl ⟨rfl, rfl, rfl, rfl, rfl, trivial⟩ ⟨⟨_, _, rfl, rfl, .inr ⟨_, _, _, _, rfl, rfl⟩⟩, ⟨_, _, rfl, rfl, .inl ⟨rfl, rowC_scal encR_ok _⟩⟩, ⟨_, _, rfl, rfl, .inl ⟨rfl, preC_scal rfl (rowC_scal (encI_ok .u32) _)⟩⟩, ⟨_, _, rfl, rfl, .inl ⟨rfl, rwI⟩⟩, ⟨_, _, rfl, rfl, .inl ⟨rfl, rwI⟩⟩, trivial⟩ rfl ?_
     refine XL.conv (f15_3_ok m m z0 y0 z1 y1 a_Sick a_Frozen x8_1 xh2_0_1 xh2_1_1 xh2_2_1 lh2_1 lh3_1 o2.1 o2.2.1 o2.2.2.1 o2.2.2.2.1 o2.2.2.2.2 o3 o3_h _ ?_) (by first | with_reducible rfl | simp | rfl)
     show XQ _ _ _ _ _ _ _ _
     refine sQ ?_
     refine qQ ?_
     refine rS 3 (qhb20 lh3_1 x8_1 [(12, pp 4 0), (13, ii o3.1)]) ?_
     refine dQ ?_
     show XQ _ _ _ _ _ _ _ _
     refine XQ.block (id := 7) (by kernel_rfl) ?_
     refine XQ.loop m (by kernel_rfl) ?_
     obtain ⟨o4, o4_h, h⟩ := bS h
     refine XL.ren (σ' := (qhb20 lh3_1 x8_1 [(12, pp 4 0), (13, ii o3.1)])) (h' := ((4, .cells [ii o3.1, ii o3.2.1, ii o3.2.2.1, ii o3.2.2.2] 0 43 0) :: (3, rc encR lh3_1 0 43 4) :: (2, .cells ([ii xh2_0_1, ii xh2_1_1, ii xh2_2_1] ++ rowC (encI .u32) lh2_1) 0 72 0) :: qhb21 a_Frozen a_Sick y0 y1 z0 z1 [])) (c' := 5) [0, 1, 2, 3, 4] (by decide) rfl ⟨rfl, rfl, rfl, rfl, rfl, trivial⟩ ⟨⟨_, _, rfl, rfl, .inr ⟨_, _, _, _, rfl, rfl⟩⟩, ⟨_, _, rfl, rfl, .inl ⟨rfl, rowC_scal encR_ok _⟩⟩, ⟨_, _, rfl, rfl, .inl ⟨rfl, preC_scal rfl (rowC_scal (encI_ok .u32) _)⟩⟩, ⟨_, _, rfl, rfl, .inl ⟨rfl, rwI⟩⟩, ⟨_, _, rfl, rfl, .inl ⟨rfl, rwI⟩⟩, trivial⟩ rfl ?_
     refine XL.conv (f15_4_ok m m z0 y0 z1 y1 a_Sick a_Frozen xh2_0_1 xh2_1_1 xh2_2_1 lh2_1 lh3_1 x8_1 o3.1 o3.1 o3.2.1 o3.2.2.1 o3.2.2.2 o4 o4_h _ ?_) (by first | with_reducible rfl | simp | rfl)
     show XQ _ _ _ _ _ _ _ _
     refine rQ ?_
     refine rT 3 [(4, pp 2 0), (8, .int .u32 o4.1), (132, s0 3 lh3_1.length), (134, s0 5 1)] ((5, .cells [ii o4.2.1, ii o4.2.2.1, ii o4.2.2.2.1, ii o4.2.2.2.2] 0 43 4) :: (4, .cells [ii o4.2.1, ii o4.2.2.1, ii o4.2.2.2.1, ii o4.2.2.2.2] 0 43 0) :: (3, rc encR lh3_1 0 43 4) :: (2, .cells ([ii xh2_0_1, ii xh2_1_1, ii xh2_2_1] ++ rowC (encI .u32) lh2_1) 0 72 0) :: qhb21 a_Frozen a_Sick y0 y1 z0 z1 []) 6 ?_
     cases b9 : (fitsB (lh3_1.length + 1) 32 : Bool) with
     | false => cases (cF b9 h)
     | true =>
      have h := cT b9 h
      refine XR.ef E0_ok [4, 8, 135] rfl (e_append encR_ok (bytes := 32) (e := 43) (x := (src 137 (.tmp 132))) (y := (src 137 (.tmp 134))) (b := 3) (len := lh3_1.length) (cap := lh3_1.length) (xs := lh3_1) (m := 0) (ys := [(o4.2.1, o4.2.2.1, o4.2.2.2.1, o4.2.2.2.2)]) (d := (some (path 12 135))) (n' := (lh3_1 ++ [(o4.2.1, o4.2.2.1, o4.2.2.2.1, o4.2.2.2.2)]).length) (h' := ((6, rc encR (lh3_1 ++ [(o4.2.1, o4.2.2.1, o4.2.2.2.1, o4.2.2.2.2)]) 0 43 4) :: (5, .cells [ii o4.2.1, ii o4.2.2.1, ii o4.2.2.2.1, ii o4.2.2.2.2] 0 43 4) :: (4, .cells [ii o4.2.1, ii o4.2.2.1, ii o4.2.2.2.1, ii o4.2.2.2.2] 0 43 0) :: (2, .cells ([ii xh2_0_1, ii xh2_1_1, ii xh2_2_1] ++ rowC (encI .u32) lh2_1) 0 72 0) :: qhb21 a_Frozen a_Sick y0 y1 z0 z1 [])) (by kernel_rfl) (by kernel_rfl) (by kernel_rfl) (by kernel_rfl) rfl (by simp) (by simp) b9 (by simp) (by kernel_rfl)) (σ' := [(4, pp 2 0), (8, .int .u32 o4.1), (135, s0 6 ((lh3_1 ++ [(o4.2.1, o4.2.2.1, o4.2.2.2.1, o4.2.2.2.2)]).length))]) (by kernel_rfl) ?_
      refine rS 1 [(4, pp 2 0), (7, s0 6 ((lh3_1 ++ [(o4.2.1, o4.2.2.1, o4.2.2.2.1, o4.2.2.2.2)]).length)), (8, .int .u32 o4.1)] ?_
      refine dQ ?_
      show XL _ _ _ _ _ _ _ _ _
      refine XL.ren (σ' := [(4, pp 2 0), (7, s0 3 ((lh3_1 ++ [(o4.2.1, o4.2.2.1, o4.2.2.2.1, o4.2.2.2.2)]).length)), (8, .int .u32 o4.1)]) (h' := ((3, rc encR (lh3_1 ++ [(o4.2.1, o4.2.2.1, o4.2.2.2.1, o4.2.2.2.2)]) 0 43 4) :: (2, .cells ([ii xh2_0_1, ii xh2_1_1, ii xh2_2_1] ++ rowC (encI .u32) lh2_1) 0 72 0) :: qhb21 a_Frozen a_Sick y0 y1 z0 z1 [])) (c' := 4) [0, 1, 2, 6] (by decide) rfl ⟨rfl, rfl, rfl, trivial⟩ ⟨⟨_, _, rfl, rfl, .inl ⟨rfl, rowC_scal encR_ok _⟩⟩, ⟨_, _, rfl, rfl, .inl ⟨rfl, preC_scal rfl (rowC_scal (encI_ok .u32) _)⟩⟩, ⟨_, _, rfl, rfl, .inl ⟨rfl, rwI⟩⟩, ⟨_, _, rfl, rfl, .inl ⟨rfl, rwI⟩⟩, trivial⟩ rfl ?_
      refine XL.conv (f15_1_ok m fuel z0 y0 z1 y1 a_Sick a_Frozen o4.1 xh2_0_1 xh2_1_1 xh2_2_1 lh2_1 (lh3_1 ++ [(o4.2.1, o4.2.2.1, o4.2.2.2.1, o4.2.2.2.2)]) o h Q hQ) (by first | with_reducible rfl | simp | rfl)
  | false =>
   have h := cF b1 h
   refine iF (.tmp 33) ?_
   refine XQ.ren (σ' := [(7, s0 2 lh3_1.length)]) (h' := ((2, rc encR lh3_1 0 43 4) :: qhb21 a_Frozen a_Sick y0 y1 z0 z1 [])) (c' := 3) [0, 1, 3] (by decide) rfl ⟨rfl, trivial⟩ ⟨⟨_, _, rfl, rfl, .inl ⟨rfl, rowC_scal encR_ok _⟩⟩, ⟨_, _, rfl, rfl, .inl ⟨rfl, rwI⟩⟩, ⟨_, _, rfl, rfl, .inl ⟨rfl, rwI⟩⟩, trivial⟩ rfl ?_
   refine XQ.exit (i := 1) (by kernel_rfl) ?_
   cases h
   exact hQ
def f15 (m : Nat) (a_Rows : Int) (a_Columns : Int) (a_Sick : List Int) (a_Frozen : List Int) : Option ((List (Int × Int × Int × Int)) × Int) :=
 (f24 m a_Rows a_Columns a_Sick a_Frozen).bind fun r1 =>
  cond (r1.2.2.2.2.2.2 != 0) (
   some ([], r1.2.2.2.2.2.2)
  ) (
   cond (r1.2.2.2.2.2.1 != 0) (
    some ([], 13)
   ) (
    (f36 m r1.1 r1.2.1 r1.2.2.1 r1.2.2.2.1 r1.2.2.2.2.1 r1.2.2.2.2.2.1).bind fun r2 =>
     (f15_1 m m a_Sick a_Frozen r2 r1.1 r1.2.1 r1.2.2.1 r1.2.2.2.1 []).bind fun o1 =>
      some (o1, 0)
   )
  )
abbrev qhb22 (a_Columns : Int) (a_Frozen : List Int) (a_Rows : Int) (a_Sick : List Int) (y0 : Nat) (y1 : Nat) (z0 : Nat) (z1 : Nat) (t : Heap) : Heap := (2, .cells [ii a_Rows, ii a_Columns, s0 0 a_Sick.length, s0 1 a_Frozen.length] 0 29 0) :: (1, rc (encI .i64) a_Frozen z1 y1 1) :: (0, rc (encI .i64) a_Sick z0 y0 1) :: t
theorem f15_ok (m : Nat) (z0 : Nat) (y0 : Nat) (z1 : Nat) (y1 : Nat) (a_Rows : Int) (a_Columns : Int) (a_Sick : List Int) (a_Frozen : List Int) (o : (List (Int × Int × Int × Int)) × Int) (h : f15 m a_Rows a_Columns a_Sick a_Frozen = some o) : KC E0 15 [.agg #[ii a_Rows, ii a_Columns, s0 0 a_Sick.length, s0 1 a_Frozen.length]] [(1, rc (encI .i64) a_Frozen z1 y1 1), (0, rc (encI .i64) a_Sick z0 y0 1)] 2 (fun v h' c' => v = .tuple #[s0 2 o.1.length, ii o.2] ∧ h' = [(2, rc encR o.1 0 43 4)] ++ [(1, rc (encI .i64) a_Frozen z1 y1 1), (0, rc (encI .i64) a_Sick z0 y0 1)] ∧ c' = 3) := by
 refine KC.bodyN E0_ok (F := Proofs.Tryz.f15) (by kernel_rfl) (code := f15_C15) (by kernel_rfl) (nt := 137) (by kernel_rfl) (rs := [.tmp 2, .tmp 3]) (by kernel_rfl) (by kernel_rfl) (σ := [(0, .agg #[ii a_Rows, ii a_Columns, s0 0 a_Sick.length, s0 1 a_Frozen.length])]) (by kernel_rfl) ?_
 unfold f15 at h
 refine qQ ?_
 refine rT 3 [(1, pp 2 0)] (qhb22 a_Columns a_Frozen a_Rows a_Sick y0 y1 z0 z1 []) 3 ?_
 refine nQ id ?_
 refine rS 1 [(16, .agg #[ii a_Rows, ii a_Columns, s0 0 a_Sick.length, s0 1 a_Frozen.length])] ?_
 obtain ⟨r1, r1_h, h⟩ := bS h
 refine XR.call E0_ok [17] rfl (K := 24) (args := [.agg #[ii a_Rows, ii a_Columns, s0 0 a_Sick.length, s0 1 a_Frozen.length]]) (d := (some (path 12 17))) (by kernel_rfl) (KC.liftH (n0 := 2) (m := 1) (args0 := [.agg #[ii a_Rows, ii a_Columns, s0 0 a_Sick.length, s0 1 a_Frozen.length]]) (h0 := [(1, rc (encI .i64) a_Frozen (z1 + ((rowC (encI .i64) a_Frozen).length + 1)) y1 1), (0, rc (encI .i64) a_Sick (z0 + ((rowC (encI .i64) a_Sick).length + 1)) y0 1)]) (V := .tuple #[pp 2 0, .agg #[.int .u32 r1.2.2.2.2.1, .int .u32 r1.2.2.2.2.2.1], ii r1.2.2.2.2.2.2]) (V2 := .tuple #[pp 3 0, .agg #[.int .u32 r1.2.2.2.2.1, .int .u32 r1.2.2.2.2.2.1], ii r1.2.2.2.2.2.2]) (H := [(2, .cells ([ii r1.1, ii r1.2.1, ii r1.2.2.1] ++ rowC (encI .u32) r1.2.2.2.1) 0 72 0)]) (H2 := [(3, .cells ([ii r1.1, ii r1.2.1, ii r1.2.2.1] ++ rowC (encI .u32) r1.2.2.2.1) 0 72 0)]) [0, 1] [3, 4, 5, 2] (f24_ok m (z0 + ((rowC (encI .i64) a_Sick).length + 1)) y0 (z1 + ((rowC (encI .i64) a_Frozen).length + 1)) y1 a_Rows a_Columns a_Sick a_Frozen r1 r1_h) (by rfl) (by decide) rfl (by kernel_rfl) ⟨⟨_, _, rfl, rfl, .inl ⟨rfl, rwI⟩⟩, ⟨_, _, rfl, rfl, .inl ⟨rfl, rwI⟩⟩, trivial⟩ (by decide) (by decide) (by kernel_rfl) ⟨⟨_, _, rfl, rfl, .inl ⟨rfl, preC_scal rfl (rowC_scal (encI_ok .u32) _)⟩⟩, trivial⟩ (by rfl)) ?_
 rintro _ _ _ ⟨rfl, rfl, rfl⟩
 refine XR.conv (σ' := [(17, .tuple #[pp 3 0, .agg #[.int .u32 r1.2.2.2.2.1, .int .u32 r1.2.2.2.2.2.1], ii r1.2.2.2.2.2.2])]) (h' := ((3, .cells ([ii r1.1, ii r1.2.1, ii r1.2.2.1] ++ rowC (encI .u32) r1.2.2.2.1) 0 72 0) :: qhb22 a_Columns a_Frozen a_Rows a_Sick y0 y1 z0 z1 [])) (c' := 4) ?_ (by kernel_rfl)
 refine rT 8 [(4, pp 3 0), (5, pp 4 0), (6, ii r1.2.2.2.2.2.2)] ((4, .cells [.int .u32 r1.2.2.2.2.1, .int .u32 r1.2.2.2.2.2.1] 0 63 0) :: (3, .cells ([ii r1.1, ii r1.2.1, ii r1.2.2.1] ++ rowC (encI .u32) r1.2.2.2.1) 0 72 0) :: qhb22 a_Columns a_Frozen a_Rows a_Sick y0 y1 z0 z1 []) 5 ?_
 refine dQ ?_
 show XQ _ _ _ _ _ _ _ _
 refine sQ ?_
 refine XQ.block (id := 0) (by kernel_rfl) ?_
 refine qQ ?_
 refine rS 3 [(4, pp 3 0), (5, pp 4 0), (6, ii r1.2.2.2.2.2.2), (21, .bool (r1.2.2.2.2.2.2 != 0))] ?_
 refine dQ ?_
 show XQ _ _ _ _ _ _ _ _
 cases b1 : (r1.2.2.2.2.2.2 != 0 : Bool) with
 | true =>
  have h := cT b1 h
  refine iT (.tmp 21) ?_
  refine qQ ?_
  refine rS 3 [(2, .slice none 0 0), (3, ii r1.2.2.2.2.2.2)] ?_
  refine dQ ?_
  show XQ _ _ _ _ _ _ _ _
  refine XQ.ghost 43 4 rfl (σ' := [(2, s0 5 0), (3, ii r1.2.2.2.2.2.2)]) (h' := ((4, .cells [.int .u32 r1.2.2.2.2.1, .int .u32 r1.2.2.2.2.2.1] 0 63 0) :: (3, .cells ([ii r1.1, ii r1.2.1, ii r1.2.2.1] ++ rowC (encI .u32) r1.2.2.2.1) 0 72 0) :: qhb22 a_Columns a_Frozen a_Rows a_Sick y0 y1 z0 z1 [])) ⟨rfl, rfl, trivial⟩ ⟨⟨_, rfl, .inl rfl⟩, ⟨_, rfl, .inl rfl⟩, ⟨_, rfl, .inl rfl⟩, ⟨_, rfl, .inl rfl⟩, ⟨_, rfl, .inl rfl⟩, trivial⟩ ?_
  refine XQ.conv (σ' := [(2, s0 5 0), (3, ii r1.2.2.2.2.2.2)]) (h' := ((5, rc encR [] 0 43 4) :: (4, .cells [.int .u32 r1.2.2.2.2.1, .int .u32 r1.2.2.2.2.2.1] 0 63 0) :: (3, .cells ([ii r1.1, ii r1.2.1, ii r1.2.2.1] ++ rowC (encI .u32) r1.2.2.2.1) 0 72 0) :: qhb22 a_Columns a_Frozen a_Rows a_Sick y0 y1 z0 z1 [])) (c' := 6) ?_ (by kernel_rfl)
  refine XQ.ren (σ' := [(2, s0 2 0), (3, ii r1.2.2.2.2.2.2)]) (h' := [(2, rc encR [] 0 43 4), (1, rc (encI .i64) a_Frozen z1 y1 1), (0, rc (encI .i64) a_Sick z0 y0 1)]) (c' := 3) [0, 1, 5] (by decide) rfl ⟨rfl, rfl, trivial⟩ ⟨⟨_, _, rfl, rfl, .inl ⟨rfl, rowC_scal encR_ok _⟩⟩, ⟨_, _, rfl, rfl, .inl ⟨rfl, rwI⟩⟩, ⟨_, _, rfl, rfl, .inl ⟨rfl, rwI⟩⟩, trivial⟩ rfl ?_
  refine XQ.ret (by kernel_rfl) ?_
  have h := Option.some.inj h
  subst h
  exact ⟨fun i q => (by cases q), .tuple #[s0 2 0, ii r1.2.2.2.2.2.2], (by kernel_rfl), (by kernel_rfl), (by kernel_rfl), rfl⟩
 | false =>
  have h := cF b1 h
  refine iF (.tmp 21) ?_
  refine qQ ?_
  refine rS 4 [(4, pp 3 0), (5, pp 4 0), (25, .bool (r1.2.2.2.2.2.1 != 0))] ?_
  refine dQ ?_
  show XQ _ _ _ _ _ _ _ _
  cases b2 : (r1.2.2.2.2.2.1 != 0 : Bool) with
  | true =>
   have h := cT b2 h
   refine iT (.tmp 25) ?_
   refine qQ ?_
   refine rS 2 [(2, .slice none 0 0), (3, ii 13)] ?_
   refine dQ ?_
   show XQ _ _ _ _ _ _ _ _
   refine XQ.ghost 43 4 rfl (σ' := [(2, s0 5 0), (3, ii 13)]) (h' := ((4, .cells [.int .u32 r1.2.2.2.2.1, .int .u32 r1.2.2.2.2.2.1] 0 63 0) :: (3, .cells ([ii r1.1, ii r1.2.1, ii r1.2.2.1] ++ rowC (encI .u32) r1.2.2.2.1) 0 72 0) :: qhb22 a_Columns a_Frozen a_Rows a_Sick y0 y1 z0 z1 [])) ⟨rfl, rfl, trivial⟩ ⟨⟨_, rfl, .inl rfl⟩, ⟨_, rfl, .inl rfl⟩, ⟨_, rfl, .inl rfl⟩, ⟨_, rfl, .inl rfl⟩, ⟨_, rfl, .inl rfl⟩, trivial⟩ ?_
   refine XQ.conv (σ' := [(2, s0 5 0), (3, ii 13)]) (h' := ((5, rc encR [] 0 43 4) :: (4, .cells [.int .u32 r1.2.2.2.2.1, .int .u32 r1.2.2.2.2.2.1] 0 63 0) :: (3, .cells ([ii r1.1, ii r1.2.1, ii r1.2.2.1] ++ rowC (encI .u32) r1.2.2.2.1) 0 72 0) :: qhb22 a_Columns a_Frozen a_Rows a_Sick y0 y1 z0 z1 [])) (c' := 6) ?_ (by kernel_rfl)
   refine XQ.ren (σ' := [(2, s0 2 0), (3, ii 13)]) (h' := [(2, rc encR [] 0 43 4), (1, rc (encI .i64) a_Frozen z1 y1 1), (0, rc (encI .i64) a_Sick z0 y0 1)]) (c' := 3) [0, 1, 5] (by decide) rfl ⟨rfl, rfl, trivial⟩ ⟨⟨_, _, rfl, rfl, .inl ⟨rfl, rowC_scal encR_ok _⟩⟩, ⟨_, _, rfl, rfl, .inl ⟨rfl, rwI⟩⟩, ⟨_, _, rfl, rfl, .inl ⟨rfl, rwI⟩⟩, trivial⟩ rfl ?_
   refine XQ.ret (by kernel_rfl) ?_
   have h := Option.some.inj h
   subst h
   exact ⟨fun i q => (by cases q), .tuple #[s0 2 0, ii 13], (by kernel_rfl), (by kernel_rfl), (by kernel_rfl), rfl⟩
  | false =>
   have h := cF b2 h
   refine iF (.tmp 25) ?_
   refine kQ ?_
   show XQ _ _ _ _ _ _ _ _
   refine qQ ?_
   refine rS 1 [(4, pp 3 0), (5, pp 4 0), (7, .slice none 0 0)] ?_
   refine dQ ?_
   show XQ _ _ _ _ _ _ _ _
   refine XQ.ghost 43 4 rfl (σ' := [(4, pp 3 0), (5, pp 4 0), (7, s0 5 0)]) (h' := ((4, .cells [.int .u32 r1.2.2.2.2.1, .int .u32 r1.2.2.2.2.2.1] 0 63 0) :: (3, .cells ([ii r1.1, ii r1.2.1, ii r1.2.2.1] ++ rowC (encI .u32) r1.2.2.2.1) 0 72 0) :: qhb22 a_Columns a_Frozen a_Rows a_Sick y0 y1 z0 z1 [])) ⟨rfl, rfl, rfl, trivial⟩ ⟨⟨_, rfl, .inl rfl⟩, ⟨_, rfl, .inl rfl⟩, ⟨_, rfl, .inl rfl⟩, ⟨_, rfl, .inl rfl⟩, ⟨_, rfl, .inl rfl⟩, trivial⟩ ?_
   refine XQ.conv (σ' := [(4, pp 3 0), (5, pp 4 0), (7, s0 5 0)]) (h' := ((5, rc encR [] 0 43 4) :: (4, .cells [.int .u32 r1.2.2.2.2.1, .int .u32 r1.2.2.2.2.2.1] 0 63 0) :: (3, .cells ([ii r1.1, ii r1.2.1, ii r1.2.2.1] ++ rowC (encI .u32) r1.2.2.2.1) 0 72 0) :: qhb22 a_Columns a_Frozen a_Rows a_Sick y0 y1 z0 z1 [])) (c' := 6) ?_ (by kernel_rfl)
   refine sQ ?_
   refine qQ ?_
   refine rS 2 [(4, pp 3 0), (7, s0 5 0), (29, pp 3 0), (30, .agg #[.int .u32 r1.2.2.2.2.1, .int .u32 r1.2.2.2.2.2.1])] ?_
   obtain ⟨r2, r2_h, h⟩ := bS h
   refine XR.call E0_ok [4, 7, 31] rfl (K := 36) (args := [pp 3 0, .agg #[.int .u32 r1.2.2.2.2.1, .int .u32 r1.2.2.2.2.2.1]]) (d := (some (path 12 31))) (by kernel_rfl) (KQ.call (KC.quiet E0_ok (args0 := [pp 0 0, .agg #[.int .u32 r1.2.2.2.2.1, .int .u32 r1.2.2.2.2.2.1]]) (h0 := [(0, .cells ([ii r1.1, ii r1.2.1, ii r1.2.2.1] ++ rowC (encI .u32) r1.2.2.2.1) (0 + (([ii r1.1, ii r1.2.1, ii r1.2.2.1] ++ rowC (encI .u32) r1.2.2.2.1).length + 1)) 72 0)]) (n := 1) (V := .int .u32 r2) [3] (f36_ok m (0 + (([ii r1.1, ii r1.2.1, ii r1.2.2.1] ++ rowC (encI .u32) r1.2.2.2.1).length + 1)) r1.1 r1.2.1 r1.2.2.1 r1.2.2.2.1 r1.2.2.2.2.1 r1.2.2.2.2.2.1 r2 r2_h) rfl (by rfl) (by decide) rfl (by kernel_rfl) ⟨⟨_, _, rfl, rfl, .inl ⟨rfl, preC_scal rfl (rowC_scal (encI_ok .u32) _)⟩⟩, trivial⟩) rfl) ?_
   rintro _ _ _ ⟨rfl, rfl, rfl⟩
   refine XR.conv (σ' := [(4, pp 3 0), (7, s0 5 0), (31, .int .u32 r2)]) (h' := ((5, rc encR [] 0 43 4) :: (4, .cells [.int .u32 r1.2.2.2.2.1, .int .u32 r1.2.2.2.2.2.1] 0 63 0) :: (3, .cells ([ii r1.1, ii r1.2.1, ii r1.2.2.1] ++ rowC (encI .u32) r1.2.2.2.1) 0 72 0) :: qhb22 a_Columns a_Frozen a_Rows a_Sick y0 y1 z0 z1 [])) (c' := 6) ?_ (by kernel_rfl)
   refine rS 1 [(4, pp 3 0), (7, s0 5 0), (8, .int .u32 r2)] ?_
   refine dQ ?_
   show XQ _ _ _ _ _ _ _ _
   refine XQ.block (id := 1) (by kernel_rfl) ?_
   refine XQ.loop m (by kernel_rfl) ?_
   obtain ⟨o1, o1_h, h⟩ := bS h
   refine XL.ren (σ' := [(4, pp 2 0), (7, s0 3 0), (8, .int .u32 r2)]) (h' := [(3, rc encR [] 0 43 4), (2, .cells ([ii r1.1, ii r1.2.1, ii r1.2.2.1] ++ rowC (encI .u32) r1.2.2.2.1) 0 72 0), (1, rc (encI .i64) a_Frozen z1 y1 1), (0, rc (encI .i64) a_Sick z0 y0 1)]) (c' := 4) [0, 1, 3, 5] (by decide) rfl ⟨rfl, rfl, rfl, trivial⟩ ⟨⟨_, _, rfl, rfl, .inl ⟨rfl, rowC_scal encR_ok _⟩⟩, ⟨_, _, rfl, rfl, .inl ⟨rfl, preC_scal rfl (rowC_scal (encI_ok .u32) _)⟩⟩, ⟨_, _, rfl, rfl, .inl ⟨rfl, rwI⟩⟩, ⟨_, _, rfl, rfl, .inl ⟨rfl, rwI⟩⟩, trivial⟩ rfl ?_
   refine XL.conv (f15_1_ok m m z0 y0 z1 y1 a_Sick a_Frozen r2 r1.1 r1.2.1 r1.2.2.1 r1.2.2.2.1 [] o1 o1_h _ ?_) (by first | with_reducible rfl | simp | rfl)
   show XQ _ _ _ _ _ _ _ _
   refine qQ ?_
   refine rS 3 [(2, s0 2 o1.length), (3, ii 0)] ?_
   refine dQ ?_
   show XQ _ _ _ _ _ _ _ _
   refine XQ.ren (σ' := [(2, s0 2 o1.length), (3, ii 0)]) (h' := [(2, rc encR o1 0 43 4), (1, rc (encI .i64) a_Frozen z1 y1 1), (0, rc (encI .i64) a_Sick z0 y0 1)]) (c' := 3) [0, 1, 2] (by decide) rfl ⟨rfl, rfl, trivial⟩ ⟨⟨_, _, rfl, rfl, .inl ⟨rfl, rowC_scal encR_ok _⟩⟩, ⟨_, _, rfl, rfl, .inl ⟨rfl, rwI⟩⟩, ⟨_, _, rfl, rfl, .inl ⟨rfl, rwI⟩⟩, trivial⟩ rfl ?_
   refine XQ.ret (by kernel_rfl) ?_
   have h := Option.some.inj h
   subst h
   exact ⟨fun i q => (by cases q), .tuple #[s0 2 o1.length, ii 0], (by kernel_rfl), (by kernel_rfl), (by kernel_rfl), rfl⟩
end Go.Xm
