/- What these functions of the program compute, as functions in Lean, and the proofs that they do: vitolaref12.less, vitolaref12.size, vitolaref12.smaller, vitolaref12.with, vitolaref12.made. Conditions: the library's variables hold what their texts lay. -/
import Derived.Test.YtfimbmhannndaaaDoorDd
import Derived.Test.YtfimbmhannndaaaDoorNe
import Derived.Test.YtfimbmhannndaaaDoorNi
import Derived.Test.YtfimbmhannndaaaDoorUe
import Derived.Test.YtfimbmhannndaaaDoorZk
namespace Go.Xm
open Go.RowKit
set_option linter.unusedVariables false
set_option linter.unusedSimpArgs false
set_option maxRecDepth 20000
inductive Of98_1 where
 | r
 | x0 (lh1_x01 : List Int)
inductive Of100_1 where
 | r (b4_r1 : Bool)
 | x0
end Go.Xm
namespace Go.Xm
open Go.RowKit
set_option linter.unusedVariables false
set_option linter.unusedSimpArgs false
set_option maxRecDepth 20000
end Go.Xm
namespace Go.Xm
open Go.RowKit
set_option linter.unusedVariables false
set_option linter.unusedSimpArgs false
set_option maxRecDepth 20000
inductive Of25_1 where
 | r
 | x0
end Go.Xm
namespace Go.Xm
open Go.RowKit
set_option linter.unusedVariables false
set_option linter.unusedSimpArgs false
set_option maxRecDepth 20000
noncomputable def f74_C74 : Code := Proofs.Tryd.f74.body.getD .skip
noncomputable def f74_C76 : Code := Proofs.Tryd.f76.body.getD .skip
noncomputable def f74_C77 : Code := Proofs.Tryd.f77.body.getD .skip
noncomputable def f74_L1 : Code := lft (lft (rgt (lft (rgt (rgt (rgt f74_C74))))))
inductive Of74_1 where
 | r (x3_r1 : Int)
 | x1 (lh1_x11 : List Int)
def f74_1 (m : Nat) : Nat → Int → List (Int × Int) → Int → Int → List Int → Option Of74_1
 | 0, _, _, _, _, _ => none
 | fuel + 1, a_Sorters, a_Tables, x24_1, x25_1, lh2_1 =>
  cond (decide (x25_1 < x24_1)) (
   cond (inRow x25_1 a_Tables.length) (
    (f65 m ((List.getD a_Tables (Int.toNat x25_1) (0, 0)).1) 0 (w64 (a_Sorters - 1))).bind fun r6 =>
     cond (!r6) (
      some (.r 2)
     ) (
      (f65 m ((List.getD a_Tables (Int.toNat x25_1) (0, 0)).2) 0 (w64 (a_Sorters - 1))).bind fun r7 =>
       cond (!r7) (
        some (.r 2)
       ) (
        cond (((List.getD a_Tables (Int.toNat x25_1) (0, 0)).1) == ((List.getD a_Tables (Int.toNat x25_1) (0, 0)).2)) (
         some (.r 13)
        ) (
         cond (inRow ((List.getD a_Tables (Int.toNat x25_1) (0, 0)).1) lh2_1.length) (
          cond (decide (0 ≤ (List.getD a_Tables (Int.toNat x25_1) (0, 0)).2)) (
           cond ((andV .u64 (shV false .u64 (List.getD lh2_1 (Int.toNat ((List.getD a_Tables (Int.toNat x25_1) (0, 0)).1)) 0) ((List.getD a_Tables (Int.toNat x25_1) (0, 0)).2)) 1) == 1) (
            some (.r 6)
           ) (
            cond (inRow ((List.getD a_Tables (Int.toNat x25_1) (0, 0)).2) lh2_1.length) (
             cond (decide (0 ≤ (List.getD a_Tables (Int.toNat x25_1) (0, 0)).1)) (
              f74_1 m fuel a_Sorters a_Tables x24_1 (w64 (x25_1 + 1)) (List.set (List.set lh2_1 (Int.toNat ((List.getD a_Tables (Int.toNat x25_1) (0, 0)).1)) (xorV .u64 (List.getD lh2_1 (Int.toNat ((List.getD a_Tables (Int.toNat x25_1) (0, 0)).1)) 0) (shV true .u64 1 ((List.getD a_Tables (Int.toNat x25_1) (0, 0)).2)))) (Int.toNat ((List.getD a_Tables (Int.toNat x25_1) (0, 0)).2)) (xorV .u64 (List.getD (List.set lh2_1 (Int.toNat ((List.getD a_Tables (Int.toNat x25_1) (0, 0)).1)) (xorV .u64 (List.getD lh2_1 (Int.toNat ((List.getD a_Tables (Int.toNat x25_1) (0, 0)).1)) 0) (shV true .u64 1 ((List.getD a_Tables (Int.toNat x25_1) (0, 0)).2)))) (Int.toNat ((List.getD a_Tables (Int.toNat x25_1) (0, 0)).2)) 0) (shV true .u64 1 ((List.getD a_Tables (Int.toNat x25_1) (0, 0)).1))))
             ) none
            ) none
           )
          ) none
         ) none
        )
       )
     )
   ) none
  ) (
   some (.x1 lh2_1)
  )

abbrev qug1 (a_Sorters : Int) (a_Tables : List (Int × Int)) (lh2_1 : List Int) (x25_1 : Int) (t : Heap) : Heap := (3, .cells [ii ((List.getD a_Tables (Int.toNat x25_1) (0, 0)).1), ii ((List.getD a_Tables (Int.toNat x25_1) (0, 0)).2)] 0 55 0) :: (2, rc (encI .u64) lh2_1 0 117 1) :: (1, .cells [ii a_Sorters, s0 0 a_Tables.length] 0 34 0) :: t

abbrev qug2 (a_Tables : List (Int × Int)) (lh2_1 : List Int) (x24_1 : Int) (x25_1 : Int) (t : St) : St := (1, pp 1 0) :: (4, s0 2 lh2_1.length) :: (7, ii ((List.getD a_Tables (Int.toNat x25_1) (0, 0)).1)) :: (8, ii ((List.getD a_Tables (Int.toNat x25_1) (0, 0)).2)) :: (23, s0 0 a_Tables.length) :: (24, ii x24_1) :: (25, ii x25_1) :: t

abbrev qug3 (a_Tables : List (Int × Int)) (lh2_1 : List Int) (x25_1 : Int) (t : St) : St := (0, s0 2 lh2_1.length) :: (1, ii ((List.getD a_Tables (Int.toNat x25_1) (0, 0)).1)) :: (2, ii ((List.getD a_Tables (Int.toNat x25_1) (0, 0)).2)) :: t

abbrev qug4 (a_Tables : List (Int × Int)) (lh2_1 : List Int) (x25_1 : Int) (t : St) : St := (6, s0 2 lh2_1.length) :: (7, ii ((List.getD a_Tables (Int.toNat x25_1) (0, 0)).1)) :: (9, uu (List.getD lh2_1 (Int.toNat ((List.getD a_Tables (Int.toNat x25_1) (0, 0)).1)) 0)) :: t
theorem f74_1_ok (m : Nat) : ∀ (fuel : Nat) (z0 : Nat) (y0 : Nat) (a_Sorters : Int) (a_Tables : List (Int × Int)) (x24_1 : Int) (x25_1 : Int) (lh2_1 : List Int) (o : Of74_1), f74_1 m fuel a_Sorters a_Tables x24_1 x25_1 lh2_1 = some o → ∀ Q : QP, (match o with | .r x3_r1 => Q .ret [(2, s0 1 0), (3, ii x3_r1)] [(1, rc (encI .u64) [] 0 117 1), (0, rc encP a_Tables z0 y0 2)] 2 | .x1 lh1_x11 => Q (.exit 1) [(4, s0 1 lh1_x11.length)] [(1, rc (encI .u64) lh1_x11 0 117 1), (0, rc encP a_Tables z0 y0 2)] 2) → XL E0 63 1 fuel f74_L1 [(1, pp 1 0), (4, s0 2 lh2_1.length), (23, s0 0 a_Tables.length), (24, ii x24_1), (25, ii x25_1)] [(2, rc (encI .u64) lh2_1 0 117 1), (1, .cells [ii a_Sorters, s0 0 a_Tables.length] 0 34 0), (0, rc encP a_Tables z0 y0 2)] 3 Q
 | 0, z0, y0, a_Sorters, a_Tables, x24_1, x25_1, lh2_1, o, h, Q, hQ => by cases h
 | fuel + 1, z0, y0, a_Sorters, a_Tables, x24_1, x25_1, lh2_1, o, h, Q, hQ => by
  unfold f74_1 at h
  refine XL.succ E0_ok ?_
  refine qQ ?_
  refine rS 1 [(1, pp 1 0), (4, s0 2 lh2_1.length), (23, s0 0 a_Tables.length), (24, ii x24_1), (25, ii x25_1), (26, .bool (decide (x25_1 < x24_1)))] ?_
  refine dQ ?_
  show XQ _ _ _ _ _ _ _ _
  refine sQ ?_
  cases b1 : (decide (x25_1 < x24_1) : Bool) with
  | true =>
   have h := cT b1 h
   refine iT (.tmp 26) ?_
   refine kQ ?_
   show XQ _ _ _ _ _ _ _ _
   refine sQ ?_
   refine XQ.block (id := 2) (by kernel_rfl) ?_
   refine qQ ?_
   cases b2 : (inRow x25_1 a_Tables.length : Bool) with
   | false => cases (cF b2 h)
   | true =>
    have h := cT b2 h
    refine XR.rd E0_ok [1, 4, 23, 24, 25, 27] rfl (v := pp 0 ((Int.toNat x25_1) * 2)) (v_idx (s := 2) (x := (src 63 (.tmp 23))) (y := (src 63 (.tmp 25))) (b := 0) (o := 0) (len := a_Tables.length) (cap := a_Tables.length) (ik := .i64) (i := x25_1) (off := (Int.toNat x25_1) * 2) (d := (some (path 12 27))) (by kernel_rfl) (by kernel_rfl) (by kernel_rfl) b2 (by omega)) (σ' := [(1, pp 1 0), (4, s0 2 lh2_1.length), (23, s0 0 a_Tables.length), (24, ii x24_1), (25, ii x25_1), (27, pp 0 ((Int.toNat x25_1) * 2))]) (by kernel_rfl) ?_
    refine XR.rd E0_ok [1, 4, 23, 24, 25, 28] rfl (v := .agg #[ii ((List.getD a_Tables (Int.toNat x25_1) (0, 0)).1), ii ((List.getD a_Tables (Int.toNat x25_1) (0, 0)).2)]) (v_loadN encP_ok (x := (src 63 (.tmp 27))) (b := 0) (off := (Int.toNat x25_1) * 2) (xs := a_Tables) (fz := z0) (e := y0) (es := 2) (d := (some (path 12 28))) (by kernel_rfl) (by kernel_rfl) (by kernel_rfl) (Int.toNat x25_1) (0, 0) (by first | with_reducible rfl | omega | rfl) (row_len (inRow_toNat b2) (by simp)) rfl) (σ' := [(1, pp 1 0), (4, s0 2 lh2_1.length), (23, s0 0 a_Tables.length), (24, ii x24_1), (25, ii x25_1), (28, .agg #[ii ((List.getD a_Tables (Int.toNat x25_1) (0, 0)).1), ii ((List.getD a_Tables (Int.toNat x25_1) (0, 0)).2)])]) (by kernel_rfl) ?_
    refine rT 2 [(1, pp 1 0), (4, s0 2 lh2_1.length), (6, pp 3 0), (23, s0 0 a_Tables.length), (24, ii x24_1), (25, ii x25_1)] (qug1 a_Sorters a_Tables lh2_1 x25_1 [(0, rc encP a_Tables z0 y0 2)]) 4 ?_
    refine dQ ?_
    show XQ _ _ _ _ _ _ _ _
    refine sQ ?_
    refine XQ.quiet E0_ok (by kernel_rfl) (by kernel_rfl) ?_
    refine XU.run E0_ok 1 6 [1, 4, 7, 8, 23, 24, 25] rfl (σ' := (qug2 a_Tables lh2_1 x24_1 x25_1 [])) (by kernel_rfl) ?_
    refine XU.done (by kernel_rfl) ?_
    show XQ _ _ _ _ _ _ _ _
    refine sQ ?_
    refine XQ.block (id := 3) (by kernel_rfl) ?_
    refine qQ ?_
    refine rS 4 (qug2 a_Tables lh2_1 x24_1 x25_1 [(34, ii ((List.getD a_Tables (Int.toNat x25_1) (0, 0)).1)), (37, ii (w64 (a_Sorters - 1)))]) ?_
    obtain ⟨r6, r6_h, h⟩ := bS h
    refine XR.call E0_ok [1, 4, 7, 8, 23, 24, 25, 38] rfl (K := 65) (args := [ii ((List.getD a_Tables (Int.toNat x25_1) (0, 0)).1), ii 0, ii (w64 (a_Sorters - 1))]) (d := (some (path 12 38))) (by kernel_rfl) (KC.of_calls E0_ok (F := Proofs.Tryd.f65) (v := .bool r6) (by kernel_rfl) rfl rfl (fun w hI => f65_ok m ((List.getD a_Tables (Int.toNat x25_1) (0, 0)).1) 0 (w64 (a_Sorters - 1)) r6 r6_h w hI)) ?_
    rintro _ _ _ ⟨rfl, rfl, rfl⟩
    refine XR.conv (σ' := (qug2 a_Tables lh2_1 x24_1 x25_1 [(38, .bool r6)])) (h' := (qug1 a_Sorters a_Tables lh2_1 x25_1 [(0, rc encP a_Tables z0 y0 2)])) (c' := 4) ?_ (by kernel_rfl)
    refine rS 2 (qug2 a_Tables lh2_1 x24_1 x25_1 [(40, .bool (!r6))]) ?_
    cases b3 : (!r6 : Bool) with
    | true =>
     have h := cT b3 h
     refine rS 8 (qug2 a_Tables lh2_1 x24_1 x25_1 [(33, .bool true)]) ?_
     refine dQ ?_
     show XQ _ _ _ _ _ _ _ _
     refine iT (.tmp 33) ?_
     refine qQ ?_
     refine rS 2 [(2, .slice none 0 0), (3, ii 2)] ?_
     refine dQ ?_
     show XQ _ _ _ _ _ _ _ _
     refine XQ.ghost 117 1 rfl (σ' := [(2, s0 4 0), (3, ii 2)]) (h' := (qug1 a_Sorters a_Tables lh2_1 x25_1 [(0, rc encP a_Tables z0 y0 2)])) ⟨rfl, rfl, trivial⟩ ⟨⟨_, rfl, .inl rfl⟩, ⟨_, rfl, .inl rfl⟩, ⟨_, rfl, .inl rfl⟩, ⟨_, rfl, .inl rfl⟩, trivial⟩ ?_
     refine XQ.conv (σ' := [(2, s0 4 0), (3, ii 2)]) (h' := ((4, rc (encI .u64) [] 0 117 1) :: qug1 a_Sorters a_Tables lh2_1 x25_1 [(0, rc encP a_Tables z0 y0 2)])) (c' := 5) ?_ (by kernel_rfl)
     refine XQ.ren (σ' := [(2, s0 1 0), (3, ii 2)]) (h' := [(1, rc (encI .u64) [] 0 117 1), (0, rc encP a_Tables z0 y0 2)]) (c' := 2) [0, 4] (by decide) rfl ⟨rfl, rfl, trivial⟩ ⟨⟨_, _, rfl, rfl, .inl ⟨rfl, rowC_scal (encI_ok .u64) _⟩⟩, ⟨_, _, rfl, rfl, .inl ⟨rfl, rwP⟩⟩, trivial⟩ rfl ?_
     refine XQ.ret (by kernel_rfl) ?_
     cases h
     exact hQ
    | false =>
     have h := cF b3 h
     refine rS 4 (qug2 a_Tables lh2_1 x24_1 x25_1 [(40, .bool false), (41, ii ((List.getD a_Tables (Int.toNat x25_1) (0, 0)).2)), (44, ii (w64 (a_Sorters - 1)))]) ?_
     obtain ⟨r7, r7_h, h⟩ := bS h
     refine XR.call E0_ok [1, 4, 7, 8, 23, 24, 25, 40, 45] rfl (K := 65) (args := [ii ((List.getD a_Tables (Int.toNat x25_1) (0, 0)).2), ii 0, ii (w64 (a_Sorters - 1))]) (d := (some (path 12 45))) (by kernel_rfl) (KC.of_calls E0_ok (F := Proofs.Tryd.f65) (v := .bool r7) (by kernel_rfl) rfl rfl (fun w hI => f65_ok m ((List.getD a_Tables (Int.toNat x25_1) (0, 0)).2) 0 (w64 (a_Sorters - 1)) r7 r7_h w hI)) ?_
     rintro _ _ _ ⟨rfl, rfl, rfl⟩
     refine XR.conv (σ' := (qug2 a_Tables lh2_1 x24_1 x25_1 [(40, .bool false), (45, .bool r7)])) (h' := (qug1 a_Sorters a_Tables lh2_1 x25_1 [(0, rc encP a_Tables z0 y0 2)])) (c' := 4) ?_ (by kernel_rfl)
     refine rS 3 (qug2 a_Tables lh2_1 x24_1 x25_1 [(33, .bool (!r7))]) ?_
     refine dQ ?_
     show XQ _ _ _ _ _ _ _ _
     cases b4 : (!r7 : Bool) with
     | true =>
      have h := cT b4 h
      refine iT (.tmp 33) ?_
      refine qQ ?_
      refine rS 2 [(2, .slice none 0 0), (3, ii 2)] ?_
      refine dQ ?_
      show XQ _ _ _ _ _ _ _ _
      refine XQ.ghost 117 1 rfl (σ' := [(2, s0 4 0), (3, ii 2)]) (h' := (qug1 a_Sorters a_Tables lh2_1 x25_1 [(0, rc encP a_Tables z0 y0 2)])) ⟨rfl, rfl, trivial⟩ ⟨⟨_, rfl, .inl rfl⟩, ⟨_, rfl, .inl rfl⟩, ⟨_, rfl, .inl rfl⟩, ⟨_, rfl, .inl rfl⟩, trivial⟩ ?_
      refine XQ.conv (σ' := [(2, s0 4 0), (3, ii 2)]) (h' := ((4, rc (encI .u64) [] 0 117 1) :: qug1 a_Sorters a_Tables lh2_1 x25_1 [(0, rc encP a_Tables z0 y0 2)])) (c' := 5) ?_ (by kernel_rfl)
      refine XQ.ren (σ' := [(2, s0 1 0), (3, ii 2)]) (h' := [(1, rc (encI .u64) [] 0 117 1), (0, rc encP a_Tables z0 y0 2)]) (c' := 2) [0, 4] (by decide) rfl ⟨rfl, rfl, trivial⟩ ⟨⟨_, _, rfl, rfl, .inl ⟨rfl, rowC_scal (encI_ok .u64) _⟩⟩, ⟨_, _, rfl, rfl, .inl ⟨rfl, rwP⟩⟩, trivial⟩ rfl ?_
      refine XQ.ret (by kernel_rfl) ?_
      cases h
      exact hQ
     | false =>
      have h := cF b4 h
      refine iF (.tmp 33) ?_
      refine qQ ?_
      refine rS 4 (qug2 a_Tables lh2_1 x24_1 x25_1 [(48, .bool (((List.getD a_Tables (Int.toNat x25_1) (0, 0)).1) == ((List.getD a_Tables (Int.toNat x25_1) (0, 0)).2)))]) ?_
      refine dQ ?_
      show XQ _ _ _ _ _ _ _ _
      cases b5 : (((List.getD a_Tables (Int.toNat x25_1) (0, 0)).1) == ((List.getD a_Tables (Int.toNat x25_1) (0, 0)).2) : Bool) with
      | true =>
       have h := cT b5 h
       refine iT (.tmp 48) ?_
       refine qQ ?_
       refine rS 2 [(2, .slice none 0 0), (3, ii 13)] ?_
       refine dQ ?_
       show XQ _ _ _ _ _ _ _ _
       refine XQ.ghost 117 1 rfl (σ' := [(2, s0 4 0), (3, ii 13)]) (h' := (qug1 a_Sorters a_Tables lh2_1 x25_1 [(0, rc encP a_Tables z0 y0 2)])) ⟨rfl, rfl, trivial⟩ ⟨⟨_, rfl, .inl rfl⟩, ⟨_, rfl, .inl rfl⟩, ⟨_, rfl, .inl rfl⟩, ⟨_, rfl, .inl rfl⟩, trivial⟩ ?_
       refine XQ.conv (σ' := [(2, s0 4 0), (3, ii 13)]) (h' := ((4, rc (encI .u64) [] 0 117 1) :: qug1 a_Sorters a_Tables lh2_1 x25_1 [(0, rc encP a_Tables z0 y0 2)])) (c' := 5) ?_ (by kernel_rfl)
       refine XQ.ren (σ' := [(2, s0 1 0), (3, ii 13)]) (h' := [(1, rc (encI .u64) [] 0 117 1), (0, rc encP a_Tables z0 y0 2)]) (c' := 2) [0, 4] (by decide) rfl ⟨rfl, rfl, trivial⟩ ⟨⟨_, _, rfl, rfl, .inl ⟨rfl, rowC_scal (encI_ok .u64) _⟩⟩, ⟨_, _, rfl, rfl, .inl ⟨rfl, rwP⟩⟩, trivial⟩ rfl ?_
       refine XQ.ret (by kernel_rfl) ?_
       cases h
       exact hQ
      | false =>
       have h := cF b5 h
       refine iF (.tmp 48) ?_
       refine qQ ?_
       refine rS 3 (qug2 a_Tables lh2_1 x24_1 x25_1 [(53, s0 2 lh2_1.length), (54, ii ((List.getD a_Tables (Int.toNat x25_1) (0, 0)).1)), (55, ii ((List.getD a_Tables (Int.toNat x25_1) (0, 0)).2))]) ?_
       refine XR.callK E0_ok [1, 4, 7, 8, 23, 24, 25, 56] rfl (K := 76) (args := [s0 2 lh2_1.length, ii ((List.getD a_Tables (Int.toNat x25_1) (0, 0)).1), ii ((List.getD a_Tables (Int.toNat x25_1) (0, 0)).2)]) (d := (some (path 12 56))) (by kernel_rfl) ?_
       refine KC.bodyN E0_ok (F := Proofs.Tryd.f76) (by kernel_rfl) (code := f74_C76) (by kernel_rfl) (nt := 15) (by kernel_rfl) (rs := [.tmp 6]) (by kernel_rfl) (by kernel_rfl) (σ := (qug3 a_Tables lh2_1 x25_1 [])) (by kernel_rfl) ?_
       refine qQ ?_
       refine rS 1 (qug3 a_Tables lh2_1 x25_1 []) ?_
       refine nQ id ?_
       refine rS 2 [(2, ii ((List.getD a_Tables (Int.toNat x25_1) (0, 0)).2)), (7, s0 2 lh2_1.length), (8, ii ((List.getD a_Tables (Int.toNat x25_1) (0, 0)).1))] ?_
       cases b6 : (inRow ((List.getD a_Tables (Int.toNat x25_1) (0, 0)).1) lh2_1.length : Bool) with
       | false => cases (cF b6 h)
       | true =>
        have h := cT b6 h
        refine XR.rd E0_ok [2, 9] rfl (v := pp 2 ((Int.toNat ((List.getD a_Tables (Int.toNat x25_1) (0, 0)).1)) * 1)) (v_idx (s := 1) (x := (src 15 (.tmp 7))) (y := (src 15 (.tmp 8))) (b := 2) (o := 0) (len := lh2_1.length) (cap := lh2_1.length) (ik := .i64) (i := (List.getD a_Tables (Int.toNat x25_1) (0, 0)).1) (off := (Int.toNat ((List.getD a_Tables (Int.toNat x25_1) (0, 0)).1)) * 1) (d := (some (path 12 9))) (by kernel_rfl) (by kernel_rfl) (by kernel_rfl) b6 (by omega)) (σ' := [(2, ii ((List.getD a_Tables (Int.toNat x25_1) (0, 0)).2)), (9, pp 2 ((Int.toNat ((List.getD a_Tables (Int.toNat x25_1) (0, 0)).1)) * 1))]) (by kernel_rfl) ?_
        refine XR.rd E0_ok [2, 10] rfl (v := uu (List.getD lh2_1 (Int.toNat ((List.getD a_Tables (Int.toNat x25_1) (0, 0)).1)) 0)) (v_load1 (encI_ok .u64) (x := (src 15 (.tmp 9))) (b := 2) (off := (Int.toNat ((List.getD a_Tables (Int.toNat x25_1) (0, 0)).1)) * 1) (xs := lh2_1) (fz := 0) (e := 117) (es := 1) (d := (some (path 12 10))) (by kernel_rfl) (by kernel_rfl) (by kernel_rfl) (Int.toNat ((List.getD a_Tables (Int.toNat x25_1) (0, 0)).1)) 0 0 (by first | with_reducible rfl | omega | rfl) (row_len (inRow_toNat b6) (by simp)) rfl rfl) (σ' := [(2, ii ((List.getD a_Tables (Int.toNat x25_1) (0, 0)).2)), (10, uu (List.getD lh2_1 (Int.toNat ((List.getD a_Tables (Int.toNat x25_1) (0, 0)).1)) 0))]) (by kernel_rfl) ?_
        refine rS 1 [(10, uu (List.getD lh2_1 (Int.toNat ((List.getD a_Tables (Int.toNat x25_1) (0, 0)).1)) 0)), (11, ii ((List.getD a_Tables (Int.toNat x25_1) (0, 0)).2))] ?_
        cases b7 : (decide (0 ≤ (List.getD a_Tables (Int.toNat x25_1) (0, 0)).2) : Bool) with
        | false => cases (cF b7 h)
        | true =>
         have h := cT b7 h
         have e8 : insV (headI ((gsOf E0 15 (opsOf (lft (rgt f74_C76)))).drop 5) (trS 15 [(10, uu (List.getD lh2_1 (Int.toNat ((List.getD a_Tables (Int.toNat x25_1) (0, 0)).1)) 0)), (11, ii ((List.getD a_Tables (Int.toNat x25_1) (0, 0)).2))])) (trS 15 [(10, uu (List.getD lh2_1 (Int.toNat ((List.getD a_Tables (Int.toNat x25_1) (0, 0)).1)) 0)), (11, ii ((List.getD a_Tables (Int.toNat x25_1) (0, 0)).2))]) (qug1 a_Sorters a_Tables lh2_1 x25_1 [(0, rc encP a_Tables z0 y0 2)]) = (match (decide (0 ≤ (List.getD a_Tables (Int.toNat x25_1) (0, 0)).2) : Bool) with | true => some (uu (shV false .u64 (List.getD lh2_1 (Int.toNat ((List.getD a_Tables (Int.toNat x25_1) (0, 0)).1)) 0) ((List.getD a_Tables (Int.toNat x25_1) (0, 0)).2))) | false => none) := by kernel_rfl
         refine XR.rd E0_ok [12] rfl (e8.trans (by rw [b7])) (σ' := [(12, uu (shV false .u64 (List.getD lh2_1 (Int.toNat ((List.getD a_Tables (Int.toNat x25_1) (0, 0)).1)) 0) ((List.getD a_Tables (Int.toNat x25_1) (0, 0)).2)))]) (by kernel_rfl) ?_
         refine rS 3 [(6, .bool ((andV .u64 (shV false .u64 (List.getD lh2_1 (Int.toNat ((List.getD a_Tables (Int.toNat x25_1) (0, 0)).1)) 0) ((List.getD a_Tables (Int.toNat x25_1) (0, 0)).2)) 1) == 1))] ?_
         refine dQ ?_
         show XQ _ _ _ _ _ _ _ _
         refine XQ.ret (by kernel_rfl) ?_
         refine ⟨fun i q => (by cases q), .bool ((andV .u64 (shV false .u64 (List.getD lh2_1 (Int.toNat ((List.getD a_Tables (Int.toNat x25_1) (0, 0)).1)) 0) ((List.getD a_Tables (Int.toNat x25_1) (0, 0)).2)) 1) == 1), (by kernel_rfl), ?_⟩
         refine XR.conv (σ' := (qug2 a_Tables lh2_1 x24_1 x25_1 [(56, .bool ((andV .u64 (shV false .u64 (List.getD lh2_1 (Int.toNat ((List.getD a_Tables (Int.toNat x25_1) (0, 0)).1)) 0) ((List.getD a_Tables (Int.toNat x25_1) (0, 0)).2)) 1) == 1))])) (h' := (qug1 a_Sorters a_Tables lh2_1 x25_1 [(0, rc encP a_Tables z0 y0 2)])) (c' := 4) ?_ (by kernel_rfl)
         refine rS 1 (qug2 a_Tables lh2_1 x24_1 x25_1 [(52, .bool ((andV .u64 (shV false .u64 (List.getD lh2_1 (Int.toNat ((List.getD a_Tables (Int.toNat x25_1) (0, 0)).1)) 0) ((List.getD a_Tables (Int.toNat x25_1) (0, 0)).2)) 1) == 1))]) ?_
         refine dQ ?_
         show XQ _ _ _ _ _ _ _ _
         cases b9 : ((andV .u64 (shV false .u64 (List.getD lh2_1 (Int.toNat ((List.getD a_Tables (Int.toNat x25_1) (0, 0)).1)) 0) ((List.getD a_Tables (Int.toNat x25_1) (0, 0)).2)) 1) == 1 : Bool) with
         | true =>
          have h := cT b9 h
          refine iT (.tmp 52) ?_
          refine qQ ?_
          refine rS 2 [(2, .slice none 0 0), (3, ii 6)] ?_
          refine dQ ?_
          show XQ _ _ _ _ _ _ _ _
          refine XQ.ghost 117 1 rfl (σ' := [(2, s0 4 0), (3, ii 6)]) (h' := (qug1 a_Sorters a_Tables lh2_1 x25_1 [(0, rc encP a_Tables z0 y0 2)])) ⟨rfl, rfl, trivial⟩ ⟨⟨_, rfl, .inl rfl⟩, ⟨_, rfl, .inl rfl⟩, ⟨_, rfl, .inl rfl⟩, ⟨_, rfl, .inl rfl⟩, trivial⟩ ?_
          refine XQ.conv (σ' := [(2, s0 4 0), (3, ii 6)]) (h' := ((4, rc (encI .u64) [] 0 117 1) :: qug1 a_Sorters a_Tables lh2_1 x25_1 [(0, rc encP a_Tables z0 y0 2)])) (c' := 5) ?_ (by kernel_rfl)
          refine XQ.ren (σ' := [(2, s0 1 0), (3, ii 6)]) (h' := [(1, rc (encI .u64) [] 0 117 1), (0, rc encP a_Tables z0 y0 2)]) (c' := 2) [0, 4] (by decide) rfl ⟨rfl, rfl, trivial⟩ ⟨⟨_, _, rfl, rfl, .inl ⟨rfl, rowC_scal (encI_ok .u64) _⟩⟩, ⟨_, _, rfl, rfl, .inl ⟨rfl, rwP⟩⟩, trivial⟩ rfl ?_
          refine XQ.ret (by kernel_rfl) ?_
          cases h
          exact hQ
         | false =>
          have h := cF b9 h
          refine iF (.tmp 52) ?_
          refine kQ ?_
          show XQ _ _ _ _ _ _ _ _
          refine rQ ?_
          refine rS 3 [(1, pp 1 0), (4, s0 2 lh2_1.length), (23, s0 0 a_Tables.length), (24, ii x24_1), (25, ii x25_1), (57, s0 2 lh2_1.length), (58, ii ((List.getD a_Tables (Int.toNat x25_1) (0, 0)).1)), (59, ii ((List.getD a_Tables (Int.toNat x25_1) (0, 0)).2))] ?_
          refine XR.callK E0_ok [1, 4, 23, 24, 25] rfl (K := 77) (args := [s0 2 lh2_1.length, ii ((List.getD a_Tables (Int.toNat x25_1) (0, 0)).1), ii ((List.getD a_Tables (Int.toNat x25_1) (0, 0)).2)]) (d := (some (path 12 60))) (by kernel_rfl) ?_
          refine KC.bodyN E0_ok (F := Proofs.Tryd.f77) (by kernel_rfl) (code := f74_C77) (by kernel_rfl) (nt := 22) (by kernel_rfl) (rs := []) (by kernel_rfl) (by kernel_rfl) (σ := (qug3 a_Tables lh2_1 x25_1 [])) (by kernel_rfl) ?_
          refine sQ ?_
          refine XQ.tail E0_ok 8 (by kernel_rfl) (by kernel_rfl) ?_
          refine XS.step E0_ok 2 rfl [0, 1, 2, 6, 7] rfl (σ' := (qug3 a_Tables lh2_1 x25_1 [(6, s0 2 lh2_1.length), (7, ii ((List.getD a_Tables (Int.toNat x25_1) (0, 0)).1))])) (by kernel_rfl) ?_
          refine XS.rd E0_ok rfl [0, 1, 2, 6, 7, 8] rfl (v := pp 2 ((Int.toNat ((List.getD a_Tables (Int.toNat x25_1) (0, 0)).1)) * 1)) (v_idx (s := 1) (x := (src 22 (.tmp 6))) (y := (src 22 (.tmp 7))) (b := 2) (o := 0) (len := lh2_1.length) (cap := lh2_1.length) (ik := .i64) (i := (List.getD a_Tables (Int.toNat x25_1) (0, 0)).1) (off := (Int.toNat ((List.getD a_Tables (Int.toNat x25_1) (0, 0)).1)) * 1) (d := (some (path 12 8))) (by kernel_rfl) (by kernel_rfl) (by kernel_rfl) b6 (by omega)) (σ' := (qug3 a_Tables lh2_1 x25_1 [(6, s0 2 lh2_1.length), (7, ii ((List.getD a_Tables (Int.toNat x25_1) (0, 0)).1)), (8, pp 2 ((Int.toNat ((List.getD a_Tables (Int.toNat x25_1) (0, 0)).1)) * 1))])) (by kernel_rfl) ?_
          refine XS.rd E0_ok rfl [0, 1, 2, 6, 7, 9] rfl (v := uu (List.getD lh2_1 (Int.toNat ((List.getD a_Tables (Int.toNat x25_1) (0, 0)).1)) 0)) (v_load1 (encI_ok .u64) (x := (src 22 (.tmp 8))) (b := 2) (off := (Int.toNat ((List.getD a_Tables (Int.toNat x25_1) (0, 0)).1)) * 1) (xs := lh2_1) (fz := 0) (e := 117) (es := 1) (d := (some (path 12 9))) (by kernel_rfl) (by kernel_rfl) (by kernel_rfl) (Int.toNat ((List.getD a_Tables (Int.toNat x25_1) (0, 0)).1)) 0 0 (by first | with_reducible rfl | omega | rfl) (row_len (inRow_toNat b6) (by simp)) rfl rfl) (σ' := (qug3 a_Tables lh2_1 x25_1 (qug4 a_Tables lh2_1 x25_1 []))) (by kernel_rfl) ?_
          refine XS.step E0_ok 1 rfl [0, 1, 2, 6, 7, 9, 10] rfl (σ' := (qug3 a_Tables lh2_1 x25_1 (qug4 a_Tables lh2_1 x25_1 [(10, ii ((List.getD a_Tables (Int.toNat x25_1) (0, 0)).2))]))) (by kernel_rfl) ?_
          have e10 : insV (headI ((gsOf E0 22 (opsOf (lft f74_C77))).drop 5) (trS 22 (qug3 a_Tables lh2_1 x25_1 (qug4 a_Tables lh2_1 x25_1 [(10, ii ((List.getD a_Tables (Int.toNat x25_1) (0, 0)).2))])))) (trS 22 (qug3 a_Tables lh2_1 x25_1 (qug4 a_Tables lh2_1 x25_1 [(10, ii ((List.getD a_Tables (Int.toNat x25_1) (0, 0)).2))]))) (qug1 a_Sorters a_Tables lh2_1 x25_1 [(0, rc encP a_Tables z0 y0 2)]) = (match (decide (0 ≤ (List.getD a_Tables (Int.toNat x25_1) (0, 0)).2) : Bool) with | true => some (uu (shV true .u64 1 ((List.getD a_Tables (Int.toNat x25_1) (0, 0)).2))) | false => none) := by kernel_rfl
          refine XS.rd E0_ok rfl [0, 1, 2, 6, 7, 9, 11] rfl (e10.trans (by rw [b7])) (σ' := (qug3 a_Tables lh2_1 x25_1 (qug4 a_Tables lh2_1 x25_1 [(11, uu (shV true .u64 1 ((List.getD a_Tables (Int.toNat x25_1) (0, 0)).2)))]))) (by kernel_rfl) ?_
          refine XS.step E0_ok 1 rfl [0, 1, 2, 6, 7, 12] rfl (σ' := (qug3 a_Tables lh2_1 x25_1 [(6, s0 2 lh2_1.length), (7, ii ((List.getD a_Tables (Int.toNat x25_1) (0, 0)).1)), (12, uu (xorV .u64 (List.getD lh2_1 (Int.toNat ((List.getD a_Tables (Int.toNat x25_1) (0, 0)).1)) 0) (shV true .u64 1 ((List.getD a_Tables (Int.toNat x25_1) (0, 0)).2))))])) (by kernel_rfl) ?_
          refine XS.rd E0_ok rfl [0, 1, 2, 12, 13] rfl (v := pp 2 ((Int.toNat ((List.getD a_Tables (Int.toNat x25_1) (0, 0)).1)) * 1)) (v_idx (s := 1) (x := (src 22 (.tmp 6))) (y := (src 22 (.tmp 7))) (b := 2) (o := 0) (len := lh2_1.length) (cap := lh2_1.length) (ik := .i64) (i := (List.getD a_Tables (Int.toNat x25_1) (0, 0)).1) (off := (Int.toNat ((List.getD a_Tables (Int.toNat x25_1) (0, 0)).1)) * 1) (d := (some (path 12 13))) (by kernel_rfl) (by kernel_rfl) (by kernel_rfl) b6 (by omega)) (σ' := (qug3 a_Tables lh2_1 x25_1 [(12, uu (xorV .u64 (List.getD lh2_1 (Int.toNat ((List.getD a_Tables (Int.toNat x25_1) (0, 0)).1)) 0) (shV true .u64 1 ((List.getD a_Tables (Int.toNat x25_1) (0, 0)).2)))), (13, pp 2 ((Int.toNat ((List.getD a_Tables (Int.toNat x25_1) (0, 0)).1)) * 1))])) (by kernel_rfl) ?_
          refine XS.done (by kernel_rfl) ?_
          refine XR.ef E0_ok [0, 1, 2] rfl (e_store (encI_ok .u64) (size := 1) (x := (src 22 (.tmp 13))) (y := (src 22 (.tmp 12))) (b := 2) (off := (Int.toNat ((List.getD a_Tables (Int.toNat x25_1) (0, 0)).1)) * 1) (xs := lh2_1) (e := 117) (es := 1) (d := none) (h' := [(3, .cells [ii ((List.getD a_Tables (Int.toNat x25_1) (0, 0)).1), ii ((List.getD a_Tables (Int.toNat x25_1) (0, 0)).2)] 0 55 0), (2, rc (encI .u64) (List.set lh2_1 (Int.toNat ((List.getD a_Tables (Int.toNat x25_1) (0, 0)).1)) (xorV .u64 (List.getD lh2_1 (Int.toNat ((List.getD a_Tables (Int.toNat x25_1) (0, 0)).1)) 0) (shV true .u64 1 ((List.getD a_Tables (Int.toNat x25_1) (0, 0)).2)))) 0 117 1), (1, .cells [ii a_Sorters, s0 0 a_Tables.length] 0 34 0), (0, rc encP a_Tables z0 y0 2)]) (w := uu (xorV .u64 (List.getD lh2_1 (Int.toNat ((List.getD a_Tables (Int.toNat x25_1) (0, 0)).1)) 0) (shV true .u64 1 ((List.getD a_Tables (Int.toNat x25_1) (0, 0)).2)))) (ws := [uu (xorV .u64 (List.getD lh2_1 (Int.toNat ((List.getD a_Tables (Int.toNat x25_1) (0, 0)).1)) 0) (shV true .u64 1 ((List.getD a_Tables (Int.toNat x25_1) (0, 0)).2)))]) (a := xorV .u64 (List.getD lh2_1 (Int.toNat ((List.getD a_Tables (Int.toNat x25_1) (0, 0)).1)) 0) (shV true .u64 1 ((List.getD a_Tables (Int.toNat x25_1) (0, 0)).2))) (by kernel_rfl) (by kernel_rfl) (by kernel_rfl) (Int.toNat ((List.getD a_Tables (Int.toNat x25_1) (0, 0)).1)) 0 0 (by first | with_reducible rfl | omega | rfl) (row_len (inRow_toNat b6) (by simp)) (by kernel_rfl) rfl rfl rfl rfl rfl (by kernel_rfl)) (σ' := (qug3 a_Tables lh2_1 x25_1 [])) (by kernel_rfl) ?_
          refine dQ ?_
          show XQ _ _ _ _ _ _ _ _
          refine XQ.tail E0_ok 8 (by kernel_rfl) (by kernel_rfl) ?_
          refine XS.step E0_ok 2 rfl [1, 14, 15] rfl (σ' := [(1, ii ((List.getD a_Tables (Int.toNat x25_1) (0, 0)).1)), (14, s0 2 lh2_1.length), (15, ii ((List.getD a_Tables (Int.toNat x25_1) (0, 0)).2))]) (by kernel_rfl) ?_
          cases b11 : (inRow ((List.getD a_Tables (Int.toNat x25_1) (0, 0)).2) lh2_1.length : Bool) with
          | false => cases (cF b11 h)
          | true =>
           have h := cT b11 h
           refine XS.rd E0_ok rfl [1, 14, 15, 16] rfl (v := pp 2 ((Int.toNat ((List.getD a_Tables (Int.toNat x25_1) (0, 0)).2)) * 1)) (v_idx (s := 1) (x := (src 22 (.tmp 14))) (y := (src 22 (.tmp 15))) (b := 2) (o := 0) (len := lh2_1.length) (cap := lh2_1.length) (ik := .i64) (i := (List.getD a_Tables (Int.toNat x25_1) (0, 0)).2) (off := (Int.toNat ((List.getD a_Tables (Int.toNat x25_1) (0, 0)).2)) * 1) (d := (some (path 12 16))) (by kernel_rfl) (by kernel_rfl) (by kernel_rfl) b11 (by omega)) (σ' := [(1, ii ((List.getD a_Tables (Int.toNat x25_1) (0, 0)).1)), (14, s0 2 lh2_1.length), (15, ii ((List.getD a_Tables (Int.toNat x25_1) (0, 0)).2)), (16, pp 2 ((Int.toNat ((List.getD a_Tables (Int.toNat x25_1) (0, 0)).2)) * 1))]) (by kernel_rfl) ?_
           refine XS.rd E0_ok rfl [1, 14, 15, 17] rfl (v := uu (List.getD (List.set lh2_1 (Int.toNat ((List.getD a_Tables (Int.toNat x25_1) (0, 0)).1)) (xorV .u64 (List.getD lh2_1 (Int.toNat ((List.getD a_Tables (Int.toNat x25_1) (0, 0)).1)) 0) (shV true .u64 1 ((List.getD a_Tables (Int.toNat x25_1) (0, 0)).2)))) (Int.toNat ((List.getD a_Tables (Int.toNat x25_1) (0, 0)).2)) 0)) (v_load1 (encI_ok .u64) (x := (src 22 (.tmp 16))) (b := 2) (off := (Int.toNat ((List.getD a_Tables (Int.toNat x25_1) (0, 0)).2)) * 1) (xs := List.set lh2_1 (Int.toNat ((List.getD a_Tables (Int.toNat x25_1) (0, 0)).1)) (xorV .u64 (List.getD lh2_1 (Int.toNat ((List.getD a_Tables (Int.toNat x25_1) (0, 0)).1)) 0) (shV true .u64 1 ((List.getD a_Tables (Int.toNat x25_1) (0, 0)).2)))) (fz := 0) (e := 117) (es := 1) (d := (some (path 12 17))) (by kernel_rfl) (by kernel_rfl) (by kernel_rfl) (Int.toNat ((List.getD a_Tables (Int.toNat x25_1) (0, 0)).2)) 0 0 (by first | with_reducible rfl | omega | rfl) (row_len (inRow_toNat b11) (by simp)) rfl rfl) (σ' := [(1, ii ((List.getD a_Tables (Int.toNat x25_1) (0, 0)).1)), (14, s0 2 lh2_1.length), (15, ii ((List.getD a_Tables (Int.toNat x25_1) (0, 0)).2)), (17, uu (List.getD (List.set lh2_1 (Int.toNat ((List.getD a_Tables (Int.toNat x25_1) (0, 0)).1)) (xorV .u64 (List.getD lh2_1 (Int.toNat ((List.getD a_Tables (Int.toNat x25_1) (0, 0)).1)) 0) (shV true .u64 1 ((List.getD a_Tables (Int.toNat x25_1) (0, 0)).2)))) (Int.toNat ((List.getD a_Tables (Int.toNat x25_1) (0, 0)).2)) 0))]) (by kernel_rfl) ?_
           refine XS.step E0_ok 1 rfl [14, 15, 17, 18] rfl (σ' := [(14, s0 2 lh2_1.length), (15, ii ((List.getD a_Tables (Int.toNat x25_1) (0, 0)).2)), (17, uu (List.getD (List.set lh2_1 (Int.toNat ((List.getD a_Tables (Int.toNat x25_1) (0, 0)).1)) (xorV .u64 (List.getD lh2_1 (Int.toNat ((List.getD a_Tables (Int.toNat x25_1) (0, 0)).1)) 0) (shV true .u64 1 ((List.getD a_Tables (Int.toNat x25_1) (0, 0)).2)))) (Int.toNat ((List.getD a_Tables (Int.toNat x25_1) (0, 0)).2)) 0)), (18, ii ((List.getD a_Tables (Int.toNat x25_1) (0, 0)).1))]) (by kernel_rfl) ?_
           cases b12 : (decide (0 ≤ (List.getD a_Tables (Int.toNat x25_1) (0, 0)).1) : Bool) with
           | false => cases (cF b12 h)
           | true =>
            have h := cT b12 h
            have e13 : insV (headI ((gsOf E0 22 (opsOf (rgt f74_C77))).drop 5) (trS 22 [(14, s0 2 lh2_1.length), (15, ii ((List.getD a_Tables (Int.toNat x25_1) (0, 0)).2)), (17, uu (List.getD (List.set lh2_1 (Int.toNat ((List.getD a_Tables (Int.toNat x25_1) (0, 0)).1)) (xorV .u64 (List.getD lh2_1 (Int.toNat ((List.getD a_Tables (Int.toNat x25_1) (0, 0)).1)) 0) (shV true .u64 1 ((List.getD a_Tables (Int.toNat x25_1) (0, 0)).2)))) (Int.toNat ((List.getD a_Tables (Int.toNat x25_1) (0, 0)).2)) 0)), (18, ii ((List.getD a_Tables (Int.toNat x25_1) (0, 0)).1))])) (trS 22 [(14, s0 2 lh2_1.length), (15, ii ((List.getD a_Tables (Int.toNat x25_1) (0, 0)).2)), (17, uu (List.getD (List.set lh2_1 (Int.toNat ((List.getD a_Tables (Int.toNat x25_1) (0, 0)).1)) (xorV .u64 (List.getD lh2_1 (Int.toNat ((List.getD a_Tables (Int.toNat x25_1) (0, 0)).1)) 0) (shV true .u64 1 ((List.getD a_Tables (Int.toNat x25_1) (0, 0)).2)))) (Int.toNat ((List.getD a_Tables (Int.toNat x25_1) (0, 0)).2)) 0)), (18, ii ((List.getD a_Tables (Int.toNat x25_1) (0, 0)).1))]) [(3, .cells [ii ((List.getD a_Tables (Int.toNat x25_1) (0, 0)).1), ii ((List.getD a_Tables (Int.toNat x25_1) (0, 0)).2)] 0 55 0), (2, rc (encI .u64) (List.set lh2_1 (Int.toNat ((List.getD a_Tables (Int.toNat x25_1) (0, 0)).1)) (xorV .u64 (List.getD lh2_1 (Int.toNat ((List.getD a_Tables (Int.toNat x25_1) (0, 0)).1)) 0) (shV true .u64 1 ((List.getD a_Tables (Int.toNat x25_1) (0, 0)).2)))) 0 117 1), (1, .cells [ii a_Sorters, s0 0 a_Tables.length] 0 34 0), (0, rc encP a_Tables z0 y0 2)] = (match (decide (0 ≤ (List.getD a_Tables (Int.toNat x25_1) (0, 0)).1) : Bool) with | true => some (uu (shV true .u64 1 ((List.getD a_Tables (Int.toNat x25_1) (0, 0)).1))) | false => none) := by kernel_rfl
            refine XS.rd E0_ok rfl [14, 15, 17, 19] rfl (e13.trans (by rw [b12])) (σ' := [(14, s0 2 lh2_1.length), (15, ii ((List.getD a_Tables (Int.toNat x25_1) (0, 0)).2)), (17, uu (List.getD (List.set lh2_1 (Int.toNat ((List.getD a_Tables (Int.toNat x25_1) (0, 0)).1)) (xorV .u64 (List.getD lh2_1 (Int.toNat ((List.getD a_Tables (Int.toNat x25_1) (0, 0)).1)) 0) (shV true .u64 1 ((List.getD a_Tables (Int.toNat x25_1) (0, 0)).2)))) (Int.toNat ((List.getD a_Tables (Int.toNat x25_1) (0, 0)).2)) 0)), (19, uu (shV true .u64 1 ((List.getD a_Tables (Int.toNat x25_1) (0, 0)).1)))]) (by kernel_rfl) ?_
            refine XS.step E0_ok 1 rfl [14, 15, 20] rfl (σ' := [(14, s0 2 lh2_1.length), (15, ii ((List.getD a_Tables (Int.toNat x25_1) (0, 0)).2)), (20, uu (xorV .u64 (List.getD (List.set lh2_1 (Int.toNat ((List.getD a_Tables (Int.toNat x25_1) (0, 0)).1)) (xorV .u64 (List.getD lh2_1 (Int.toNat ((List.getD a_Tables (Int.toNat x25_1) (0, 0)).1)) 0) (shV true .u64 1 ((List.getD a_Tables (Int.toNat x25_1) (0, 0)).2)))) (Int.toNat ((List.getD a_Tables (Int.toNat x25_1) (0, 0)).2)) 0) (shV true .u64 1 ((List.getD a_Tables (Int.toNat x25_1) (0, 0)).1))))]) (by kernel_rfl) ?_
            refine XS.rd E0_ok rfl [20, 21] rfl (v := pp 2 ((Int.toNat ((List.getD a_Tables (Int.toNat x25_1) (0, 0)).2)) * 1)) (v_idx (s := 1) (x := (src 22 (.tmp 14))) (y := (src 22 (.tmp 15))) (b := 2) (o := 0) (len := lh2_1.length) (cap := lh2_1.length) (ik := .i64) (i := (List.getD a_Tables (Int.toNat x25_1) (0, 0)).2) (off := (Int.toNat ((List.getD a_Tables (Int.toNat x25_1) (0, 0)).2)) * 1) (d := (some (path 12 21))) (by kernel_rfl) (by kernel_rfl) (by kernel_rfl) b11 (by omega)) (σ' := [(20, uu (xorV .u64 (List.getD (List.set lh2_1 (Int.toNat ((List.getD a_Tables (Int.toNat x25_1) (0, 0)).1)) (xorV .u64 (List.getD lh2_1 (Int.toNat ((List.getD a_Tables (Int.toNat x25_1) (0, 0)).1)) 0) (shV true .u64 1 ((List.getD a_Tables (Int.toNat x25_1) (0, 0)).2)))) (Int.toNat ((List.getD a_Tables (Int.toNat x25_1) (0, 0)).2)) 0) (shV true .u64 1 ((List.getD a_Tables (Int.toNat x25_1) (0, 0)).1)))), (21, pp 2 ((Int.toNat ((List.getD a_Tables (Int.toNat x25_1) (0, 0)).2)) * 1))]) (by kernel_rfl) ?_
            refine XS.done (by kernel_rfl) ?_
            refine XR.ef E0_ok [] rfl (e_store (encI_ok .u64) (size := 1) (x := (src 22 (.tmp 21))) (y := (src 22 (.tmp 20))) (b := 2) (off := (Int.toNat ((List.getD a_Tables (Int.toNat x25_1) (0, 0)).2)) * 1) (xs := List.set lh2_1 (Int.toNat ((List.getD a_Tables (Int.toNat x25_1) (0, 0)).1)) (xorV .u64 (List.getD lh2_1 (Int.toNat ((List.getD a_Tables (Int.toNat x25_1) (0, 0)).1)) 0) (shV true .u64 1 ((List.getD a_Tables (Int.toNat x25_1) (0, 0)).2)))) (e := 117) (es := 1) (d := none) (h' := [(3, .cells [ii ((List.getD a_Tables (Int.toNat x25_1) (0, 0)).1), ii ((List.getD a_Tables (Int.toNat x25_1) (0, 0)).2)] 0 55 0), (2, rc (encI .u64) (List.set (List.set lh2_1 (Int.toNat ((List.getD a_Tables (Int.toNat x25_1) (0, 0)).1)) (xorV .u64 (List.getD lh2_1 (Int.toNat ((List.getD a_Tables (Int.toNat x25_1) (0, 0)).1)) 0) (shV true .u64 1 ((List.getD a_Tables (Int.toNat x25_1) (0, 0)).2)))) (Int.toNat ((List.getD a_Tables (Int.toNat x25_1) (0, 0)).2)) (xorV .u64 (List.getD (List.set lh2_1 (Int.toNat ((List.getD a_Tables (Int.toNat x25_1) (0, 0)).1)) (xorV .u64 (List.getD lh2_1 (Int.toNat ((List.getD a_Tables (Int.toNat x25_1) (0, 0)).1)) 0) (shV true .u64 1 ((List.getD a_Tables (Int.toNat x25_1) (0, 0)).2)))) (Int.toNat ((List.getD a_Tables (Int.toNat x25_1) (0, 0)).2)) 0) (shV true .u64 1 ((List.getD a_Tables (Int.toNat x25_1) (0, 0)).1)))) 0 117 1), (1, .cells [ii a_Sorters, s0 0 a_Tables.length] 0 34 0), (0, rc encP a_Tables z0 y0 2)]) (w := uu (xorV .u64 (List.getD (List.set lh2_1 (Int.toNat ((List.getD a_Tables (Int.toNat x25_1) (0, 0)).1)) (xorV .u64 (List.getD lh2_1 (Int.toNat ((List.getD a_Tables (Int.toNat x25_1) (0, 0)).1)) 0) (shV true .u64 1 ((List.getD a_Tables (Int.toNat x25_1) (0, 0)).2)))) (Int.toNat ((List.getD a_Tables (Int.toNat x25_1) (0, 0)).2)) 0) (shV true .u64 1 ((List.getD a_Tables (Int.toNat x25_1) (0, 0)).1)))) (ws := [uu (xorV .u64 (List.getD (List.set lh2_1 (Int.toNat ((List.getD a_Tables (Int.toNat x25_1) (0, 0)).1)) (xorV .u64 (List.getD lh2_1 (Int.toNat ((List.getD a_Tables (Int.toNat x25_1) (0, 0)).1)) 0) (shV true .u64 1 ((List.getD a_Tables (Int.toNat x25_1) (0, 0)).2)))) (Int.toNat ((List.getD a_Tables (Int.toNat x25_1) (0, 0)).2)) 0) (shV true .u64 1 ((List.getD a_Tables (Int.toNat x25_1) (0, 0)).1)))]) (a := xorV .u64 (List.getD (List.set lh2_1 (Int.toNat ((List.getD a_Tables (Int.toNat x25_1) (0, 0)).1)) (xorV .u64 (List.getD lh2_1 (Int.toNat ((List.getD a_Tables (Int.toNat x25_1) (0, 0)).1)) 0) (shV true .u64 1 ((List.getD a_Tables (Int.toNat x25_1) (0, 0)).2)))) (Int.toNat ((List.getD a_Tables (Int.toNat x25_1) (0, 0)).2)) 0) (shV true .u64 1 ((List.getD a_Tables (Int.toNat x25_1) (0, 0)).1))) (by kernel_rfl) (by kernel_rfl) (by kernel_rfl) (Int.toNat ((List.getD a_Tables (Int.toNat x25_1) (0, 0)).2)) 0 0 (by first | with_reducible rfl | omega | rfl) (row_len (inRow_toNat b11) (by simp)) (by kernel_rfl) rfl rfl rfl rfl rfl (by kernel_rfl)) (σ' := []) (by kernel_rfl) ?_
            refine dQ ?_
            refine ⟨fun i q => (by cases q), .tuple #[], (by kernel_rfl), ?_⟩
            refine XR.conv (σ' := [(1, pp 1 0), (4, s0 2 lh2_1.length), (23, s0 0 a_Tables.length), (24, ii x24_1), (25, ii x25_1)]) (h' := [(3, .cells [ii ((List.getD a_Tables (Int.toNat x25_1) (0, 0)).1), ii ((List.getD a_Tables (Int.toNat x25_1) (0, 0)).2)] 0 55 0), (2, rc (encI .u64) (List.set (List.set lh2_1 (Int.toNat ((List.getD a_Tables (Int.toNat x25_1) (0, 0)).1)) (xorV .u64 (List.getD lh2_1 (Int.toNat ((List.getD a_Tables (Int.toNat x25_1) (0, 0)).1)) 0) (shV true .u64 1 ((List.getD a_Tables (Int.toNat x25_1) (0, 0)).2)))) (Int.toNat ((List.getD a_Tables (Int.toNat x25_1) (0, 0)).2)) (xorV .u64 (List.getD (List.set lh2_1 (Int.toNat ((List.getD a_Tables (Int.toNat x25_1) (0, 0)).1)) (xorV .u64 (List.getD lh2_1 (Int.toNat ((List.getD a_Tables (Int.toNat x25_1) (0, 0)).1)) 0) (shV true .u64 1 ((List.getD a_Tables (Int.toNat x25_1) (0, 0)).2)))) (Int.toNat ((List.getD a_Tables (Int.toNat x25_1) (0, 0)).2)) 0) (shV true .u64 1 ((List.getD a_Tables (Int.toNat x25_1) (0, 0)).1)))) 0 117 1), (1, .cells [ii a_Sorters, s0 0 a_Tables.length] 0 34 0), (0, rc encP a_Tables z0 y0 2)]) (c' := 4) ?_ (by kernel_rfl)
            refine dQ ?_
            show XQ _ _ _ _ _ _ _ _
            refine rQ ?_
            refine rS 2 [(1, pp 1 0), (4, s0 2 lh2_1.length), (23, s0 0 a_Tables.length), (24, ii x24_1), (25, ii (w64 (x25_1 + 1)))] ?_
            refine dQ ?_
            show XL _ _ _ _ _ _ _ _ _
            refine XL.ren (σ' := [(1, pp 1 0), (4, s0 2 lh2_1.length), (23, s0 0 a_Tables.length), (24, ii x24_1), (25, ii (w64 (x25_1 + 1)))]) (h' := [(2, rc (encI .u64) (List.set (List.set lh2_1 (Int.toNat ((List.getD a_Tables (Int.toNat x25_1) (0, 0)).1)) (xorV .u64 (List.getD lh2_1 (Int.toNat ((List.getD a_Tables (Int.toNat x25_1) (0, 0)).1)) 0) (shV true .u64 1 ((List.getD a_Tables (Int.toNat x25_1) (0, 0)).2)))) (Int.toNat ((List.getD a_Tables (Int.toNat x25_1) (0, 0)).2)) (xorV .u64 (List.getD (List.set lh2_1 (Int.toNat ((List.getD a_Tables (Int.toNat x25_1) (0, 0)).1)) (xorV .u64 (List.getD lh2_1 (Int.toNat ((List.getD a_Tables (Int.toNat x25_1) (0, 0)).1)) 0) (shV true .u64 1 ((List.getD a_Tables (Int.toNat x25_1) (0, 0)).2)))) (Int.toNat ((List.getD a_Tables (Int.toNat x25_1) (0, 0)).2)) 0) (shV true .u64 1 ((List.getD a_Tables (Int.toNat x25_1) (0, 0)).1)))) 0 117 1), (1, .cells [ii a_Sorters, s0 0 a_Tables.length] 0 34 0), (0, rc encP a_Tables z0 y0 2)]) (c' := 3) [0, 1, 2] (by decide) rfl ⟨rfl, rfl, rfl, rfl, rfl, trivial⟩ ⟨⟨_, _, rfl, rfl, .inl ⟨rfl, rowC_scal (encI_ok .u64) _⟩⟩, ⟨_, _, rfl, rfl, .inr ⟨_, _, _, _, rfl, rfl⟩⟩, ⟨_, _, rfl, rfl, .inl ⟨rfl, rwP⟩⟩, trivial⟩ rfl ?_
            refine XL.conv (f74_1_ok m fuel z0 y0 a_Sorters a_Tables x24_1 (w64 (x25_1 + 1)) (List.set (List.set lh2_1 (Int.toNat ((List.getD a_Tables (Int.toNat x25_1) (0, 0)).1)) (xorV .u64 (List.getD lh2_1 (Int.toNat ((List.getD a_Tables (Int.toNat x25_1) (0, 0)).1)) 0) (shV true .u64 1 ((List.getD a_Tables (Int.toNat x25_1) (0, 0)).2)))) (Int.toNat ((List.getD a_Tables (Int.toNat x25_1) (0, 0)).2)) (xorV .u64 (List.getD (List.set lh2_1 (Int.toNat ((List.getD a_Tables (Int.toNat x25_1) (0, 0)).1)) (xorV .u64 (List.getD lh2_1 (Int.toNat ((List.getD a_Tables (Int.toNat x25_1) (0, 0)).1)) 0) (shV true .u64 1 ((List.getD a_Tables (Int.toNat x25_1) (0, 0)).2)))) (Int.toNat ((List.getD a_Tables (Int.toNat x25_1) (0, 0)).2)) 0) (shV true .u64 1 ((List.getD a_Tables (Int.toNat x25_1) (0, 0)).1)))) o h Q hQ) (by first | with_reducible rfl | simp | rfl)
  | false =>
   have h := cF b1 h
   refine iF (.tmp 26) ?_
   refine XQ.ren (σ' := [(4, s0 1 lh2_1.length)]) (h' := [(1, rc (encI .u64) lh2_1 0 117 1), (0, rc encP a_Tables z0 y0 2)]) (c' := 2) [0, 2] (by decide) rfl ⟨rfl, trivial⟩ ⟨⟨_, _, rfl, rfl, .inl ⟨rfl, rowC_scal (encI_ok .u64) _⟩⟩, ⟨_, _, rfl, rfl, .inl ⟨rfl, rwP⟩⟩, trivial⟩ rfl ?_
   refine XQ.exit (i := 1) (by kernel_rfl) ?_
   cases h
   exact hQ
def f74 (m : Nat) (a_Sorters : Int) (a_Tables : List (Int × Int)) : Option ((List Int) × Int) :=
 (f65 m a_Sorters 1 8).bind fun r1 =>
  cond (!r1) (
   some ([], 1)
  ) (
   cond (decide (((a_Tables.length : Nat) : Int) > 28)) (
    some ([], 3)
   ) (
    cond (mkOK a_Sorters a_Sorters 8) (
     (f74_1 m m a_Sorters a_Tables ((a_Tables.length : Nat) : Int) 0 (List.replicate (Int.toNat a_Sorters) 0)).bind fun o1 =>
      match o1 with
      | .r x3_r1 =>
       some ([], x3_r1)
      | .x1 lh1_x11 =>
       some (lh1_x11, 0)
    ) none
   )
  )
theorem f74_ok (m : Nat) (z0 : Nat) (y0 : Nat) (a_Sorters : Int) (a_Tables : List (Int × Int)) (o : (List Int) × Int) (h : f74 m a_Sorters a_Tables = some o) : KC E0 74 [.agg #[ii a_Sorters, s0 0 a_Tables.length]] [(0, rc encP a_Tables z0 y0 2)] 1 (fun v h' c' => v = .tuple #[s0 1 o.1.length, ii o.2] ∧ h' = [(1, rc (encI .u64) o.1 0 117 1)] ++ [(0, rc encP a_Tables z0 y0 2)] ∧ c' = 2) := by
 refine KC.bodyN E0_ok (F := Proofs.Tryd.f74) (by kernel_rfl) (code := f74_C74) (by kernel_rfl) (nt := 63) (by kernel_rfl) (rs := [.tmp 2, .tmp 3]) (by kernel_rfl) (by kernel_rfl) (σ := [(0, .agg #[ii a_Sorters, s0 0 a_Tables.length])]) (by kernel_rfl) ?_
 unfold f74 at h
 refine qQ ?_
 refine rT 3 [(1, pp 1 0)] [(1, .cells [ii a_Sorters, s0 0 a_Tables.length] 0 34 0), (0, rc encP a_Tables z0 y0 2)] 2 ?_
 refine dQ ?_
 show XQ _ _ _ _ _ _ _ _
 refine sQ ?_
 refine XQ.block (id := 0) (by kernel_rfl) ?_
 refine qQ ?_
 refine rS 2 [(1, pp 1 0), (11, ii a_Sorters)] ?_
 obtain ⟨r1, r1_h, h⟩ := bS h
 refine XR.call E0_ok [1, 12] rfl (K := 65) (args := [ii a_Sorters, ii 1, ii 8]) (d := (some (path 12 12))) (by kernel_rfl) (KC.of_calls E0_ok (F := Proofs.Tryd.f65) (v := .bool r1) (by kernel_rfl) rfl rfl (fun w hI => f65_ok m a_Sorters 1 8 r1 r1_h w hI)) ?_
 rintro _ _ _ ⟨rfl, rfl, rfl⟩
 refine XR.conv (σ' := [(1, pp 1 0), (12, .bool r1)]) (h' := [(1, .cells [ii a_Sorters, s0 0 a_Tables.length] 0 34 0), (0, rc encP a_Tables z0 y0 2)]) (c' := 2) ?_ (by kernel_rfl)
 refine rS 2 [(1, pp 1 0), (9, .bool (!r1))] ?_
 refine dQ ?_
 show XQ _ _ _ _ _ _ _ _
 cases b1 : (!r1 : Bool) with
 | true =>
  have h := cT b1 h
  refine iT (.tmp 9) ?_
  refine qQ ?_
  refine rS 2 [(2, .slice none 0 0), (3, ii 1)] ?_
  refine dQ ?_
  show XQ _ _ _ _ _ _ _ _
  refine XQ.ghost 117 1 rfl (σ' := [(2, s0 2 0), (3, ii 1)]) (h' := [(1, .cells [ii a_Sorters, s0 0 a_Tables.length] 0 34 0), (0, rc encP a_Tables z0 y0 2)]) ⟨rfl, rfl, trivial⟩ ⟨⟨_, rfl, .inl rfl⟩, ⟨_, rfl, .inl rfl⟩, trivial⟩ ?_
  refine XQ.conv (σ' := [(2, s0 2 0), (3, ii 1)]) (h' := [(2, rc (encI .u64) [] 0 117 1), (1, .cells [ii a_Sorters, s0 0 a_Tables.length] 0 34 0), (0, rc encP a_Tables z0 y0 2)]) (c' := 3) ?_ (by kernel_rfl)
  refine XQ.ren (σ' := [(2, s0 1 0), (3, ii 1)]) (h' := [(1, rc (encI .u64) [] 0 117 1), (0, rc encP a_Tables z0 y0 2)]) (c' := 2) [0, 2] (by decide) rfl ⟨rfl, rfl, trivial⟩ ⟨⟨_, _, rfl, rfl, .inl ⟨rfl, rowC_scal (encI_ok .u64) _⟩⟩, ⟨_, _, rfl, rfl, .inl ⟨rfl, rwP⟩⟩, trivial⟩ rfl ?_
  refine XQ.ret (by kernel_rfl) ?_
  have h := Option.some.inj h
  subst h
  exact ⟨fun i q => (by cases q), .tuple #[s0 1 0, ii 1], (by kernel_rfl), (by kernel_rfl), (by kernel_rfl), rfl⟩
 | false =>
  have h := cF b1 h
  refine iF (.tmp 9) ?_
  refine qQ ?_
  refine rS 5 [(1, pp 1 0), (14, .bool (decide (((a_Tables.length : Nat) : Int) > 28)))] ?_
  refine dQ ?_
  show XQ _ _ _ _ _ _ _ _
  cases b2 : (decide (((a_Tables.length : Nat) : Int) > 28) : Bool) with
  | true =>
   have h := cT b2 h
   refine iT (.tmp 14) ?_
   refine qQ ?_
   refine rS 2 [(2, .slice none 0 0), (3, ii 3)] ?_
   refine dQ ?_
   show XQ _ _ _ _ _ _ _ _
   refine XQ.ghost 117 1 rfl (σ' := [(2, s0 2 0), (3, ii 3)]) (h' := [(1, .cells [ii a_Sorters, s0 0 a_Tables.length] 0 34 0), (0, rc encP a_Tables z0 y0 2)]) ⟨rfl, rfl, trivial⟩ ⟨⟨_, rfl, .inl rfl⟩, ⟨_, rfl, .inl rfl⟩, trivial⟩ ?_
   refine XQ.conv (σ' := [(2, s0 2 0), (3, ii 3)]) (h' := [(2, rc (encI .u64) [] 0 117 1), (1, .cells [ii a_Sorters, s0 0 a_Tables.length] 0 34 0), (0, rc encP a_Tables z0 y0 2)]) (c' := 3) ?_ (by kernel_rfl)
   refine XQ.ren (σ' := [(2, s0 1 0), (3, ii 3)]) (h' := [(1, rc (encI .u64) [] 0 117 1), (0, rc encP a_Tables z0 y0 2)]) (c' := 2) [0, 2] (by decide) rfl ⟨rfl, rfl, trivial⟩ ⟨⟨_, _, rfl, rfl, .inl ⟨rfl, rowC_scal (encI_ok .u64) _⟩⟩, ⟨_, _, rfl, rfl, .inl ⟨rfl, rwP⟩⟩, trivial⟩ rfl ?_
   refine XQ.ret (by kernel_rfl) ?_
   have h := Option.some.inj h
   subst h
   exact ⟨fun i q => (by cases q), .tuple #[s0 1 0, ii 3], (by kernel_rfl), (by kernel_rfl), (by kernel_rfl), rfl⟩
  | false =>
   have h := cF b2 h
   refine iF (.tmp 14) ?_
   refine kQ ?_
   show XQ _ _ _ _ _ _ _ _
   refine qQ ?_
   refine rS 2 [(1, pp 1 0), (20, ii a_Sorters)] ?_
   cases b3 : (mkOK a_Sorters a_Sorters 8 : Bool) with
   | false => cases (cF b3 h)
   | true =>
    have h := cT b3 h
    refine XR.ef E0_ok [1, 21] rfl (e_make (encI_ok .u64) (x := (src 63 (.tmp 20))) (y := (src 63 (.tmp 20))) (l := a_Sorters) (n := a_Sorters) (bytes := 8) (e := 117) (z := #[uu 0]) (d := (some (path 12 21))) (by kernel_rfl) (by kernel_rfl) (by kernel_rfl) 0 rfl (by kernel_rfl) b3) (σ' := [(1, pp 1 0), (21, s0 2 (Int.toNat a_Sorters))]) (by kernel_rfl) ?_
    refine rS 1 [(1, pp 1 0), (4, s0 2 (Int.toNat a_Sorters))] ?_
    refine dQ ?_
    show XQ _ _ _ _ _ _ _ _
    refine sQ ?_
    refine qQ ?_
    refine rS 4 [(1, pp 1 0), (4, s0 2 (Int.toNat a_Sorters)), (23, s0 0 a_Tables.length), (24, ii ((a_Tables.length : Nat) : Int)), (25, ii 0)] ?_
    refine dQ ?_
    show XQ _ _ _ _ _ _ _ _
    refine XQ.block (id := 1) (by kernel_rfl) ?_
    refine XQ.loop m (by kernel_rfl) ?_
    obtain ⟨o1, o1_h, h⟩ := bS h
    refine XL.ren (σ' := [(1, pp 1 0), (4, s0 2 (Int.toNat a_Sorters)), (23, s0 0 a_Tables.length), (24, ii ((a_Tables.length : Nat) : Int)), (25, ii 0)]) (h' := [(2, rc (encI .u64) (List.replicate (Int.toNat a_Sorters) 0) 0 117 1), (1, .cells [ii a_Sorters, s0 0 a_Tables.length] 0 34 0), (0, rc encP a_Tables z0 y0 2)]) (c' := 3) [0, 1, 2] (by decide) rfl ⟨rfl, rfl, rfl, rfl, rfl, trivial⟩ ⟨⟨_, _, rfl, rfl, .inl ⟨rfl, rowC_scal (encI_ok .u64) _⟩⟩, ⟨_, _, rfl, rfl, .inr ⟨_, _, _, _, rfl, rfl⟩⟩, ⟨_, _, rfl, rfl, .inl ⟨rfl, rwP⟩⟩, trivial⟩ rfl ?_
    cases o1 with
    | r x3_r1 =>
     dsimp only at h
     refine XL.conv (f74_1_ok m m z0 y0 a_Sorters a_Tables ((a_Tables.length : Nat) : Int) 0 (List.replicate (Int.toNat a_Sorters) 0) (.r x3_r1) o1_h _ ?_) (by first | with_reducible rfl | simp | rfl)
     have h := Option.some.inj h
     subst h
     exact ⟨fun i q => (by cases q), .tuple #[s0 1 0, ii x3_r1], (by kernel_rfl), (by kernel_rfl), (by kernel_rfl), rfl⟩
    | x1 lh1_x11 =>
     dsimp only at h
     refine XL.conv (f74_1_ok m m z0 y0 a_Sorters a_Tables ((a_Tables.length : Nat) : Int) 0 (List.replicate (Int.toNat a_Sorters) 0) (.x1 lh1_x11) o1_h _ ?_) (by first | with_reducible rfl | simp | rfl)
     show XQ _ _ _ _ _ _ _ _
     refine qQ ?_
     refine rS 3 [(2, s0 1 lh1_x11.length), (3, ii 0)] ?_
     refine dQ ?_
     show XQ _ _ _ _ _ _ _ _
     refine XQ.ren (σ' := [(2, s0 1 lh1_x11.length), (3, ii 0)]) (h' := [(1, rc (encI .u64) lh1_x11 0 117 1), (0, rc encP a_Tables z0 y0 2)]) (c' := 2) [0, 1] (by decide) rfl ⟨rfl, rfl, trivial⟩ ⟨⟨_, _, rfl, rfl, .inl ⟨rfl, rowC_scal (encI_ok .u64) _⟩⟩, ⟨_, _, rfl, rfl, .inl ⟨rfl, rwP⟩⟩, trivial⟩ rfl ?_
     refine XQ.ret (by kernel_rfl) ?_
     have h := Option.some.inj h
     subst h
     exact ⟨fun i q => (by cases q), .tuple #[s0 1 lh1_x11.length, ii 0], (by kernel_rfl), (by kernel_rfl), (by kernel_rfl), rfl⟩
noncomputable def f43_C43 : Code := Proofs.Tryd.f43.body.getD .skip
noncomputable def f43_C85 : Code := Proofs.Tryd.f85.body.getD .skip
noncomputable def f43_C88 : Code := Proofs.Tryd.f88.body.getD .skip
noncomputable def f43_L1 : Code := lft (lft (rgt (lft (rgt (rgt f43_C88)))))
def f43_1 (m : Nat) : Nat → Int → List (Int × Int) → Int → Int → List Int → List Int → Option ((List Int) × (List Int))
 | 0, _, _, _, _, _, _ => none
 | fuel + 1, a_Sorters, a_Tables, x7_1, x8_1, lh3_1, lh4_1 =>
  cond (decide (x8_1 < x7_1)) (
   cond (inRow x8_1 lh3_1.length) (
    (f94 m (List.getD lh3_1 (Int.toNat x8_1) 0)).bind fun r4 =>
     cond (fitsB (lh4_1.length + 1) 8) (
      f43_1 m fuel a_Sorters a_Tables x7_1 (w64 (x8_1 + 1)) lh3_1 (lh4_1 ++ [r4])
     ) none
   ) none
  ) (
   some (lh3_1, lh4_1)
  )

abbrev qug5 (a_Sorters : Int) (a_Tables : List (Int × Int)) (lh3_1 : List Int) (t : Heap) : Heap := (3, rc (encI .u64) lh3_1 0 117 1) :: (2, .cells [ii a_Sorters, s0 0 a_Tables.length] 0 34 0) :: (1, .cells [ii a_Sorters, s0 0 a_Tables.length] 0 34 0) :: t
theorem f43_1_ok (m : Nat) : ∀ (fuel : Nat) (z0 : Nat) (y0 : Nat) (a_Sorters : Int) (a_Tables : List (Int × Int)) (x7_1 : Int) (x8_1 : Int) (lh3_1 : List Int) (lh4_1 : List Int) (o : ((List Int) × (List Int))), f43_1 m fuel a_Sorters a_Tables x7_1 x8_1 lh3_1 lh4_1 = some o → ∀ Q : QP, Q (.exit 0) [(3, s0 4 o.2.length)] [(4, rI o.2), (3, rc (encI .u64) o.1 0 117 1), (2, .cells [ii a_Sorters, s0 0 a_Tables.length] 0 34 0), (1, .cells [ii a_Sorters, s0 0 a_Tables.length] 0 34 0), (0, rc encP a_Tables z0 y0 2)] 5 → XL E0 20 4 fuel f43_L1 [(3, s0 4 lh4_1.length), (6, s0 3 lh3_1.length), (7, ii x7_1), (8, ii x8_1)] ((4, rI lh4_1) :: qug5 a_Sorters a_Tables lh3_1 [(0, rc encP a_Tables z0 y0 2)]) 5 Q
 | 0, z0, y0, a_Sorters, a_Tables, x7_1, x8_1, lh3_1, lh4_1, o, h, Q, hQ => by cases h
 | fuel + 1, z0, y0, a_Sorters, a_Tables, x7_1, x8_1, lh3_1, lh4_1, o, h, Q, hQ => by
  unfold f43_1 at h
  refine XL.succ E0_ok ?_
  refine qQ ?_
  refine rS 1 [(3, s0 4 lh4_1.length), (6, s0 3 lh3_1.length), (7, ii x7_1), (8, ii x8_1), (9, .bool (decide (x8_1 < x7_1)))] ?_
  refine dQ ?_
  show XQ _ _ _ _ _ _ _ _
  refine sQ ?_
  cases b1 : (decide (x8_1 < x7_1) : Bool) with
  | true =>
   have h := cT b1 h
   refine iT (.tmp 9) ?_
   refine kQ ?_
   show XQ _ _ _ _ _ _ _ _
   refine sQ ?_
   refine XQ.block (id := 1) (by kernel_rfl) ?_
   refine qQ ?_
   cases b2 : (inRow x8_1 lh3_1.length : Bool) with
   | false => cases (cF b2 h)
   | true =>
    have h := cT b2 h
    refine XR.rd E0_ok [3, 6, 7, 8, 10] rfl (v := pp 3 ((Int.toNat x8_1) * 1)) (v_idx (s := 1) (x := (src 20 (.tmp 6))) (y := (src 20 (.tmp 8))) (b := 3) (o := 0) (len := lh3_1.length) (cap := lh3_1.length) (ik := .i64) (i := x8_1) (off := (Int.toNat x8_1) * 1) (d := (some (path 12 10))) (by kernel_rfl) (by kernel_rfl) (by kernel_rfl) b2 (by omega)) (σ' := [(3, s0 4 lh4_1.length), (6, s0 3 lh3_1.length), (7, ii x7_1), (8, ii x8_1), (10, pp 3 ((Int.toNat x8_1) * 1))]) (by kernel_rfl) ?_
    refine XR.rd E0_ok [3, 6, 7, 8, 11] rfl (v := uu (List.getD lh3_1 (Int.toNat x8_1) 0)) (v_load1 (encI_ok .u64) (x := (src 20 (.tmp 10))) (b := 3) (off := (Int.toNat x8_1) * 1) (xs := lh3_1) (fz := 0) (e := 117) (es := 1) (d := (some (path 12 11))) (by kernel_rfl) (by kernel_rfl) (by kernel_rfl) (Int.toNat x8_1) 0 0 (by first | with_reducible rfl | omega | rfl) (row_len (inRow_toNat b2) (by simp)) rfl rfl) (σ' := [(3, s0 4 lh4_1.length), (6, s0 3 lh3_1.length), (7, ii x7_1), (8, ii x8_1), (11, uu (List.getD lh3_1 (Int.toNat x8_1) 0))]) (by kernel_rfl) ?_
    refine rS 1 [(3, s0 4 lh4_1.length), (5, uu (List.getD lh3_1 (Int.toNat x8_1) 0)), (6, s0 3 lh3_1.length), (7, ii x7_1), (8, ii x8_1)] ?_
    refine dQ ?_
    show XQ _ _ _ _ _ _ _ _
    refine rQ ?_
    refine rS 2 [(6, s0 3 lh3_1.length), (7, ii x7_1), (8, ii x8_1), (12, s0 4 lh4_1.length), (13, uu (List.getD lh3_1 (Int.toNat x8_1) 0))] ?_
    obtain ⟨r4, r4_h, h⟩ := bS h
    refine XR.call E0_ok [6, 7, 8, 12, 14] rfl (K := 94) (args := [uu (List.getD lh3_1 (Int.toNat x8_1) 0)]) (d := (some (path 12 14))) (by kernel_rfl) (KC.of_calls E0_ok (F := Proofs.Tryd.f94) (v := ii r4) (by kernel_rfl) rfl rfl (fun w hI => f94_ok m (List.getD lh3_1 (Int.toNat x8_1) 0) r4 r4_h w hI)) ?_
    rintro _ _ _ ⟨rfl, rfl, rfl⟩
    refine XR.conv (σ' := [(6, s0 3 lh3_1.length), (7, ii x7_1), (8, ii x8_1), (12, s0 4 lh4_1.length), (14, ii r4)]) (h' := ((4, rI lh4_1) :: qug5 a_Sorters a_Tables lh3_1 [(0, rc encP a_Tables z0 y0 2)])) (c' := 5) ?_ (by kernel_rfl)
    refine rT 1 [(6, s0 3 lh3_1.length), (7, ii x7_1), (8, ii x8_1), (12, s0 4 lh4_1.length), (15, s0 5 1)] ((5, .cells [ii r4] 0 3 1) :: (4, rI lh4_1) :: qug5 a_Sorters a_Tables lh3_1 [(0, rc encP a_Tables z0 y0 2)]) 6 ?_
    cases b3 : (fitsB (lh4_1.length + 1) 8 : Bool) with
    | false => cases (cF b3 h)
    | true =>
     have h := cT b3 h
     refine XR.ef E0_ok [6, 7, 8, 16] rfl (e_append (encI_ok .i64) (bytes := 8) (e := 3) (x := (src 20 (.tmp 12))) (y := (src 20 (.tmp 15))) (b := 4) (len := lh4_1.length) (cap := lh4_1.length) (xs := lh4_1) (m := 0) (ys := [r4]) (d := (some (path 12 16))) (n' := (lh4_1 ++ [r4]).length) (h' := ((6, rI (lh4_1 ++ [r4])) :: (5, .cells [ii r4] 0 3 1) :: qug5 a_Sorters a_Tables lh3_1 [(0, rc encP a_Tables z0 y0 2)])) (by kernel_rfl) (by kernel_rfl) (by kernel_rfl) (by kernel_rfl) rfl (by simp) (by simp) b3 (by simp) (by kernel_rfl)) (σ' := [(6, s0 3 lh3_1.length), (7, ii x7_1), (8, ii x8_1), (16, s0 6 ((lh4_1 ++ [r4]).length))]) (by kernel_rfl) ?_
     refine rS 1 [(3, s0 6 ((lh4_1 ++ [r4]).length)), (6, s0 3 lh3_1.length), (7, ii x7_1), (8, ii x8_1)] ?_
     refine dQ ?_
     show XQ _ _ _ _ _ _ _ _
     refine rQ ?_
     refine rS 2 [(3, s0 6 ((lh4_1 ++ [r4]).length)), (6, s0 3 lh3_1.length), (7, ii x7_1), (8, ii (w64 (x8_1 + 1)))] ?_
     refine dQ ?_
     show XL _ _ _ _ _ _ _ _ _
     refine XL.ren (σ' := [(3, s0 4 ((lh4_1 ++ [r4]).length)), (6, s0 3 lh3_1.length), (7, ii x7_1), (8, ii (w64 (x8_1 + 1)))]) (h' := ((4, rI (lh4_1 ++ [r4])) :: qug5 a_Sorters a_Tables lh3_1 [(0, rc encP a_Tables z0 y0 2)])) (c' := 5) [0, 1, 2, 3, 6] (by decide) rfl ⟨rfl, rfl, rfl, rfl, trivial⟩ ⟨⟨_, _, rfl, rfl, .inl ⟨rfl, rwI⟩⟩, ⟨_, _, rfl, rfl, .inl ⟨rfl, rowC_scal (encI_ok .u64) _⟩⟩, ⟨_, _, rfl, rfl, .inr ⟨_, _, _, _, rfl, rfl⟩⟩, ⟨_, _, rfl, rfl, .inr ⟨_, _, _, _, rfl, rfl⟩⟩, ⟨_, _, rfl, rfl, .inl ⟨rfl, rwP⟩⟩, trivial⟩ rfl ?_
     refine XL.conv (f43_1_ok m fuel z0 y0 a_Sorters a_Tables x7_1 (w64 (x8_1 + 1)) lh3_1 (lh4_1 ++ [r4]) o h Q hQ) (by first | with_reducible rfl | simp | rfl)
  | false =>
   have h := cF b1 h
   refine iF (.tmp 9) ?_
   refine XQ.ren (σ' := [(3, s0 4 lh4_1.length)]) (h' := ((4, rI lh4_1) :: qug5 a_Sorters a_Tables lh3_1 [(0, rc encP a_Tables z0 y0 2)])) (c' := 5) [0, 1, 2, 3, 4] (by decide) rfl ⟨rfl, trivial⟩ ⟨⟨_, _, rfl, rfl, .inl ⟨rfl, rwI⟩⟩, ⟨_, _, rfl, rfl, .inl ⟨rfl, rowC_scal (encI_ok .u64) _⟩⟩, ⟨_, _, rfl, rfl, .inr ⟨_, _, _, _, rfl, rfl⟩⟩, ⟨_, _, rfl, rfl, .inr ⟨_, _, _, _, rfl, rfl⟩⟩, ⟨_, _, rfl, rfl, .inl ⟨rfl, rwP⟩⟩, trivial⟩ rfl ?_
   refine XQ.exit (i := 0) (by kernel_rfl) ?_
   cases h
   exact hQ
def f43 (m : Nat) (a_Sorters : Int) (a_Tables : List (Int × Int)) : Option ((List Int) × Int) :=
 (f74 m a_Sorters a_Tables).bind fun r1 =>
  cond (r1.2 != 0) (
   some ([], r1.2)
  ) (
   (f43_1 m m a_Sorters a_Tables ((r1.1.length : Nat) : Int) 0 r1.1 []).bind fun o1 =>
    some (o1.2, 0)
  )

abbrev qug6 (a_Sorters : Int) (a_Tables : List (Int × Int)) (t : Heap) : Heap := (2, .cells [ii a_Sorters, s0 0 a_Tables.length] 0 34 0) :: (1, .cells [ii a_Sorters, s0 0 a_Tables.length] 0 34 0) :: t
theorem f43_ok (m : Nat) (z0 : Nat) (y0 : Nat) (a_Sorters : Int) (a_Tables : List (Int × Int)) (o : (List Int) × Int) (h : f43 m a_Sorters a_Tables = some o) : KC E0 43 [.agg #[ii a_Sorters, s0 0 a_Tables.length]] [(0, rc encP a_Tables z0 y0 2)] 1 (fun v h' c' => v = .tuple #[s0 1 o.1.length, ii o.2] ∧ h' = [(1, rI o.1)] ++ [(0, rc encP a_Tables z0 y0 2)] ∧ c' = 2) := by
 refine KC.bodyN E0_ok (F := Proofs.Tryd.f43) (by kernel_rfl) (code := f43_C43) (by kernel_rfl) (nt := 20) (by kernel_rfl) (rs := [.tmp 2, .tmp 3]) (by kernel_rfl) (by kernel_rfl) (σ := [(0, .agg #[ii a_Sorters, s0 0 a_Tables.length])]) (by kernel_rfl) ?_
 unfold f43 at h
 refine qQ ?_
 refine rT 3 [(1, pp 1 0)] [(1, .cells [ii a_Sorters, s0 0 a_Tables.length] 0 34 0), (0, rc encP a_Tables z0 y0 2)] 2 ?_
 refine nQ id ?_
 refine rS 1 [(9, .agg #[ii a_Sorters, s0 0 a_Tables.length])] ?_
 refine XR.callK E0_ok [10] rfl (K := 85) (args := [.agg #[ii a_Sorters, s0 0 a_Tables.length], .func (.func 88) #[] #[]]) (d := (some (path 12 10))) (by kernel_rfl) ?_
 refine KC.bodyN E0_ok (F := Proofs.Tryd.f85) (by kernel_rfl) (code := f43_C85) (by kernel_rfl) (nt := 19) (by kernel_rfl) (rs := [.tmp 4, .tmp 5]) (by kernel_rfl) (by kernel_rfl) (σ := [(0, .agg #[ii a_Sorters, s0 0 a_Tables.length]), (1, .func (.func 88) #[] #[])]) (by kernel_rfl) ?_
 refine qQ ?_
 refine rT 3 [(1, .func (.func 88) #[] #[]), (2, pp 2 0)] (qug6 a_Sorters a_Tables [(0, rc encP a_Tables z0 y0 2)]) 3 ?_
 refine nQ id ?_
 refine rS 1 [(1, .func (.func 88) #[] #[]), (9, .agg #[ii a_Sorters, s0 0 a_Tables.length])] ?_
 obtain ⟨r1, r1_h, h⟩ := bS h
 refine XR.call E0_ok [1, 10] rfl (K := 74) (args := [.agg #[ii a_Sorters, s0 0 a_Tables.length]]) (d := (some (path 12 10))) (by kernel_rfl) (KC.liftH (n0 := 1) (m := 1) (args0 := [.agg #[ii a_Sorters, s0 0 a_Tables.length]]) (h0 := [(0, rc encP a_Tables (z0 + ((rowC encP a_Tables).length + 1)) y0 2)]) (V := .tuple #[s0 1 r1.1.length, ii r1.2]) (V2 := .tuple #[s0 3 r1.1.length, ii r1.2]) (H := [(1, rc (encI .u64) r1.1 0 117 1)]) (H2 := [(3, rc (encI .u64) r1.1 0 117 1)]) [0] [2, 3, 4, 1] (f74_ok m (z0 + ((rowC encP a_Tables).length + 1)) y0 a_Sorters a_Tables r1 r1_h) (by rfl) (by decide) rfl (by kernel_rfl) ⟨⟨_, _, rfl, rfl, .inl ⟨rfl, rwP⟩⟩, trivial⟩ (by decide) (by decide) (by kernel_rfl) ⟨⟨_, _, rfl, rfl, .inl ⟨rfl, rowC_scal (encI_ok .u64) _⟩⟩, trivial⟩ (by rfl)) ?_
 rintro _ _ _ ⟨rfl, rfl, rfl⟩
 refine XR.conv (σ' := [(1, .func (.func 88) #[] #[]), (10, .tuple #[s0 3 r1.1.length, ii r1.2])]) (h' := ((3, rc (encI .u64) r1.1 0 117 1) :: qug6 a_Sorters a_Tables [(0, rc encP a_Tables z0 y0 2)])) (c' := 4) ?_ (by kernel_rfl)
 refine rS 5 [(1, .func (.func 88) #[] #[]), (6, s0 3 r1.1.length), (7, ii r1.2)] ?_
 refine dQ ?_
 show XQ _ _ _ _ _ _ _ _
 refine sQ ?_
 refine qQ ?_
 refine rS 2 [(1, .func (.func 88) #[] #[]), (6, s0 3 r1.1.length), (7, ii r1.2), (14, .bool (r1.2 != 0))] ?_
 refine dQ ?_
 show XQ _ _ _ _ _ _ _ _
 cases b1 : (r1.2 != 0 : Bool) with
 | true =>
  have h := cT b1 h
  refine iT (.tmp 14) ?_
  refine qQ ?_
  refine rS 3 [(4, .nilIface), (5, ii r1.2)] ?_
  refine dQ ?_
  show XQ _ _ _ _ _ _ _ _
  refine XQ.ret (by kernel_rfl) ?_
  refine ⟨fun i q => (by cases q), .tuple #[.nilIface, ii r1.2], (by kernel_rfl), ?_⟩
  refine XR.conv (σ' := [(10, .tuple #[.nilIface, ii r1.2])]) (h' := ((3, rc (encI .u64) r1.1 0 117 1) :: qug6 a_Sorters a_Tables [(0, rc encP a_Tables z0 y0 2)])) (c' := 4) ?_ (by kernel_rfl)
  refine rS 5 [(4, .nilIface), (5, ii r1.2)] ?_
  refine nQ id ?_
  refine rS 7 [(5, ii r1.2), (6, .slice none 0 0)] ?_
  refine dQ ?_
  show XQ _ _ _ _ _ _ _ _
  refine XQ.ghost 3 1 rfl (σ' := [(5, ii r1.2), (6, s0 4 0)]) (h' := ((3, rc (encI .u64) r1.1 0 117 1) :: qug6 a_Sorters a_Tables [(0, rc encP a_Tables z0 y0 2)])) ⟨rfl, rfl, trivial⟩ ⟨⟨_, rfl, .inl rfl⟩, ⟨_, rfl, .inl rfl⟩, ⟨_, rfl, .inl rfl⟩, ⟨_, rfl, .inl rfl⟩, trivial⟩ ?_
  refine XQ.conv (σ' := [(5, ii r1.2), (6, s0 4 0)]) (h' := ((4, rI []) :: (3, rc (encI .u64) r1.1 0 117 1) :: qug6 a_Sorters a_Tables [(0, rc encP a_Tables z0 y0 2)])) (c' := 5) ?_ (by kernel_rfl)
  refine qQ ?_
  refine rS 4 [(2, s0 4 0), (3, ii r1.2)] ?_
  refine dQ ?_
  show XQ _ _ _ _ _ _ _ _
  refine XQ.ren (σ' := [(2, s0 1 0), (3, ii r1.2)]) (h' := [(1, rI []), (0, rc encP a_Tables z0 y0 2)]) (c' := 2) [0, 4] (by decide) rfl ⟨rfl, rfl, trivial⟩ ⟨⟨_, _, rfl, rfl, .inl ⟨rfl, rwI⟩⟩, ⟨_, _, rfl, rfl, .inl ⟨rfl, rwP⟩⟩, trivial⟩ rfl ?_
  refine XQ.ret (by kernel_rfl) ?_
  have h := Option.some.inj h
  subst h
  exact ⟨fun i q => (by cases q), .tuple #[s0 1 0, ii r1.2], (by kernel_rfl), (by kernel_rfl), (by kernel_rfl), rfl⟩
 | false =>
  have h := cF b1 h
  refine iF (.tmp 14) ?_
  refine kQ ?_
  show XQ _ _ _ _ _ _ _ _
  refine qQ ?_
  refine rS 2 [(16, .func (.func 88) #[] #[]), (17, s0 3 r1.1.length)] ?_
  refine XR.callK E0_ok [18] rfl (K := 88) (args := [s0 3 r1.1.length]) (d := (some (path 12 18))) (by kernel_rfl) ?_
  refine KC.bodyN E0_ok (F := Proofs.Tryd.f88) (by kernel_rfl) (code := f43_C88) (by kernel_rfl) (nt := 20) (by kernel_rfl) (rs := [.tmp 2]) (by kernel_rfl) (by kernel_rfl) (σ := [(0, s0 3 r1.1.length)]) (by kernel_rfl) ?_
  refine qQ ?_
  refine rS 1 [(0, s0 3 r1.1.length)] ?_
  refine nQ id ?_
  refine rS 1 [(0, s0 3 r1.1.length), (3, .slice none 0 0)] ?_
  refine dQ ?_
  show XQ _ _ _ _ _ _ _ _
  refine XQ.ghost 3 1 rfl (σ' := [(0, s0 3 r1.1.length), (3, s0 4 0)]) (h' := ((3, rc (encI .u64) r1.1 0 117 1) :: qug6 a_Sorters a_Tables [(0, rc encP a_Tables z0 y0 2)])) ⟨rfl, rfl, trivial⟩ ⟨⟨_, rfl, .inl rfl⟩, ⟨_, rfl, .inl rfl⟩, ⟨_, rfl, .inl rfl⟩, ⟨_, rfl, .inl rfl⟩, trivial⟩ ?_
  refine XQ.conv (σ' := [(0, s0 3 r1.1.length), (3, s0 4 0)]) (h' := ((4, rI []) :: (3, rc (encI .u64) r1.1 0 117 1) :: qug6 a_Sorters a_Tables [(0, rc encP a_Tables z0 y0 2)])) (c' := 5) ?_ (by kernel_rfl)
  refine sQ ?_
  refine qQ ?_
  refine rS 3 [(3, s0 4 0), (6, s0 3 r1.1.length), (7, ii ((r1.1.length : Nat) : Int)), (8, ii 0)] ?_
  refine dQ ?_
  show XQ _ _ _ _ _ _ _ _
  refine XQ.block (id := 0) (by kernel_rfl) ?_
  refine XQ.loop m (by kernel_rfl) ?_
  obtain ⟨o1, o1_h, h⟩ := bS h
  refine XL.ren (σ' := [(3, s0 4 0), (6, s0 3 r1.1.length), (7, ii ((r1.1.length : Nat) : Int)), (8, ii 0)]) (h' := ((4, rI []) :: (3, rc (encI .u64) r1.1 0 117 1) :: qug6 a_Sorters a_Tables [(0, rc encP a_Tables z0 y0 2)])) (c' := 5) [0, 1, 2, 3, 4] (by decide) rfl ⟨rfl, rfl, rfl, rfl, trivial⟩ ⟨⟨_, _, rfl, rfl, .inl ⟨rfl, rwI⟩⟩, ⟨_, _, rfl, rfl, .inl ⟨rfl, rowC_scal (encI_ok .u64) _⟩⟩, ⟨_, _, rfl, rfl, .inr ⟨_, _, _, _, rfl, rfl⟩⟩, ⟨_, _, rfl, rfl, .inr ⟨_, _, _, _, rfl, rfl⟩⟩, ⟨_, _, rfl, rfl, .inl ⟨rfl, rwP⟩⟩, trivial⟩ rfl ?_
  refine XL.conv (f43_1_ok m m z0 y0 a_Sorters a_Tables ((r1.1.length : Nat) : Int) 0 r1.1 [] o1 o1_h _ ?_) (by first | with_reducible rfl | simp | rfl)
  show XQ _ _ _ _ _ _ _ _
  refine qQ ?_
  refine rS 3 [(2, .iface 22 (s0 4 o1.2.length))] ?_
  refine dQ ?_
  show XQ _ _ _ _ _ _ _ _
  refine XQ.ret (by kernel_rfl) ?_
  refine ⟨fun i q => (by cases q), .iface 22 (s0 4 o1.2.length), (by kernel_rfl), ?_⟩
  refine XR.conv (σ' := [(18, .iface 22 (s0 4 o1.2.length))]) (h' := ((4, rI o1.2) :: (3, rc (encI .u64) o1.1 0 117 1) :: qug6 a_Sorters a_Tables [(0, rc encP a_Tables z0 y0 2)])) (c' := 5) ?_ (by kernel_rfl)
  refine rS 2 [(4, .iface 22 (s0 4 o1.2.length)), (5, ii 0)] ?_
  refine dQ ?_
  show XQ _ _ _ _ _ _ _ _
  refine XQ.ret (by kernel_rfl) ?_
  refine ⟨fun i q => (by cases q), .tuple #[.iface 22 (s0 4 o1.2.length), ii 0], (by kernel_rfl), ?_⟩
  refine XR.conv (σ' := [(10, .tuple #[.iface 22 (s0 4 o1.2.length), ii 0])]) (h' := ((4, rI o1.2) :: (3, rc (encI .u64) o1.1 0 117 1) :: qug6 a_Sorters a_Tables [(0, rc encP a_Tables z0 y0 2)])) (c' := 5) ?_ (by kernel_rfl)
  refine rS 5 [(4, .iface 22 (s0 4 o1.2.length)), (5, ii 0)] ?_
  refine nQ id ?_
  refine rS 7 [(5, ii 0), (6, s0 4 o1.2.length)] ?_
  refine nQ id ?_
  refine rS 4 [(2, s0 4 o1.2.length), (3, ii 0)] ?_
  refine dQ ?_
  show XQ _ _ _ _ _ _ _ _
  refine XQ.ren (σ' := [(2, s0 1 o1.2.length), (3, ii 0)]) (h' := [(1, rI o1.2), (0, rc encP a_Tables z0 y0 2)]) (c' := 2) [0, 4] (by decide) rfl ⟨rfl, rfl, trivial⟩ ⟨⟨_, _, rfl, rfl, .inl ⟨rfl, rwI⟩⟩, ⟨_, _, rfl, rfl, .inl ⟨rfl, rwP⟩⟩, trivial⟩ rfl ?_
  refine XQ.ret (by kernel_rfl) ?_
  have h := Option.some.inj h
  subst h
  exact ⟨fun i q => (by cases q), .tuple #[s0 1 o1.2.length, ii 0], (by kernel_rfl), (by kernel_rfl), (by kernel_rfl), rfl⟩
end Go.Xm
namespace Go.Xm
open Go.RowKit
set_option linter.unusedVariables false
set_option linter.unusedSimpArgs false
set_option maxRecDepth 20000
noncomputable def f32_C32 : Code := Proofs.Tryd.f32.body.getD .skip
noncomputable def f32_L1 : Code := lft (lft (rgt (lft (rgt (rgt f32_C32)))))
def f32_1 (m : Nat) : Nat → List (Int × Int) → Int → Int → List Int → Option (List Int)
 | 0, _, _, _, _ => none
 | fuel + 1, a_Tables, x11_1, x12_1, lh1_1 =>
  cond (decide (x12_1 < x11_1)) (
   cond (inRow x12_1 a_Tables.length) (
    cond (inRow ((List.getD a_Tables (Int.toNat x12_1) (0, 0)).1) lh1_1.length) (
     cond (inRow ((List.getD a_Tables (Int.toNat x12_1) (0, 0)).2) lh1_1.length) (
      f32_1 m fuel a_Tables x11_1 (w64 (x12_1 + 1)) (List.set (List.set lh1_1 (Int.toNat ((List.getD a_Tables (Int.toNat x12_1) (0, 0)).1)) (w64 ((List.getD lh1_1 (Int.toNat ((List.getD a_Tables (Int.toNat x12_1) (0, 0)).1)) 0) + 1))) (Int.toNat ((List.getD a_Tables (Int.toNat x12_1) (0, 0)).2)) (w64 ((List.getD (List.set lh1_1 (Int.toNat ((List.getD a_Tables (Int.toNat x12_1) (0, 0)).1)) (w64 ((List.getD lh1_1 (Int.toNat ((List.getD a_Tables (Int.toNat x12_1) (0, 0)).1)) 0) + 1))) (Int.toNat ((List.getD a_Tables (Int.toNat x12_1) (0, 0)).2)) 0) + 1)))
     ) none
    ) none
   ) none
  ) (
   some (lh1_1)
  )
theorem f32_1_ok (m : Nat) : ∀ (fuel : Nat) (z0 : Nat) (y0 : Nat) (a_Tables : List (Int × Int)) (x11_1 : Int) (x12_1 : Int) (lh1_1 : List Int) (o : (List Int)), f32_1 m fuel a_Tables x11_1 x12_1 lh1_1 = some o → ∀ Q : QP, Q (.exit 0) [(3, s0 1 o.length)] [(1, rI o), (0, rc encP a_Tables z0 y0 2)] 2 → XL E0 32 1 fuel f32_L1 [(3, s0 1 lh1_1.length), (10, s0 0 a_Tables.length), (11, ii x11_1), (12, ii x12_1)] [(1, rI lh1_1), (0, rc encP a_Tables z0 y0 2)] 2 Q
 | 0, z0, y0, a_Tables, x11_1, x12_1, lh1_1, o, h, Q, hQ => by cases h
 | fuel + 1, z0, y0, a_Tables, x11_1, x12_1, lh1_1, o, h, Q, hQ => by
  unfold f32_1 at h
  refine XL.succ E0_ok ?_
  refine qQ ?_
  refine rS 1 [(3, s0 1 lh1_1.length), (10, s0 0 a_Tables.length), (11, ii x11_1), (12, ii x12_1), (13, .bool (decide (x12_1 < x11_1)))] ?_
  refine dQ ?_
  show XQ _ _ _ _ _ _ _ _
  refine sQ ?_
  cases b1 : (decide (x12_1 < x11_1) : Bool) with
  | true =>
   have h := cT b1 h
   refine iT (.tmp 13) ?_
   refine kQ ?_
   show XQ _ _ _ _ _ _ _ _
   refine sQ ?_
   refine XQ.block (id := 1) (by kernel_rfl) ?_
   refine qQ ?_
   cases b2 : (inRow x12_1 a_Tables.length : Bool) with
   | false => cases (cF b2 h)
   | true =>
    have h := cT b2 h
    refine XR.rd E0_ok [3, 10, 11, 12, 14] rfl (v := pp 0 ((Int.toNat x12_1) * 2)) (v_idx (s := 2) (x := (src 32 (.tmp 10))) (y := (src 32 (.tmp 12))) (b := 0) (o := 0) (len := a_Tables.length) (cap := a_Tables.length) (ik := .i64) (i := x12_1) (off := (Int.toNat x12_1) * 2) (d := (some (path 12 14))) (by kernel_rfl) (by kernel_rfl) (by kernel_rfl) b2 (by omega)) (σ' := [(3, s0 1 lh1_1.length), (10, s0 0 a_Tables.length), (11, ii x11_1), (12, ii x12_1), (14, pp 0 ((Int.toNat x12_1) * 2))]) (by kernel_rfl) ?_
    refine XR.rd E0_ok [3, 10, 11, 12, 15] rfl (v := .agg #[ii ((List.getD a_Tables (Int.toNat x12_1) (0, 0)).1), ii ((List.getD a_Tables (Int.toNat x12_1) (0, 0)).2)]) (v_loadN encP_ok (x := (src 32 (.tmp 14))) (b := 0) (off := (Int.toNat x12_1) * 2) (xs := a_Tables) (fz := z0) (e := y0) (es := 2) (d := (some (path 12 15))) (by kernel_rfl) (by kernel_rfl) (by kernel_rfl) (Int.toNat x12_1) (0, 0) (by first | with_reducible rfl | omega | rfl) (row_len (inRow_toNat b2) (by simp)) rfl) (σ' := [(3, s0 1 lh1_1.length), (10, s0 0 a_Tables.length), (11, ii x11_1), (12, ii x12_1), (15, .agg #[ii ((List.getD a_Tables (Int.toNat x12_1) (0, 0)).1), ii ((List.getD a_Tables (Int.toNat x12_1) (0, 0)).2)])]) (by kernel_rfl) ?_
    refine rT 2 [(3, s0 1 lh1_1.length), (5, pp 2 0), (10, s0 0 a_Tables.length), (11, ii x11_1), (12, ii x12_1)] [(2, .cells [ii ((List.getD a_Tables (Int.toNat x12_1) (0, 0)).1), ii ((List.getD a_Tables (Int.toNat x12_1) (0, 0)).2)] 0 55 0), (1, rI lh1_1), (0, rc encP a_Tables z0 y0 2)] 3 ?_
    refine nQ id ?_
    refine rS 3 [(3, s0 1 lh1_1.length), (5, pp 2 0), (10, s0 0 a_Tables.length), (11, ii x11_1), (12, ii x12_1), (16, s0 1 lh1_1.length), (18, ii ((List.getD a_Tables (Int.toNat x12_1) (0, 0)).1))] ?_
    cases b3 : (inRow ((List.getD a_Tables (Int.toNat x12_1) (0, 0)).1) lh1_1.length : Bool) with
    | false => cases (cF b3 h)
    | true =>
     have h := cT b3 h
     refine XR.rd E0_ok [3, 5, 10, 11, 12, 16, 18, 19] rfl (v := pp 1 ((Int.toNat ((List.getD a_Tables (Int.toNat x12_1) (0, 0)).1)) * 1)) (v_idx (s := 1) (x := (src 32 (.tmp 16))) (y := (src 32 (.tmp 18))) (b := 1) (o := 0) (len := lh1_1.length) (cap := lh1_1.length) (ik := .i64) (i := (List.getD a_Tables (Int.toNat x12_1) (0, 0)).1) (off := (Int.toNat ((List.getD a_Tables (Int.toNat x12_1) (0, 0)).1)) * 1) (d := (some (path 12 19))) (by kernel_rfl) (by kernel_rfl) (by kernel_rfl) b3 (by omega)) (σ' := [(3, s0 1 lh1_1.length), (5, pp 2 0), (10, s0 0 a_Tables.length), (11, ii x11_1), (12, ii x12_1), (16, s0 1 lh1_1.length), (18, ii ((List.getD a_Tables (Int.toNat x12_1) (0, 0)).1)), (19, pp 1 ((Int.toNat ((List.getD a_Tables (Int.toNat x12_1) (0, 0)).1)) * 1))]) (by kernel_rfl) ?_
     refine XR.rd E0_ok [3, 5, 10, 11, 12, 16, 18, 20] rfl (v := ii (List.getD lh1_1 (Int.toNat ((List.getD a_Tables (Int.toNat x12_1) (0, 0)).1)) 0)) (v_load1 (encI_ok .i64) (x := (src 32 (.tmp 19))) (b := 1) (off := (Int.toNat ((List.getD a_Tables (Int.toNat x12_1) (0, 0)).1)) * 1) (xs := lh1_1) (fz := 0) (e := 3) (es := 1) (d := (some (path 12 20))) (by kernel_rfl) (by kernel_rfl) (by kernel_rfl) (Int.toNat ((List.getD a_Tables (Int.toNat x12_1) (0, 0)).1)) 0 0 (by first | with_reducible rfl | omega | rfl) (row_len (inRow_toNat b3) (by simp)) rfl rfl) (σ' := [(3, s0 1 lh1_1.length), (5, pp 2 0), (10, s0 0 a_Tables.length), (11, ii x11_1), (12, ii x12_1), (16, s0 1 lh1_1.length), (18, ii ((List.getD a_Tables (Int.toNat x12_1) (0, 0)).1)), (20, ii (List.getD lh1_1 (Int.toNat ((List.getD a_Tables (Int.toNat x12_1) (0, 0)).1)) 0))]) (by kernel_rfl) ?_
     refine rS 1 [(3, s0 1 lh1_1.length), (5, pp 2 0), (10, s0 0 a_Tables.length), (11, ii x11_1), (12, ii x12_1), (16, s0 1 lh1_1.length), (18, ii ((List.getD a_Tables (Int.toNat x12_1) (0, 0)).1)), (21, ii (w64 ((List.getD lh1_1 (Int.toNat ((List.getD a_Tables (Int.toNat x12_1) (0, 0)).1)) 0) + 1)))] ?_
     refine XR.rd E0_ok [3, 5, 10, 11, 12, 21, 22] rfl (v := pp 1 ((Int.toNat ((List.getD a_Tables (Int.toNat x12_1) (0, 0)).1)) * 1)) (v_idx (s := 1) (x := (src 32 (.tmp 16))) (y := (src 32 (.tmp 18))) (b := 1) (o := 0) (len := lh1_1.length) (cap := lh1_1.length) (ik := .i64) (i := (List.getD a_Tables (Int.toNat x12_1) (0, 0)).1) (off := (Int.toNat ((List.getD a_Tables (Int.toNat x12_1) (0, 0)).1)) * 1) (d := (some (path 12 22))) (by kernel_rfl) (by kernel_rfl) (by kernel_rfl) b3 (by omega)) (σ' := [(3, s0 1 lh1_1.length), (5, pp 2 0), (10, s0 0 a_Tables.length), (11, ii x11_1), (12, ii x12_1), (21, ii (w64 ((List.getD lh1_1 (Int.toNat ((List.getD a_Tables (Int.toNat x12_1) (0, 0)).1)) 0) + 1))), (22, pp 1 ((Int.toNat ((List.getD a_Tables (Int.toNat x12_1) (0, 0)).1)) * 1))]) (by kernel_rfl) ?_
     refine XR.ef E0_ok [3, 5, 10, 11, 12] rfl (e_store (encI_ok .i64) (size := 1) (x := (src 32 (.tmp 22))) (y := (src 32 (.tmp 21))) (b := 1) (off := (Int.toNat ((List.getD a_Tables (Int.toNat x12_1) (0, 0)).1)) * 1) (xs := lh1_1) (e := 3) (es := 1) (d := none) (h' := [(2, .cells [ii ((List.getD a_Tables (Int.toNat x12_1) (0, 0)).1), ii ((List.getD a_Tables (Int.toNat x12_1) (0, 0)).2)] 0 55 0), (1, rI (List.set lh1_1 (Int.toNat ((List.getD a_Tables (Int.toNat x12_1) (0, 0)).1)) (w64 ((List.getD lh1_1 (Int.toNat ((List.getD a_Tables (Int.toNat x12_1) (0, 0)).1)) 0) + 1)))), (0, rc encP a_Tables z0 y0 2)]) (w := ii (w64 ((List.getD lh1_1 (Int.toNat ((List.getD a_Tables (Int.toNat x12_1) (0, 0)).1)) 0) + 1))) (ws := [ii (w64 ((List.getD lh1_1 (Int.toNat ((List.getD a_Tables (Int.toNat x12_1) (0, 0)).1)) 0) + 1))]) (a := w64 ((List.getD lh1_1 (Int.toNat ((List.getD a_Tables (Int.toNat x12_1) (0, 0)).1)) 0) + 1)) (by kernel_rfl) (by kernel_rfl) (by kernel_rfl) (Int.toNat ((List.getD a_Tables (Int.toNat x12_1) (0, 0)).1)) 0 0 (by first | with_reducible rfl | omega | rfl) (row_len (inRow_toNat b3) (by simp)) (by kernel_rfl) rfl rfl rfl rfl rfl (by kernel_rfl)) (σ' := [(3, s0 1 lh1_1.length), (5, pp 2 0), (10, s0 0 a_Tables.length), (11, ii x11_1), (12, ii x12_1)]) (by kernel_rfl) ?_
     refine dQ ?_
     show XQ _ _ _ _ _ _ _ _
     refine rQ ?_
     refine rS 3 [(3, s0 1 lh1_1.length), (10, s0 0 a_Tables.length), (11, ii x11_1), (12, ii x12_1), (23, s0 1 lh1_1.length), (25, ii ((List.getD a_Tables (Int.toNat x12_1) (0, 0)).2))] ?_
     cases b4 : (inRow ((List.getD a_Tables (Int.toNat x12_1) (0, 0)).2) lh1_1.length : Bool) with
     | false => cases (cF b4 h)
     | true =>
      have h := cT b4 h
      refine XR.rd E0_ok [3, 10, 11, 12, 23, 25, 26] rfl (v := pp 1 ((Int.toNat ((List.getD a_Tables (Int.toNat x12_1) (0, 0)).2)) * 1)) (v_idx (s := 1) (x := (src 32 (.tmp 23))) (y := (src 32 (.tmp 25))) (b := 1) (o := 0) (len := lh1_1.length) (cap := lh1_1.length) (ik := .i64) (i := (List.getD a_Tables (Int.toNat x12_1) (0, 0)).2) (off := (Int.toNat ((List.getD a_Tables (Int.toNat x12_1) (0, 0)).2)) * 1) (d := (some (path 12 26))) (by kernel_rfl) (by kernel_rfl) (by kernel_rfl) b4 (by omega)) (σ' := [(3, s0 1 lh1_1.length), (10, s0 0 a_Tables.length), (11, ii x11_1), (12, ii x12_1), (23, s0 1 lh1_1.length), (25, ii ((List.getD a_Tables (Int.toNat x12_1) (0, 0)).2)), (26, pp 1 ((Int.toNat ((List.getD a_Tables (Int.toNat x12_1) (0, 0)).2)) * 1))]) (by kernel_rfl) ?_
      refine XR.rd E0_ok [3, 10, 11, 12, 23, 25, 27] rfl (v := ii (List.getD (List.set lh1_1 (Int.toNat ((List.getD a_Tables (Int.toNat x12_1) (0, 0)).1)) (w64 ((List.getD lh1_1 (Int.toNat ((List.getD a_Tables (Int.toNat x12_1) (0, 0)).1)) 0) + 1))) (Int.toNat ((List.getD a_Tables (Int.toNat x12_1) (0, 0)).2)) 0)) (v_load1 (encI_ok .i64) (x := (src 32 (.tmp 26))) (b := 1) (off := (Int.toNat ((List.getD a_Tables (Int.toNat x12_1) (0, 0)).2)) * 1) (xs := List.set lh1_1 (Int.toNat ((List.getD a_Tables (Int.toNat x12_1) (0, 0)).1)) (w64 ((List.getD lh1_1 (Int.toNat ((List.getD a_Tables (Int.toNat x12_1) (0, 0)).1)) 0) + 1))) (fz := 0) (e := 3) (es := 1) (d := (some (path 12 27))) (by kernel_rfl) (by kernel_rfl) (by kernel_rfl) (Int.toNat ((List.getD a_Tables (Int.toNat x12_1) (0, 0)).2)) 0 0 (by first | with_reducible rfl | omega | rfl) (row_len (inRow_toNat b4) (by simp)) rfl rfl) (σ' := [(3, s0 1 lh1_1.length), (10, s0 0 a_Tables.length), (11, ii x11_1), (12, ii x12_1), (23, s0 1 lh1_1.length), (25, ii ((List.getD a_Tables (Int.toNat x12_1) (0, 0)).2)), (27, ii (List.getD (List.set lh1_1 (Int.toNat ((List.getD a_Tables (Int.toNat x12_1) (0, 0)).1)) (w64 ((List.getD lh1_1 (Int.toNat ((List.getD a_Tables (Int.toNat x12_1) (0, 0)).1)) 0) + 1))) (Int.toNat ((List.getD a_Tables (Int.toNat x12_1) (0, 0)).2)) 0))]) (by kernel_rfl) ?_
      refine rS 1 [(3, s0 1 lh1_1.length), (10, s0 0 a_Tables.length), (11, ii x11_1), (12, ii x12_1), (23, s0 1 lh1_1.length), (25, ii ((List.getD a_Tables (Int.toNat x12_1) (0, 0)).2)), (28, ii (w64 ((List.getD (List.set lh1_1 (Int.toNat ((List.getD a_Tables (Int.toNat x12_1) (0, 0)).1)) (w64 ((List.getD lh1_1 (Int.toNat ((List.getD a_Tables (Int.toNat x12_1) (0, 0)).1)) 0) + 1))) (Int.toNat ((List.getD a_Tables (Int.toNat x12_1) (0, 0)).2)) 0) + 1)))] ?_
      refine XR.rd E0_ok [3, 10, 11, 12, 28, 29] rfl (v := pp 1 ((Int.toNat ((List.getD a_Tables (Int.toNat x12_1) (0, 0)).2)) * 1)) (v_idx (s := 1) (x := (src 32 (.tmp 23))) (y := (src 32 (.tmp 25))) (b := 1) (o := 0) (len := lh1_1.length) (cap := lh1_1.length) (ik := .i64) (i := (List.getD a_Tables (Int.toNat x12_1) (0, 0)).2) (off := (Int.toNat ((List.getD a_Tables (Int.toNat x12_1) (0, 0)).2)) * 1) (d := (some (path 12 29))) (by kernel_rfl) (by kernel_rfl) (by kernel_rfl) b4 (by omega)) (σ' := [(3, s0 1 lh1_1.length), (10, s0 0 a_Tables.length), (11, ii x11_1), (12, ii x12_1), (28, ii (w64 ((List.getD (List.set lh1_1 (Int.toNat ((List.getD a_Tables (Int.toNat x12_1) (0, 0)).1)) (w64 ((List.getD lh1_1 (Int.toNat ((List.getD a_Tables (Int.toNat x12_1) (0, 0)).1)) 0) + 1))) (Int.toNat ((List.getD a_Tables (Int.toNat x12_1) (0, 0)).2)) 0) + 1))), (29, pp 1 ((Int.toNat ((List.getD a_Tables (Int.toNat x12_1) (0, 0)).2)) * 1))]) (by kernel_rfl) ?_
      refine XR.ef E0_ok [3, 10, 11, 12] rfl (e_store (encI_ok .i64) (size := 1) (x := (src 32 (.tmp 29))) (y := (src 32 (.tmp 28))) (b := 1) (off := (Int.toNat ((List.getD a_Tables (Int.toNat x12_1) (0, 0)).2)) * 1) (xs := List.set lh1_1 (Int.toNat ((List.getD a_Tables (Int.toNat x12_1) (0, 0)).1)) (w64 ((List.getD lh1_1 (Int.toNat ((List.getD a_Tables (Int.toNat x12_1) (0, 0)).1)) 0) + 1))) (e := 3) (es := 1) (d := none) (h' := [(2, .cells [ii ((List.getD a_Tables (Int.toNat x12_1) (0, 0)).1), ii ((List.getD a_Tables (Int.toNat x12_1) (0, 0)).2)] 0 55 0), (1, rI (List.set (List.set lh1_1 (Int.toNat ((List.getD a_Tables (Int.toNat x12_1) (0, 0)).1)) (w64 ((List.getD lh1_1 (Int.toNat ((List.getD a_Tables (Int.toNat x12_1) (0, 0)).1)) 0) + 1))) (Int.toNat ((List.getD a_Tables (Int.toNat x12_1) (0, 0)).2)) (w64 ((List.getD (List.set lh1_1 (Int.toNat ((List.getD a_Tables (Int.toNat x12_1) (0, 0)).1)) (w64 ((List.getD lh1_1 (Int.toNat ((List.getD a_Tables (Int.toNat x12_1) (0, 0)).1)) 0) + 1))) (Int.toNat ((List.getD a_Tables (Int.toNat x12_1) (0, 0)).2)) 0) + 1)))), (0, rc encP a_Tables z0 y0 2)]) (w := ii (w64 ((List.getD (List.set lh1_1 (Int.toNat ((List.getD a_Tables (Int.toNat x12_1) (0, 0)).1)) (w64 ((List.getD lh1_1 (Int.toNat ((List.getD a_Tables (Int.toNat x12_1) (0, 0)).1)) 0) + 1))) (Int.toNat ((List.getD a_Tables (Int.toNat x12_1) (0, 0)).2)) 0) + 1))) (ws := [ii (w64 ((List.getD (List.set lh1_1 (Int.toNat ((List.getD a_Tables (Int.toNat x12_1) (0, 0)).1)) (w64 ((List.getD lh1_1 (Int.toNat ((List.getD a_Tables (Int.toNat x12_1) (0, 0)).1)) 0) + 1))) (Int.toNat ((List.getD a_Tables (Int.toNat x12_1) (0, 0)).2)) 0) + 1))]) (a := w64 ((List.getD (List.set lh1_1 (Int.toNat ((List.getD a_Tables (Int.toNat x12_1) (0, 0)).1)) (w64 ((List.getD lh1_1 (Int.toNat ((List.getD a_Tables (Int.toNat x12_1) (0, 0)).1)) 0) + 1))) (Int.toNat ((List.getD a_Tables (Int.toNat x12_1) (0, 0)).2)) 0) + 1)) (by kernel_rfl) (by kernel_rfl) (by kernel_rfl) (Int.toNat ((List.getD a_Tables (Int.toNat x12_1) (0, 0)).2)) 0 0 (by first | with_reducible rfl | omega | rfl) (row_len (inRow_toNat b4) (by simp)) (by kernel_rfl) rfl rfl rfl rfl rfl (by kernel_rfl)) (σ' := [(3, s0 1 lh1_1.length), (10, s0 0 a_Tables.length), (11, ii x11_1), (12, ii x12_1)]) (by kernel_rfl) ?_
      refine dQ ?_
      show XQ _ _ _ _ _ _ _ _
      refine rQ ?_
      refine rS 2 [(3, s0 1 lh1_1.length), (10, s0 0 a_Tables.length), (11, ii x11_1), (12, ii (w64 (x12_1 + 1)))] ?_
      refine dQ ?_
      show XL _ _ _ _ _ _ _ _ _
      refine XL.ren (σ' := [(3, s0 1 lh1_1.length), (10, s0 0 a_Tables.length), (11, ii x11_1), (12, ii (w64 (x12_1 + 1)))]) (h' := [(1, rI (List.set (List.set lh1_1 (Int.toNat ((List.getD a_Tables (Int.toNat x12_1) (0, 0)).1)) (w64 ((List.getD lh1_1 (Int.toNat ((List.getD a_Tables (Int.toNat x12_1) (0, 0)).1)) 0) + 1))) (Int.toNat ((List.getD a_Tables (Int.toNat x12_1) (0, 0)).2)) (w64 ((List.getD (List.set lh1_1 (Int.toNat ((List.getD a_Tables (Int.toNat x12_1) (0, 0)).1)) (w64 ((List.getD lh1_1 (Int.toNat ((List.getD a_Tables (Int.toNat x12_1) (0, 0)).1)) 0) + 1))) (Int.toNat ((List.getD a_Tables (Int.toNat x12_1) (0, 0)).2)) 0) + 1)))), (0, rc encP a_Tables z0 y0 2)]) (c' := 2) [0, 1] (by decide) rfl ⟨rfl, rfl, rfl, rfl, trivial⟩ ⟨⟨_, _, rfl, rfl, .inl ⟨rfl, rwI⟩⟩, ⟨_, _, rfl, rfl, .inl ⟨rfl, rwP⟩⟩, trivial⟩ rfl ?_
      refine XL.conv (f32_1_ok m fuel z0 y0 a_Tables x11_1 (w64 (x12_1 + 1)) (List.set (List.set lh1_1 (Int.toNat ((List.getD a_Tables (Int.toNat x12_1) (0, 0)).1)) (w64 ((List.getD lh1_1 (Int.toNat ((List.getD a_Tables (Int.toNat x12_1) (0, 0)).1)) 0) + 1))) (Int.toNat ((List.getD a_Tables (Int.toNat x12_1) (0, 0)).2)) (w64 ((List.getD (List.set lh1_1 (Int.toNat ((List.getD a_Tables (Int.toNat x12_1) (0, 0)).1)) (w64 ((List.getD lh1_1 (Int.toNat ((List.getD a_Tables (Int.toNat x12_1) (0, 0)).1)) 0) + 1))) (Int.toNat ((List.getD a_Tables (Int.toNat x12_1) (0, 0)).2)) 0) + 1))) o h Q hQ) (by first | with_reducible rfl | simp | rfl)
  | false =>
   have h := cF b1 h
   refine iF (.tmp 13) ?_
   refine XQ.ren (σ' := [(3, s0 1 lh1_1.length)]) (h' := [(1, rI lh1_1), (0, rc encP a_Tables z0 y0 2)]) (c' := 2) [0, 1] (by decide) rfl ⟨rfl, trivial⟩ ⟨⟨_, _, rfl, rfl, .inl ⟨rfl, rwI⟩⟩, ⟨_, _, rfl, rfl, .inl ⟨rfl, rwP⟩⟩, trivial⟩ rfl ?_
   refine XQ.exit (i := 0) (by kernel_rfl) ?_
   cases h
   exact hQ
def f32 (m : Nat) (a_Sorters : Int) (a_Tables : List (Int × Int)) : Option (List Int) :=
 cond (mkOK a_Sorters a_Sorters 8) (
  (f32_1 m m a_Tables ((a_Tables.length : Nat) : Int) 0 (List.replicate (Int.toNat a_Sorters) 0)).bind fun o1 =>
   some (o1)
 ) none
theorem f32_ok (m : Nat) (z0 : Nat) (y0 : Nat) (a_Sorters : Int) (a_Tables : List (Int × Int)) (o : List Int) (h : f32 m a_Sorters a_Tables = some o) : KC E0 32 [.agg #[ii a_Sorters, s0 0 a_Tables.length]] [(0, rc encP a_Tables z0 y0 2)] 1 (fun v h' c' => v = s0 1 o.length ∧ h' = [(1, rI o)] ++ [(0, rc encP a_Tables z0 y0 2)] ∧ c' = 2) := by
 refine KC.bodyN E0_ok (F := Proofs.Tryd.f32) (by kernel_rfl) (code := f32_C32) (by kernel_rfl) (nt := 32) (by kernel_rfl) (rs := [.tmp 2]) (by kernel_rfl) (by kernel_rfl) (σ := [(0, .agg #[ii a_Sorters, s0 0 a_Tables.length])]) (by kernel_rfl) ?_
 unfold f32 at h
 refine qQ ?_
 refine rT 2 [(1, pp 1 0)] [(1, .cells [ii a_Sorters, s0 0 a_Tables.length] 0 34 0), (0, rc encP a_Tables z0 y0 2)] 2 ?_
 refine nQ id ?_
 refine rS 2 [(1, pp 1 0), (7, ii a_Sorters)] ?_
 cases b1 : (mkOK a_Sorters a_Sorters 8 : Bool) with
 | false => cases (cF b1 h)
 | true =>
  have h := cT b1 h
  refine XR.ef E0_ok [1, 8] rfl (e_make (encI_ok .i64) (x := (src 32 (.tmp 7))) (y := (src 32 (.tmp 7))) (l := a_Sorters) (n := a_Sorters) (bytes := 8) (e := 3) (z := #[ii 0]) (d := (some (path 12 8))) (by kernel_rfl) (by kernel_rfl) (by kernel_rfl) 0 rfl (by kernel_rfl) b1) (σ' := [(1, pp 1 0), (8, s0 2 (Int.toNat a_Sorters))]) (by kernel_rfl) ?_
  refine rS 1 [(1, pp 1 0), (3, s0 2 (Int.toNat a_Sorters))] ?_
  refine dQ ?_
  show XQ _ _ _ _ _ _ _ _
  refine sQ ?_
  refine qQ ?_
  refine rS 4 [(3, s0 2 (Int.toNat a_Sorters)), (10, s0 0 a_Tables.length), (11, ii ((a_Tables.length : Nat) : Int)), (12, ii 0)] ?_
  refine dQ ?_
  show XQ _ _ _ _ _ _ _ _
  refine XQ.block (id := 0) (by kernel_rfl) ?_
  refine XQ.loop m (by kernel_rfl) ?_
  obtain ⟨o1, o1_h, h⟩ := bS h
  refine XL.ren (σ' := [(3, s0 1 (Int.toNat a_Sorters)), (10, s0 0 a_Tables.length), (11, ii ((a_Tables.length : Nat) : Int)), (12, ii 0)]) (h' := [(1, rI (List.replicate (Int.toNat a_Sorters) 0)), (0, rc encP a_Tables z0 y0 2)]) (c' := 2) [0, 2] (by decide) rfl ⟨rfl, rfl, rfl, rfl, trivial⟩ ⟨⟨_, _, rfl, rfl, .inl ⟨rfl, rwI⟩⟩, ⟨_, _, rfl, rfl, .inl ⟨rfl, rwP⟩⟩, trivial⟩ rfl ?_
  refine XL.conv (f32_1_ok m m z0 y0 a_Tables ((a_Tables.length : Nat) : Int) 0 (List.replicate (Int.toNat a_Sorters) 0) o1 o1_h _ ?_) (by first | with_reducible rfl | simp | rfl)
  show XQ _ _ _ _ _ _ _ _
  refine qQ ?_
  refine rS 2 [(2, s0 1 o1.length)] ?_
  refine dQ ?_
  show XQ _ _ _ _ _ _ _ _
  refine XQ.ren (σ' := [(2, s0 1 o1.length)]) (h' := [(1, rI o1), (0, rc encP a_Tables z0 y0 2)]) (c' := 2) [0, 1] (by decide) rfl ⟨rfl, trivial⟩ ⟨⟨_, _, rfl, rfl, .inl ⟨rfl, rwI⟩⟩, ⟨_, _, rfl, rfl, .inl ⟨rfl, rwP⟩⟩, trivial⟩ rfl ?_
  refine XQ.ret (by kernel_rfl) ?_
  have h := Option.some.inj h
  subst h
  exact ⟨fun i q => (by cases q), s0 1 o1.length, (by kernel_rfl), (by kernel_rfl), (by kernel_rfl), rfl⟩
noncomputable def f33_C33 : Code := Proofs.Tryd.f33.body.getD .skip
noncomputable def f33_L1 : Code := lft (lft (rgt (lft (rgt (rgt (rgt f33_C33))))))
noncomputable def f33_L2 : Code := lft (lft (rgt (rgt (lft (lft (rgt (rgt f33_L1)))))))
def f33_2 (m : Nat) : Nat → Int → Int → Int → Int → Int → List (Int × Int) → Option (Int × (List (Int × Int)))
 | 0, _, _, _, _, _, _ => none
 | fuel + 1, a, b, x12_1, x6_2, x8_2, lh3_2 =>
  cond (decide (x8_2 < a)) (
   cond (decide (0 ≤ x6_2)) (
    cond ((andV .u32 (shV false .u32 b x6_2) 1) == 1) (
     cond (fitsB (lh3_2.length + 1) 16) (
      f33_2 m fuel a b x12_1 (w64 (x6_2 + 1)) (w64 (x8_2 + 1)) (lh3_2 ++ [(x12_1, x8_2)])
     ) none
    ) (
     f33_2 m fuel a b x12_1 (w64 (x6_2 + 1)) (w64 (x8_2 + 1)) lh3_2
    )
   ) none
  ) (
   some (x6_2, lh3_2)
  )

abbrev quh1 (a : Int) (b : Int) (x12_1 : Int) (x6_2 : Int) (x8_2 : Int) (t : St) : St := (0, ii a) :: (1, .int .u32 b) :: (4, pp 0 0) :: (5, pp 1 0) :: (6, ii x6_2) :: (7, ii x12_1) :: (8, ii x8_2) :: (11, ii a) :: (12, ii x12_1) :: t
theorem f33_2_ok (m : Nat) : ∀ (fuel : Nat) (a : Int) (b : Int) (x12_1 : Int) (x6_2 : Int) (x8_2 : Int) (lh3_2 : List (Int × Int)) (o : (Int × (List (Int × Int)))), f33_2 m fuel a b x12_1 x6_2 x8_2 lh3_2 = some o → ∀ Q : QP, Q (.exit 2) [(0, ii a), (1, .int .u32 b), (4, pp 0 0), (5, pp 1 0), (6, ii o.1), (11, ii a), (12, ii x12_1)] [(3, rc encP o.2 0 55 2), (2, rc encP [] 0 55 2), (1, .cells [ii a, s0 3 o.2.length] 0 34 0), (0, .cells [ii 0, s0 2 0] 0 34 0)] 4 → XL E0 39 0 fuel f33_L2 (quh1 a b x12_1 x6_2 x8_2 []) [(3, rc encP lh3_2 0 55 2), (2, rc encP [] 0 55 2), (1, .cells [ii a, s0 3 lh3_2.length] 0 34 0), (0, .cells [ii 0, s0 2 0] 0 34 0)] 4 Q
 | 0, a, b, x12_1, x6_2, x8_2, lh3_2, o, h, Q, hQ => by cases h
 | fuel + 1, a, b, x12_1, x6_2, x8_2, lh3_2, o, h, Q, hQ => by
  unfold f33_2 at h
  refine XL.succ E0_ok ?_
  refine sQ ?_
  refine qQ ?_
  refine rS 3 (quh1 a b x12_1 x6_2 x8_2 [(19, .bool (decide (x8_2 < a)))]) ?_
  refine dQ ?_
  show XQ _ _ _ _ _ _ _ _
  cases b1 : (decide (x8_2 < a) : Bool) with
  | true =>
   have h := cT b1 h
   refine iT (.tmp 19) ?_
   refine kQ ?_
   show XQ _ _ _ _ _ _ _ _
   refine sQ ?_
   refine XQ.block (id := 3) (by kernel_rfl) ?_
   refine sQ ?_
   refine qQ ?_
   refine rS 2 (quh1 a b x12_1 x6_2 x8_2 [(22, .int .u32 b), (23, ii x6_2)]) ?_
   cases b2 : (decide (0 ≤ x6_2) : Bool) with
   | false => cases (cF b2 h)
   | true =>
    have h := cT b2 h
    have e3 : insV (headI ((gsOf E0 39 (opsOf (lft (lft (lft (lft (rgt f33_L2))))))).drop 2) (trS 39 (quh1 a b x12_1 x6_2 x8_2 [(22, .int .u32 b), (23, ii x6_2)]))) (trS 39 (quh1 a b x12_1 x6_2 x8_2 [(22, .int .u32 b), (23, ii x6_2)])) [(3, rc encP lh3_2 0 55 2), (2, rc encP [] 0 55 2), (1, .cells [ii a, s0 3 lh3_2.length] 0 34 0), (0, .cells [ii 0, s0 2 0] 0 34 0)] = (match (decide (0 ≤ x6_2) : Bool) with | true => some (.int .u32 (shV false .u32 b x6_2)) | false => none) := by kernel_rfl
    refine XR.rd E0_ok [0, 1, 4, 5, 6, 7, 8, 11, 12, 24] rfl (e3.trans (by rw [b2])) (σ' := (quh1 a b x12_1 x6_2 x8_2 [(24, .int .u32 (shV false .u32 b x6_2))])) (by kernel_rfl) ?_
    refine rS 2 (quh1 a b x12_1 x6_2 x8_2 [(26, .bool ((andV .u32 (shV false .u32 b x6_2) 1) == 1))]) ?_
    refine dQ ?_
    show XQ _ _ _ _ _ _ _ _
    cases b4 : ((andV .u32 (shV false .u32 b x6_2) 1) == 1 : Bool) with
    | true =>
     have h := cT b4 h
     refine iT (.tmp 26) ?_
     refine rQ ?_
     refine rT 6 (quh1 a b x12_1 x6_2 x8_2 [(28, s0 3 lh3_2.length), (32, s0 4 1)]) [(4, .cells [ii x12_1, ii x8_2] 0 55 2), (3, rc encP lh3_2 0 55 2), (2, rc encP [] 0 55 2), (1, .cells [ii a, s0 3 lh3_2.length] 0 34 0), (0, .cells [ii 0, s0 2 0] 0 34 0)] 5 ?_
     cases b5 : (fitsB (lh3_2.length + 1) 16 : Bool) with
     | false => cases (cF b5 h)
     | true =>
      have h := cT b5 h
      refine XR.ef E0_ok [0, 1, 4, 5, 6, 7, 8, 11, 12, 33] rfl (e_append encP_ok (bytes := 16) (e := 55) (x := (src 39 (.tmp 28))) (y := (src 39 (.tmp 32))) (b := 3) (len := lh3_2.length) (cap := lh3_2.length) (xs := lh3_2) (m := 0) (ys := [(x12_1, x8_2)]) (d := (some (path 12 33))) (n' := (lh3_2 ++ [(x12_1, x8_2)]).length) (h' := [(5, rc encP (lh3_2 ++ [(x12_1, x8_2)]) 0 55 2), (4, .cells [ii x12_1, ii x8_2] 0 55 2), (2, rc encP [] 0 55 2), (1, .cells [ii a, s0 3 lh3_2.length] 0 34 0), (0, .cells [ii 0, s0 2 0] 0 34 0)]) (by kernel_rfl) (by kernel_rfl) (by kernel_rfl) (by kernel_rfl) rfl (by simp) (by simp) b5 (by simp) (by kernel_rfl)) (σ' := (quh1 a b x12_1 x6_2 x8_2 [(33, s0 5 ((lh3_2 ++ [(x12_1, x8_2)]).length))])) (by kernel_rfl) ?_
      refine rT 2 (quh1 a b x12_1 x6_2 x8_2 []) [(5, rc encP (lh3_2 ++ [(x12_1, x8_2)]) 0 55 2), (4, .cells [ii x12_1, ii x8_2] 0 55 2), (2, rc encP [] 0 55 2), (1, .cells [ii a, s0 5 ((lh3_2 ++ [(x12_1, x8_2)]).length)] 0 34 0), (0, .cells [ii 0, s0 2 0] 0 34 0)] 6 ?_
      refine dQ ?_
      show XQ _ _ _ _ _ _ _ _
      refine rQ ?_
      refine rS 3 [(0, ii a), (1, .int .u32 b), (4, pp 0 0), (5, pp 1 0), (6, ii (w64 (x6_2 + 1))), (7, ii x12_1), (8, ii x8_2), (11, ii a), (12, ii x12_1)] ?_
      refine dQ ?_
      show XQ _ _ _ _ _ _ _ _
      refine rQ ?_
      refine rS 3 [(0, ii a), (1, .int .u32 b), (4, pp 0 0), (5, pp 1 0), (6, ii (w64 (x6_2 + 1))), (7, ii x12_1), (8, ii (w64 (x8_2 + 1))), (11, ii a), (12, ii x12_1)] ?_
      refine dQ ?_
      show XL _ _ _ _ _ _ _ _ _
      refine XL.ren (σ' := [(0, ii a), (1, .int .u32 b), (4, pp 0 0), (5, pp 1 0), (6, ii (w64 (x6_2 + 1))), (7, ii x12_1), (8, ii (w64 (x8_2 + 1))), (11, ii a), (12, ii x12_1)]) (h' := [(3, rc encP (lh3_2 ++ [(x12_1, x8_2)]) 0 55 2), (2, rc encP [] 0 55 2), (1, .cells [ii a, s0 3 ((lh3_2 ++ [(x12_1, x8_2)]).length)] 0 34 0), (0, .cells [ii 0, s0 2 0] 0 34 0)]) (c' := 4) [0, 1, 2, 5] (by decide) rfl ⟨rfl, rfl, rfl, rfl, rfl, rfl, rfl, rfl, rfl, trivial⟩ ⟨⟨_, _, rfl, rfl, .inl ⟨rfl, rwP⟩⟩, ⟨_, _, rfl, rfl, .inl ⟨rfl, rwP⟩⟩, ⟨_, _, rfl, rfl, .inr ⟨_, _, _, _, rfl, rfl⟩⟩, ⟨_, _, rfl, rfl, .inr ⟨_, _, _, _, rfl, rfl⟩⟩, trivial⟩ rfl ?_
      refine XL.conv (f33_2_ok m fuel a b x12_1 (w64 (x6_2 + 1)) (w64 (x8_2 + 1)) (lh3_2 ++ [(x12_1, x8_2)]) o h Q hQ) (by first | with_reducible rfl | simp | rfl)
    | false =>
     have h := cF b4 h
     refine iF (.tmp 26) ?_
     refine kQ ?_
     show XQ _ _ _ _ _ _ _ _
     refine rQ ?_
     refine rS 3 [(0, ii a), (1, .int .u32 b), (4, pp 0 0), (5, pp 1 0), (6, ii (w64 (x6_2 + 1))), (7, ii x12_1), (8, ii x8_2), (11, ii a), (12, ii x12_1)] ?_
     refine dQ ?_
     show XQ _ _ _ _ _ _ _ _
     refine rQ ?_
     refine rS 3 [(0, ii a), (1, .int .u32 b), (4, pp 0 0), (5, pp 1 0), (6, ii (w64 (x6_2 + 1))), (7, ii x12_1), (8, ii (w64 (x8_2 + 1))), (11, ii a), (12, ii x12_1)] ?_
     refine dQ ?_
     show XL _ _ _ _ _ _ _ _ _
     refine XL.ren (σ' := [(0, ii a), (1, .int .u32 b), (4, pp 0 0), (5, pp 1 0), (6, ii (w64 (x6_2 + 1))), (7, ii x12_1), (8, ii (w64 (x8_2 + 1))), (11, ii a), (12, ii x12_1)]) (h' := [(3, rc encP lh3_2 0 55 2), (2, rc encP [] 0 55 2), (1, .cells [ii a, s0 3 lh3_2.length] 0 34 0), (0, .cells [ii 0, s0 2 0] 0 34 0)]) (c' := 4) [0, 1, 2, 3] (by decide) rfl ⟨rfl, rfl, rfl, rfl, rfl, rfl, rfl, rfl, rfl, trivial⟩ ⟨⟨_, _, rfl, rfl, .inl ⟨rfl, rwP⟩⟩, ⟨_, _, rfl, rfl, .inl ⟨rfl, rwP⟩⟩, ⟨_, _, rfl, rfl, .inr ⟨_, _, _, _, rfl, rfl⟩⟩, ⟨_, _, rfl, rfl, .inr ⟨_, _, _, _, rfl, rfl⟩⟩, trivial⟩ rfl ?_
     refine XL.conv (f33_2_ok m fuel a b x12_1 (w64 (x6_2 + 1)) (w64 (x8_2 + 1)) lh3_2 o h Q hQ) (by first | with_reducible rfl | simp | rfl)
  | false =>
   have h := cF b1 h
   refine iF (.tmp 19) ?_
   refine XQ.ren (σ' := [(0, ii a), (1, .int .u32 b), (4, pp 0 0), (5, pp 1 0), (6, ii x6_2), (11, ii a), (12, ii x12_1)]) (h' := [(3, rc encP lh3_2 0 55 2), (2, rc encP [] 0 55 2), (1, .cells [ii a, s0 3 lh3_2.length] 0 34 0), (0, .cells [ii 0, s0 2 0] 0 34 0)]) (c' := 4) [0, 1, 2, 3] (by decide) rfl ⟨rfl, rfl, rfl, rfl, rfl, rfl, rfl, trivial⟩ ⟨⟨_, _, rfl, rfl, .inl ⟨rfl, rwP⟩⟩, ⟨_, _, rfl, rfl, .inl ⟨rfl, rwP⟩⟩, ⟨_, _, rfl, rfl, .inr ⟨_, _, _, _, rfl, rfl⟩⟩, ⟨_, _, rfl, rfl, .inr ⟨_, _, _, _, rfl, rfl⟩⟩, trivial⟩ rfl ?_
   refine XQ.exit (i := 2) (by kernel_rfl) ?_
   cases h
   exact hQ
def f33_1 (m : Nat) : Nat → Int → Int → Int → Int → List (Int × Int) → Option (List (Int × Int))
 | 0, _, _, _, _, _ => none
 | fuel + 1, a, b, x6_1, x12_1, lh3_1 =>
  cond (decide (x12_1 < a)) (
   (f33_2 m m a b x12_1 x6_1 (w64 (x12_1 + 1)) lh3_1).bind fun o2 =>
    f33_1 m fuel a b o2.1 (w64 (x12_1 + 1)) o2.2
  ) (
   some (lh3_1)
  )
theorem f33_1_ok (m : Nat) : ∀ (fuel : Nat) (a : Int) (b : Int) (x6_1 : Int) (x12_1 : Int) (lh3_1 : List (Int × Int)) (o : (List (Int × Int))), f33_1 m fuel a b x6_1 x12_1 lh3_1 = some o → ∀ Q : QP, Q (.exit 0) [(4, pp 0 0), (5, pp 1 0)] [(3, rc encP o 0 55 2), (2, rc encP [] 0 55 2), (1, .cells [ii a, s0 3 o.length] 0 34 0), (0, .cells [ii 0, s0 2 0] 0 34 0)] 4 → XL E0 39 0 fuel f33_L1 [(0, ii a), (1, .int .u32 b), (4, pp 0 0), (5, pp 1 0), (6, ii x6_1), (11, ii a), (12, ii x12_1)] [(3, rc encP lh3_1 0 55 2), (2, rc encP [] 0 55 2), (1, .cells [ii a, s0 3 lh3_1.length] 0 34 0), (0, .cells [ii 0, s0 2 0] 0 34 0)] 4 Q
 | 0, a, b, x6_1, x12_1, lh3_1, o, h, Q, hQ => by cases h
 | fuel + 1, a, b, x6_1, x12_1, lh3_1, o, h, Q, hQ => by
  unfold f33_1 at h
  refine XL.succ E0_ok ?_
  refine qQ ?_
  refine rS 1 [(0, ii a), (1, .int .u32 b), (4, pp 0 0), (5, pp 1 0), (6, ii x6_1), (11, ii a), (12, ii x12_1), (13, .bool (decide (x12_1 < a)))] ?_
  refine dQ ?_
  show XQ _ _ _ _ _ _ _ _
  refine sQ ?_
  cases b1 : (decide (x12_1 < a) : Bool) with
  | true =>
   have h := cT b1 h
   refine iT (.tmp 13) ?_
   refine kQ ?_
   show XQ _ _ _ _ _ _ _ _
   refine sQ ?_
   refine XQ.block (id := 1) (by kernel_rfl) ?_
   refine qQ ?_
   refine rS 2 [(0, ii a), (1, .int .u32 b), (4, pp 0 0), (5, pp 1 0), (6, ii x6_1), (7, ii x12_1), (11, ii a), (12, ii x12_1)] ?_
   refine nQ id ?_
   refine rS 3 [(0, ii a), (1, .int .u32 b), (4, pp 0 0), (5, pp 1 0), (6, ii x6_1), (7, ii x12_1), (8, ii (w64 (x12_1 + 1))), (11, ii a), (12, ii x12_1)] ?_
   refine dQ ?_
   show XQ _ _ _ _ _ _ _ _
   refine XQ.block (id := 2) (by kernel_rfl) ?_
   refine XQ.loop m (by kernel_rfl) ?_
   obtain ⟨o2, o2_h, h⟩ := bS h
   refine XL.ren (σ' := [(0, ii a), (1, .int .u32 b), (4, pp 0 0), (5, pp 1 0), (6, ii x6_1), (7, ii x12_1), (8, ii (w64 (x12_1 + 1))), (11, ii a), (12, ii x12_1)]) (h' := [(3, rc encP lh3_1 0 55 2), (2, rc encP [] 0 55 2), (1, .cells [ii a, s0 3 lh3_1.length] 0 34 0), (0, .cells [ii 0, s0 2 0] 0 34 0)]) (c' := 4) [0, 1, 2, 3] (by decide) rfl ⟨rfl, rfl, rfl, rfl, rfl, rfl, rfl, rfl, rfl, trivial⟩ ⟨⟨_, _, rfl, rfl, .inl ⟨rfl, rwP⟩⟩, ⟨_, _, rfl, rfl, .inl ⟨rfl, rwP⟩⟩, ⟨_, _, rfl, rfl, .inr ⟨_, _, _, _, rfl, rfl⟩⟩, ⟨_, _, rfl, rfl, .inr ⟨_, _, _, _, rfl, rfl⟩⟩, trivial⟩ rfl ?_
   refine XL.conv (f33_2_ok m m a b x12_1 x6_1 (w64 (x12_1 + 1)) lh3_1 o2 o2_h _ ?_) (by first | with_reducible rfl | simp | rfl)
   show XQ _ _ _ _ _ _ _ _
   refine rQ ?_
   refine rS 2 [(0, ii a), (1, .int .u32 b), (4, pp 0 0), (5, pp 1 0), (6, ii o2.1), (11, ii a), (12, ii (w64 (x12_1 + 1)))] ?_
   refine dQ ?_
   show XL _ _ _ _ _ _ _ _ _
   refine XL.ren (σ' := [(0, ii a), (1, .int .u32 b), (4, pp 0 0), (5, pp 1 0), (6, ii o2.1), (11, ii a), (12, ii (w64 (x12_1 + 1)))]) (h' := [(3, rc encP o2.2 0 55 2), (2, rc encP [] 0 55 2), (1, .cells [ii a, s0 3 o2.2.length] 0 34 0), (0, .cells [ii 0, s0 2 0] 0 34 0)]) (c' := 4) [0, 1, 2, 3] (by decide) rfl ⟨rfl, rfl, rfl, rfl, rfl, rfl, rfl, trivial⟩ ⟨⟨_, _, rfl, rfl, .inl ⟨rfl, rwP⟩⟩, ⟨_, _, rfl, rfl, .inl ⟨rfl, rwP⟩⟩, ⟨_, _, rfl, rfl, .inr ⟨_, _, _, _, rfl, rfl⟩⟩, ⟨_, _, rfl, rfl, .inr ⟨_, _, _, _, rfl, rfl⟩⟩, trivial⟩ rfl ?_
   refine XL.conv (f33_1_ok m fuel a b o2.1 (w64 (x12_1 + 1)) o2.2 o h Q hQ) (by first | with_reducible rfl | simp | rfl)
  | false =>
   have h := cF b1 h
   refine iF (.tmp 13) ?_
   refine XQ.ren (σ' := [(4, pp 0 0), (5, pp 1 0)]) (h' := [(3, rc encP lh3_1 0 55 2), (2, rc encP [] 0 55 2), (1, .cells [ii a, s0 3 lh3_1.length] 0 34 0), (0, .cells [ii 0, s0 2 0] 0 34 0)]) (c' := 4) [0, 1, 2, 3] (by decide) rfl ⟨rfl, rfl, trivial⟩ ⟨⟨_, _, rfl, rfl, .inl ⟨rfl, rwP⟩⟩, ⟨_, _, rfl, rfl, .inl ⟨rfl, rwP⟩⟩, ⟨_, _, rfl, rfl, .inr ⟨_, _, _, _, rfl, rfl⟩⟩, ⟨_, _, rfl, rfl, .inr ⟨_, _, _, _, rfl, rfl⟩⟩, trivial⟩ rfl ?_
   refine XQ.exit (i := 0) (by kernel_rfl) ?_
   cases h
   exact hQ
def f33 (m : Nat) (a : Int) (b : Int) : Option (Int × (List (Int × Int))) :=
 (f33_1 m m a b 0 0 []).bind fun o1 =>
  some (a, o1)
theorem f33_ok (m : Nat) (a : Int) (b : Int) (o : Int × (List (Int × Int))) (h : f33 m a b = some o) : KC E0 33 [ii a, .int .u32 b] [] 0 (fun v h' c' => v = .agg #[ii o.1, s0 0 o.2.length] ∧ h' = [(0, rc encP o.2 0 55 2)] ∧ c' = 1) := by
 refine KC.renO ?_
 refine KC.bodyN E0_ok (F := Proofs.Tryd.f33) (by kernel_rfl) (code := f33_C33) (by kernel_rfl) (nt := 39) (by kernel_rfl) (rs := [.cell 4 34]) (by kernel_rfl) (by kernel_rfl) (σ := [(0, ii a), (1, .int .u32 b)]) (by kernel_rfl) ?_
 unfold f33 at h
 refine qQ ?_
 refine rT 1 [(0, ii a), (1, .int .u32 b), (4, pp 0 0)] [(0, .cells [ii 0, .slice none 0 0] 0 34 0)] 1 ?_
 refine dQ ?_
 show XQ _ _ _ _ _ _ _ _
 refine XQ.ghost 55 2 rfl (σ' := [(0, ii a), (1, .int .u32 b), (4, pp 0 0)]) (h' := [(0, .cells [ii 0, s0 1 0] 0 34 0)]) ⟨rfl, rfl, rfl, trivial⟩ ⟨⟨_, rfl, .inr ⟨_, _, _, _, rfl, rfl⟩⟩, trivial⟩ ?_
 refine XQ.conv (σ' := [(0, ii a), (1, .int .u32 b), (4, pp 0 0)]) (h' := [(1, rc encP [] 0 55 2), (0, .cells [ii 0, s0 1 0] 0 34 0)]) (c' := 2) ?_ (by kernel_rfl)
 refine qQ ?_
 refine rT 4 [(0, ii a), (1, .int .u32 b), (4, pp 0 0), (5, pp 2 0)] [(2, .cells [ii a, .slice none 0 0] 0 34 0), (1, rc encP [] 0 55 2), (0, .cells [ii 0, s0 1 0] 0 34 0)] 3 ?_
 refine dQ ?_
 show XQ _ _ _ _ _ _ _ _
 refine XQ.ghost 55 2 rfl (σ' := [(0, ii a), (1, .int .u32 b), (4, pp 0 0), (5, pp 2 0)]) (h' := [(2, .cells [ii a, s0 3 0] 0 34 0), (1, rc encP [] 0 55 2), (0, .cells [ii 0, s0 1 0] 0 34 0)]) ⟨rfl, rfl, rfl, rfl, trivial⟩ ⟨⟨_, rfl, .inr ⟨_, _, _, _, rfl, rfl⟩⟩, ⟨_, rfl, .inl rfl⟩, ⟨_, rfl, .inl rfl⟩, trivial⟩ ?_
 refine XQ.conv (σ' := [(0, ii a), (1, .int .u32 b), (4, pp 0 0), (5, pp 2 0)]) (h' := [(3, rc encP [] 0 55 2), (2, .cells [ii a, s0 3 0] 0 34 0), (1, rc encP [] 0 55 2), (0, .cells [ii 0, s0 1 0] 0 34 0)]) (c' := 4) ?_ (by kernel_rfl)
 refine qQ ?_
 refine rS 1 [(0, ii a), (1, .int .u32 b), (4, pp 0 0), (5, pp 2 0), (6, ii 0)] ?_
 refine dQ ?_
 show XQ _ _ _ _ _ _ _ _
 refine sQ ?_
 refine qQ ?_
 refine rS 2 [(0, ii a), (1, .int .u32 b), (4, pp 0 0), (5, pp 2 0), (6, ii 0), (11, ii a), (12, ii 0)] ?_
 refine dQ ?_
 show XQ _ _ _ _ _ _ _ _
 refine XQ.block (id := 0) (by kernel_rfl) ?_
 refine XQ.loop m (by kernel_rfl) ?_
 obtain ⟨o1, o1_h, h⟩ := bS h
 refine XL.ren (σ' := [(0, ii a), (1, .int .u32 b), (4, pp 0 0), (5, pp 1 0), (6, ii 0), (11, ii a), (12, ii 0)]) (h' := [(3, rc encP [] 0 55 2), (2, rc encP [] 0 55 2), (1, .cells [ii a, s0 3 0] 0 34 0), (0, .cells [ii 0, s0 2 0] 0 34 0)]) (c' := 4) [0, 2, 1, 3] (by decide) rfl ⟨rfl, rfl, rfl, rfl, rfl, rfl, rfl, trivial⟩ ⟨⟨_, _, rfl, rfl, .inl ⟨rfl, rwP⟩⟩, ⟨_, _, rfl, rfl, .inl ⟨rfl, rwP⟩⟩, ⟨_, _, rfl, rfl, .inr ⟨_, _, _, _, rfl, rfl⟩⟩, ⟨_, _, rfl, rfl, .inr ⟨_, _, _, _, rfl, rfl⟩⟩, trivial⟩ rfl ?_
 refine XL.conv (f33_1_ok m m a b 0 0 [] o1 o1_h _ ?_) (by first | with_reducible rfl | simp | rfl)
 show XQ _ _ _ _ _ _ _ _
 refine qQ ?_
 refine rT 2 [(4, pp 0 0)] [(3, rc encP o1 0 55 2), (2, rc encP [] 0 55 2), (1, .cells [ii a, s0 3 o1.length] 0 34 0), (0, .cells [ii a, s0 3 o1.length] 0 34 0)] 4 ?_
 refine dQ ?_
 show XQ _ _ _ _ _ _ _ _
 refine XQ.ren (σ' := [(4, pp 0 0)]) (h' := [(1, rc encP o1 0 55 2), (0, .cells [ii a, s0 1 o1.length] 0 34 0)]) (c' := 2) [0, 3] (by decide) rfl ⟨rfl, trivial⟩ ⟨⟨_, _, rfl, rfl, .inl ⟨rfl, rwP⟩⟩, ⟨_, _, rfl, rfl, .inr ⟨_, _, _, _, rfl, rfl⟩⟩, trivial⟩ rfl ?_
 refine XQ.ret (by kernel_rfl) ?_
 have h := Option.some.inj h
 subst h
 exact ⟨fun i q => (by cases q), .agg #[ii a, s0 1 o1.length], (by kernel_rfl), [1], .agg #[ii a, s0 0 o1.length], [(0, rc encP o1 0 55 2)], (by decide), rfl, (by kernel_rfl), ⟨⟨_, _, rfl, rfl, .inl ⟨rfl, rwP⟩⟩, trivial⟩, (by kernel_rfl), (by kernel_rfl), rfl⟩
noncomputable def f36_C36 : Code := Proofs.Tryd.f36.body.getD .skip
def f36 (m : Nat) (a_Sorters : Int) (a_Tables : Int) (b : Int) : Option (Int × (List (Int × Int))) :=
 cond (b != 0) (
  (f33 m (w64 (1 + (Int.tmod (w64 a_Sorters) b))) a_Tables).bind fun r1 =>
   some (r1.1, r1.2)
 ) none
theorem f36_ok (m : Nat) (a_Sorters : Int) (a_Tables : Int) (b : Int) (o : Int × (List (Int × Int))) (h : f36 m a_Sorters a_Tables b = some o) : KC E0 36 [.agg #[.int .u8 a_Sorters, .int .u32 a_Tables], ii b] [] 0 (fun v h' c' => v = .agg #[ii o.1, s0 0 o.2.length] ∧ h' = [(0, rc encP o.2 0 55 2)] ∧ c' = 1) := by
 refine KC.renO ?_
 refine KC.bodyN E0_ok (F := Proofs.Tryd.f36) (by kernel_rfl) (code := f36_C36) (by kernel_rfl) (nt := 14) (by kernel_rfl) (rs := [.cell 4 34]) (by kernel_rfl) (by kernel_rfl) (σ := [(0, .agg #[.int .u8 a_Sorters, .int .u32 a_Tables]), (1, ii b)]) (by kernel_rfl) ?_
 unfold f36 at h
 refine qQ ?_
 refine rT 2 [(1, ii b), (2, pp 0 0), (4, pp 1 0)] [(1, .cells [ii 0, .slice none 0 0] 0 34 0), (0, .cells [.int .u8 a_Sorters, .int .u32 a_Tables] 0 53 0)] 2 ?_
 refine dQ ?_
 show XQ _ _ _ _ _ _ _ _
 refine XQ.ghost 55 2 rfl (σ' := [(1, ii b), (2, pp 0 0), (4, pp 1 0)]) (h' := [(1, .cells [ii 0, s0 2 0] 0 34 0), (0, .cells [.int .u8 a_Sorters, .int .u32 a_Tables] 0 53 0)]) ⟨rfl, rfl, rfl, trivial⟩ ⟨⟨_, rfl, .inr ⟨_, _, _, _, rfl, rfl⟩⟩, ⟨_, rfl, .inl rfl⟩, trivial⟩ ?_
 refine XQ.conv (σ' := [(1, ii b), (2, pp 0 0), (4, pp 1 0)]) (h' := [(2, rc encP [] 0 55 2), (1, .cells [ii 0, s0 2 0] 0 34 0), (0, .cells [.int .u8 a_Sorters, .int .u32 a_Tables] 0 53 0)]) (c' := 3) ?_ (by kernel_rfl)
 refine sQ ?_
 refine XQ.tail E0_ok 8 (by kernel_rfl) (by kernel_rfl) ?_
 refine XS.step E0_ok 4 rfl [2, 4, 7, 8] rfl (σ' := [(2, pp 0 0), (4, pp 1 0), (7, ii (w64 a_Sorters)), (8, ii b)]) (by kernel_rfl) ?_
 cases b1 : (b != 0 : Bool) with
 | false => cases (cF b1 h)
 | true =>
  have h := cT b1 h
  have e2 : insV (headI ((gsOf E0 14 (opsOf (lft (rgt f36_C36)))).drop 4) (trS 14 [(2, pp 0 0), (4, pp 1 0), (7, ii (w64 a_Sorters)), (8, ii b)])) (trS 14 [(2, pp 0 0), (4, pp 1 0), (7, ii (w64 a_Sorters)), (8, ii b)]) [(2, rc encP [] 0 55 2), (1, .cells [ii 0, s0 2 0] 0 34 0), (0, .cells [.int .u8 a_Sorters, .int .u32 a_Tables] 0 53 0)] = (match (b != 0 : Bool) with | true => some (ii (Int.tmod (w64 a_Sorters) b)) | false => none) := by kernel_rfl
  refine XS.rd E0_ok rfl [2, 4, 9] rfl (e2.trans (by rw [b1])) (σ' := [(2, pp 0 0), (4, pp 1 0), (9, ii (Int.tmod (w64 a_Sorters) b))]) (by kernel_rfl) ?_
  refine XS.step E0_ok 3 rfl [4, 10, 12] rfl (σ' := [(4, pp 1 0), (10, ii (w64 (1 + (Int.tmod (w64 a_Sorters) b)))), (12, .int .u32 a_Tables)]) (by kernel_rfl) ?_
  refine XS.done (by kernel_rfl) ?_
  obtain ⟨r1, r1_h, h⟩ := bS h
  refine XR.call E0_ok [4, 13] rfl (K := 33) (args := [ii (w64 (1 + (Int.tmod (w64 a_Sorters) b))), .int .u32 a_Tables]) (d := (some (path 12 13))) (by kernel_rfl) (KC.lift (V2 := .agg #[ii r1.1, s0 3 r1.2.length]) (H2 := [(3, rc encP r1.2 0 55 2)]) [1, 2, 3, 0] (f33_ok m (w64 (1 + (Int.tmod (w64 a_Sorters) b))) a_Tables r1 r1_h) rfl (by decide) (by decide) (by kernel_rfl) ⟨⟨_, _, rfl, rfl, .inl ⟨rfl, rwP⟩⟩, trivial⟩ (by rfl)) ?_
  rintro _ _ _ ⟨rfl, rfl, rfl⟩
  refine XR.conv (σ' := [(4, pp 1 0), (13, .agg #[ii r1.1, s0 3 r1.2.length])]) (h' := [(3, rc encP r1.2 0 55 2), (2, rc encP [] 0 55 2), (1, .cells [ii 0, s0 2 0] 0 34 0), (0, .cells [.int .u8 a_Sorters, .int .u32 a_Tables] 0 53 0)]) (c' := 4) ?_ (by kernel_rfl)
  refine rT 1 [(4, pp 1 0)] [(3, rc encP r1.2 0 55 2), (2, rc encP [] 0 55 2), (1, .cells [ii r1.1, s0 3 r1.2.length] 0 34 0), (0, .cells [.int .u8 a_Sorters, .int .u32 a_Tables] 0 53 0)] 4 ?_
  refine dQ ?_
  show XQ _ _ _ _ _ _ _ _
  refine XQ.ren (σ' := [(4, pp 0 0)]) (h' := [(1, rc encP r1.2 0 55 2), (0, .cells [ii r1.1, s0 1 r1.2.length] 0 34 0)]) (c' := 2) [1, 3] (by decide) rfl ⟨rfl, trivial⟩ ⟨⟨_, _, rfl, rfl, .inl ⟨rfl, rwP⟩⟩, ⟨_, _, rfl, rfl, .inr ⟨_, _, _, _, rfl, rfl⟩⟩, trivial⟩ rfl ?_
  refine XQ.ret (by kernel_rfl) ?_
  have h := Option.some.inj h
  subst h
  exact ⟨fun i q => (by cases q), .agg #[ii r1.1, s0 1 r1.2.length], (by kernel_rfl), [1], .agg #[ii r1.1, s0 0 r1.2.length], [(0, rc encP r1.2 0 55 2)], (by decide), rfl, (by kernel_rfl), ⟨⟨_, _, rfl, rfl, .inl ⟨rfl, rwP⟩⟩, trivial⟩, (by kernel_rfl), (by kernel_rfl), rfl⟩
noncomputable def f40_C40 : Code := Proofs.Tryd.f40.body.getD .skip
noncomputable def f40_L1 : Code := lft (lft (rgt (lft (rgt (rgt f40_C40)))))
inductive Of40_1 where
 | r
 | x0
def f40_1 (m : Nat) : Nat → List Int → List Int → Int → Option Of40_1
 | 0, _, _, _ => none
 | fuel + 1, a, b, x5_1 =>
  cond (decide (x5_1 < ((a.length : Nat) : Int))) (
   cond (inRow x5_1 a.length) (
    cond (inRow x5_1 b.length) (
     cond ((List.getD a (Int.toNat x5_1) 0) != (List.getD b (Int.toNat x5_1) 0)) (
      some (.r)
     ) (
      f40_1 m fuel a b (w64 (x5_1 + 1))
     )
    ) none
   ) none
  ) (
   some (.x0)
  )
theorem f40_1_ok (m : Nat) : ∀ (fuel : Nat) (z0 : Nat) (y0 : Nat) (a : List Int) (z1 : Nat) (y1 : Nat) (b : List Int) (x5_1 : Int) (o : Of40_1), f40_1 m fuel a b x5_1 = some o → ∀ Q : QP, (match o with | .r => Q .ret [(4, .bool false)] [(1, rc (encI .i64) b z1 y1 1), (0, rc (encI .i64) a z0 y0 1)] 2 | .x0 => Q (.exit 0) [] [(1, rc (encI .i64) b z1 y1 1), (0, rc (encI .i64) a z0 y0 1)] 2) → XL E0 26 2 fuel f40_L1 [(0, s0 0 a.length), (1, s0 1 b.length), (5, ii x5_1)] [(1, rc (encI .i64) b z1 y1 1), (0, rc (encI .i64) a z0 y0 1)] 2 Q
 | 0, z0, y0, a, z1, y1, b, x5_1, o, h, Q, hQ => by cases h
 | fuel + 1, z0, y0, a, z1, y1, b, x5_1, o, h, Q, hQ => by
  unfold f40_1 at h
  refine XL.succ E0_ok ?_
  refine sQ ?_
  refine qQ ?_
  refine rS 4 [(0, s0 0 a.length), (1, s0 1 b.length), (5, ii x5_1), (14, .bool (decide (x5_1 < ((a.length : Nat) : Int))))] ?_
  refine dQ ?_
  show XQ _ _ _ _ _ _ _ _
  cases b1 : (decide (x5_1 < ((a.length : Nat) : Int)) : Bool) with
  | true =>
   have h := cT b1 h
   refine iT (.tmp 14) ?_
   refine kQ ?_
   show XQ _ _ _ _ _ _ _ _
   refine sQ ?_
   refine XQ.block (id := 1) (by kernel_rfl) ?_
   refine sQ ?_
   refine XQ.quiet E0_ok (by kernel_rfl) (by kernel_rfl) ?_
   refine XU.run E0_ok 1 2 [0, 1, 5, 17, 18] rfl (σ' := [(0, s0 0 a.length), (1, s0 1 b.length), (5, ii x5_1), (17, s0 0 a.length), (18, ii x5_1)]) (by kernel_rfl) ?_
   cases b2 : (inRow x5_1 a.length : Bool) with
   | false => cases (cF b2 h)
   | true =>
    have h := cT b2 h
    refine XU.rd E0_ok [0, 1, 5, 19] rfl (v := pp 0 ((Int.toNat x5_1) * 1)) (v_idx (s := 1) (x := (src 26 (.tmp 17))) (y := (src 26 (.tmp 18))) (b := 0) (o := 0) (len := a.length) (cap := a.length) (ik := .i64) (i := x5_1) (off := (Int.toNat x5_1) * 1) (d := (some (path 12 19))) (by kernel_rfl) (by kernel_rfl) (by kernel_rfl) b2 (by omega)) (σ' := [(0, s0 0 a.length), (1, s0 1 b.length), (5, ii x5_1), (19, pp 0 ((Int.toNat x5_1) * 1))]) (by kernel_rfl) ?_
    refine XU.rd E0_ok [0, 1, 5, 20] rfl (v := ii (List.getD a (Int.toNat x5_1) 0)) (v_load1 (encI_ok .i64) (x := (src 26 (.tmp 19))) (b := 0) (off := (Int.toNat x5_1) * 1) (xs := a) (fz := z0) (e := y0) (es := 1) (d := (some (path 12 20))) (by kernel_rfl) (by kernel_rfl) (by kernel_rfl) (Int.toNat x5_1) 0 0 (by first | with_reducible rfl | omega | rfl) (row_len (inRow_toNat b2) (by simp)) rfl rfl) (σ' := [(0, s0 0 a.length), (1, s0 1 b.length), (5, ii x5_1), (20, ii (List.getD a (Int.toNat x5_1) 0))]) (by kernel_rfl) ?_
    refine XU.run E0_ok 1 2 [0, 1, 5, 20, 21, 22] rfl (σ' := [(0, s0 0 a.length), (1, s0 1 b.length), (5, ii x5_1), (20, ii (List.getD a (Int.toNat x5_1) 0)), (21, s0 1 b.length), (22, ii x5_1)]) (by kernel_rfl) ?_
    cases b3 : (inRow x5_1 b.length : Bool) with
    | false => cases (cF b3 h)
    | true =>
     have h := cT b3 h
     refine XU.rd E0_ok [0, 1, 5, 20, 23] rfl (v := pp 1 ((Int.toNat x5_1) * 1)) (v_idx (s := 1) (x := (src 26 (.tmp 21))) (y := (src 26 (.tmp 22))) (b := 1) (o := 0) (len := b.length) (cap := b.length) (ik := .i64) (i := x5_1) (off := (Int.toNat x5_1) * 1) (d := (some (path 12 23))) (by kernel_rfl) (by kernel_rfl) (by kernel_rfl) b3 (by omega)) (σ' := [(0, s0 0 a.length), (1, s0 1 b.length), (5, ii x5_1), (20, ii (List.getD a (Int.toNat x5_1) 0)), (23, pp 1 ((Int.toNat x5_1) * 1))]) (by kernel_rfl) ?_
     refine XU.rd E0_ok [0, 1, 5, 20, 24] rfl (v := ii (List.getD b (Int.toNat x5_1) 0)) (v_load1 (encI_ok .i64) (x := (src 26 (.tmp 23))) (b := 1) (off := (Int.toNat x5_1) * 1) (xs := b) (fz := z1) (e := y1) (es := 1) (d := (some (path 12 24))) (by kernel_rfl) (by kernel_rfl) (by kernel_rfl) (Int.toNat x5_1) 0 0 (by first | with_reducible rfl | omega | rfl) (row_len (inRow_toNat b3) (by simp)) rfl rfl) (σ' := [(0, s0 0 a.length), (1, s0 1 b.length), (5, ii x5_1), (20, ii (List.getD a (Int.toNat x5_1) 0)), (24, ii (List.getD b (Int.toNat x5_1) 0))]) (by kernel_rfl) ?_
     refine XU.run E0_ok 1 1 [0, 1, 5, 25] rfl (σ' := [(0, s0 0 a.length), (1, s0 1 b.length), (5, ii x5_1), (25, .bool ((List.getD a (Int.toNat x5_1) 0) != (List.getD b (Int.toNat x5_1) 0)))]) (by kernel_rfl) ?_
     refine XU.done (by kernel_rfl) ?_
     show XQ _ _ _ _ _ _ _ _
     cases b4 : ((List.getD a (Int.toNat x5_1) 0) != (List.getD b (Int.toNat x5_1) 0) : Bool) with
     | true =>
      have h := cT b4 h
      refine iT (.tmp 25) ?_
      refine qQ ?_
      refine rS 1 [(4, .bool false)] ?_
      refine dQ ?_
      show XQ _ _ _ _ _ _ _ _
      refine XQ.ren (σ' := [(4, .bool false)]) (h' := [(1, rc (encI .i64) b z1 y1 1), (0, rc (encI .i64) a z0 y0 1)]) (c' := 2) [0, 1] (by decide) rfl ⟨rfl, trivial⟩ ⟨⟨_, _, rfl, rfl, .inl ⟨rfl, rwI⟩⟩, ⟨_, _, rfl, rfl, .inl ⟨rfl, rwI⟩⟩, trivial⟩ rfl ?_
      refine XQ.ret (by kernel_rfl) ?_
      cases h
      exact hQ
     | false =>
      have h := cF b4 h
      refine iF (.tmp 25) ?_
      refine kQ ?_
      show XQ _ _ _ _ _ _ _ _
      refine rQ ?_
      refine rS 3 [(0, s0 0 a.length), (1, s0 1 b.length), (5, ii (w64 (x5_1 + 1)))] ?_
      refine dQ ?_
      show XL _ _ _ _ _ _ _ _ _
      refine XL.ren (σ' := [(0, s0 0 a.length), (1, s0 1 b.length), (5, ii (w64 (x5_1 + 1)))]) (h' := [(1, rc (encI .i64) b z1 y1 1), (0, rc (encI .i64) a z0 y0 1)]) (c' := 2) [0, 1] (by decide) rfl ⟨rfl, rfl, rfl, trivial⟩ ⟨⟨_, _, rfl, rfl, .inl ⟨rfl, rwI⟩⟩, ⟨_, _, rfl, rfl, .inl ⟨rfl, rwI⟩⟩, trivial⟩ rfl ?_
      refine XL.conv (f40_1_ok m fuel z0 y0 a z1 y1 b (w64 (x5_1 + 1)) o h Q hQ) (by first | with_reducible rfl | simp | rfl)
  | false =>
   have h := cF b1 h
   refine iF (.tmp 14) ?_
   refine XQ.ren (σ' := []) (h' := [(1, rc (encI .i64) b z1 y1 1), (0, rc (encI .i64) a z0 y0 1)]) (c' := 2) [0, 1] (by decide) rfl trivial ⟨⟨_, _, rfl, rfl, .inl ⟨rfl, rwI⟩⟩, ⟨_, _, rfl, rfl, .inl ⟨rfl, rwI⟩⟩, trivial⟩ rfl ?_
   refine XQ.exit (i := 0) (by kernel_rfl) ?_
   cases h
   exact hQ
def f40 (m : Nat) (a : List Int) (b : List Int) : Option (Bool) :=
 cond (((a.length : Nat) : Int) != ((b.length : Nat) : Int)) (
  some (false)
 ) (
  (f40_1 m m a b 0).bind fun o1 =>
   match o1 with
   | .r =>
    some (false)
   | .x0 =>
    some (true)
 )
theorem f40_ok (m : Nat) (z0 : Nat) (y0 : Nat) (z1 : Nat) (y1 : Nat) (a : List Int) (b : List Int) (o : Bool) (h : f40 m a b = some o) : KC E0 40 [s0 0 a.length, s0 1 b.length] [(1, rc (encI .i64) b z1 y1 1), (0, rc (encI .i64) a z0 y0 1)] 2 (fun v _ _ => v = .bool o) := by
 refine KC.bodyN E0_ok (F := Proofs.Tryd.f40) (by kernel_rfl) (code := f40_C40) (by kernel_rfl) (nt := 26) (by kernel_rfl) (rs := [.tmp 4]) (by kernel_rfl) (by kernel_rfl) (σ := [(0, s0 0 a.length), (1, s0 1 b.length)]) (by kernel_rfl) ?_
 unfold f40 at h
 refine qQ ?_
 refine rS 1 [(0, s0 0 a.length), (1, s0 1 b.length)] ?_
 refine dQ ?_
 show XQ _ _ _ _ _ _ _ _
 refine sQ ?_
 refine qQ ?_
 refine rS 5 [(0, s0 0 a.length), (1, s0 1 b.length), (10, .bool (((a.length : Nat) : Int) != ((b.length : Nat) : Int)))] ?_
 refine dQ ?_
 show XQ _ _ _ _ _ _ _ _
 cases b1 : (((a.length : Nat) : Int) != ((b.length : Nat) : Int) : Bool) with
 | true =>
  have h := cT b1 h
  refine iT (.tmp 10) ?_
  refine qQ ?_
  refine rS 1 [(4, .bool false)] ?_
  refine dQ ?_
  show XQ _ _ _ _ _ _ _ _
  refine XQ.ret (by kernel_rfl) ?_
  have h := Option.some.inj h
  subst h
  exact ⟨fun i q => (by cases q), .bool false, (by kernel_rfl), rfl⟩
 | false =>
  have h := cF b1 h
  refine iF (.tmp 10) ?_
  refine kQ ?_
  show XQ _ _ _ _ _ _ _ _
  refine sQ ?_
  refine qQ ?_
  refine rS 1 [(0, s0 0 a.length), (1, s0 1 b.length), (5, ii 0)] ?_
  refine dQ ?_
  show XQ _ _ _ _ _ _ _ _
  refine XQ.block (id := 0) (by kernel_rfl) ?_
  refine XQ.loop m (by kernel_rfl) ?_
  obtain ⟨o1, o1_h, h⟩ := bS h
  refine XL.ren (σ' := [(0, s0 0 a.length), (1, s0 1 b.length), (5, ii 0)]) (h' := [(1, rc (encI .i64) b z1 y1 1), (0, rc (encI .i64) a z0 y0 1)]) (c' := 2) [0, 1] (by decide) rfl ⟨rfl, rfl, rfl, trivial⟩ ⟨⟨_, _, rfl, rfl, .inl ⟨rfl, rwI⟩⟩, ⟨_, _, rfl, rfl, .inl ⟨rfl, rwI⟩⟩, trivial⟩ rfl ?_
  cases o1 with
  | r =>
   dsimp only at h
   refine XL.conv (f40_1_ok m m z0 y0 a z1 y1 b 0 (.r) o1_h _ ?_) (by first | with_reducible rfl | simp | rfl)
   have h := Option.some.inj h
   subst h
   exact ⟨fun i q => (by cases q), .bool false, (by kernel_rfl), rfl⟩
  | x0 =>
   dsimp only at h
   refine XL.conv (f40_1_ok m m z0 y0 a z1 y1 b 0 (.x0) o1_h _ ?_) (by first | with_reducible rfl | simp | rfl)
   show XQ _ _ _ _ _ _ _ _
   refine qQ ?_
   refine rS 1 [(4, .bool true)] ?_
   refine dQ ?_
   show XQ _ _ _ _ _ _ _ _
   refine XQ.ret (by kernel_rfl) ?_
   have h := Option.some.inj h
   subst h
   exact ⟨fun i q => (by cases q), .bool true, (by kernel_rfl), rfl⟩
noncomputable def f39_C39 : Code := Proofs.Tryd.f39.body.getD .skip
noncomputable def f39_L1 : Code := lft (lft (rgt (lft (rgt (rgt f39_C39)))))
inductive Of39_1 where
 | r
 | x0
def f39_1 (m : Nat) : Nat → List (Int × Int) → List (Int × Int) → Int → Option Of39_1
 | 0, _, _, _ => none
 | fuel + 1, a, b, x5_1 =>
  cond (decide (x5_1 < ((a.length : Nat) : Int))) (
   cond (inRow x5_1 a.length) (
    cond (inRow x5_1 b.length) (
     cond (!(((List.getD a (Int.toNat x5_1) (0, 0)).1) == ((List.getD b (Int.toNat x5_1) (0, 0)).1) && ((List.getD a (Int.toNat x5_1) (0, 0)).2) == ((List.getD b (Int.toNat x5_1) (0, 0)).2))) (
      some (.r)
     ) (
      f39_1 m fuel a b (w64 (x5_1 + 1))
     )
    ) none
   ) none
  ) (
   some (.x0)
  )
theorem f39_1_ok (m : Nat) : ∀ (fuel : Nat) (z0 : Nat) (y0 : Nat) (a : List (Int × Int)) (z1 : Nat) (y1 : Nat) (b : List (Int × Int)) (x5_1 : Int) (o : Of39_1), f39_1 m fuel a b x5_1 = some o → ∀ Q : QP, (match o with | .r => Q .ret [(4, .bool false)] [(1, rc encP b z1 y1 2), (0, rc encP a z0 y0 2)] 2 | .x0 => Q (.exit 0) [] [(1, rc encP b z1 y1 2), (0, rc encP a z0 y0 2)] 2) → XL E0 26 2 fuel f39_L1 [(0, s0 0 a.length), (1, s0 1 b.length), (5, ii x5_1)] [(1, rc encP b z1 y1 2), (0, rc encP a z0 y0 2)] 2 Q
 | 0, z0, y0, a, z1, y1, b, x5_1, o, h, Q, hQ => by cases h
 | fuel + 1, z0, y0, a, z1, y1, b, x5_1, o, h, Q, hQ => by
  unfold f39_1 at h
  refine XL.succ E0_ok ?_
  refine sQ ?_
  refine qQ ?_
  refine rS 4 [(0, s0 0 a.length), (1, s0 1 b.length), (5, ii x5_1), (14, .bool (decide (x5_1 < ((a.length : Nat) : Int))))] ?_
  refine dQ ?_
  show XQ _ _ _ _ _ _ _ _
  cases b1 : (decide (x5_1 < ((a.length : Nat) : Int)) : Bool) with
  | true =>
   have h := cT b1 h
   refine iT (.tmp 14) ?_
   refine kQ ?_
   show XQ _ _ _ _ _ _ _ _
   refine sQ ?_
   refine XQ.block (id := 1) (by kernel_rfl) ?_
   refine sQ ?_
   refine XQ.quiet E0_ok (by kernel_rfl) (by kernel_rfl) ?_
   refine XU.run E0_ok 1 2 [0, 1, 5, 17, 18] rfl (σ' := [(0, s0 0 a.length), (1, s0 1 b.length), (5, ii x5_1), (17, s0 0 a.length), (18, ii x5_1)]) (by kernel_rfl) ?_
   cases b2 : (inRow x5_1 a.length : Bool) with
   | false => cases (cF b2 h)
   | true =>
    have h := cT b2 h
    refine XU.rd E0_ok [0, 1, 5, 19] rfl (v := pp 0 ((Int.toNat x5_1) * 2)) (v_idx (s := 2) (x := (src 26 (.tmp 17))) (y := (src 26 (.tmp 18))) (b := 0) (o := 0) (len := a.length) (cap := a.length) (ik := .i64) (i := x5_1) (off := (Int.toNat x5_1) * 2) (d := (some (path 12 19))) (by kernel_rfl) (by kernel_rfl) (by kernel_rfl) b2 (by omega)) (σ' := [(0, s0 0 a.length), (1, s0 1 b.length), (5, ii x5_1), (19, pp 0 ((Int.toNat x5_1) * 2))]) (by kernel_rfl) ?_
    refine XU.rd E0_ok [0, 1, 5, 20] rfl (v := .agg #[ii ((List.getD a (Int.toNat x5_1) (0, 0)).1), ii ((List.getD a (Int.toNat x5_1) (0, 0)).2)]) (v_loadN encP_ok (x := (src 26 (.tmp 19))) (b := 0) (off := (Int.toNat x5_1) * 2) (xs := a) (fz := z0) (e := y0) (es := 2) (d := (some (path 12 20))) (by kernel_rfl) (by kernel_rfl) (by kernel_rfl) (Int.toNat x5_1) (0, 0) (by first | with_reducible rfl | omega | rfl) (row_len (inRow_toNat b2) (by simp)) rfl) (σ' := [(0, s0 0 a.length), (1, s0 1 b.length), (5, ii x5_1), (20, .agg #[ii ((List.getD a (Int.toNat x5_1) (0, 0)).1), ii ((List.getD a (Int.toNat x5_1) (0, 0)).2)])]) (by kernel_rfl) ?_
    refine XU.run E0_ok 1 2 [0, 1, 5, 20, 21, 22] rfl (σ' := [(0, s0 0 a.length), (1, s0 1 b.length), (5, ii x5_1), (20, .agg #[ii ((List.getD a (Int.toNat x5_1) (0, 0)).1), ii ((List.getD a (Int.toNat x5_1) (0, 0)).2)]), (21, s0 1 b.length), (22, ii x5_1)]) (by kernel_rfl) ?_
    cases b3 : (inRow x5_1 b.length : Bool) with
    | false => cases (cF b3 h)
    | true =>
     have h := cT b3 h
     refine XU.rd E0_ok [0, 1, 5, 20, 23] rfl (v := pp 1 ((Int.toNat x5_1) * 2)) (v_idx (s := 2) (x := (src 26 (.tmp 21))) (y := (src 26 (.tmp 22))) (b := 1) (o := 0) (len := b.length) (cap := b.length) (ik := .i64) (i := x5_1) (off := (Int.toNat x5_1) * 2) (d := (some (path 12 23))) (by kernel_rfl) (by kernel_rfl) (by kernel_rfl) b3 (by omega)) (σ' := [(0, s0 0 a.length), (1, s0 1 b.length), (5, ii x5_1), (20, .agg #[ii ((List.getD a (Int.toNat x5_1) (0, 0)).1), ii ((List.getD a (Int.toNat x5_1) (0, 0)).2)]), (23, pp 1 ((Int.toNat x5_1) * 2))]) (by kernel_rfl) ?_
     refine XU.rd E0_ok [0, 1, 5, 20, 24] rfl (v := .agg #[ii ((List.getD b (Int.toNat x5_1) (0, 0)).1), ii ((List.getD b (Int.toNat x5_1) (0, 0)).2)]) (v_loadN encP_ok (x := (src 26 (.tmp 23))) (b := 1) (off := (Int.toNat x5_1) * 2) (xs := b) (fz := z1) (e := y1) (es := 2) (d := (some (path 12 24))) (by kernel_rfl) (by kernel_rfl) (by kernel_rfl) (Int.toNat x5_1) (0, 0) (by first | with_reducible rfl | omega | rfl) (row_len (inRow_toNat b3) (by simp)) rfl) (σ' := [(0, s0 0 a.length), (1, s0 1 b.length), (5, ii x5_1), (20, .agg #[ii ((List.getD a (Int.toNat x5_1) (0, 0)).1), ii ((List.getD a (Int.toNat x5_1) (0, 0)).2)]), (24, .agg #[ii ((List.getD b (Int.toNat x5_1) (0, 0)).1), ii ((List.getD b (Int.toNat x5_1) (0, 0)).2)])]) (by kernel_rfl) ?_
     refine XU.run E0_ok 1 1 [0, 1, 5, 25] rfl (σ' := [(0, s0 0 a.length), (1, s0 1 b.length), (5, ii x5_1), (25, .bool (!(((List.getD a (Int.toNat x5_1) (0, 0)).1) == ((List.getD b (Int.toNat x5_1) (0, 0)).1) && ((List.getD a (Int.toNat x5_1) (0, 0)).2) == ((List.getD b (Int.toNat x5_1) (0, 0)).2))))]) (by kernel_rfl) ?_
     refine XU.done (by kernel_rfl) ?_
     show XQ _ _ _ _ _ _ _ _
     cases b4 : (!(((List.getD a (Int.toNat x5_1) (0, 0)).1) == ((List.getD b (Int.toNat x5_1) (0, 0)).1) && ((List.getD a (Int.toNat x5_1) (0, 0)).2) == ((List.getD b (Int.toNat x5_1) (0, 0)).2)) : Bool) with
     | true =>
      have h := cT b4 h
      refine iT (.tmp 25) ?_
      refine qQ ?_
      refine rS 1 [(4, .bool false)] ?_
      refine dQ ?_
      show XQ _ _ _ _ _ _ _ _
      refine XQ.ren (σ' := [(4, .bool false)]) (h' := [(1, rc encP b z1 y1 2), (0, rc encP a z0 y0 2)]) (c' := 2) [0, 1] (by decide) rfl ⟨rfl, trivial⟩ ⟨⟨_, _, rfl, rfl, .inl ⟨rfl, rwP⟩⟩, ⟨_, _, rfl, rfl, .inl ⟨rfl, rwP⟩⟩, trivial⟩ rfl ?_
      refine XQ.ret (by kernel_rfl) ?_
      cases h
      exact hQ
     | false =>
      have h := cF b4 h
      refine iF (.tmp 25) ?_
      refine kQ ?_
      show XQ _ _ _ _ _ _ _ _
      refine rQ ?_
      refine rS 3 [(0, s0 0 a.length), (1, s0 1 b.length), (5, ii (w64 (x5_1 + 1)))] ?_
      refine dQ ?_
      show XL _ _ _ _ _ _ _ _ _
      refine XL.ren (σ' := [(0, s0 0 a.length), (1, s0 1 b.length), (5, ii (w64 (x5_1 + 1)))]) (h' := [(1, rc encP b z1 y1 2), (0, rc encP a z0 y0 2)]) (c' := 2) [0, 1] (by decide) rfl ⟨rfl, rfl, rfl, trivial⟩ ⟨⟨_, _, rfl, rfl, .inl ⟨rfl, rwP⟩⟩, ⟨_, _, rfl, rfl, .inl ⟨rfl, rwP⟩⟩, trivial⟩ rfl ?_
      refine XL.conv (f39_1_ok m fuel z0 y0 a z1 y1 b (w64 (x5_1 + 1)) o h Q hQ) (by first | with_reducible rfl | simp | rfl)
  | false =>
   have h := cF b1 h
   refine iF (.tmp 14) ?_
   refine XQ.ren (σ' := []) (h' := [(1, rc encP b z1 y1 2), (0, rc encP a z0 y0 2)]) (c' := 2) [0, 1] (by decide) rfl trivial ⟨⟨_, _, rfl, rfl, .inl ⟨rfl, rwP⟩⟩, ⟨_, _, rfl, rfl, .inl ⟨rfl, rwP⟩⟩, trivial⟩ rfl ?_
   refine XQ.exit (i := 0) (by kernel_rfl) ?_
   cases h
   exact hQ
def f39 (m : Nat) (a : List (Int × Int)) (b : List (Int × Int)) : Option (Bool) :=
 cond (((a.length : Nat) : Int) != ((b.length : Nat) : Int)) (
  some (false)
 ) (
  (f39_1 m m a b 0).bind fun o1 =>
   match o1 with
   | .r =>
    some (false)
   | .x0 =>
    some (true)
 )
theorem f39_ok (m : Nat) (z0 : Nat) (y0 : Nat) (z1 : Nat) (y1 : Nat) (a : List (Int × Int)) (b : List (Int × Int)) (o : Bool) (h : f39 m a b = some o) : KC E0 39 [s0 0 a.length, s0 1 b.length] [(1, rc encP b z1 y1 2), (0, rc encP a z0 y0 2)] 2 (fun v _ _ => v = .bool o) := by
 refine KC.bodyN E0_ok (F := Proofs.Tryd.f39) (by kernel_rfl) (code := f39_C39) (by kernel_rfl) (nt := 26) (by kernel_rfl) (rs := [.tmp 4]) (by kernel_rfl) (by kernel_rfl) (σ := [(0, s0 0 a.length), (1, s0 1 b.length)]) (by kernel_rfl) ?_
 unfold f39 at h
 refine qQ ?_
 refine rS 1 [(0, s0 0 a.length), (1, s0 1 b.length)] ?_
 refine dQ ?_
 show XQ _ _ _ _ _ _ _ _
 refine sQ ?_
 refine qQ ?_
 refine rS 5 [(0, s0 0 a.length), (1, s0 1 b.length), (10, .bool (((a.length : Nat) : Int) != ((b.length : Nat) : Int)))] ?_
 refine dQ ?_
 show XQ _ _ _ _ _ _ _ _
 cases b1 : (((a.length : Nat) : Int) != ((b.length : Nat) : Int) : Bool) with
 | true =>
  have h := cT b1 h
  refine iT (.tmp 10) ?_
  refine qQ ?_
  refine rS 1 [(4, .bool false)] ?_
  refine dQ ?_
  show XQ _ _ _ _ _ _ _ _
  refine XQ.ret (by kernel_rfl) ?_
  have h := Option.some.inj h
  subst h
  exact ⟨fun i q => (by cases q), .bool false, (by kernel_rfl), rfl⟩
 | false =>
  have h := cF b1 h
  refine iF (.tmp 10) ?_
  refine kQ ?_
  show XQ _ _ _ _ _ _ _ _
  refine sQ ?_
  refine qQ ?_
  refine rS 1 [(0, s0 0 a.length), (1, s0 1 b.length), (5, ii 0)] ?_
  refine dQ ?_
  show XQ _ _ _ _ _ _ _ _
  refine XQ.block (id := 0) (by kernel_rfl) ?_
  refine XQ.loop m (by kernel_rfl) ?_
  obtain ⟨o1, o1_h, h⟩ := bS h
  refine XL.ren (σ' := [(0, s0 0 a.length), (1, s0 1 b.length), (5, ii 0)]) (h' := [(1, rc encP b z1 y1 2), (0, rc encP a z0 y0 2)]) (c' := 2) [0, 1] (by decide) rfl ⟨rfl, rfl, rfl, trivial⟩ ⟨⟨_, _, rfl, rfl, .inl ⟨rfl, rwP⟩⟩, ⟨_, _, rfl, rfl, .inl ⟨rfl, rwP⟩⟩, trivial⟩ rfl ?_
  cases o1 with
  | r =>
   dsimp only at h
   refine XL.conv (f39_1_ok m m z0 y0 a z1 y1 b 0 (.r) o1_h _ ?_) (by first | with_reducible rfl | simp | rfl)
   have h := Option.some.inj h
   subst h
   exact ⟨fun i q => (by cases q), .bool false, (by kernel_rfl), rfl⟩
  | x0 =>
   dsimp only at h
   refine XL.conv (f39_1_ok m m z0 y0 a z1 y1 b 0 (.x0) o1_h _ ?_) (by first | with_reducible rfl | simp | rfl)
   show XQ _ _ _ _ _ _ _ _
   refine qQ ?_
   refine rS 1 [(4, .bool true)] ?_
   refine dQ ?_
   show XQ _ _ _ _ _ _ _ _
   refine XQ.ret (by kernel_rfl) ?_
   have h := Option.some.inj h
   subst h
   exact ⟨fun i q => (by cases q), .bool true, (by kernel_rfl), rfl⟩
noncomputable def f54_C54 : Code := Proofs.Tryd.f54.body.getD .skip
noncomputable def f54_C89 : Code := Proofs.Tryd.f89.body.getD .skip
noncomputable def f54_C106 : Code := Proofs.Tryd.f106.body.getD .skip
noncomputable def f54_L1 : Code := lft (lft (rgt (lft (rgt f54_C54))))
inductive Of54_1 where
 | r (x4_r1 : Int)
 | x0
def f54_1 (m : Nat) : Nat → List Int → List Int → Int → Int → Option Of54_1
 | 0, _, _, _, _ => none
 | fuel + 1, a, b, x10_1, x11_1 =>
  cond (decide (x11_1 < x10_1)) (
   cond (inRow x11_1 a.length) (
    cond (decide (x11_1 ≥ ((b.length : Nat) : Int))) (
     some (.r 1)
    ) (
     cond (inRow x11_1 b.length) (
      cond ((List.getD a (Int.toNat x11_1) 0) != (List.getD a (Int.toNat x11_1) 0)) (
       cond ((List.getD b (Int.toNat x11_1) 0) != (List.getD b (Int.toNat x11_1) 0)) (
        f54_1 m fuel a b x10_1 (w64 (x11_1 + 1))
       ) (
        some (.r (-1))
       )
      ) (
       cond ((List.getD b (Int.toNat x11_1) 0) != (List.getD b (Int.toNat x11_1) 0)) (
        some (.r 1)
       ) (
        cond (decide ((List.getD a (Int.toNat x11_1) 0) < (List.getD b (Int.toNat x11_1) 0))) (
         some (.r (-1))
        ) (
         cond (decide ((List.getD a (Int.toNat x11_1) 0) > (List.getD b (Int.toNat x11_1) 0))) (
          some (.r 1)
         ) (
          f54_1 m fuel a b x10_1 (w64 (x11_1 + 1))
         )
        )
       )
      )
     ) none
    )
   ) none
  ) (
   some (.x0)
  )

abbrev quh2 (a : List Int) (b : List Int) (x10_1 : Int) (t : St) : St := (0, s0 0 a.length) :: (1, s0 1 b.length) :: (9, s0 0 a.length) :: (10, ii x10_1) :: t

abbrev quh3 (a : List Int) (b : List Int) (x11_1 : Int) (t : St) : St := (0, ii (List.getD a (Int.toNat x11_1) 0)) :: (1, ii (List.getD b (Int.toNat x11_1) 0)) :: t

abbrev quh4 (a : List Int) (b : List Int) (x0 : Nat) (x1 : Nat) (y0 : Nat) (y1 : Nat) (z0 : Nat) (z1 : Nat) (t : Heap) : Heap := (1, rc (encI .i64) b z1 y1 x1) :: (0, rc (encI .i64) a z0 y0 x0) :: t
theorem f54_1_ok (m : Nat) : ∀ (fuel : Nat) (z0 : Nat) (y0 : Nat) (x0 : Nat) (a : List Int) (z1 : Nat) (y1 : Nat) (x1 : Nat) (b : List Int) (x10_1 : Int) (x11_1 : Int) (o : Of54_1), f54_1 m fuel a b x10_1 x11_1 = some o → ∀ Q : QP, (match o with | .r x4_r1 => Q .ret [(4, ii x4_r1)] (quh4 a b x0 x1 y0 y1 z0 z1 []) 2 | .x0 => Q (.exit 0) [(0, s0 0 a.length), (1, s0 1 b.length)] (quh4 a b x0 x1 y0 y1 z0 z1 []) 2) → XL E0 36 2 fuel f54_L1 (quh2 a b x10_1 [(11, ii x11_1)]) (quh4 a b x0 x1 y0 y1 z0 z1 []) 2 Q
 | 0, z0, y0, x0, a, z1, y1, x1, b, x10_1, x11_1, o, h, Q, hQ => by cases h
 | fuel + 1, z0, y0, x0, a, z1, y1, x1, b, x10_1, x11_1, o, h, Q, hQ => by
  unfold f54_1 at h
  refine XL.succ E0_ok ?_
  refine qQ ?_
  refine rS 1 (quh2 a b x10_1 [(11, ii x11_1), (12, .bool (decide (x11_1 < x10_1)))]) ?_
  refine dQ ?_
  show XQ _ _ _ _ _ _ _ _
  refine sQ ?_
  cases b1 : (decide (x11_1 < x10_1) : Bool) with
  | true =>
   have h := cT b1 h
   refine iT (.tmp 12) ?_
   refine kQ ?_
   show XQ _ _ _ _ _ _ _ _
   refine sQ ?_
   refine XQ.block (id := 1) (by kernel_rfl) ?_
   refine qQ ?_
   refine rS 1 (quh2 a b x10_1 [(11, ii x11_1), (13, ii x11_1)]) ?_
   cases b2 : (inRow x11_1 a.length : Bool) with
   | false => cases (cF b2 h)
   | true =>
    have h := cT b2 h
    refine XR.rd E0_ok [0, 1, 9, 10, 11, 13, 14] rfl (v := pp 0 ((Int.toNat x11_1) * 1)) (v_idx (s := 1) (x := (src 36 (.tmp 9))) (y := (src 36 (.tmp 11))) (b := 0) (o := 0) (len := a.length) (cap := a.length) (ik := .i64) (i := x11_1) (off := (Int.toNat x11_1) * 1) (d := (some (path 12 14))) (by kernel_rfl) (by kernel_rfl) (by kernel_rfl) b2 (by omega)) (σ' := (quh2 a b x10_1 [(11, ii x11_1), (13, ii x11_1), (14, pp 0 ((Int.toNat x11_1) * 1))])) (by kernel_rfl) ?_
    refine XR.rd E0_ok [0, 1, 9, 10, 11, 13, 15] rfl (v := ii (List.getD a (Int.toNat x11_1) 0)) (v_load1 (encI_ok .i64) (x := (src 36 (.tmp 14))) (b := 0) (off := (Int.toNat x11_1) * 1) (xs := a) (fz := z0) (e := y0) (es := x0) (d := (some (path 12 15))) (by kernel_rfl) (by kernel_rfl) (by kernel_rfl) (Int.toNat x11_1) 0 0 (by first | with_reducible rfl | omega | rfl) (row_len (inRow_toNat b2) (by simp)) rfl rfl) (σ' := (quh2 a b x10_1 [(11, ii x11_1), (13, ii x11_1), (15, ii (List.getD a (Int.toNat x11_1) 0))])) (by kernel_rfl) ?_
    refine rS 2 [(0, s0 0 a.length), (1, s0 1 b.length), (5, ii x11_1), (6, ii (List.getD a (Int.toNat x11_1) 0)), (9, s0 0 a.length), (10, ii x10_1), (11, ii x11_1)] ?_
    refine dQ ?_
    show XQ _ _ _ _ _ _ _ _
    refine sQ ?_
    refine qQ ?_
    refine rS 4 [(0, s0 0 a.length), (1, s0 1 b.length), (5, ii x11_1), (6, ii (List.getD a (Int.toNat x11_1) 0)), (9, s0 0 a.length), (10, ii x10_1), (11, ii x11_1), (19, .bool (decide (x11_1 ≥ ((b.length : Nat) : Int))))] ?_
    refine dQ ?_
    show XQ _ _ _ _ _ _ _ _
    cases b3 : (decide (x11_1 ≥ ((b.length : Nat) : Int)) : Bool) with
    | true =>
     have h := cT b3 h
     refine iT (.tmp 19) ?_
     refine qQ ?_
     refine rS 1 [(4, ii 1)] ?_
     refine dQ ?_
     show XQ _ _ _ _ _ _ _ _
     refine XQ.ren (σ' := [(4, ii 1)]) (h' := (quh4 a b x0 x1 y0 y1 z0 z1 [])) (c' := 2) [0, 1] (by decide) rfl ⟨rfl, trivial⟩ ⟨⟨_, _, rfl, rfl, .inl ⟨rfl, rwI⟩⟩, ⟨_, _, rfl, rfl, .inl ⟨rfl, rwI⟩⟩, trivial⟩ rfl ?_
     refine XQ.ret (by kernel_rfl) ?_
     cases h
     exact hQ
    | false =>
     have h := cF b3 h
     refine iF (.tmp 19) ?_
     refine kQ ?_
     show XQ _ _ _ _ _ _ _ _
     refine qQ ?_
     refine rS 2 [(0, s0 0 a.length), (1, s0 1 b.length), (6, ii (List.getD a (Int.toNat x11_1) 0)), (9, s0 0 a.length), (10, ii x10_1), (11, ii x11_1), (20, s0 1 b.length), (21, ii x11_1)] ?_
     cases b4 : (inRow x11_1 b.length : Bool) with
     | false => cases (cF b4 h)
     | true =>
      have h := cT b4 h
      refine XR.rd E0_ok [0, 1, 6, 9, 10, 11, 22] rfl (v := pp 1 ((Int.toNat x11_1) * 1)) (v_idx (s := 1) (x := (src 36 (.tmp 20))) (y := (src 36 (.tmp 21))) (b := 1) (o := 0) (len := b.length) (cap := b.length) (ik := .i64) (i := x11_1) (off := (Int.toNat x11_1) * 1) (d := (some (path 12 22))) (by kernel_rfl) (by kernel_rfl) (by kernel_rfl) b4 (by omega)) (σ' := [(0, s0 0 a.length), (1, s0 1 b.length), (6, ii (List.getD a (Int.toNat x11_1) 0)), (9, s0 0 a.length), (10, ii x10_1), (11, ii x11_1), (22, pp 1 ((Int.toNat x11_1) * 1))]) (by kernel_rfl) ?_
      refine XR.rd E0_ok [0, 1, 6, 9, 10, 11, 23] rfl (v := ii (List.getD b (Int.toNat x11_1) 0)) (v_load1 (encI_ok .i64) (x := (src 36 (.tmp 22))) (b := 1) (off := (Int.toNat x11_1) * 1) (xs := b) (fz := z1) (e := y1) (es := x1) (d := (some (path 12 23))) (by kernel_rfl) (by kernel_rfl) (by kernel_rfl) (Int.toNat x11_1) 0 0 (by first | with_reducible rfl | omega | rfl) (row_len (inRow_toNat b4) (by simp)) rfl rfl) (σ' := [(0, s0 0 a.length), (1, s0 1 b.length), (6, ii (List.getD a (Int.toNat x11_1) 0)), (9, s0 0 a.length), (10, ii x10_1), (11, ii x11_1), (23, ii (List.getD b (Int.toNat x11_1) 0))]) (by kernel_rfl) ?_
      refine rS 1 [(0, s0 0 a.length), (1, s0 1 b.length), (6, ii (List.getD a (Int.toNat x11_1) 0)), (7, ii (List.getD b (Int.toNat x11_1) 0)), (9, s0 0 a.length), (10, ii x10_1), (11, ii x11_1)] ?_
      refine nQ id ?_
      refine rS 2 (quh2 a b x10_1 [(11, ii x11_1), (24, ii (List.getD a (Int.toNat x11_1) 0)), (25, ii (List.getD b (Int.toNat x11_1) 0))]) ?_
      refine XR.callK E0_ok [0, 1, 9, 10, 11, 26] rfl (K := 89) (args := [ii (List.getD a (Int.toNat x11_1) 0), ii (List.getD b (Int.toNat x11_1) 0)]) (d := (some (path 12 26))) (by kernel_rfl) ?_
      refine KC.bodyN E0_ok (F := Proofs.Tryd.f89) (by kernel_rfl) (code := f54_C89) (by kernel_rfl) (nt := 20) (by kernel_rfl) (rs := [.tmp 4]) (by kernel_rfl) (by kernel_rfl) (σ := (quh3 a b x11_1 [])) (by kernel_rfl) ?_
      refine qQ ?_
      refine rS 1 (quh3 a b x11_1 []) ?_
      refine nQ id ?_
      refine rS 1 (quh3 a b x11_1 [(7, ii (List.getD a (Int.toNat x11_1) 0))]) ?_
      refine XR.callK E0_ok [0, 1, 8] rfl (K := 106) (args := [ii (List.getD a (Int.toNat x11_1) 0)]) (d := (some (path 12 8))) (by kernel_rfl) ?_
      refine KC.bodyN E0_ok (F := Proofs.Tryd.f106) (by kernel_rfl) (code := f54_C106) (by kernel_rfl) (nt := 6) (by kernel_rfl) (rs := [.tmp 2]) (by kernel_rfl) (by kernel_rfl) (σ := [(0, ii (List.getD a (Int.toNat x11_1) 0))]) (by kernel_rfl) ?_
      refine qQ ?_
      refine rS 1 [(0, ii (List.getD a (Int.toNat x11_1) 0))] ?_
      refine nQ id ?_
      refine rS 4 [(2, .bool ((List.getD a (Int.toNat x11_1) 0) != (List.getD a (Int.toNat x11_1) 0)))] ?_
      refine dQ ?_
      show XQ _ _ _ _ _ _ _ _
      refine XQ.ret (by kernel_rfl) ?_
      refine ⟨fun i q => (by cases q), .bool ((List.getD a (Int.toNat x11_1) 0) != (List.getD a (Int.toNat x11_1) 0)), (by kernel_rfl), ?_⟩
      refine XR.conv (σ' := (quh3 a b x11_1 [(8, .bool ((List.getD a (Int.toNat x11_1) 0) != (List.getD a (Int.toNat x11_1) 0)))])) (h' := (quh4 a b x0 x1 y0 y1 z0 z1 [])) (c' := 2) ?_ (by kernel_rfl)
      refine rS 1 (quh3 a b x11_1 [(5, .bool ((List.getD a (Int.toNat x11_1) 0) != (List.getD a (Int.toNat x11_1) 0)))]) ?_
      refine nQ id ?_
      refine rS 1 (quh3 a b x11_1 [(5, .bool ((List.getD a (Int.toNat x11_1) 0) != (List.getD a (Int.toNat x11_1) 0))), (9, ii (List.getD b (Int.toNat x11_1) 0))]) ?_
      refine XR.callK E0_ok [0, 1, 5, 10] rfl (K := 106) (args := [ii (List.getD b (Int.toNat x11_1) 0)]) (d := (some (path 12 10))) (by kernel_rfl) ?_
      refine KC.bodyN E0_ok (F := Proofs.Tryd.f106) (by kernel_rfl) (code := f54_C106) (by kernel_rfl) (nt := 6) (by kernel_rfl) (rs := [.tmp 2]) (by kernel_rfl) (by kernel_rfl) (σ := [(0, ii (List.getD b (Int.toNat x11_1) 0))]) (by kernel_rfl) ?_
      refine qQ ?_
      refine rS 1 [(0, ii (List.getD b (Int.toNat x11_1) 0))] ?_
      refine nQ id ?_
      refine rS 4 [(2, .bool ((List.getD b (Int.toNat x11_1) 0) != (List.getD b (Int.toNat x11_1) 0)))] ?_
      refine dQ ?_
      show XQ _ _ _ _ _ _ _ _
      refine XQ.ret (by kernel_rfl) ?_
      refine ⟨fun i q => (by cases q), .bool ((List.getD b (Int.toNat x11_1) 0) != (List.getD b (Int.toNat x11_1) 0)), (by kernel_rfl), ?_⟩
      refine XR.conv (σ' := (quh3 a b x11_1 [(5, .bool ((List.getD a (Int.toNat x11_1) 0) != (List.getD a (Int.toNat x11_1) 0))), (10, .bool ((List.getD b (Int.toNat x11_1) 0) != (List.getD b (Int.toNat x11_1) 0)))])) (h' := (quh4 a b x0 x1 y0 y1 z0 z1 [])) (c' := 2) ?_ (by kernel_rfl)
      refine rS 1 (quh3 a b x11_1 [(5, .bool ((List.getD a (Int.toNat x11_1) 0) != (List.getD a (Int.toNat x11_1) 0))), (6, .bool ((List.getD b (Int.toNat x11_1) 0) != (List.getD b (Int.toNat x11_1) 0)))]) ?_
      refine dQ ?_
      show XQ _ _ _ _ _ _ _ _
      refine sQ ?_
      refine qQ ?_
      refine rS 1 (quh3 a b x11_1 [(6, .bool ((List.getD b (Int.toNat x11_1) 0) != (List.getD b (Int.toNat x11_1) 0))), (11, .bool ((List.getD a (Int.toNat x11_1) 0) != (List.getD a (Int.toNat x11_1) 0)))]) ?_
      refine dQ ?_
      show XQ _ _ _ _ _ _ _ _
      cases b5 : ((List.getD a (Int.toNat x11_1) 0) != (List.getD a (Int.toNat x11_1) 0) : Bool) with
      | true =>
       have h := cT b5 h
       refine iT (.tmp 11) ?_
       refine sQ ?_
       refine qQ ?_
       refine rS 1 [(12, .bool ((List.getD b (Int.toNat x11_1) 0) != (List.getD b (Int.toNat x11_1) 0)))] ?_
       refine dQ ?_
       show XQ _ _ _ _ _ _ _ _
       cases b6 : ((List.getD b (Int.toNat x11_1) 0) != (List.getD b (Int.toNat x11_1) 0) : Bool) with
       | true =>
        have h := cT b6 h
        refine iT (.tmp 12) ?_
        refine qQ ?_
        refine rS 1 [(4, ii 0)] ?_
        refine dQ ?_
        show XQ _ _ _ _ _ _ _ _
        refine XQ.ret (by kernel_rfl) ?_
        refine ⟨fun i q => (by cases q), ii 0, (by kernel_rfl), ?_⟩
        refine XR.conv (σ' := (quh2 a b x10_1 [(11, ii x11_1), (26, ii 0)])) (h' := (quh4 a b x0 x1 y0 y1 z0 z1 [])) (c' := 2) ?_ (by kernel_rfl)
        refine rS 1 [(0, s0 0 a.length), (1, s0 1 b.length), (8, ii 0), (9, s0 0 a.length), (10, ii x10_1), (11, ii x11_1)] ?_
        refine nQ id ?_
        refine rS 2 [(0, s0 0 a.length), (1, s0 1 b.length), (8, ii 0), (9, s0 0 a.length), (10, ii x10_1), (11, ii x11_1), (28, .bool false)] ?_
        refine dQ ?_
        show XQ _ _ _ _ _ _ _ _
        refine iF (.tmp 28) ?_
        refine kQ ?_
        show XQ _ _ _ _ _ _ _ _
        refine rQ ?_
        refine rS 2 (quh2 a b x10_1 [(11, ii (w64 (x11_1 + 1)))]) ?_
        refine dQ ?_
        show XL _ _ _ _ _ _ _ _ _
        refine XL.ren (σ' := (quh2 a b x10_1 [(11, ii (w64 (x11_1 + 1)))])) (h' := (quh4 a b x0 x1 y0 y1 z0 z1 [])) (c' := 2) [0, 1] (by decide) rfl ⟨rfl, rfl, rfl, rfl, rfl, trivial⟩ ⟨⟨_, _, rfl, rfl, .inl ⟨rfl, rwI⟩⟩, ⟨_, _, rfl, rfl, .inl ⟨rfl, rwI⟩⟩, trivial⟩ rfl ?_
        refine XL.conv (f54_1_ok m fuel z0 y0 x0 a z1 y1 x1 b x10_1 (w64 (x11_1 + 1)) o h Q hQ) (by first | with_reducible rfl | simp | rfl)
       | false =>
        have h := cF b6 h
        refine iF (.tmp 12) ?_
        refine kQ ?_
        show XQ _ _ _ _ _ _ _ _
        refine qQ ?_
        refine rS 1 [(4, ii (-1))] ?_
        refine dQ ?_
        show XQ _ _ _ _ _ _ _ _
        refine XQ.ret (by kernel_rfl) ?_
        refine ⟨fun i q => (by cases q), ii (-1), (by kernel_rfl), ?_⟩
        refine XR.conv (σ' := (quh2 a b x10_1 [(11, ii x11_1), (26, ii (-1))])) (h' := (quh4 a b x0 x1 y0 y1 z0 z1 [])) (c' := 2) ?_ (by kernel_rfl)
        refine rS 1 [(0, s0 0 a.length), (1, s0 1 b.length), (8, ii (-1)), (9, s0 0 a.length), (10, ii x10_1), (11, ii x11_1)] ?_
        refine nQ id ?_
        refine rS 2 [(0, s0 0 a.length), (1, s0 1 b.length), (8, ii (-1)), (9, s0 0 a.length), (10, ii x10_1), (11, ii x11_1), (28, .bool true)] ?_
        refine dQ ?_
        show XQ _ _ _ _ _ _ _ _
        refine iT (.tmp 28) ?_
        refine qQ ?_
        refine rS 2 [(4, ii (-1))] ?_
        refine dQ ?_
        show XQ _ _ _ _ _ _ _ _
        refine XQ.ren (σ' := [(4, ii (-1))]) (h' := (quh4 a b x0 x1 y0 y1 z0 z1 [])) (c' := 2) [0, 1] (by decide) rfl ⟨rfl, trivial⟩ ⟨⟨_, _, rfl, rfl, .inl ⟨rfl, rwI⟩⟩, ⟨_, _, rfl, rfl, .inl ⟨rfl, rwI⟩⟩, trivial⟩ rfl ?_
        refine XQ.ret (by kernel_rfl) ?_
        cases h
        exact hQ
      | false =>
       have h := cF b5 h
       refine iF (.tmp 11) ?_
       refine kQ ?_
       show XQ _ _ _ _ _ _ _ _
       refine sQ ?_
       refine qQ ?_
       refine rS 1 (quh3 a b x11_1 [(13, .bool ((List.getD b (Int.toNat x11_1) 0) != (List.getD b (Int.toNat x11_1) 0)))]) ?_
       refine dQ ?_
       show XQ _ _ _ _ _ _ _ _
       cases b7 : ((List.getD b (Int.toNat x11_1) 0) != (List.getD b (Int.toNat x11_1) 0) : Bool) with
       | true =>
        have h := cT b7 h
        refine iT (.tmp 13) ?_
        refine qQ ?_
        refine rS 1 [(4, ii 1)] ?_
        refine dQ ?_
        show XQ _ _ _ _ _ _ _ _
        refine XQ.ret (by kernel_rfl) ?_
        refine ⟨fun i q => (by cases q), ii 1, (by kernel_rfl), ?_⟩
        refine XR.conv (σ' := (quh2 a b x10_1 [(11, ii x11_1), (26, ii 1)])) (h' := (quh4 a b x0 x1 y0 y1 z0 z1 [])) (c' := 2) ?_ (by kernel_rfl)
        refine rS 1 [(0, s0 0 a.length), (1, s0 1 b.length), (8, ii 1), (9, s0 0 a.length), (10, ii x10_1), (11, ii x11_1)] ?_
        refine nQ id ?_
        refine rS 2 [(0, s0 0 a.length), (1, s0 1 b.length), (8, ii 1), (9, s0 0 a.length), (10, ii x10_1), (11, ii x11_1), (28, .bool true)] ?_
        refine dQ ?_
        show XQ _ _ _ _ _ _ _ _
        refine iT (.tmp 28) ?_
        refine qQ ?_
        refine rS 2 [(4, ii 1)] ?_
        refine dQ ?_
        show XQ _ _ _ _ _ _ _ _
        refine XQ.ren (σ' := [(4, ii 1)]) (h' := (quh4 a b x0 x1 y0 y1 z0 z1 [])) (c' := 2) [0, 1] (by decide) rfl ⟨rfl, trivial⟩ ⟨⟨_, _, rfl, rfl, .inl ⟨rfl, rwI⟩⟩, ⟨_, _, rfl, rfl, .inl ⟨rfl, rwI⟩⟩, trivial⟩ rfl ?_
        refine XQ.ret (by kernel_rfl) ?_
        cases h
        exact hQ
       | false =>
        have h := cF b7 h
        refine iF (.tmp 13) ?_
        refine kQ ?_
        show XQ _ _ _ _ _ _ _ _
        refine sQ ?_
        refine qQ ?_
        refine rS 3 (quh3 a b x11_1 [(16, .bool (decide ((List.getD a (Int.toNat x11_1) 0) < (List.getD b (Int.toNat x11_1) 0))))]) ?_
        refine dQ ?_
        show XQ _ _ _ _ _ _ _ _
        cases b8 : (decide ((List.getD a (Int.toNat x11_1) 0) < (List.getD b (Int.toNat x11_1) 0)) : Bool) with
        | true =>
         have h := cT b8 h
         refine iT (.tmp 16) ?_
         refine qQ ?_
         refine rS 1 [(4, ii (-1))] ?_
         refine dQ ?_
         show XQ _ _ _ _ _ _ _ _
         refine XQ.ret (by kernel_rfl) ?_
         refine ⟨fun i q => (by cases q), ii (-1), (by kernel_rfl), ?_⟩
         refine XR.conv (σ' := (quh2 a b x10_1 [(11, ii x11_1), (26, ii (-1))])) (h' := (quh4 a b x0 x1 y0 y1 z0 z1 [])) (c' := 2) ?_ (by kernel_rfl)
         refine rS 1 [(0, s0 0 a.length), (1, s0 1 b.length), (8, ii (-1)), (9, s0 0 a.length), (10, ii x10_1), (11, ii x11_1)] ?_
         refine nQ id ?_
         refine rS 2 [(0, s0 0 a.length), (1, s0 1 b.length), (8, ii (-1)), (9, s0 0 a.length), (10, ii x10_1), (11, ii x11_1), (28, .bool true)] ?_
         refine dQ ?_
         show XQ _ _ _ _ _ _ _ _
         refine iT (.tmp 28) ?_
         refine qQ ?_
         refine rS 2 [(4, ii (-1))] ?_
         refine dQ ?_
         show XQ _ _ _ _ _ _ _ _
         refine XQ.ren (σ' := [(4, ii (-1))]) (h' := (quh4 a b x0 x1 y0 y1 z0 z1 [])) (c' := 2) [0, 1] (by decide) rfl ⟨rfl, trivial⟩ ⟨⟨_, _, rfl, rfl, .inl ⟨rfl, rwI⟩⟩, ⟨_, _, rfl, rfl, .inl ⟨rfl, rwI⟩⟩, trivial⟩ rfl ?_
         refine XQ.ret (by kernel_rfl) ?_
         cases h
         exact hQ
        | false =>
         have h := cF b8 h
         refine iF (.tmp 16) ?_
         refine kQ ?_
         show XQ _ _ _ _ _ _ _ _
         refine sQ ?_
         refine qQ ?_
         refine rS 3 [(19, .bool (decide ((List.getD a (Int.toNat x11_1) 0) > (List.getD b (Int.toNat x11_1) 0))))] ?_
         refine dQ ?_
         show XQ _ _ _ _ _ _ _ _
         cases b9 : (decide ((List.getD a (Int.toNat x11_1) 0) > (List.getD b (Int.toNat x11_1) 0)) : Bool) with
         | true =>
          have h := cT b9 h
          refine iT (.tmp 19) ?_
          refine qQ ?_
          refine rS 1 [(4, ii 1)] ?_
          refine dQ ?_
          show XQ _ _ _ _ _ _ _ _
          refine XQ.ret (by kernel_rfl) ?_
          refine ⟨fun i q => (by cases q), ii 1, (by kernel_rfl), ?_⟩
          refine XR.conv (σ' := (quh2 a b x10_1 [(11, ii x11_1), (26, ii 1)])) (h' := (quh4 a b x0 x1 y0 y1 z0 z1 [])) (c' := 2) ?_ (by kernel_rfl)
          refine rS 1 [(0, s0 0 a.length), (1, s0 1 b.length), (8, ii 1), (9, s0 0 a.length), (10, ii x10_1), (11, ii x11_1)] ?_
          refine nQ id ?_
          refine rS 2 [(0, s0 0 a.length), (1, s0 1 b.length), (8, ii 1), (9, s0 0 a.length), (10, ii x10_1), (11, ii x11_1), (28, .bool true)] ?_
          refine dQ ?_
          show XQ _ _ _ _ _ _ _ _
          refine iT (.tmp 28) ?_
          refine qQ ?_
          refine rS 2 [(4, ii 1)] ?_
          refine dQ ?_
          show XQ _ _ _ _ _ _ _ _
          refine XQ.ren (σ' := [(4, ii 1)]) (h' := (quh4 a b x0 x1 y0 y1 z0 z1 [])) (c' := 2) [0, 1] (by decide) rfl ⟨rfl, trivial⟩ ⟨⟨_, _, rfl, rfl, .inl ⟨rfl, rwI⟩⟩, ⟨_, _, rfl, rfl, .inl ⟨rfl, rwI⟩⟩, trivial⟩ rfl ?_
          refine XQ.ret (by kernel_rfl) ?_
          cases h
          exact hQ
         | false =>
          have h := cF b9 h
          refine iF (.tmp 19) ?_
          refine kQ ?_
          show XQ _ _ _ _ _ _ _ _
          refine qQ ?_
          refine rS 1 [(4, ii 0)] ?_
          refine dQ ?_
          show XQ _ _ _ _ _ _ _ _
          refine XQ.ret (by kernel_rfl) ?_
          refine ⟨fun i q => (by cases q), ii 0, (by kernel_rfl), ?_⟩
          refine XR.conv (σ' := (quh2 a b x10_1 [(11, ii x11_1), (26, ii 0)])) (h' := (quh4 a b x0 x1 y0 y1 z0 z1 [])) (c' := 2) ?_ (by kernel_rfl)
          refine rS 1 [(0, s0 0 a.length), (1, s0 1 b.length), (8, ii 0), (9, s0 0 a.length), (10, ii x10_1), (11, ii x11_1)] ?_
          refine nQ id ?_
          refine rS 2 [(0, s0 0 a.length), (1, s0 1 b.length), (8, ii 0), (9, s0 0 a.length), (10, ii x10_1), (11, ii x11_1), (28, .bool false)] ?_
          refine dQ ?_
          show XQ _ _ _ _ _ _ _ _
          refine iF (.tmp 28) ?_
          refine kQ ?_
          show XQ _ _ _ _ _ _ _ _
          refine rQ ?_
          refine rS 2 (quh2 a b x10_1 [(11, ii (w64 (x11_1 + 1)))]) ?_
          refine dQ ?_
          show XL _ _ _ _ _ _ _ _ _
          refine XL.ren (σ' := (quh2 a b x10_1 [(11, ii (w64 (x11_1 + 1)))])) (h' := (quh4 a b x0 x1 y0 y1 z0 z1 [])) (c' := 2) [0, 1] (by decide) rfl ⟨rfl, rfl, rfl, rfl, rfl, trivial⟩ ⟨⟨_, _, rfl, rfl, .inl ⟨rfl, rwI⟩⟩, ⟨_, _, rfl, rfl, .inl ⟨rfl, rwI⟩⟩, trivial⟩ rfl ?_
          refine XL.conv (f54_1_ok m fuel z0 y0 x0 a z1 y1 x1 b x10_1 (w64 (x11_1 + 1)) o h Q hQ) (by first | with_reducible rfl | simp | rfl)
  | false =>
   have h := cF b1 h
   refine iF (.tmp 12) ?_
   refine XQ.ren (σ' := [(0, s0 0 a.length), (1, s0 1 b.length)]) (h' := (quh4 a b x0 x1 y0 y1 z0 z1 [])) (c' := 2) [0, 1] (by decide) rfl ⟨rfl, rfl, trivial⟩ ⟨⟨_, _, rfl, rfl, .inl ⟨rfl, rwI⟩⟩, ⟨_, _, rfl, rfl, .inl ⟨rfl, rwI⟩⟩, trivial⟩ rfl ?_
   refine XQ.exit (i := 0) (by kernel_rfl) ?_
   cases h
   exact hQ
def f54 (m : Nat) (a : List Int) (b : List Int) : Option (Int) :=
 (f54_1 m m a b ((a.length : Nat) : Int) 0).bind fun o1 =>
  match o1 with
  | .r x4_r1 =>
   some (x4_r1)
  | .x0 =>
   cond (decide (((a.length : Nat) : Int) < ((b.length : Nat) : Int))) (
    some ((-1))
   ) (
    some (0)
   )
theorem f54_ok (m : Nat) (z0 : Nat) (y0 : Nat) (x0 : Nat) (z1 : Nat) (y1 : Nat) (x1 : Nat) (a : List Int) (b : List Int) (o : Int) (h : f54 m a b = some o) : KC E0 54 [s0 0 a.length, s0 1 b.length] [(1, rc (encI .i64) b z1 y1 x1), (0, rc (encI .i64) a z0 y0 x0)] 2 (fun v _ _ => v = ii o) := by
 refine KC.bodyN E0_ok (F := Proofs.Tryd.f54) (by kernel_rfl) (code := f54_C54) (by kernel_rfl) (nt := 36) (by kernel_rfl) (rs := [.tmp 4]) (by kernel_rfl) (by kernel_rfl) (σ := [(0, s0 0 a.length), (1, s0 1 b.length)]) (by kernel_rfl) ?_
 unfold f54 at h
 refine qQ ?_
 refine rS 1 [(0, s0 0 a.length), (1, s0 1 b.length)] ?_
 refine dQ ?_
 show XQ _ _ _ _ _ _ _ _
 refine sQ ?_
 refine qQ ?_
 refine rS 3 [(0, s0 0 a.length), (1, s0 1 b.length), (9, s0 0 a.length), (10, ii ((a.length : Nat) : Int)), (11, ii 0)] ?_
 refine dQ ?_
 show XQ _ _ _ _ _ _ _ _
 refine XQ.block (id := 0) (by kernel_rfl) ?_
 refine XQ.loop m (by kernel_rfl) ?_
 obtain ⟨o1, o1_h, h⟩ := bS h
 refine XL.ren (σ' := [(0, s0 0 a.length), (1, s0 1 b.length), (9, s0 0 a.length), (10, ii ((a.length : Nat) : Int)), (11, ii 0)]) (h' := [(1, rc (encI .i64) b z1 y1 x1), (0, rc (encI .i64) a z0 y0 x0)]) (c' := 2) [0, 1] (by decide) rfl ⟨rfl, rfl, rfl, rfl, rfl, trivial⟩ ⟨⟨_, _, rfl, rfl, .inl ⟨rfl, rwI⟩⟩, ⟨_, _, rfl, rfl, .inl ⟨rfl, rwI⟩⟩, trivial⟩ rfl ?_
 cases o1 with
 | r x4_r1 =>
  dsimp only at h
  refine XL.conv (f54_1_ok m m z0 y0 x0 a z1 y1 x1 b ((a.length : Nat) : Int) 0 (.r x4_r1) o1_h _ ?_) (by first | with_reducible rfl | simp | rfl)
  have h := Option.some.inj h
  subst h
  exact ⟨fun i q => (by cases q), ii x4_r1, (by kernel_rfl), rfl⟩
 | x0 =>
  dsimp only at h
  refine XL.conv (f54_1_ok m m z0 y0 x0 a z1 y1 x1 b ((a.length : Nat) : Int) 0 (.x0) o1_h _ ?_) (by first | with_reducible rfl | simp | rfl)
  show XQ _ _ _ _ _ _ _ _
  refine sQ ?_
  refine qQ ?_
  refine rS 5 [(35, .bool (decide (((a.length : Nat) : Int) < ((b.length : Nat) : Int))))] ?_
  refine dQ ?_
  show XQ _ _ _ _ _ _ _ _
  cases b2 : (decide (((a.length : Nat) : Int) < ((b.length : Nat) : Int)) : Bool) with
  | true =>
   have h := cT b2 h
   refine iT (.tmp 35) ?_
   refine qQ ?_
   refine rS 1 [(4, ii (-1))] ?_
   refine dQ ?_
   show XQ _ _ _ _ _ _ _ _
   refine XQ.ret (by kernel_rfl) ?_
   have h := Option.some.inj h
   subst h
   exact ⟨fun i q => (by cases q), ii (-1), (by kernel_rfl), rfl⟩
  | false =>
   have h := cF b2 h
   refine iF (.tmp 35) ?_
   refine kQ ?_
   show XQ _ _ _ _ _ _ _ _
   refine qQ ?_
   refine rS 1 [(4, ii 0)] ?_
   refine dQ ?_
   show XQ _ _ _ _ _ _ _ _
   refine XQ.ret (by kernel_rfl) ?_
   have h := Option.some.inj h
   subst h
   exact ⟨fun i q => (by cases q), ii 0, (by kernel_rfl), rfl⟩
noncomputable def f53_C53 : Code := Proofs.Tryd.f53.body.getD .skip
def f53 (m : Nat) (a_0 : Int) (a_1 : Int) (b_0 : Int) (b_1 : Int) : Option (Int) :=
 cond (cutOK 0 ((2 : Nat) : Int) ((2 : Nat) : Int) 2) (
  (f54 m [a_0, a_1] [b_0, b_1]).bind fun r1 =>
   some (r1)
 ) none
theorem f53_ok (m : Nat) (a_0 : Int) (a_1 : Int) (b_0 : Int) (b_1 : Int) (o : Int) (h : f53 m a_0 a_1 b_0 b_1 = some o) (w : World) (hI : seatInv w) : Calls Proofs.Tryd.prog 53 #[.agg #[ii a_0, ii a_1], .agg #[ii b_0, ii b_1]] w fun e w' => e = .returned (ii o) ∧ Below w.heap.size w w' := by
 refine KC.calls (E := E0) (args := [.agg #[ii a_0, ii a_1], .agg #[ii b_0, ii b_1]]) (v := ii o) rfl rfl (KC.bodyN E0_ok (F := Proofs.Tryd.f53) (by kernel_rfl) (code := f53_C53) (by kernel_rfl) (nt := 8) (by kernel_rfl) (rs := [.tmp 4]) (by kernel_rfl) (by kernel_rfl) (σ := [(0, .agg #[ii a_0, ii a_1]), (1, .agg #[ii b_0, ii b_1])]) (by kernel_rfl) ?_) w (seatInv_size hI) hI
 unfold f53 at h
 refine qQ ?_
 refine rT 3 [(2, pp 0 0), (3, pp 1 0)] [(1, .cells [ii b_0, ii b_1] 0 55 0), (0, .cells [ii a_0, ii a_1] 0 55 0)] 2 ?_
 refine dQ ?_
 show XQ _ _ _ _ _ _ _ _
 refine sQ ?_
 refine XQ.quiet E0_ok (by kernel_rfl) (by kernel_rfl) ?_
 cases b1 : (cutOK 0 ((2 : Nat) : Int) ((2 : Nat) : Int) 2 : Bool) with
 | false => cases (cF b1 h)
 | true =>
  have h := cT b1 h
  refine XU.rd E0_ok [3, 5] rfl (v := s0 0 2) (v_cutA (nt := 8) (s := 1) (n := 2) (x := (src 8 (.tmp 2))) (lo := none) (hi := none) (b := 0) (o := 0) (l := none) (u := none) (cs := rowC (encI .i64) [a_0, a_1]) (fz := 0) (e := 55) (o' := 0) (len' := 2) (cap' := 2) (d := (some (path 12 5))) (by kernel_rfl) (by kernel_rfl) (by kernel_rfl) (by kernel_rfl) (by kernel_rfl) b1 (by simp only [Option.getD_none, Option.getD_some] <;> omega) (by simp only [Option.getD_none, Option.getD_some] <;> omega) (by simp only [Option.getD_none, Option.getD_some] <;> omega)) (σ' := [(3, pp 1 0), (5, s0 0 2)]) (by kernel_rfl) ?_
  refine XU.rd E0_ok [5, 6] rfl (v := s0 1 2) (v_cutA (nt := 8) (s := 1) (n := 2) (x := (src 8 (.tmp 3))) (lo := none) (hi := none) (b := 1) (o := 0) (l := none) (u := none) (cs := rowC (encI .i64) [b_0, b_1]) (fz := 0) (e := 55) (o' := 0) (len' := 2) (cap' := 2) (d := (some (path 12 6))) (by kernel_rfl) (by kernel_rfl) (by kernel_rfl) (by kernel_rfl) (by kernel_rfl) b1 (by simp only [Option.getD_none, Option.getD_some] <;> omega) (by simp only [Option.getD_none, Option.getD_some] <;> omega) (by simp only [Option.getD_none, Option.getD_some] <;> omega)) (σ' := [(5, s0 0 2), (6, s0 1 2)]) (by kernel_rfl) ?_
  obtain ⟨r1, r1_h, h⟩ := bS h
  refine XU.callH E0_ok [7] rfl (K := 54) (args := [s0 0 2, s0 1 2]) (d := (some (path 12 7))) (V := ii r1) (by kernel_rfl) rfl (KC.quiet E0_ok (args0 := [s0 0 2, s0 1 2]) (h0 := [(1, rc (encI .i64) [b_0, b_1] (0 + ((rowC (encI .i64) [b_0, b_1]).length + 1)) 55 0), (0, rc (encI .i64) [a_0, a_1] (0 + ((rowC (encI .i64) [a_0, a_1]).length + 1)) 55 0)]) (n := 2) (V := ii r1) [0, 1] (f54_ok m (0 + ((rowC (encI .i64) [a_0, a_1]).length + 1)) 55 0 (0 + ((rowC (encI .i64) [b_0, b_1]).length + 1)) 55 0 [a_0, a_1] [b_0, b_1] r1 r1_h) rfl (by rfl) (by decide) rfl (by kernel_rfl) ⟨⟨_, _, rfl, rfl, .inl ⟨rfl, rwI⟩⟩, ⟨_, _, rfl, rfl, .inl ⟨rfl, rwI⟩⟩, trivial⟩) (σ' := [(7, ii r1)]) (by kernel_rfl) ?_
  refine XU.run E0_ok 1 1 [4] rfl (σ' := [(4, ii r1)]) (by kernel_rfl) ?_
  refine XU.done (by kernel_rfl) ?_
  show XQ _ _ _ _ _ _ _ _
  refine XQ.ret (by kernel_rfl) ?_
  have h := Option.some.inj h
  subst h
  exact ⟨fun i q => (by cases q), ii r1, (by kernel_rfl), rfl⟩
end Go.Xm
namespace Go.Xm
open Go.RowKit
set_option linter.unusedVariables false
set_option linter.unusedSimpArgs false
set_option maxRecDepth 20000
noncomputable def f12_C12 : Code := Proofs.Tryd.f12.body.getD .skip
noncomputable def f12_C52 : Code := Proofs.Tryd.f52.body.getD .skip
noncomputable def f12_L1 : Code := lft (lft (rgt (lft (rgt (rgt (rgt (rgt (rgt (rgt f12_C12)))))))))
noncomputable def f12_L2 : Code := lft (lft (rgt (lft (rgt f12_C52))))
inductive Of12_2 where
 | r (x6_r2 : Int) (lh4_r2 : List (Int × Int)) (xh5_0_r2 : Int) (lh6_r2 : List Int)
 | x0 (lh4_x02 : List (Int × Int)) (xh5_0_x02 : Int) (lh6_x02 : List Int)
def f12_2 (m : Nat) : Nat → Int → List Int → List (Int × Int) → List (Int × Int) → Int → Int → List (Int × Int) → Int → List Int → Option Of12_2
 | 0, _, _, _, _, _, _, _, _, _ => none
 | fuel + 1, xh0_0_1, lh1_1, lh2_1, lh3_1, x12_2, x13_2, lh4_2, xh5_0_2, lh6_2 =>
  cond (decide (x13_2 < x12_2)) (
   cond (inRow x13_2 lh4_2.length) (
    cond (decide (x13_2 ≥ ((lh2_1.length : Nat) : Int))) (
     some (.r 1 lh4_2 xh5_0_2 lh6_2)
    ) (
     cond (inRow x13_2 lh2_1.length) (
      (f53 m ((List.getD lh4_2 (Int.toNat x13_2) (0, 0)).1) ((List.getD lh4_2 (Int.toNat x13_2) (0, 0)).2) ((List.getD lh2_1 (Int.toNat x13_2) (0, 0)).1) ((List.getD lh2_1 (Int.toNat x13_2) (0, 0)).2)).bind fun r17 =>
       cond (r17 != 0) (
        some (.r r17 lh4_2 xh5_0_2 lh6_2)
       ) (
        f12_2 m fuel xh0_0_1 lh1_1 lh2_1 lh3_1 x12_2 (w64 (x13_2 + 1)) lh4_2 xh5_0_2 lh6_2
       )
     ) none
    )
   ) none
  ) (
   some (.x0 lh4_2 xh5_0_2 lh6_2)
  )
theorem f12_2_ok (m : Nat) : ∀ (fuel : Nat) (xh0_0_1 : Int) (lh1_1 : List Int) (lh2_1 : List (Int × Int)) (lh3_1 : List (Int × Int)) (x12_2 : Int) (x13_2 : Int) (lh4_2 : List (Int × Int)) (xh5_0_2 : Int) (lh6_2 : List Int) (o : Of12_2), f12_2 m fuel xh0_0_1 lh1_1 lh2_1 lh3_1 x12_2 x13_2 lh4_2 xh5_0_2 lh6_2 = some o → ∀ Q : QP, (match o with | .r x6_r2 lh4_r2 xh5_0_r2 lh6_r2 => Q .ret [(6, ii x6_r2)] [(6, rI lh6_r2), (5, .cells [ii xh5_0_r2, s0 4 lh4_r2.length] 0 34 0), (4, rc encP lh4_r2 0 55 2), (3, rc encP lh3_1 0 55 2), (2, rc encP lh2_1 0 55 2), (1, rI lh1_1), (0, .cells [ii xh0_0_1, s0 3 lh3_1.length] 0 34 0)] 7 | .x0 lh4_x02 xh5_0_x02 lh6_x02 => Q (.exit 0) [(0, s0 4 lh4_x02.length), (1, s0 2 lh2_1.length)] [(6, rI lh6_x02), (5, .cells [ii xh5_0_x02, s0 4 lh4_x02.length] 0 34 0), (4, rc encP lh4_x02 0 55 2), (3, rc encP lh3_1 0 55 2), (2, rc encP lh2_1 0 55 2), (1, rI lh1_1), (0, .cells [ii xh0_0_1, s0 3 lh3_1.length] 0 34 0)] 7) → XL E0 39 7 fuel f12_L2 [(0, s0 4 lh4_2.length), (1, s0 2 lh2_1.length), (2, .func (.func 53) #[] #[]), (11, s0 4 lh4_2.length), (12, ii x12_2), (13, ii x13_2)] [(6, rI lh6_2), (5, .cells [ii xh5_0_2, s0 4 lh4_2.length] 0 34 0), (4, rc encP lh4_2 0 55 2), (3, rc encP lh3_1 0 55 2), (2, rc encP lh2_1 0 55 2), (1, rI lh1_1), (0, .cells [ii xh0_0_1, s0 3 lh3_1.length] 0 34 0)] 7 Q
 | 0, xh0_0_1, lh1_1, lh2_1, lh3_1, x12_2, x13_2, lh4_2, xh5_0_2, lh6_2, o, h, Q, hQ => by cases h
 | fuel + 1, xh0_0_1, lh1_1, lh2_1, lh3_1, x12_2, x13_2, lh4_2, xh5_0_2, lh6_2, o, h, Q, hQ => by
  unfold f12_2 at h
  refine XL.succ E0_ok ?_
  refine qQ ?_
  refine rS 1 [(0, s0 4 lh4_2.length), (1, s0 2 lh2_1.length), (2, .func (.func 53) #[] #[]), (11, s0 4 lh4_2.length), (12, ii x12_2), (13, ii x13_2), (14, .bool (decide (x13_2 < x12_2)))] ?_
  refine dQ ?_
  show XQ _ _ _ _ _ _ _ _
  refine sQ ?_
  cases b1 : (decide (x13_2 < x12_2) : Bool) with
  | true =>
   have h := cT b1 h
   refine iT (.tmp 14) ?_
   refine kQ ?_
   show XQ _ _ _ _ _ _ _ _
   refine sQ ?_
   refine XQ.block (id := 1) (by kernel_rfl) ?_
   refine qQ ?_
   refine rS 1 [(0, s0 4 lh4_2.length), (1, s0 2 lh2_1.length), (2, .func (.func 53) #[] #[]), (11, s0 4 lh4_2.length), (12, ii x12_2), (13, ii x13_2), (15, ii x13_2)] ?_
   cases b2 : (inRow x13_2 lh4_2.length : Bool) with
   | false => cases (cF b2 h)
   | true =>
    have h := cT b2 h
    refine XR.rd E0_ok [0, 1, 2, 11, 12, 13, 15, 16] rfl (v := pp 4 ((Int.toNat x13_2) * 2)) (v_idx (s := 2) (x := (src 39 (.tmp 11))) (y := (src 39 (.tmp 13))) (b := 4) (o := 0) (len := lh4_2.length) (cap := lh4_2.length) (ik := .i64) (i := x13_2) (off := (Int.toNat x13_2) * 2) (d := (some (path 12 16))) (by kernel_rfl) (by kernel_rfl) (by kernel_rfl) b2 (by omega)) (σ' := [(0, s0 4 lh4_2.length), (1, s0 2 lh2_1.length), (2, .func (.func 53) #[] #[]), (11, s0 4 lh4_2.length), (12, ii x12_2), (13, ii x13_2), (15, ii x13_2), (16, pp 4 ((Int.toNat x13_2) * 2))]) (by kernel_rfl) ?_
    refine XR.rd E0_ok [0, 1, 2, 11, 12, 13, 15, 17] rfl (v := .agg #[ii ((List.getD lh4_2 (Int.toNat x13_2) (0, 0)).1), ii ((List.getD lh4_2 (Int.toNat x13_2) (0, 0)).2)]) (v_loadN encP_ok (x := (src 39 (.tmp 16))) (b := 4) (off := (Int.toNat x13_2) * 2) (xs := lh4_2) (fz := 0) (e := 55) (es := 2) (d := (some (path 12 17))) (by kernel_rfl) (by kernel_rfl) (by kernel_rfl) (Int.toNat x13_2) (0, 0) (by first | with_reducible rfl | omega | rfl) (row_len (inRow_toNat b2) (by simp)) rfl) (σ' := [(0, s0 4 lh4_2.length), (1, s0 2 lh2_1.length), (2, .func (.func 53) #[] #[]), (11, s0 4 lh4_2.length), (12, ii x12_2), (13, ii x13_2), (15, ii x13_2), (17, .agg #[ii ((List.getD lh4_2 (Int.toNat x13_2) (0, 0)).1), ii ((List.getD lh4_2 (Int.toNat x13_2) (0, 0)).2)])]) (by kernel_rfl) ?_
    refine rT 3 [(0, s0 4 lh4_2.length), (1, s0 2 lh2_1.length), (2, .func (.func 53) #[] #[]), (7, ii x13_2), (8, pp 7 0), (11, s0 4 lh4_2.length), (12, ii x12_2), (13, ii x13_2)] [(7, .cells [ii ((List.getD lh4_2 (Int.toNat x13_2) (0, 0)).1), ii ((List.getD lh4_2 (Int.toNat x13_2) (0, 0)).2)] 0 55 0), (6, rI lh6_2), (5, .cells [ii xh5_0_2, s0 4 lh4_2.length] 0 34 0), (4, rc encP lh4_2 0 55 2), (3, rc encP lh3_1 0 55 2), (2, rc encP lh2_1 0 55 2), (1, rI lh1_1), (0, .cells [ii xh0_0_1, s0 3 lh3_1.length] 0 34 0)] 8 ?_
    refine dQ ?_
    show XQ _ _ _ _ _ _ _ _
    refine sQ ?_
    refine qQ ?_
    refine rS 4 [(0, s0 4 lh4_2.length), (1, s0 2 lh2_1.length), (2, .func (.func 53) #[] #[]), (7, ii x13_2), (8, pp 7 0), (11, s0 4 lh4_2.length), (12, ii x12_2), (13, ii x13_2), (21, .bool (decide (x13_2 ≥ ((lh2_1.length : Nat) : Int))))] ?_
    refine dQ ?_
    show XQ _ _ _ _ _ _ _ _
    cases b3 : (decide (x13_2 ≥ ((lh2_1.length : Nat) : Int)) : Bool) with
    | true =>
     have h := cT b3 h
     refine iT (.tmp 21) ?_
     refine qQ ?_
     refine rS 1 [(6, ii 1)] ?_
     refine dQ ?_
     show XQ _ _ _ _ _ _ _ _
     refine XQ.ren (σ' := [(6, ii 1)]) (h' := [(6, rI lh6_2), (5, .cells [ii xh5_0_2, s0 4 lh4_2.length] 0 34 0), (4, rc encP lh4_2 0 55 2), (3, rc encP lh3_1 0 55 2), (2, rc encP lh2_1 0 55 2), (1, rI lh1_1), (0, .cells [ii xh0_0_1, s0 3 lh3_1.length] 0 34 0)]) (c' := 7) [0, 1, 2, 3, 4, 5, 6] (by decide) rfl ⟨rfl, trivial⟩ ⟨⟨_, _, rfl, rfl, .inl ⟨rfl, rwI⟩⟩, ⟨_, _, rfl, rfl, .inr ⟨_, _, _, _, rfl, rfl⟩⟩, ⟨_, _, rfl, rfl, .inl ⟨rfl, rwP⟩⟩, ⟨_, _, rfl, rfl, .inl ⟨rfl, rwP⟩⟩, ⟨_, _, rfl, rfl, .inl ⟨rfl, rwP⟩⟩, ⟨_, _, rfl, rfl, .inl ⟨rfl, rwI⟩⟩, ⟨_, _, rfl, rfl, .inr ⟨_, _, _, _, rfl, rfl⟩⟩, trivial⟩ rfl ?_
     refine XQ.ret (by kernel_rfl) ?_
     cases h
     exact hQ
    | false =>
     have h := cF b3 h
     refine iF (.tmp 21) ?_
     refine kQ ?_
     show XQ _ _ _ _ _ _ _ _
     refine qQ ?_
     refine rS 2 [(0, s0 4 lh4_2.length), (1, s0 2 lh2_1.length), (2, .func (.func 53) #[] #[]), (8, pp 7 0), (11, s0 4 lh4_2.length), (12, ii x12_2), (13, ii x13_2), (22, s0 2 lh2_1.length), (23, ii x13_2)] ?_
     cases b4 : (inRow x13_2 lh2_1.length : Bool) with
     | false => cases (cF b4 h)
     | true =>
      have h := cT b4 h
      refine XR.rd E0_ok [0, 1, 2, 8, 11, 12, 13, 24] rfl (v := pp 2 ((Int.toNat x13_2) * 2)) (v_idx (s := 2) (x := (src 39 (.tmp 22))) (y := (src 39 (.tmp 23))) (b := 2) (o := 0) (len := lh2_1.length) (cap := lh2_1.length) (ik := .i64) (i := x13_2) (off := (Int.toNat x13_2) * 2) (d := (some (path 12 24))) (by kernel_rfl) (by kernel_rfl) (by kernel_rfl) b4 (by omega)) (σ' := [(0, s0 4 lh4_2.length), (1, s0 2 lh2_1.length), (2, .func (.func 53) #[] #[]), (8, pp 7 0), (11, s0 4 lh4_2.length), (12, ii x12_2), (13, ii x13_2), (24, pp 2 ((Int.toNat x13_2) * 2))]) (by kernel_rfl) ?_
      refine XR.rd E0_ok [0, 1, 2, 8, 11, 12, 13, 25] rfl (v := .agg #[ii ((List.getD lh2_1 (Int.toNat x13_2) (0, 0)).1), ii ((List.getD lh2_1 (Int.toNat x13_2) (0, 0)).2)]) (v_loadN encP_ok (x := (src 39 (.tmp 24))) (b := 2) (off := (Int.toNat x13_2) * 2) (xs := lh2_1) (fz := 0) (e := 55) (es := 2) (d := (some (path 12 25))) (by kernel_rfl) (by kernel_rfl) (by kernel_rfl) (Int.toNat x13_2) (0, 0) (by first | with_reducible rfl | omega | rfl) (row_len (inRow_toNat b4) (by simp)) rfl) (σ' := [(0, s0 4 lh4_2.length), (1, s0 2 lh2_1.length), (2, .func (.func 53) #[] #[]), (8, pp 7 0), (11, s0 4 lh4_2.length), (12, ii x12_2), (13, ii x13_2), (25, .agg #[ii ((List.getD lh2_1 (Int.toNat x13_2) (0, 0)).1), ii ((List.getD lh2_1 (Int.toNat x13_2) (0, 0)).2)])]) (by kernel_rfl) ?_
      refine rT 2 [(0, s0 4 lh4_2.length), (1, s0 2 lh2_1.length), (2, .func (.func 53) #[] #[]), (8, pp 7 0), (9, pp 8 0), (11, s0 4 lh4_2.length), (12, ii x12_2), (13, ii x13_2)] [(8, .cells [ii ((List.getD lh2_1 (Int.toNat x13_2) (0, 0)).1), ii ((List.getD lh2_1 (Int.toNat x13_2) (0, 0)).2)] 0 55 0), (7, .cells [ii ((List.getD lh4_2 (Int.toNat x13_2) (0, 0)).1), ii ((List.getD lh4_2 (Int.toNat x13_2) (0, 0)).2)] 0 55 0), (6, rI lh6_2), (5, .cells [ii xh5_0_2, s0 4 lh4_2.length] 0 34 0), (4, rc encP lh4_2 0 55 2), (3, rc encP lh3_1 0 55 2), (2, rc encP lh2_1 0 55 2), (1, rI lh1_1), (0, .cells [ii xh0_0_1, s0 3 lh3_1.length] 0 34 0)] 9 ?_
      refine nQ id ?_
      refine rS 3 [(0, s0 4 lh4_2.length), (1, s0 2 lh2_1.length), (2, .func (.func 53) #[] #[]), (11, s0 4 lh4_2.length), (12, ii x12_2), (13, ii x13_2), (26, .func (.func 53) #[] #[]), (27, .agg #[ii ((List.getD lh4_2 (Int.toNat x13_2) (0, 0)).1), ii ((List.getD lh4_2 (Int.toNat x13_2) (0, 0)).2)]), (28, .agg #[ii ((List.getD lh2_1 (Int.toNat x13_2) (0, 0)).1), ii ((List.getD lh2_1 (Int.toNat x13_2) (0, 0)).2)])] ?_
      obtain ⟨r17, r17_h, h⟩ := bS h
      refine XR.call E0_ok [0, 1, 2, 11, 12, 13, 29] rfl (K := 53) (args := [.agg #[ii ((List.getD lh4_2 (Int.toNat x13_2) (0, 0)).1), ii ((List.getD lh4_2 (Int.toNat x13_2) (0, 0)).2)], .agg #[ii ((List.getD lh2_1 (Int.toNat x13_2) (0, 0)).1), ii ((List.getD lh2_1 (Int.toNat x13_2) (0, 0)).2)]]) (d := (some (path 12 29))) (by kernel_rfl) (KC.of_calls E0_ok (F := Proofs.Tryd.f53) (v := ii r17) (by kernel_rfl) rfl rfl (fun w hI => f53_ok m ((List.getD lh4_2 (Int.toNat x13_2) (0, 0)).1) ((List.getD lh4_2 (Int.toNat x13_2) (0, 0)).2) ((List.getD lh2_1 (Int.toNat x13_2) (0, 0)).1) ((List.getD lh2_1 (Int.toNat x13_2) (0, 0)).2) r17 r17_h w hI)) ?_
      rintro _ _ _ ⟨rfl, rfl, rfl⟩
      refine XR.conv (σ' := [(0, s0 4 lh4_2.length), (1, s0 2 lh2_1.length), (2, .func (.func 53) #[] #[]), (11, s0 4 lh4_2.length), (12, ii x12_2), (13, ii x13_2), (29, ii r17)]) (h' := [(8, .cells [ii ((List.getD lh2_1 (Int.toNat x13_2) (0, 0)).1), ii ((List.getD lh2_1 (Int.toNat x13_2) (0, 0)).2)] 0 55 0), (7, .cells [ii ((List.getD lh4_2 (Int.toNat x13_2) (0, 0)).1), ii ((List.getD lh4_2 (Int.toNat x13_2) (0, 0)).2)] 0 55 0), (6, rI lh6_2), (5, .cells [ii xh5_0_2, s0 4 lh4_2.length] 0 34 0), (4, rc encP lh4_2 0 55 2), (3, rc encP lh3_1 0 55 2), (2, rc encP lh2_1 0 55 2), (1, rI lh1_1), (0, .cells [ii xh0_0_1, s0 3 lh3_1.length] 0 34 0)]) (c' := 9) ?_ (by kernel_rfl)
      refine rS 1 [(0, s0 4 lh4_2.length), (1, s0 2 lh2_1.length), (2, .func (.func 53) #[] #[]), (10, ii r17), (11, s0 4 lh4_2.length), (12, ii x12_2), (13, ii x13_2)] ?_
      refine nQ id ?_
      refine rS 2 [(0, s0 4 lh4_2.length), (1, s0 2 lh2_1.length), (2, .func (.func 53) #[] #[]), (10, ii r17), (11, s0 4 lh4_2.length), (12, ii x12_2), (13, ii x13_2), (31, .bool (r17 != 0))] ?_
      refine dQ ?_
      show XQ _ _ _ _ _ _ _ _
      cases b5 : (r17 != 0 : Bool) with
      | true =>
       have h := cT b5 h
       refine iT (.tmp 31) ?_
       refine qQ ?_
       refine rS 2 [(6, ii r17)] ?_
       refine dQ ?_
       show XQ _ _ _ _ _ _ _ _
       refine XQ.ren (σ' := [(6, ii r17)]) (h' := [(6, rI lh6_2), (5, .cells [ii xh5_0_2, s0 4 lh4_2.length] 0 34 0), (4, rc encP lh4_2 0 55 2), (3, rc encP lh3_1 0 55 2), (2, rc encP lh2_1 0 55 2), (1, rI lh1_1), (0, .cells [ii xh0_0_1, s0 3 lh3_1.length] 0 34 0)]) (c' := 7) [0, 1, 2, 3, 4, 5, 6] (by decide) rfl ⟨rfl, trivial⟩ ⟨⟨_, _, rfl, rfl, .inl ⟨rfl, rwI⟩⟩, ⟨_, _, rfl, rfl, .inr ⟨_, _, _, _, rfl, rfl⟩⟩, ⟨_, _, rfl, rfl, .inl ⟨rfl, rwP⟩⟩, ⟨_, _, rfl, rfl, .inl ⟨rfl, rwP⟩⟩, ⟨_, _, rfl, rfl, .inl ⟨rfl, rwP⟩⟩, ⟨_, _, rfl, rfl, .inl ⟨rfl, rwI⟩⟩, ⟨_, _, rfl, rfl, .inr ⟨_, _, _, _, rfl, rfl⟩⟩, trivial⟩ rfl ?_
       refine XQ.ret (by kernel_rfl) ?_
       cases h
       exact hQ
      | false =>
       have h := cF b5 h
       refine iF (.tmp 31) ?_
       refine kQ ?_
       show XQ _ _ _ _ _ _ _ _
       refine rQ ?_
       refine rS 2 [(0, s0 4 lh4_2.length), (1, s0 2 lh2_1.length), (2, .func (.func 53) #[] #[]), (11, s0 4 lh4_2.length), (12, ii x12_2), (13, ii (w64 (x13_2 + 1)))] ?_
       refine dQ ?_
       show XL _ _ _ _ _ _ _ _ _
       refine XL.ren (σ' := [(0, s0 4 lh4_2.length), (1, s0 2 lh2_1.length), (2, .func (.func 53) #[] #[]), (11, s0 4 lh4_2.length), (12, ii x12_2), (13, ii (w64 (x13_2 + 1)))]) (h' := [(6, rI lh6_2), (5, .cells [ii xh5_0_2, s0 4 lh4_2.length] 0 34 0), (4, rc encP lh4_2 0 55 2), (3, rc encP lh3_1 0 55 2), (2, rc encP lh2_1 0 55 2), (1, rI lh1_1), (0, .cells [ii xh0_0_1, s0 3 lh3_1.length] 0 34 0)]) (c' := 7) [0, 1, 2, 3, 4, 5, 6] (by decide) rfl ⟨rfl, rfl, rfl, rfl, rfl, rfl, trivial⟩ ⟨⟨_, _, rfl, rfl, .inl ⟨rfl, rwI⟩⟩, ⟨_, _, rfl, rfl, .inr ⟨_, _, _, _, rfl, rfl⟩⟩, ⟨_, _, rfl, rfl, .inl ⟨rfl, rwP⟩⟩, ⟨_, _, rfl, rfl, .inl ⟨rfl, rwP⟩⟩, ⟨_, _, rfl, rfl, .inl ⟨rfl, rwP⟩⟩, ⟨_, _, rfl, rfl, .inl ⟨rfl, rwI⟩⟩, ⟨_, _, rfl, rfl, .inr ⟨_, _, _, _, rfl, rfl⟩⟩, trivial⟩ rfl ?_
       refine XL.conv (f12_2_ok m fuel xh0_0_1 lh1_1 lh2_1 lh3_1 x12_2 (w64 (x13_2 + 1)) lh4_2 xh5_0_2 lh6_2 o h Q hQ) (by first | with_reducible rfl | simp | rfl)
  | false =>
   have h := cF b1 h
   refine iF (.tmp 14) ?_
   refine XQ.ren (σ' := [(0, s0 4 lh4_2.length), (1, s0 2 lh2_1.length)]) (h' := [(6, rI lh6_2), (5, .cells [ii xh5_0_2, s0 4 lh4_2.length] 0 34 0), (4, rc encP lh4_2 0 55 2), (3, rc encP lh3_1 0 55 2), (2, rc encP lh2_1 0 55 2), (1, rI lh1_1), (0, .cells [ii xh0_0_1, s0 3 lh3_1.length] 0 34 0)]) (c' := 7) [0, 1, 2, 3, 4, 5, 6] (by decide) rfl ⟨rfl, rfl, trivial⟩ ⟨⟨_, _, rfl, rfl, .inl ⟨rfl, rwI⟩⟩, ⟨_, _, rfl, rfl, .inr ⟨_, _, _, _, rfl, rfl⟩⟩, ⟨_, _, rfl, rfl, .inl ⟨rfl, rwP⟩⟩, ⟨_, _, rfl, rfl, .inl ⟨rfl, rwP⟩⟩, ⟨_, _, rfl, rfl, .inl ⟨rfl, rwP⟩⟩, ⟨_, _, rfl, rfl, .inl ⟨rfl, rwI⟩⟩, ⟨_, _, rfl, rfl, .inr ⟨_, _, _, _, rfl, rfl⟩⟩, trivial⟩ rfl ?_
   refine XQ.exit (i := 0) (by kernel_rfl) ?_
   cases h
   exact hQ
def f12_1 (m : Nat) : Nat → Int → Int → Int → Int → Int → List Int → List (Int × Int) → List (Int × Int) → Option (Int × Int × Int × (List Int) × (List (Int × Int)) × (List (Int × Int)))
 | 0, _, _, _, _, _, _, _, _ => none
 | fuel + 1, x4_1, x6_1, x29_1, x30_1, xh0_0_1, lh1_1, lh2_1, lh3_1 =>
  cond (decide (x30_1 < x29_1)) (
   (f33 m x4_1 x30_1).bind fun r12 =>
    (f32 m r12.1 r12.2).bind fun r13 =>
     (f40 m r13 lh1_1).bind fun r14 =>
      cond (!r14) (
       f12_1 m fuel x4_1 x6_1 x29_1 (IntKind.wrap .u32 (x30_1 + 1)) xh0_0_1 lh1_1 lh2_1 lh3_1
      ) (
       cond (x6_1 == 0) (
        f12_1 m fuel x4_1 (w64 (x6_1 + 1)) x29_1 (IntKind.wrap .u32 (x30_1 + 1)) xh0_0_1 lh1_1 r12.2 lh3_1
       ) (
        (f12_2 m m xh0_0_1 lh1_1 lh2_1 lh3_1 ((r12.2.length : Nat) : Int) 0 r12.2 r12.1 r13).bind fun o2 =>
         match o2 with
         | .r x6_r2 lh4_r2 xh5_0_r2 lh6_r2 =>
          cond (decide (x6_r2 < 0)) (
           f12_1 m fuel x4_1 (w64 (x6_1 + 1)) x29_1 (IntKind.wrap .u32 (x30_1 + 1)) xh0_0_1 lh1_1 lh4_r2 lh3_1
          ) (
           f12_1 m fuel x4_1 (w64 (x6_1 + 1)) x29_1 (IntKind.wrap .u32 (x30_1 + 1)) xh0_0_1 lh1_1 lh2_1 lh3_1
          )
         | .x0 lh4_x02 xh5_0_x02 lh6_x02 =>
          cond (decide (((lh4_x02.length : Nat) : Int) < ((lh2_1.length : Nat) : Int))) (
           f12_1 m fuel x4_1 (w64 (x6_1 + 1)) x29_1 (IntKind.wrap .u32 (x30_1 + 1)) xh0_0_1 lh1_1 lh4_x02 lh3_1
          ) (
           f12_1 m fuel x4_1 (w64 (x6_1 + 1)) x29_1 (IntKind.wrap .u32 (x30_1 + 1)) xh0_0_1 lh1_1 lh2_1 lh3_1
          )
       )
      )
  ) (
   some (x4_1, x6_1, xh0_0_1, lh1_1, lh2_1, lh3_1)
  )

abbrev qui1 (lh1_1 : List Int) (lh2_1 : List (Int × Int)) (x29_1 : Int) (x30_1 : Int) (x4_1 : Int) (x6_1 : Int) (t : St) : St := (3, pp 0 0) :: (4, ii x4_1) :: (5, s0 1 lh1_1.length) :: (6, ii x6_1) :: (7, s0 2 lh2_1.length) :: (9, pp 5 0) :: (29, .int .u32 x29_1) :: (30, .int .u32 x30_1) :: t

abbrev qui2 (lh1_1 : List Int) (x4_1 : Int) (x6_1 : Int) (t : St) : St := (3, pp 0 0) :: (4, ii x4_1) :: (5, s0 1 lh1_1.length) :: (6, ii (w64 (x6_1 + 1))) :: t

abbrev qui3 (x29_1 : Int) (x30_1 : Int) (t : St) : St := (29, .int .u32 x29_1) :: (30, .int .u32 (IntKind.wrap .u32 (x30_1 + 1))) :: t

abbrev qui4 (lh1_1 : List Int) (lh3_1 : List (Int × Int)) (xh0_0_1 : Int) (t : Heap) : Heap := (1, rI lh1_1) :: (0, .cells [ii xh0_0_1, s0 3 lh3_1.length] 0 34 0) :: t
theorem f12_1_ok (m : Nat) : ∀ (fuel : Nat) (x4_1 : Int) (x6_1 : Int) (x29_1 : Int) (x30_1 : Int) (xh0_0_1 : Int) (lh1_1 : List Int) (lh2_1 : List (Int × Int)) (lh3_1 : List (Int × Int)) (o : (Int × Int × Int × (List Int) × (List (Int × Int)) × (List (Int × Int)))), f12_1 m fuel x4_1 x6_1 x29_1 x30_1 xh0_0_1 lh1_1 lh2_1 lh3_1 = some o → ∀ Q : QP, Q (.exit 0) [(3, pp 0 0), (4, ii o.1), (5, s0 1 o.2.2.2.1.length), (6, ii o.2.1), (7, s0 2 o.2.2.2.2.1.length)] [(3, rc encP o.2.2.2.2.2 0 55 2), (2, rc encP o.2.2.2.2.1 0 55 2), (1, rI o.2.2.2.1), (0, .cells [ii o.2.2.1, s0 3 o.2.2.2.2.2.length] 0 34 0)] 4 → XL E0 120 0 fuel f12_L1 [(3, pp 0 0), (4, ii x4_1), (5, s0 1 lh1_1.length), (6, ii x6_1), (7, s0 2 lh2_1.length), (29, .int .u32 x29_1), (30, .int .u32 x30_1)] ((3, rc encP lh3_1 0 55 2) :: (2, rc encP lh2_1 0 55 2) :: qui4 lh1_1 lh3_1 xh0_0_1 []) 4 Q
 | 0, x4_1, x6_1, x29_1, x30_1, xh0_0_1, lh1_1, lh2_1, lh3_1, o, h, Q, hQ => by cases h
 | fuel + 1, x4_1, x6_1, x29_1, x30_1, xh0_0_1, lh1_1, lh2_1, lh3_1, o, h, Q, hQ => by
  unfold f12_1 at h
  refine XL.succ E0_ok ?_
  refine qQ ?_
  refine rS 1 [(3, pp 0 0), (4, ii x4_1), (5, s0 1 lh1_1.length), (6, ii x6_1), (7, s0 2 lh2_1.length), (29, .int .u32 x29_1), (30, .int .u32 x30_1), (31, .bool (decide (x30_1 < x29_1)))] ?_
  refine dQ ?_
  show XQ _ _ _ _ _ _ _ _
  refine sQ ?_
  cases b1 : (decide (x30_1 < x29_1) : Bool) with
  | true =>
   have h := cT b1 h
   refine iT (.tmp 31) ?_
   refine kQ ?_
   show XQ _ _ _ _ _ _ _ _
   refine sQ ?_
   refine XQ.block (id := 1) (by kernel_rfl) ?_
   refine qQ ?_
   refine rS 2 [(3, pp 0 0), (4, ii x4_1), (5, s0 1 lh1_1.length), (6, ii x6_1), (7, s0 2 lh2_1.length), (8, .int .u32 x30_1), (29, .int .u32 x29_1), (30, .int .u32 x30_1)] ?_
   refine nQ id ?_
   refine rS 2 [(3, pp 0 0), (4, ii x4_1), (5, s0 1 lh1_1.length), (6, ii x6_1), (7, s0 2 lh2_1.length), (29, .int .u32 x29_1), (30, .int .u32 x30_1), (33, ii x4_1), (34, .int .u32 x30_1)] ?_
   obtain ⟨r12, r12_h, h⟩ := bS h
   refine XR.call E0_ok [3, 4, 5, 6, 7, 29, 30, 35] rfl (K := 33) (args := [ii x4_1, .int .u32 x30_1]) (d := (some (path 12 35))) (by kernel_rfl) (KC.lift (V2 := .agg #[ii r12.1, s0 4 r12.2.length]) (H2 := [(4, rc encP r12.2 0 55 2)]) [1, 2, 3, 4, 0] (f33_ok m x4_1 x30_1 r12 r12_h) rfl (by decide) (by decide) (by kernel_rfl) ⟨⟨_, _, rfl, rfl, .inl ⟨rfl, rwP⟩⟩, trivial⟩ (by rfl)) ?_
   rintro _ _ _ ⟨rfl, rfl, rfl⟩
   refine XR.conv (σ' := [(3, pp 0 0), (4, ii x4_1), (5, s0 1 lh1_1.length), (6, ii x6_1), (7, s0 2 lh2_1.length), (29, .int .u32 x29_1), (30, .int .u32 x30_1), (35, .agg #[ii r12.1, s0 4 r12.2.length])]) (h' := ((4, rc encP r12.2 0 55 2) :: (3, rc encP lh3_1 0 55 2) :: (2, rc encP lh2_1 0 55 2) :: qui4 lh1_1 lh3_1 xh0_0_1 [])) (c' := 5) ?_ (by kernel_rfl)
   refine rT 2 (qui1 lh1_1 lh2_1 x29_1 x30_1 x4_1 x6_1 []) ((5, .cells [ii r12.1, s0 4 r12.2.length] 0 34 0) :: (4, rc encP r12.2 0 55 2) :: (3, rc encP lh3_1 0 55 2) :: (2, rc encP lh2_1 0 55 2) :: qui4 lh1_1 lh3_1 xh0_0_1 []) 6 ?_
   refine dQ ?_
   show XQ _ _ _ _ _ _ _ _
   refine sQ ?_
   refine qQ ?_
   refine rS 1 (qui1 lh1_1 lh2_1 x29_1 x30_1 x4_1 x6_1 [(36, .agg #[ii r12.1, s0 4 r12.2.length])]) ?_
   obtain ⟨r13, r13_h, h⟩ := bS h
   refine XR.call E0_ok [3, 4, 5, 6, 7, 9, 29, 30, 37] rfl (K := 32) (args := [.agg #[ii r12.1, s0 4 r12.2.length]]) (d := (some (path 12 37))) (by kernel_rfl) (KC.liftH (n0 := 1) (m := 1) (args0 := [.agg #[ii r12.1, s0 0 r12.2.length]]) (h0 := [(0, rc encP r12.2 (0 + ((rowC encP r12.2).length + 1)) 55 2)]) (V := s0 1 r13.length) (V2 := s0 6 r13.length) (H := [(1, rI r13)]) (H2 := [(6, rI r13)]) [4] [2, 3, 4, 5, 6, 7, 1] (f32_ok m (0 + ((rowC encP r12.2).length + 1)) 55 r12.1 r12.2 r13 r13_h) (by rfl) (by decide) rfl (by kernel_rfl) ⟨⟨_, _, rfl, rfl, .inl ⟨rfl, rwP⟩⟩, trivial⟩ (by decide) (by decide) (by kernel_rfl) ⟨⟨_, _, rfl, rfl, .inl ⟨rfl, rwI⟩⟩, trivial⟩ (by rfl)) ?_
   rintro _ _ _ ⟨rfl, rfl, rfl⟩
   refine XR.conv (σ' := (qui1 lh1_1 lh2_1 x29_1 x30_1 x4_1 x6_1 [(37, s0 6 r13.length)])) (h' := ((6, rI r13) :: (5, .cells [ii r12.1, s0 4 r12.2.length] 0 34 0) :: (4, rc encP r12.2 0 55 2) :: (3, rc encP lh3_1 0 55 2) :: (2, rc encP lh2_1 0 55 2) :: qui4 lh1_1 lh3_1 xh0_0_1 [])) (c' := 7) ?_ (by kernel_rfl)
   refine rS 1 (qui1 lh1_1 lh2_1 x29_1 x30_1 x4_1 x6_1 [(37, s0 6 r13.length), (38, s0 1 lh1_1.length)]) ?_
   obtain ⟨r14, r14_h, h⟩ := bS h
   refine XR.call E0_ok [3, 4, 5, 6, 7, 9, 29, 30, 39] rfl (K := 40) (args := [s0 6 r13.length, s0 1 lh1_1.length]) (d := (some (path 12 39))) (by kernel_rfl) (KQ.call (KC.quiet E0_ok (args0 := [s0 0 r13.length, s0 1 lh1_1.length]) (h0 := [(1, rc (encI .i64) lh1_1 (0 + ((rowC (encI .i64) lh1_1).length + 1)) 3 1), (0, rc (encI .i64) r13 (0 + ((rowC (encI .i64) r13).length + 1)) 3 1)]) (n := 2) (V := .bool r14) [6, 1] (f40_ok m (0 + ((rowC (encI .i64) r13).length + 1)) 3 (0 + ((rowC (encI .i64) lh1_1).length + 1)) 3 r13 lh1_1 r14 r14_h) rfl (by rfl) (by decide) rfl (by kernel_rfl) ⟨⟨_, _, rfl, rfl, .inl ⟨rfl, rwI⟩⟩, ⟨_, _, rfl, rfl, .inl ⟨rfl, rwI⟩⟩, trivial⟩) rfl) ?_
   rintro _ _ _ ⟨rfl, rfl, rfl⟩
   refine XR.conv (σ' := (qui1 lh1_1 lh2_1 x29_1 x30_1 x4_1 x6_1 [(39, .bool r14)])) (h' := ((6, rI r13) :: (5, .cells [ii r12.1, s0 4 r12.2.length] 0 34 0) :: (4, rc encP r12.2 0 55 2) :: (3, rc encP lh3_1 0 55 2) :: (2, rc encP lh2_1 0 55 2) :: qui4 lh1_1 lh3_1 xh0_0_1 [])) (c' := 7) ?_ (by kernel_rfl)
   refine rS 1 (qui1 lh1_1 lh2_1 x29_1 x30_1 x4_1 x6_1 [(40, .bool (!r14))]) ?_
   refine dQ ?_
   show XQ _ _ _ _ _ _ _ _
   cases b2 : (!r14 : Bool) with
   | true =>
    have h := cT b2 h
    refine iT (.tmp 40) ?_
    refine XQ.exit (i := 1) (by kernel_rfl) ?_
    show XQ _ _ _ _ _ _ _ _
    refine rQ ?_
    refine rS 2 ((3, pp 0 0) :: (4, ii x4_1) :: (5, s0 1 lh1_1.length) :: (6, ii x6_1) :: (7, s0 2 lh2_1.length) :: qui3 x29_1 x30_1 []) ?_
    refine dQ ?_
    show XL _ _ _ _ _ _ _ _ _
    refine XL.ren (σ' := ((3, pp 0 0) :: (4, ii x4_1) :: (5, s0 1 lh1_1.length) :: (6, ii x6_1) :: (7, s0 2 lh2_1.length) :: qui3 x29_1 x30_1 [])) (h' := ((3, rc encP lh3_1 0 55 2) :: (2, rc encP lh2_1 0 55 2) :: qui4 lh1_1 lh3_1 xh0_0_1 [])) (c' := 4) [0, 1, 2, 3] (by decide) rfl ⟨rfl, rfl, rfl, rfl, rfl, rfl, rfl, trivial⟩ ⟨⟨_, _, rfl, rfl, .inl ⟨rfl, rwP⟩⟩, ⟨_, _, rfl, rfl, .inl ⟨rfl, rwP⟩⟩, ⟨_, _, rfl, rfl, .inl ⟨rfl, rwI⟩⟩, ⟨_, _, rfl, rfl, .inr ⟨_, _, _, _, rfl, rfl⟩⟩, trivial⟩ rfl ?_
    refine XL.conv (f12_1_ok m fuel x4_1 x6_1 x29_1 (IntKind.wrap .u32 (x30_1 + 1)) xh0_0_1 lh1_1 lh2_1 lh3_1 o h Q hQ) (by first | with_reducible rfl | simp | rfl)
   | false =>
    have h := cF b2 h
    refine iF (.tmp 40) ?_
    refine kQ ?_
    show XQ _ _ _ _ _ _ _ _
    refine sQ ?_
    refine qQ ?_
    refine rS 3 (qui1 lh1_1 lh2_1 x29_1 x30_1 x4_1 x6_1 [(43, .bool (x6_1 == 0))]) ?_
    cases b3 : (x6_1 == 0 : Bool) with
    | true =>
     have h := cT b3 h
     refine rS 6 (qui1 lh1_1 lh2_1 x29_1 x30_1 x4_1 x6_1 [(49, .bool true)]) ?_
     refine dQ ?_
     show XQ _ _ _ _ _ _ _ _
     refine iT (.tmp 49) ?_
     refine rQ ?_
     refine rS 3 [(3, pp 0 0), (4, ii x4_1), (5, s0 1 lh1_1.length), (6, ii x6_1), (7, s0 4 r12.2.length), (29, .int .u32 x29_1), (30, .int .u32 x30_1)] ?_
     refine dQ ?_
     show XQ _ _ _ _ _ _ _ _
     refine rQ ?_
     refine rS 3 (qui2 lh1_1 x4_1 x6_1 [(7, s0 4 r12.2.length), (29, .int .u32 x29_1), (30, .int .u32 x30_1)]) ?_
     refine dQ ?_
     show XQ _ _ _ _ _ _ _ _
     refine rQ ?_
     refine rS 2 (qui2 lh1_1 x4_1 x6_1 ((7, s0 4 r12.2.length) :: qui3 x29_1 x30_1 [])) ?_
     refine dQ ?_
     show XL _ _ _ _ _ _ _ _ _
     refine XL.ren (σ' := (qui2 lh1_1 x4_1 x6_1 ((7, s0 2 r12.2.length) :: qui3 x29_1 x30_1 []))) (h' := ((3, rc encP lh3_1 0 55 2) :: (2, rc encP r12.2 0 55 2) :: qui4 lh1_1 lh3_1 xh0_0_1 [])) (c' := 4) [0, 1, 4, 3] (by decide) rfl ⟨rfl, rfl, rfl, rfl, rfl, rfl, rfl, trivial⟩ ⟨⟨_, _, rfl, rfl, .inl ⟨rfl, rwP⟩⟩, ⟨_, _, rfl, rfl, .inl ⟨rfl, rwP⟩⟩, ⟨_, _, rfl, rfl, .inl ⟨rfl, rwI⟩⟩, ⟨_, _, rfl, rfl, .inr ⟨_, _, _, _, rfl, rfl⟩⟩, trivial⟩ rfl ?_
     refine XL.conv (f12_1_ok m fuel x4_1 (w64 (x6_1 + 1)) x29_1 (IntKind.wrap .u32 (x30_1 + 1)) xh0_0_1 lh1_1 r12.2 lh3_1 o h Q hQ) (by first | with_reducible rfl | simp | rfl)
    | false =>
     have h := cF b3 h
     refine rS 3 (qui1 lh1_1 lh2_1 x29_1 x30_1 x4_1 x6_1 [(43, .bool false), (45, s0 4 r12.2.length), (46, s0 2 lh2_1.length)]) ?_
     refine XR.callK E0_ok [3, 4, 5, 6, 7, 9, 29, 30, 43, 47] rfl (K := 52) (args := [s0 4 r12.2.length, s0 2 lh2_1.length, .func (.func 53) #[] #[]]) (d := (some (path 12 47))) (by kernel_rfl) ?_
     refine KC.bodyN E0_ok (F := Proofs.Tryd.f52) (by kernel_rfl) (code := f12_C52) (by kernel_rfl) (nt := 39) (by kernel_rfl) (rs := [.tmp 6]) (by kernel_rfl) (by kernel_rfl) (σ := [(0, s0 4 r12.2.length), (1, s0 2 lh2_1.length), (2, .func (.func 53) #[] #[])]) (by kernel_rfl) ?_
     refine qQ ?_
     refine rS 1 [(0, s0 4 r12.2.length), (1, s0 2 lh2_1.length), (2, .func (.func 53) #[] #[])] ?_
     refine dQ ?_
     show XQ _ _ _ _ _ _ _ _
     refine sQ ?_
     refine qQ ?_
     refine rS 3 [(0, s0 4 r12.2.length), (1, s0 2 lh2_1.length), (2, .func (.func 53) #[] #[]), (11, s0 4 r12.2.length), (12, ii ((r12.2.length : Nat) : Int)), (13, ii 0)] ?_
     refine dQ ?_
     show XQ _ _ _ _ _ _ _ _
     refine XQ.block (id := 0) (by kernel_rfl) ?_
     refine XQ.loop m (by kernel_rfl) ?_
     obtain ⟨o2, o2_h, h⟩ := bS h
     refine XL.ren (σ' := [(0, s0 4 r12.2.length), (1, s0 2 lh2_1.length), (2, .func (.func 53) #[] #[]), (11, s0 4 r12.2.length), (12, ii ((r12.2.length : Nat) : Int)), (13, ii 0)]) (h' := ((6, rI r13) :: (5, .cells [ii r12.1, s0 4 r12.2.length] 0 34 0) :: (4, rc encP r12.2 0 55 2) :: (3, rc encP lh3_1 0 55 2) :: (2, rc encP lh2_1 0 55 2) :: qui4 lh1_1 lh3_1 xh0_0_1 [])) (c' := 7) [0, 1, 2, 3, 4, 5, 6] (by decide) rfl ⟨rfl, rfl, rfl, rfl, rfl, rfl, trivial⟩ ⟨⟨_, _, rfl, rfl, .inl ⟨rfl, rwI⟩⟩, ⟨_, _, rfl, rfl, .inr ⟨_, _, _, _, rfl, rfl⟩⟩, ⟨_, _, rfl, rfl, .inl ⟨rfl, rwP⟩⟩, ⟨_, _, rfl, rfl, .inl ⟨rfl, rwP⟩⟩, ⟨_, _, rfl, rfl, .inl ⟨rfl, rwP⟩⟩, ⟨_, _, rfl, rfl, .inl ⟨rfl, rwI⟩⟩, ⟨_, _, rfl, rfl, .inr ⟨_, _, _, _, rfl, rfl⟩⟩, trivial⟩ rfl ?_
     cases o2 with
     | r x6_r2 lh4_r2 xh5_0_r2 lh6_r2 =>
      dsimp only at h
      refine XL.conv (f12_2_ok m m xh0_0_1 lh1_1 lh2_1 lh3_1 ((r12.2.length : Nat) : Int) 0 r12.2 r12.1 r13 (.r x6_r2 lh4_r2 xh5_0_r2 lh6_r2) o2_h _ ?_) (by first | with_reducible rfl | simp | rfl)
      refine ⟨fun i q => (by cases q), ii x6_r2, (by kernel_rfl), ?_⟩
      refine XR.conv (σ' := (qui1 lh1_1 lh2_1 x29_1 x30_1 x4_1 x6_1 [(43, .bool false), (47, ii x6_r2)])) (h' := ((6, rI lh6_r2) :: (5, .cells [ii xh5_0_r2, s0 4 lh4_r2.length] 0 34 0) :: (4, rc encP lh4_r2 0 55 2) :: (3, rc encP lh3_1 0 55 2) :: (2, rc encP lh2_1 0 55 2) :: qui4 lh1_1 lh3_1 xh0_0_1 [])) (c' := 7) ?_ (by kernel_rfl)
      refine rS 2 (qui1 lh1_1 lh2_1 x29_1 x30_1 x4_1 x6_1 [(49, .bool (decide (x6_r2 < 0)))]) ?_
      refine dQ ?_
      show XQ _ _ _ _ _ _ _ _
      cases b5 : (decide (x6_r2 < 0) : Bool) with
      | true =>
       have h := cT b5 h
       refine iT (.tmp 49) ?_
       refine rQ ?_
       refine rS 3 [(3, pp 0 0), (4, ii x4_1), (5, s0 1 lh1_1.length), (6, ii x6_1), (7, s0 4 lh4_r2.length), (29, .int .u32 x29_1), (30, .int .u32 x30_1)] ?_
       refine dQ ?_
       show XQ _ _ _ _ _ _ _ _
       refine rQ ?_
       refine rS 3 (qui2 lh1_1 x4_1 x6_1 [(7, s0 4 lh4_r2.length), (29, .int .u32 x29_1), (30, .int .u32 x30_1)]) ?_
       refine dQ ?_
       show XQ _ _ _ _ _ _ _ _
       refine rQ ?_
       refine rS 2 (qui2 lh1_1 x4_1 x6_1 ((7, s0 4 lh4_r2.length) :: qui3 x29_1 x30_1 [])) ?_
       refine dQ ?_
       show XL _ _ _ _ _ _ _ _ _
       refine XL.ren (σ' := (qui2 lh1_1 x4_1 x6_1 ((7, s0 2 lh4_r2.length) :: qui3 x29_1 x30_1 []))) (h' := ((3, rc encP lh3_1 0 55 2) :: (2, rc encP lh4_r2 0 55 2) :: qui4 lh1_1 lh3_1 xh0_0_1 [])) (c' := 4) [0, 1, 4, 3] (by decide) rfl ⟨rfl, rfl, rfl, rfl, rfl, rfl, rfl, trivial⟩ ⟨⟨_, _, rfl, rfl, .inl ⟨rfl, rwP⟩⟩, ⟨_, _, rfl, rfl, .inl ⟨rfl, rwP⟩⟩, ⟨_, _, rfl, rfl, .inl ⟨rfl, rwI⟩⟩, ⟨_, _, rfl, rfl, .inr ⟨_, _, _, _, rfl, rfl⟩⟩, trivial⟩ rfl ?_
       refine XL.conv (f12_1_ok m fuel x4_1 (w64 (x6_1 + 1)) x29_1 (IntKind.wrap .u32 (x30_1 + 1)) xh0_0_1 lh1_1 lh4_r2 lh3_1 o h Q hQ) (by first | with_reducible rfl | simp | rfl)
      | false =>
       have h := cF b5 h
       refine iF (.tmp 49) ?_
       refine kQ ?_
       show XQ _ _ _ _ _ _ _ _
       refine rQ ?_
       refine rS 3 (qui2 lh1_1 x4_1 x6_1 [(7, s0 2 lh2_1.length), (29, .int .u32 x29_1), (30, .int .u32 x30_1)]) ?_
       refine dQ ?_
       show XQ _ _ _ _ _ _ _ _
       refine rQ ?_
       refine rS 2 (qui2 lh1_1 x4_1 x6_1 ((7, s0 2 lh2_1.length) :: qui3 x29_1 x30_1 [])) ?_
       refine dQ ?_
       show XL _ _ _ _ _ _ _ _ _
       refine XL.ren (σ' := (qui2 lh1_1 x4_1 x6_1 ((7, s0 2 lh2_1.length) :: qui3 x29_1 x30_1 []))) (h' := ((3, rc encP lh3_1 0 55 2) :: (2, rc encP lh2_1 0 55 2) :: qui4 lh1_1 lh3_1 xh0_0_1 [])) (c' := 4) [0, 1, 2, 3] (by decide) rfl ⟨rfl, rfl, rfl, rfl, rfl, rfl, rfl, trivial⟩ ⟨⟨_, _, rfl, rfl, .inl ⟨rfl, rwP⟩⟩, ⟨_, _, rfl, rfl, .inl ⟨rfl, rwP⟩⟩, ⟨_, _, rfl, rfl, .inl ⟨rfl, rwI⟩⟩, ⟨_, _, rfl, rfl, .inr ⟨_, _, _, _, rfl, rfl⟩⟩, trivial⟩ rfl ?_
       refine XL.conv (f12_1_ok m fuel x4_1 (w64 (x6_1 + 1)) x29_1 (IntKind.wrap .u32 (x30_1 + 1)) xh0_0_1 lh1_1 lh2_1 lh3_1 o h Q hQ) (by first | with_reducible rfl | simp | rfl)
     | x0 lh4_x02 xh5_0_x02 lh6_x02 =>
      dsimp only at h
      refine XL.conv (f12_2_ok m m xh0_0_1 lh1_1 lh2_1 lh3_1 ((r12.2.length : Nat) : Int) 0 r12.2 r12.1 r13 (.x0 lh4_x02 xh5_0_x02 lh6_x02) o2_h _ ?_) (by first | with_reducible rfl | simp | rfl)
      show XQ _ _ _ _ _ _ _ _
      refine sQ ?_
      refine qQ ?_
      refine rS 5 [(38, .bool (decide (((lh4_x02.length : Nat) : Int) < ((lh2_1.length : Nat) : Int))))] ?_
      refine dQ ?_
      show XQ _ _ _ _ _ _ _ _
      cases b6 : (decide (((lh4_x02.length : Nat) : Int) < ((lh2_1.length : Nat) : Int)) : Bool) with
      | true =>
       have h := cT b6 h
       refine iT (.tmp 38) ?_
       refine qQ ?_
       refine rS 1 [(6, ii (-1))] ?_
       refine dQ ?_
       show XQ _ _ _ _ _ _ _ _
       refine XQ.ret (by kernel_rfl) ?_
       refine ⟨fun i q => (by cases q), ii (-1), (by kernel_rfl), ?_⟩
       refine XR.conv (σ' := (qui1 lh1_1 lh2_1 x29_1 x30_1 x4_1 x6_1 [(43, .bool false), (47, ii (-1))])) (h' := ((6, rI lh6_x02) :: (5, .cells [ii xh5_0_x02, s0 4 lh4_x02.length] 0 34 0) :: (4, rc encP lh4_x02 0 55 2) :: (3, rc encP lh3_1 0 55 2) :: (2, rc encP lh2_1 0 55 2) :: qui4 lh1_1 lh3_1 xh0_0_1 [])) (c' := 7) ?_ (by kernel_rfl)
       refine rS 2 (qui1 lh1_1 lh2_1 x29_1 x30_1 x4_1 x6_1 [(49, .bool true)]) ?_
       refine dQ ?_
       show XQ _ _ _ _ _ _ _ _
       refine iT (.tmp 49) ?_
       refine rQ ?_
       refine rS 3 [(3, pp 0 0), (4, ii x4_1), (5, s0 1 lh1_1.length), (6, ii x6_1), (7, s0 4 lh4_x02.length), (29, .int .u32 x29_1), (30, .int .u32 x30_1)] ?_
       refine dQ ?_
       show XQ _ _ _ _ _ _ _ _
       refine rQ ?_
       refine rS 3 (qui2 lh1_1 x4_1 x6_1 [(7, s0 4 lh4_x02.length), (29, .int .u32 x29_1), (30, .int .u32 x30_1)]) ?_
       refine dQ ?_
       show XQ _ _ _ _ _ _ _ _
       refine rQ ?_
       refine rS 2 (qui2 lh1_1 x4_1 x6_1 ((7, s0 4 lh4_x02.length) :: qui3 x29_1 x30_1 [])) ?_
       refine dQ ?_
       show XL _ _ _ _ _ _ _ _ _
       refine XL.ren (σ' := (qui2 lh1_1 x4_1 x6_1 ((7, s0 2 lh4_x02.length) :: qui3 x29_1 x30_1 []))) (h' := ((3, rc encP lh3_1 0 55 2) :: (2, rc encP lh4_x02 0 55 2) :: qui4 lh1_1 lh3_1 xh0_0_1 [])) (c' := 4) [0, 1, 4, 3] (by decide) rfl ⟨rfl, rfl, rfl, rfl, rfl, rfl, rfl, trivial⟩ ⟨⟨_, _, rfl, rfl, .inl ⟨rfl, rwP⟩⟩, ⟨_, _, rfl, rfl, .inl ⟨rfl, rwP⟩⟩, ⟨_, _, rfl, rfl, .inl ⟨rfl, rwI⟩⟩, ⟨_, _, rfl, rfl, .inr ⟨_, _, _, _, rfl, rfl⟩⟩, trivial⟩ rfl ?_
       refine XL.conv (f12_1_ok m fuel x4_1 (w64 (x6_1 + 1)) x29_1 (IntKind.wrap .u32 (x30_1 + 1)) xh0_0_1 lh1_1 lh4_x02 lh3_1 o h Q hQ) (by first | with_reducible rfl | simp | rfl)
      | false =>
       have h := cF b6 h
       refine iF (.tmp 38) ?_
       refine kQ ?_
       show XQ _ _ _ _ _ _ _ _
       refine qQ ?_
       refine rS 1 [(6, ii 0)] ?_
       refine dQ ?_
       show XQ _ _ _ _ _ _ _ _
       refine XQ.ret (by kernel_rfl) ?_
       refine ⟨fun i q => (by cases q), ii 0, (by kernel_rfl), ?_⟩
       refine XR.conv (σ' := (qui1 lh1_1 lh2_1 x29_1 x30_1 x4_1 x6_1 [(43, .bool false), (47, ii 0)])) (h' := ((6, rI lh6_x02) :: (5, .cells [ii xh5_0_x02, s0 4 lh4_x02.length] 0 34 0) :: (4, rc encP lh4_x02 0 55 2) :: (3, rc encP lh3_1 0 55 2) :: (2, rc encP lh2_1 0 55 2) :: qui4 lh1_1 lh3_1 xh0_0_1 [])) (c' := 7) ?_ (by kernel_rfl)
       refine rS 2 (qui1 lh1_1 lh2_1 x29_1 x30_1 x4_1 x6_1 [(49, .bool false)]) ?_
       refine dQ ?_
       show XQ _ _ _ _ _ _ _ _
       refine iF (.tmp 49) ?_
       refine kQ ?_
       show XQ _ _ _ _ _ _ _ _
       refine rQ ?_
       refine rS 3 (qui2 lh1_1 x4_1 x6_1 [(7, s0 2 lh2_1.length), (29, .int .u32 x29_1), (30, .int .u32 x30_1)]) ?_
       refine dQ ?_
       show XQ _ _ _ _ _ _ _ _
       refine rQ ?_
       refine rS 2 (qui2 lh1_1 x4_1 x6_1 ((7, s0 2 lh2_1.length) :: qui3 x29_1 x30_1 [])) ?_
       refine dQ ?_
       show XL _ _ _ _ _ _ _ _ _
       refine XL.ren (σ' := (qui2 lh1_1 x4_1 x6_1 ((7, s0 2 lh2_1.length) :: qui3 x29_1 x30_1 []))) (h' := ((3, rc encP lh3_1 0 55 2) :: (2, rc encP lh2_1 0 55 2) :: qui4 lh1_1 lh3_1 xh0_0_1 [])) (c' := 4) [0, 1, 2, 3] (by decide) rfl ⟨rfl, rfl, rfl, rfl, rfl, rfl, rfl, trivial⟩ ⟨⟨_, _, rfl, rfl, .inl ⟨rfl, rwP⟩⟩, ⟨_, _, rfl, rfl, .inl ⟨rfl, rwP⟩⟩, ⟨_, _, rfl, rfl, .inl ⟨rfl, rwI⟩⟩, ⟨_, _, rfl, rfl, .inr ⟨_, _, _, _, rfl, rfl⟩⟩, trivial⟩ rfl ?_
       refine XL.conv (f12_1_ok m fuel x4_1 (w64 (x6_1 + 1)) x29_1 (IntKind.wrap .u32 (x30_1 + 1)) xh0_0_1 lh1_1 lh2_1 lh3_1 o h Q hQ) (by first | with_reducible rfl | simp | rfl)
  | false =>
   have h := cF b1 h
   refine iF (.tmp 31) ?_
   refine XQ.ren (σ' := [(3, pp 0 0), (4, ii x4_1), (5, s0 1 lh1_1.length), (6, ii x6_1), (7, s0 2 lh2_1.length)]) (h' := ((3, rc encP lh3_1 0 55 2) :: (2, rc encP lh2_1 0 55 2) :: qui4 lh1_1 lh3_1 xh0_0_1 [])) (c' := 4) [0, 1, 2, 3] (by decide) rfl ⟨rfl, rfl, rfl, rfl, rfl, trivial⟩ ⟨⟨_, _, rfl, rfl, .inl ⟨rfl, rwP⟩⟩, ⟨_, _, rfl, rfl, .inl ⟨rfl, rwP⟩⟩, ⟨_, _, rfl, rfl, .inl ⟨rfl, rwI⟩⟩, ⟨_, _, rfl, rfl, .inr ⟨_, _, _, _, rfl, rfl⟩⟩, trivial⟩ rfl ?_
   refine XQ.exit (i := 0) (by kernel_rfl) ?_
   cases h
   exact hQ
def f12 (m : Nat) (a_Sorters : Int) (a_Tables : Int) : Option (Bool) :=
 (f36 m a_Sorters a_Tables 5).bind fun r1 =>
  (f32 m r1.1 r1.2).bind fun r2 =>
   cond (decide (0 ≤ w64 (Int.tdiv (w64 (r1.1 * (w64 (r1.1 - 1)))) 2))) (
    (f12_1 m m r1.1 0 (shV true .u32 1 (w64 (Int.tdiv (w64 (r1.1 * (w64 (r1.1 - 1)))) 2))) 0 r1.1 r2 [] r1.2).bind fun o1 =>
     (f43 m o1.2.2.1 o1.2.2.2.2.2).bind fun r18 =>
      (f23 m o1.2.2.2.1).bind fun r19 =>
       (f26 m o1.2.2.2.1).bind fun r20 =>
        (f28 m o1.2.2.2.1).bind fun r21 =>
         cond (r18.2 == 0) (
          cond (r19.2.2 == 0) (
           cond (r20.2 == 0) (
            cond (r21.2 == 0) (
             (f40 m r18.1 o1.2.2.2.1).bind fun r22 =>
              cond (r22) (
               cond (r19.1 == o1.1) (
                (f39 m r19.2.1 o1.2.2.2.2.1).bind fun r23 =>
                 cond (r23) (
                  cond (r20.1 == o1.2.1) (
                   cond (r21.1 == (o1.2.1 == 1)) (
                    some (true)
                   ) (
                    some (false)
                   )
                  ) (
                   some (false)
                  )
                 ) (
                  some (false)
                 )
               ) (
                some (false)
               )
              ) (
               some (false)
              )
            ) (
             some (false)
            )
           ) (
            some (false)
           )
          ) (
           some (false)
          )
         ) (
          some (false)
         )
   ) none
theorem f12_ok (m : Nat) (a_Sorters : Int) (a_Tables : Int) (o : Bool) (h : f12 m a_Sorters a_Tables = some o) (w : World) (hI : seatInv w) : Calls Proofs.Tryd.prog 12 #[.agg #[.int .u8 a_Sorters, .int .u32 a_Tables]] w fun e w' => e = .returned (.bool o) ∧ Below w.heap.size w w' := by
 refine KC.calls (E := E0) (args := [.agg #[.int .u8 a_Sorters, .int .u32 a_Tables]]) (v := .bool o) rfl rfl (KC.bodyN E0_ok (F := Proofs.Tryd.f12) (by kernel_rfl) (code := f12_C12) (by kernel_rfl) (nt := 120) (by kernel_rfl) (rs := [.tmp 2]) (by kernel_rfl) (by kernel_rfl) (σ := [(0, .agg #[.int .u8 a_Sorters, .int .u32 a_Tables])]) (by kernel_rfl) ?_) w (seatInv_size hI) hI
 unfold f12 at h
 refine qQ ?_
 refine rT 2 [(1, pp 0 0)] [(0, .cells [.int .u8 a_Sorters, .int .u32 a_Tables] 0 53 0)] 1 ?_
 refine nQ id ?_
 refine rS 1 [(18, .agg #[.int .u8 a_Sorters, .int .u32 a_Tables])] ?_
 obtain ⟨r1, r1_h, h⟩ := bS h
 refine XR.call E0_ok [19] rfl (K := 36) (args := [.agg #[.int .u8 a_Sorters, .int .u32 a_Tables], ii 5]) (d := (some (path 12 19))) (by kernel_rfl) (KC.lift (V2 := .agg #[ii r1.1, s0 1 r1.2.length]) (H2 := [(1, rc encP r1.2 0 55 2)]) [1, 0] (f36_ok m a_Sorters a_Tables 5 r1 r1_h) rfl (by decide) (by decide) (by kernel_rfl) ⟨⟨_, _, rfl, rfl, .inl ⟨rfl, rwP⟩⟩, trivial⟩ (by rfl)) ?_
 rintro _ _ _ ⟨rfl, rfl, rfl⟩
 refine XR.conv (σ' := [(19, .agg #[ii r1.1, s0 1 r1.2.length])]) (h' := [(1, rc encP r1.2 0 55 2), (0, .cells [.int .u8 a_Sorters, .int .u32 a_Tables] 0 53 0)]) (c' := 2) ?_ (by kernel_rfl)
 refine rT 2 [(3, pp 2 0)] [(2, .cells [ii r1.1, s0 1 r1.2.length] 0 34 0), (1, rc encP r1.2 0 55 2), (0, .cells [.int .u8 a_Sorters, .int .u32 a_Tables] 0 53 0)] 3 ?_
 refine nQ id ?_
 refine rS 3 [(3, pp 2 0), (4, ii r1.1)] ?_
 refine nQ id ?_
 refine rS 1 [(3, pp 2 0), (4, ii r1.1), (22, .agg #[ii r1.1, s0 1 r1.2.length])] ?_
 obtain ⟨r2, r2_h, h⟩ := bS h
 refine XR.call E0_ok [3, 4, 23] rfl (K := 32) (args := [.agg #[ii r1.1, s0 1 r1.2.length]]) (d := (some (path 12 23))) (by kernel_rfl) (KC.liftH (n0 := 1) (m := 1) (args0 := [.agg #[ii r1.1, s0 0 r1.2.length]]) (h0 := [(0, rc encP r1.2 (0 + ((rowC encP r1.2).length + 1)) 55 2)]) (V := s0 1 r2.length) (V2 := s0 3 r2.length) (H := [(1, rI r2)]) (H2 := [(3, rI r2)]) [1] [2, 3, 4, 1] (f32_ok m (0 + ((rowC encP r1.2).length + 1)) 55 r1.1 r1.2 r2 r2_h) (by rfl) (by decide) rfl (by kernel_rfl) ⟨⟨_, _, rfl, rfl, .inl ⟨rfl, rwP⟩⟩, trivial⟩ (by decide) (by decide) (by kernel_rfl) ⟨⟨_, _, rfl, rfl, .inl ⟨rfl, rwI⟩⟩, trivial⟩ (by rfl)) ?_
 rintro _ _ _ ⟨rfl, rfl, rfl⟩
 refine XR.conv (σ' := [(3, pp 2 0), (4, ii r1.1), (23, s0 3 r2.length)]) (h' := [(3, rI r2), (2, .cells [ii r1.1, s0 1 r1.2.length] 0 34 0), (1, rc encP r1.2 0 55 2), (0, .cells [.int .u8 a_Sorters, .int .u32 a_Tables] 0 53 0)]) (c' := 4) ?_ (by kernel_rfl)
 refine rS 1 [(3, pp 2 0), (4, ii r1.1), (5, s0 3 r2.length)] ?_
 refine nQ id ?_
 refine rS 1 [(3, pp 2 0), (4, ii r1.1), (5, s0 3 r2.length), (6, ii 0)] ?_
 refine nQ id ?_
 refine rS 1 [(3, pp 2 0), (4, ii r1.1), (5, s0 3 r2.length), (6, ii 0), (7, .slice none 0 0)] ?_
 refine dQ ?_
 show XQ _ _ _ _ _ _ _ _
 refine XQ.ghost 55 2 rfl (σ' := [(3, pp 2 0), (4, ii r1.1), (5, s0 3 r2.length), (6, ii 0), (7, s0 4 0)]) (h' := [(3, rI r2), (2, .cells [ii r1.1, s0 1 r1.2.length] 0 34 0), (1, rc encP r1.2 0 55 2), (0, .cells [.int .u8 a_Sorters, .int .u32 a_Tables] 0 53 0)]) ⟨rfl, rfl, rfl, rfl, rfl, trivial⟩ ⟨⟨_, rfl, .inl rfl⟩, ⟨_, rfl, .inl rfl⟩, ⟨_, rfl, .inl rfl⟩, ⟨_, rfl, .inl rfl⟩, trivial⟩ ?_
 refine XQ.conv (σ' := [(3, pp 2 0), (4, ii r1.1), (5, s0 3 r2.length), (6, ii 0), (7, s0 4 0)]) (h' := [(4, rc encP [] 0 55 2), (3, rI r2), (2, .cells [ii r1.1, s0 1 r1.2.length] 0 34 0), (1, rc encP r1.2 0 55 2), (0, .cells [.int .u8 a_Sorters, .int .u32 a_Tables] 0 53 0)]) (c' := 5) ?_ (by kernel_rfl)
 refine sQ ?_
 refine qQ ?_
 refine rS 5 [(3, pp 2 0), (4, ii r1.1), (5, s0 3 r2.length), (6, ii 0), (7, s0 4 0), (28, ii (w64 (Int.tdiv (w64 (r1.1 * (w64 (r1.1 - 1)))) 2)))] ?_
 cases b1 : (decide (0 ≤ w64 (Int.tdiv (w64 (r1.1 * (w64 (r1.1 - 1)))) 2)) : Bool) with
 | false => cases (cF b1 h)
 | true =>
  have h := cT b1 h
  have e2 : insV (headI ((gsOf E0 120 (opsOf (lft (lft (rgt (rgt (rgt (rgt (rgt (rgt f12_C12)))))))))).drop 5) (trS 120 [(3, pp 2 0), (4, ii r1.1), (5, s0 3 r2.length), (6, ii 0), (7, s0 4 0), (28, ii (w64 (Int.tdiv (w64 (r1.1 * (w64 (r1.1 - 1)))) 2)))])) (trS 120 [(3, pp 2 0), (4, ii r1.1), (5, s0 3 r2.length), (6, ii 0), (7, s0 4 0), (28, ii (w64 (Int.tdiv (w64 (r1.1 * (w64 (r1.1 - 1)))) 2)))]) [(4, rc encP [] 0 55 2), (3, rI r2), (2, .cells [ii r1.1, s0 1 r1.2.length] 0 34 0), (1, rc encP r1.2 0 55 2), (0, .cells [.int .u8 a_Sorters, .int .u32 a_Tables] 0 53 0)] = (match (decide (0 ≤ w64 (Int.tdiv (w64 (r1.1 * (w64 (r1.1 - 1)))) 2)) : Bool) with | true => some (.int .u32 (shV true .u32 1 (w64 (Int.tdiv (w64 (r1.1 * (w64 (r1.1 - 1)))) 2)))) | false => none) := by kernel_rfl
  refine XR.rd E0_ok [3, 4, 5, 6, 7, 29] rfl (e2.trans (by rw [b1])) (σ' := [(3, pp 2 0), (4, ii r1.1), (5, s0 3 r2.length), (6, ii 0), (7, s0 4 0), (29, .int .u32 (shV true .u32 1 (w64 (Int.tdiv (w64 (r1.1 * (w64 (r1.1 - 1)))) 2))))]) (by kernel_rfl) ?_
  refine rS 1 [(3, pp 2 0), (4, ii r1.1), (5, s0 3 r2.length), (6, ii 0), (7, s0 4 0), (29, .int .u32 (shV true .u32 1 (w64 (Int.tdiv (w64 (r1.1 * (w64 (r1.1 - 1)))) 2)))), (30, .int .u32 0)] ?_
  refine dQ ?_
  show XQ _ _ _ _ _ _ _ _
  refine XQ.block (id := 0) (by kernel_rfl) ?_
  refine XQ.loop m (by kernel_rfl) ?_
  obtain ⟨o1, o1_h, h⟩ := bS h
  refine XL.ren (σ' := [(3, pp 0 0), (4, ii r1.1), (5, s0 1 r2.length), (6, ii 0), (7, s0 2 0), (29, .int .u32 (shV true .u32 1 (w64 (Int.tdiv (w64 (r1.1 * (w64 (r1.1 - 1)))) 2)))), (30, .int .u32 0)]) (h' := [(3, rc encP r1.2 0 55 2), (2, rc encP [] 0 55 2), (1, rI r2), (0, .cells [ii r1.1, s0 3 r1.2.length] 0 34 0)]) (c' := 4) [2, 3, 4, 1] (by decide) rfl ⟨rfl, rfl, rfl, rfl, rfl, rfl, rfl, trivial⟩ ⟨⟨_, _, rfl, rfl, .inl ⟨rfl, rwP⟩⟩, ⟨_, _, rfl, rfl, .inl ⟨rfl, rwP⟩⟩, ⟨_, _, rfl, rfl, .inl ⟨rfl, rwI⟩⟩, ⟨_, _, rfl, rfl, .inr ⟨_, _, _, _, rfl, rfl⟩⟩, trivial⟩ rfl ?_
  refine XL.conv (f12_1_ok m m r1.1 0 (shV true .u32 1 (w64 (Int.tdiv (w64 (r1.1 * (w64 (r1.1 - 1)))) 2))) 0 r1.1 r2 [] r1.2 o1 o1_h _ ?_) (by first | with_reducible rfl | simp | rfl)
  show XQ _ _ _ _ _ _ _ _
  refine qQ ?_
  refine rS 1 [(4, ii o1.1), (5, s0 1 o1.2.2.2.1.length), (6, ii o1.2.1), (7, s0 2 o1.2.2.2.2.1.length), (56, .agg #[ii o1.2.2.1, s0 3 o1.2.2.2.2.2.length])] ?_
  obtain ⟨r18, r18_h, h⟩ := bS h
  refine XR.call E0_ok [4, 5, 6, 7, 57] rfl (K := 43) (args := [.agg #[ii o1.2.2.1, s0 3 o1.2.2.2.2.2.length]]) (d := (some (path 12 57))) (by kernel_rfl) (KC.liftH (n0 := 1) (m := 1) (args0 := [.agg #[ii o1.2.2.1, s0 0 o1.2.2.2.2.2.length]]) (h0 := [(0, rc encP o1.2.2.2.2.2 (0 + ((rowC encP o1.2.2.2.2.2).length + 1)) 55 2)]) (V := .tuple #[s0 1 r18.1.length, ii r18.2]) (V2 := .tuple #[s0 4 r18.1.length, ii r18.2]) (H := [(1, rI r18.1)]) (H2 := [(4, rI r18.1)]) [3] [2, 3, 4, 5, 1] (f43_ok m (0 + ((rowC encP o1.2.2.2.2.2).length + 1)) 55 o1.2.2.1 o1.2.2.2.2.2 r18 r18_h) (by rfl) (by decide) rfl (by kernel_rfl) ⟨⟨_, _, rfl, rfl, .inl ⟨rfl, rwP⟩⟩, trivial⟩ (by decide) (by decide) (by kernel_rfl) ⟨⟨_, _, rfl, rfl, .inl ⟨rfl, rwI⟩⟩, trivial⟩ (by rfl)) ?_
  rintro _ _ _ ⟨rfl, rfl, rfl⟩
  refine XR.conv (σ' := [(4, ii o1.1), (5, s0 1 o1.2.2.2.1.length), (6, ii o1.2.1), (7, s0 2 o1.2.2.2.2.1.length), (57, .tuple #[s0 4 r18.1.length, ii r18.2])]) (h' := [(4, rI r18.1), (3, rc encP o1.2.2.2.2.2 0 55 2), (2, rc encP o1.2.2.2.2.1 0 55 2), (1, rI o1.2.2.2.1), (0, .cells [ii o1.2.2.1, s0 3 o1.2.2.2.2.2.length] 0 34 0)]) (c' := 5) ?_ (by kernel_rfl)
  refine rS 5 [(4, ii o1.1), (5, s0 1 o1.2.2.2.1.length), (6, ii o1.2.1), (7, s0 2 o1.2.2.2.2.1.length), (10, s0 4 r18.1.length), (11, ii r18.2)] ?_
  refine nQ id ?_
  refine rS 1 [(4, ii o1.1), (5, s0 1 o1.2.2.2.1.length), (6, ii o1.2.1), (7, s0 2 o1.2.2.2.2.1.length), (10, s0 4 r18.1.length), (11, ii r18.2), (61, s0 1 o1.2.2.2.1.length)] ?_
  obtain ⟨r19, r19_h, h⟩ := bS h
  refine XR.call E0_ok [4, 5, 6, 7, 10, 11, 62] rfl (K := 23) (args := [s0 1 o1.2.2.2.1.length]) (d := (some (path 12 62))) (by kernel_rfl) (KC.liftH (n0 := 1) (m := 1) (args0 := [s0 0 o1.2.2.2.1.length]) (h0 := [(0, rc (encI .i64) o1.2.2.2.1 (0 + ((rowC (encI .i64) o1.2.2.2.1).length + 1)) 3 1)]) (V := .tuple #[.agg #[ii r19.1, s0 1 r19.2.1.length], ii r19.2.2]) (V2 := .tuple #[.agg #[ii r19.1, s0 5 r19.2.1.length], ii r19.2.2]) (H := [(1, rc encP r19.2.1 0 55 2)]) (H2 := [(5, rc encP r19.2.1 0 55 2)]) [1] [2, 3, 4, 5, 6, 1] (f23_ok m (0 + ((rowC (encI .i64) o1.2.2.2.1).length + 1)) 3 o1.2.2.2.1 r19 r19_h) (by rfl) (by decide) rfl (by kernel_rfl) ⟨⟨_, _, rfl, rfl, .inl ⟨rfl, rwI⟩⟩, trivial⟩ (by decide) (by decide) (by kernel_rfl) ⟨⟨_, _, rfl, rfl, .inl ⟨rfl, rwP⟩⟩, trivial⟩ (by rfl)) ?_
  rintro _ _ _ ⟨rfl, rfl, rfl⟩
  refine XR.conv (σ' := [(4, ii o1.1), (5, s0 1 o1.2.2.2.1.length), (6, ii o1.2.1), (7, s0 2 o1.2.2.2.2.1.length), (10, s0 4 r18.1.length), (11, ii r18.2), (62, .tuple #[.agg #[ii r19.1, s0 5 r19.2.1.length], ii r19.2.2])]) (h' := [(5, rc encP r19.2.1 0 55 2), (4, rI r18.1), (3, rc encP o1.2.2.2.2.2 0 55 2), (2, rc encP o1.2.2.2.2.1 0 55 2), (1, rI o1.2.2.2.1), (0, .cells [ii o1.2.2.1, s0 3 o1.2.2.2.2.2.length] 0 34 0)]) (c' := 6) ?_ (by kernel_rfl)
  refine rT 6 [(4, ii o1.1), (5, s0 1 o1.2.2.2.1.length), (6, ii o1.2.1), (7, s0 2 o1.2.2.2.2.1.length), (10, s0 4 r18.1.length), (11, ii r18.2), (12, pp 6 0), (13, ii r19.2.2)] [(6, .cells [ii r19.1, s0 5 r19.2.1.length] 0 34 0), (5, rc encP r19.2.1 0 55 2), (4, rI r18.1), (3, rc encP o1.2.2.2.2.2 0 55 2), (2, rc encP o1.2.2.2.2.1 0 55 2), (1, rI o1.2.2.2.1), (0, .cells [ii o1.2.2.1, s0 3 o1.2.2.2.2.2.length] 0 34 0)] 7 ?_
  refine nQ id ?_
  refine rS 1 [(4, ii o1.1), (5, s0 1 o1.2.2.2.1.length), (6, ii o1.2.1), (7, s0 2 o1.2.2.2.2.1.length), (10, s0 4 r18.1.length), (11, ii r18.2), (12, pp 6 0), (13, ii r19.2.2), (66, s0 1 o1.2.2.2.1.length)] ?_
  obtain ⟨r20, r20_h, h⟩ := bS h
  refine XR.call E0_ok [4, 5, 6, 7, 10, 11, 12, 13, 67] rfl (K := 26) (args := [s0 1 o1.2.2.2.1.length]) (d := (some (path 12 67))) (by kernel_rfl) (KQ.call (KC.quiet E0_ok (args0 := [s0 0 o1.2.2.2.1.length]) (h0 := [(0, rc (encI .i64) o1.2.2.2.1 (0 + ((rowC (encI .i64) o1.2.2.2.1).length + 1)) 3 1)]) (n := 1) (V := .tuple #[ii r20.1, ii r20.2]) [1] (f26_ok m (0 + ((rowC (encI .i64) o1.2.2.2.1).length + 1)) 3 o1.2.2.2.1 r20 r20_h) rfl (by rfl) (by decide) rfl (by kernel_rfl) ⟨⟨_, _, rfl, rfl, .inl ⟨rfl, rwI⟩⟩, trivial⟩) rfl) ?_
  rintro _ _ _ ⟨rfl, rfl, rfl⟩
  refine XR.conv (σ' := [(4, ii o1.1), (5, s0 1 o1.2.2.2.1.length), (6, ii o1.2.1), (7, s0 2 o1.2.2.2.2.1.length), (10, s0 4 r18.1.length), (11, ii r18.2), (12, pp 6 0), (13, ii r19.2.2), (67, .tuple #[ii r20.1, ii r20.2])]) (h' := [(6, .cells [ii r19.1, s0 5 r19.2.1.length] 0 34 0), (5, rc encP r19.2.1 0 55 2), (4, rI r18.1), (3, rc encP o1.2.2.2.2.2 0 55 2), (2, rc encP o1.2.2.2.2.1 0 55 2), (1, rI o1.2.2.2.1), (0, .cells [ii o1.2.2.1, s0 3 o1.2.2.2.2.2.length] 0 34 0)]) (c' := 7) ?_ (by kernel_rfl)
  refine rS 5 [(4, ii o1.1), (5, s0 1 o1.2.2.2.1.length), (6, ii o1.2.1), (7, s0 2 o1.2.2.2.2.1.length), (10, s0 4 r18.1.length), (11, ii r18.2), (12, pp 6 0), (13, ii r19.2.2), (14, ii r20.1), (15, ii r20.2)] ?_
  refine nQ id ?_
  refine rS 1 [(4, ii o1.1), (5, s0 1 o1.2.2.2.1.length), (6, ii o1.2.1), (7, s0 2 o1.2.2.2.2.1.length), (10, s0 4 r18.1.length), (11, ii r18.2), (12, pp 6 0), (13, ii r19.2.2), (14, ii r20.1), (15, ii r20.2), (71, s0 1 o1.2.2.2.1.length)] ?_
  obtain ⟨r21, r21_h, h⟩ := bS h
  refine XR.call E0_ok [4, 5, 6, 7, 10, 11, 12, 13, 14, 15, 72] rfl (K := 28) (args := [s0 1 o1.2.2.2.1.length]) (d := (some (path 12 72))) (by kernel_rfl) (KQ.call (KC.quiet E0_ok (args0 := [s0 0 o1.2.2.2.1.length]) (h0 := [(0, rc (encI .i64) o1.2.2.2.1 (0 + ((rowC (encI .i64) o1.2.2.2.1).length + 1)) 3 1)]) (n := 1) (V := .tuple #[.bool r21.1, ii r21.2]) [1] (f28_ok m (0 + ((rowC (encI .i64) o1.2.2.2.1).length + 1)) 3 o1.2.2.2.1 r21 r21_h) rfl (by rfl) (by decide) rfl (by kernel_rfl) ⟨⟨_, _, rfl, rfl, .inl ⟨rfl, rwI⟩⟩, trivial⟩) rfl) ?_
  rintro _ _ _ ⟨rfl, rfl, rfl⟩
  refine XR.conv (σ' := [(4, ii o1.1), (5, s0 1 o1.2.2.2.1.length), (6, ii o1.2.1), (7, s0 2 o1.2.2.2.2.1.length), (10, s0 4 r18.1.length), (11, ii r18.2), (12, pp 6 0), (13, ii r19.2.2), (14, ii r20.1), (15, ii r20.2), (72, .tuple #[.bool r21.1, ii r21.2])]) (h' := [(6, .cells [ii r19.1, s0 5 r19.2.1.length] 0 34 0), (5, rc encP r19.2.1 0 55 2), (4, rI r18.1), (3, rc encP o1.2.2.2.2.2 0 55 2), (2, rc encP o1.2.2.2.2.1 0 55 2), (1, rI o1.2.2.2.1), (0, .cells [ii o1.2.2.1, s0 3 o1.2.2.2.2.2.length] 0 34 0)]) (c' := 7) ?_ (by kernel_rfl)
  refine rS 5 [(4, ii o1.1), (5, s0 1 o1.2.2.2.1.length), (6, ii o1.2.1), (7, s0 2 o1.2.2.2.2.1.length), (10, s0 4 r18.1.length), (11, ii r18.2), (12, pp 6 0), (13, ii r19.2.2), (14, ii r20.1), (15, ii r20.2), (16, .bool r21.1), (17, ii r21.2)] ?_
  refine nQ id ?_
  refine rS 3 [(4, ii o1.1), (5, s0 1 o1.2.2.2.1.length), (6, ii o1.2.1), (7, s0 2 o1.2.2.2.2.1.length), (10, s0 4 r18.1.length), (12, pp 6 0), (13, ii r19.2.2), (14, ii r20.1), (15, ii r20.2), (16, .bool r21.1), (17, ii r21.2), (77, .bool (r18.2 == 0))] ?_
  cases b4 : (r18.2 == 0 : Bool) with
  | true =>
   have h := cT b4 h
   refine rS 4 [(4, ii o1.1), (5, s0 1 o1.2.2.2.1.length), (6, ii o1.2.1), (7, s0 2 o1.2.2.2.2.1.length), (10, s0 4 r18.1.length), (12, pp 6 0), (14, ii r20.1), (15, ii r20.2), (16, .bool r21.1), (17, ii r21.2), (81, .bool (r19.2.2 == 0))] ?_
   cases b5 : (r19.2.2 == 0 : Bool) with
   | true =>
    have h := cT b5 h
    refine rS 4 [(4, ii o1.1), (5, s0 1 o1.2.2.2.1.length), (6, ii o1.2.1), (7, s0 2 o1.2.2.2.2.1.length), (10, s0 4 r18.1.length), (12, pp 6 0), (14, ii r20.1), (16, .bool r21.1), (17, ii r21.2), (85, .bool (r20.2 == 0))] ?_
    cases b6 : (r20.2 == 0 : Bool) with
    | true =>
     have h := cT b6 h
     refine rS 4 [(4, ii o1.1), (5, s0 1 o1.2.2.2.1.length), (6, ii o1.2.1), (7, s0 2 o1.2.2.2.2.1.length), (10, s0 4 r18.1.length), (12, pp 6 0), (14, ii r20.1), (16, .bool r21.1), (89, .bool (r21.2 == 0))] ?_
     cases b7 : (r21.2 == 0 : Bool) with
     | true =>
      have h := cT b7 h
      refine rS 2 [(4, ii o1.1), (6, ii o1.2.1), (7, s0 2 o1.2.2.2.2.1.length), (12, pp 6 0), (14, ii r20.1), (16, .bool r21.1), (89, .bool true), (90, s0 4 r18.1.length), (91, s0 1 o1.2.2.2.1.length)] ?_
      obtain ⟨r22, r22_h, h⟩ := bS h
      refine XR.call E0_ok [4, 6, 7, 12, 14, 16, 89, 92] rfl (K := 40) (args := [s0 4 r18.1.length, s0 1 o1.2.2.2.1.length]) (d := (some (path 12 92))) (by kernel_rfl) (KQ.call (KC.quiet E0_ok (args0 := [s0 0 r18.1.length, s0 1 o1.2.2.2.1.length]) (h0 := [(1, rc (encI .i64) o1.2.2.2.1 (0 + ((rowC (encI .i64) o1.2.2.2.1).length + 1)) 3 1), (0, rc (encI .i64) r18.1 (0 + ((rowC (encI .i64) r18.1).length + 1)) 3 1)]) (n := 2) (V := .bool r22) [4, 1] (f40_ok m (0 + ((rowC (encI .i64) r18.1).length + 1)) 3 (0 + ((rowC (encI .i64) o1.2.2.2.1).length + 1)) 3 r18.1 o1.2.2.2.1 r22 r22_h) rfl (by rfl) (by decide) rfl (by kernel_rfl) ⟨⟨_, _, rfl, rfl, .inl ⟨rfl, rwI⟩⟩, ⟨_, _, rfl, rfl, .inl ⟨rfl, rwI⟩⟩, trivial⟩) rfl) ?_
      rintro _ _ _ ⟨rfl, rfl, rfl⟩
      refine XR.conv (σ' := [(4, ii o1.1), (6, ii o1.2.1), (7, s0 2 o1.2.2.2.2.1.length), (12, pp 6 0), (14, ii r20.1), (16, .bool r21.1), (89, .bool true), (92, .bool r22)]) (h' := [(6, .cells [ii r19.1, s0 5 r19.2.1.length] 0 34 0), (5, rc encP r19.2.1 0 55 2), (4, rI r18.1), (3, rc encP o1.2.2.2.2.2 0 55 2), (2, rc encP o1.2.2.2.2.1 0 55 2), (1, rI o1.2.2.2.1), (0, .cells [ii o1.2.2.1, s0 3 o1.2.2.2.2.2.length] 0 34 0)]) (c' := 7) ?_ (by kernel_rfl)
      refine rS 2 [(4, ii o1.1), (6, ii o1.2.1), (7, s0 2 o1.2.2.2.2.1.length), (12, pp 6 0), (14, ii r20.1), (16, .bool r21.1), (94, .bool r22)] ?_
      cases b8 : (r22 : Bool) with
      | true =>
       have h := cT b8 h
       refine rS 6 [(6, ii o1.2.1), (7, s0 2 o1.2.2.2.2.1.length), (12, pp 6 0), (14, ii r20.1), (16, .bool r21.1), (100, .bool (r19.1 == o1.1))] ?_
       cases b9 : (r19.1 == o1.1 : Bool) with
       | true =>
        have h := cT b9 h
        refine rS 3 [(6, ii o1.2.1), (14, ii r20.1), (16, .bool r21.1), (100, .bool true), (102, s0 5 r19.2.1.length), (103, s0 2 o1.2.2.2.2.1.length)] ?_
        obtain ⟨r23, r23_h, h⟩ := bS h
        refine XR.call E0_ok [6, 14, 16, 100, 104] rfl (K := 39) (args := [s0 5 r19.2.1.length, s0 2 o1.2.2.2.2.1.length]) (d := (some (path 12 104))) (by kernel_rfl) (KQ.call (KC.quiet E0_ok (args0 := [s0 0 r19.2.1.length, s0 1 o1.2.2.2.2.1.length]) (h0 := [(1, rc encP o1.2.2.2.2.1 (0 + ((rowC encP o1.2.2.2.2.1).length + 1)) 55 2), (0, rc encP r19.2.1 (0 + ((rowC encP r19.2.1).length + 1)) 55 2)]) (n := 2) (V := .bool r23) [5, 2] (f39_ok m (0 + ((rowC encP r19.2.1).length + 1)) 55 (0 + ((rowC encP o1.2.2.2.2.1).length + 1)) 55 r19.2.1 o1.2.2.2.2.1 r23 r23_h) rfl (by rfl) (by decide) rfl (by kernel_rfl) ⟨⟨_, _, rfl, rfl, .inl ⟨rfl, rwP⟩⟩, ⟨_, _, rfl, rfl, .inl ⟨rfl, rwP⟩⟩, trivial⟩) rfl) ?_
        rintro _ _ _ ⟨rfl, rfl, rfl⟩
        refine XR.conv (σ' := [(6, ii o1.2.1), (14, ii r20.1), (16, .bool r21.1), (100, .bool true), (104, .bool r23)]) (h' := [(6, .cells [ii r19.1, s0 5 r19.2.1.length] 0 34 0), (5, rc encP r19.2.1 0 55 2), (4, rI r18.1), (3, rc encP o1.2.2.2.2.2 0 55 2), (2, rc encP o1.2.2.2.2.1 0 55 2), (1, rI o1.2.2.2.1), (0, .cells [ii o1.2.2.1, s0 3 o1.2.2.2.2.2.length] 0 34 0)]) (c' := 7) ?_ (by kernel_rfl)
        refine rS 2 [(6, ii o1.2.1), (14, ii r20.1), (16, .bool r21.1), (106, .bool r23)] ?_
        cases b10 : (r23 : Bool) with
        | true =>
         have h := cT b10 h
         refine rS 5 [(6, ii o1.2.1), (16, .bool r21.1), (111, .bool (r20.1 == o1.2.1))] ?_
         cases b11 : (r20.1 == o1.2.1 : Bool) with
         | true =>
          have h := cT b11 h
          refine rS 6 [(117, .bool (r21.1 == (o1.2.1 == 1)))] ?_
          cases b12 : (r21.1 == (o1.2.1 == 1) : Bool) with
          | true =>
           have h := cT b12 h
           refine XR.call E0_ok [117, 118] rfl (K := 14) (args := []) (d := (some (path 12 118))) (by kernel_rfl) (KC.of_calls E0_ok (F := Proofs.Tryd.f14) (v := .bool true) (by kernel_rfl) rfl rfl (works_ok)) ?_
           rintro _ _ _ ⟨rfl, rfl, rfl⟩
           refine XR.conv (σ' := [(117, .bool true), (118, .bool true)]) (h' := [(6, .cells [ii r19.1, s0 5 r19.2.1.length] 0 34 0), (5, rc encP r19.2.1 0 55 2), (4, rI r18.1), (3, rc encP o1.2.2.2.2.2 0 55 2), (2, rc encP o1.2.2.2.2.1 0 55 2), (1, rI o1.2.2.2.1), (0, .cells [ii o1.2.2.1, s0 3 o1.2.2.2.2.2.length] 0 34 0)]) (c' := 7) ?_ (by kernel_rfl)
           refine rS 2 [(2, .bool true)] ?_
           refine dQ ?_
           show XQ _ _ _ _ _ _ _ _
           refine XQ.ret (by kernel_rfl) ?_
           have h := Option.some.inj h
           subst h
           exact ⟨fun i q => (by cases q), .bool true, (by kernel_rfl), rfl⟩
          | false =>
           have h := cF b12 h
           refine rS 3 [(2, .bool false)] ?_
           refine dQ ?_
           show XQ _ _ _ _ _ _ _ _
           refine XQ.ret (by kernel_rfl) ?_
           have h := Option.some.inj h
           subst h
           exact ⟨fun i q => (by cases q), .bool false, (by kernel_rfl), rfl⟩
         | false =>
          have h := cF b11 h
          refine rS 9 [(2, .bool false)] ?_
          refine dQ ?_
          show XQ _ _ _ _ _ _ _ _
          refine XQ.ret (by kernel_rfl) ?_
          have h := Option.some.inj h
          subst h
          exact ⟨fun i q => (by cases q), .bool false, (by kernel_rfl), rfl⟩
        | false =>
         have h := cF b10 h
         refine rS 14 [(2, .bool false)] ?_
         refine dQ ?_
         show XQ _ _ _ _ _ _ _ _
         refine XQ.ret (by kernel_rfl) ?_
         have h := Option.some.inj h
         subst h
         exact ⟨fun i q => (by cases q), .bool false, (by kernel_rfl), rfl⟩
       | false =>
        have h := cF b9 h
        refine rS 20 [(2, .bool false)] ?_
        refine dQ ?_
        show XQ _ _ _ _ _ _ _ _
        refine XQ.ret (by kernel_rfl) ?_
        have h := Option.some.inj h
        subst h
        exact ⟨fun i q => (by cases q), .bool false, (by kernel_rfl), rfl⟩
      | false =>
       have h := cF b8 h
       refine rS 26 [(2, .bool false)] ?_
       refine dQ ?_
       show XQ _ _ _ _ _ _ _ _
       refine XQ.ret (by kernel_rfl) ?_
       have h := Option.some.inj h
       subst h
       exact ⟨fun i q => (by cases q), .bool false, (by kernel_rfl), rfl⟩
     | false =>
      have h := cF b7 h
      refine rS 31 [(2, .bool false)] ?_
      refine dQ ?_
      show XQ _ _ _ _ _ _ _ _
      refine XQ.ret (by kernel_rfl) ?_
      have h := Option.some.inj h
      subst h
      exact ⟨fun i q => (by cases q), .bool false, (by kernel_rfl), rfl⟩
    | false =>
     have h := cF b6 h
     refine rS 35 [(2, .bool false)] ?_
     refine dQ ?_
     show XQ _ _ _ _ _ _ _ _
     refine XQ.ret (by kernel_rfl) ?_
     have h := Option.some.inj h
     subst h
     exact ⟨fun i q => (by cases q), .bool false, (by kernel_rfl), rfl⟩
   | false =>
    have h := cF b5 h
    refine rS 39 [(2, .bool false)] ?_
    refine dQ ?_
    show XQ _ _ _ _ _ _ _ _
    refine XQ.ret (by kernel_rfl) ?_
    have h := Option.some.inj h
    subst h
    exact ⟨fun i q => (by cases q), .bool false, (by kernel_rfl), rfl⟩
  | false =>
   have h := cF b4 h
   refine rS 43 [(2, .bool false)] ?_
   refine dQ ?_
   show XQ _ _ _ _ _ _ _ _
   refine XQ.ret (by kernel_rfl) ?_
   have h := Option.some.inj h
   subst h
   exact ⟨fun i q => (by cases q), .bool false, (by kernel_rfl), rfl⟩
end Go.Xm
