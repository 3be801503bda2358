/- What these functions of the program compute, as functions in Lean, and the proofs that they do: vitolaref12.Cross, club.opened, club.room).plan. Conditions: the library's variables hold what their texts lay. -/
import Derived.Test.YtfimbmhannndaaaDoorZk
import Derived.Test.YtfimbmhannndaaaDoorZx
import Derived.Test.YtfimbmhannndaaaDoorIa
namespace Go.Xm
open Go.RowKit
set_option linter.unusedVariables false
set_option linter.unusedSimpArgs false
set_option maxRecDepth 20000
noncomputable def f74_C74 : Code := Proofs.Tryd.f74.body.getD .skip
noncomputable def f74_C76 : Code := Proofs.Tryd.f76.body.getD .skip
noncomputable def f74_C77 : Code := Proofs.Tryd.f77.body.getD .skip
noncomputable def f74_L1 : Code := lft (lft (rgt (lft (rgt (rgt (rgt f74_C74))))))
inductive Of74_1 where
 | r (x3_r1 : Int)
 | x1 (lh1_x11 : List Int)
def f74_1 (m : Nat) : Nat → Int → List (Int × Int) → Int → Int → List Int → Option Of74_1
 | 0, _, _, _, _, _ => none
 | fuel + 1, a_Sorters, a_Tables, x24_1, x25_1, lh2_1 =>
  cond (decide (x25_1 < x24_1)) (
   cond (inRow x25_1 a_Tables.length) (
    (f65 m ((List.getD a_Tables (Int.toNat x25_1) (0, 0)).1) 0 (w64 (a_Sorters - 1))).bind fun r6 =>
     cond (!r6) (
      some (.r 2)
     ) (
      (f65 m ((List.getD a_Tables (Int.toNat x25_1) (0, 0)).2) 0 (w64 (a_Sorters - 1))).bind fun r7 =>
       cond (!r7) (
        some (.r 2)
       ) (
        cond (((List.getD a_Tables (Int.toNat x25_1) (0, 0)).1) == ((List.getD a_Tables (Int.toNat x25_1) (0, 0)).2)) (
         some (.r 13)
        ) (
         cond (inRow ((List.getD a_Tables (Int.toNat x25_1) (0, 0)).1) lh2_1.length) (
          cond (decide (0 ≤ (List.getD a_Tables (Int.toNat x25_1) (0, 0)).2)) (
           cond ((andV .u64 (shV false .u64 (List.getD lh2_1 (Int.toNat ((List.getD a_Tables (Int.toNat x25_1) (0, 0)).1)) 0) ((List.getD a_Tables (Int.toNat x25_1) (0, 0)).2)) 1) == 1) (
            some (.r 6)
           ) (
            cond (inRow ((List.getD a_Tables (Int.toNat x25_1) (0, 0)).2) lh2_1.length) (
             cond (decide (0 ≤ (List.getD a_Tables (Int.toNat x25_1) (0, 0)).1)) (
              f74_1 m fuel a_Sorters a_Tables x24_1 (w64 (x25_1 + 1)) (List.set (List.set lh2_1 (Int.toNat ((List.getD a_Tables (Int.toNat x25_1) (0, 0)).1)) (xorV .u64 (List.getD lh2_1 (Int.toNat ((List.getD a_Tables (Int.toNat x25_1) (0, 0)).1)) 0) (shV true .u64 1 ((List.getD a_Tables (Int.toNat x25_1) (0, 0)).2)))) (Int.toNat ((List.getD a_Tables (Int.toNat x25_1) (0, 0)).2)) (xorV .u64 (List.getD (List.set lh2_1 (Int.toNat ((List.getD a_Tables (Int.toNat x25_1) (0, 0)).1)) (xorV .u64 (List.getD lh2_1 (Int.toNat ((List.getD a_Tables (Int.toNat x25_1) (0, 0)).1)) 0) (shV true .u64 1 ((List.getD a_Tables (Int.toNat x25_1) (0, 0)).2)))) (Int.toNat ((List.getD a_Tables (Int.toNat x25_1) (0, 0)).2)) 0) (shV true .u64 1 ((List.getD a_Tables (Int.toNat x25_1) (0, 0)).1))))
             ) none
            ) none
           )
          ) none
         ) none
        )
       )
     )
   ) none
  ) (
   some (.x1 lh2_1)
  )

abbrev qib1 (a_Sorters : Int) (a_Tables : List (Int × Int)) (lh2_1 : List Int) (x25_1 : Int) (t : Heap) : Heap := (3, .cells [ii ((List.getD a_Tables (Int.toNat x25_1) (0, 0)).1), ii ((List.getD a_Tables (Int.toNat x25_1) (0, 0)).2)] 0 55 0) :: (2, rc (encI .u64) lh2_1 0 117 1) :: (1, .cells [ii a_Sorters, s0 0 a_Tables.length] 0 34 0) :: t

abbrev qib2 (a_Tables : List (Int × Int)) (lh2_1 : List Int) (x24_1 : Int) (x25_1 : Int) (t : St) : St := (1, pp 1 0) :: (4, s0 2 lh2_1.length) :: (7, ii ((List.getD a_Tables (Int.toNat x25_1) (0, 0)).1)) :: (8, ii ((List.getD a_Tables (Int.toNat x25_1) (0, 0)).2)) :: (23, s0 0 a_Tables.length) :: (24, ii x24_1) :: (25, ii x25_1) :: t

abbrev qib3 (a_Tables : List (Int × Int)) (lh2_1 : List Int) (x25_1 : Int) (t : St) : St := (0, s0 2 lh2_1.length) :: (1, ii ((List.getD a_Tables (Int.toNat x25_1) (0, 0)).1)) :: (2, ii ((List.getD a_Tables (Int.toNat x25_1) (0, 0)).2)) :: t

abbrev qib4 (a_Tables : List (Int × Int)) (lh2_1 : List Int) (x25_1 : Int) (t : St) : St := (6, s0 2 lh2_1.length) :: (7, ii ((List.getD a_Tables (Int.toNat x25_1) (0, 0)).1)) :: (9, uu (List.getD lh2_1 (Int.toNat ((List.getD a_Tables (Int.toNat x25_1) (0, 0)).1)) 0)) :: t
theorem f74_1_ok (m : Nat) : ∀ (fuel : Nat) (z0 : Nat) (y0 : Nat) (a_Sorters : Int) (a_Tables : List (Int × Int)) (x24_1 : Int) (x25_1 : Int) (lh2_1 : List Int) (o : Of74_1), f74_1 m fuel a_Sorters a_Tables x24_1 x25_1 lh2_1 = some o → ∀ Q : QP, (match o with | .r x3_r1 => Q .ret [(2, s0 1 0), (3, ii x3_r1)] [(1, rc (encI .u64) [] 0 117 1), (0, rc encP a_Tables z0 y0 2)] 2 | .x1 lh1_x11 => Q (.exit 1) [(4, s0 1 lh1_x11.length)] [(1, rc (encI .u64) lh1_x11 0 117 1), (0, rc encP a_Tables z0 y0 2)] 2) → XL E0 63 1 fuel f74_L1 [(1, pp 1 0), (4, s0 2 lh2_1.length), (23, s0 0 a_Tables.length), (24, ii x24_1), (25, ii x25_1)] [(2, rc (encI .u64) lh2_1 0 117 1), (1, .cells [ii a_Sorters, s0 0 a_Tables.length] 0 34 0), (0, rc encP a_Tables z0 y0 2)] 3 Q
 | 0, z0, y0, a_Sorters, a_Tables, x24_1, x25_1, lh2_1, o, h, Q, hQ => by cases h
 | fuel + 1, z0, y0, a_Sorters, a_Tables, x24_1, x25_1, lh2_1, o, h, Q, hQ => by
  unfold f74_1 at h
  refine XL.succ E0_ok ?_
  refine qQ ?_
  refine rS 1 [(1, pp 1 0), (4, s0 2 lh2_1.length), (23, s0 0 a_Tables.length), (24, ii x24_1), (25, ii x25_1), (26, .bool (decide (x25_1 < x24_1)))] ?_
  refine dQ ?_
  show XQ _ _ _ _ _ _ _ _
  refine sQ ?_
  cases b1 : (decide (x25_1 < x24_1) : Bool) with
  | true =>
   have h := cT b1 h
   refine iT (.tmp 26) ?_
   refine kQ ?_
   show XQ _ _ _ _ _ _ _ _
   refine sQ ?_
   refine XQ.block (id := 2) (by kernel_rfl) ?_
   refine qQ ?_
   cases b2 : (inRow x25_1 a_Tables.length : Bool) with
   | false => cases (cF b2 h)
   | true =>
    have h := cT b2 h
    refine XR.rd E0_ok [1, 4, 23, 24, 25, 27] rfl (v := pp 0 ((Int.toNat x25_1) * 2)) (v_idx (s := 2) (x := (src 63 (.tmp 23))) (y := (src 63 (.tmp 25))) (b := 0) (o := 0) (len := a_Tables.length) (cap := a_Tables.length) (ik := .i64) (i := x25_1) (off := (Int.toNat x25_1) * 2) (d := (some (path 12 27))) (by kernel_rfl) (by kernel_rfl) (by kernel_rfl) b2 (by omega)) (σ' := [(1, pp 1 0), (4, s0 2 lh2_1.length), (23, s0 0 a_Tables.length), (24, ii x24_1), (25, ii x25_1), (27, pp 0 ((Int.toNat x25_1) * 2))]) (by kernel_rfl) ?_
    refine XR.rd E0_ok [1, 4, 23, 24, 25, 28] rfl (v := .agg #[ii ((List.getD a_Tables (Int.toNat x25_1) (0, 0)).1), ii ((List.getD a_Tables (Int.toNat x25_1) (0, 0)).2)]) (v_loadN encP_ok (x := (src 63 (.tmp 27))) (b := 0) (off := (Int.toNat x25_1) * 2) (xs := a_Tables) (fz := z0) (e := y0) (es := 2) (d := (some (path 12 28))) (by kernel_rfl) (by kernel_rfl) (by kernel_rfl) (Int.toNat x25_1) (0, 0) (by first | rfl | omega) (row_len (inRow_toNat b2) (by simp)) rfl) (σ' := [(1, pp 1 0), (4, s0 2 lh2_1.length), (23, s0 0 a_Tables.length), (24, ii x24_1), (25, ii x25_1), (28, .agg #[ii ((List.getD a_Tables (Int.toNat x25_1) (0, 0)).1), ii ((List.getD a_Tables (Int.toNat x25_1) (0, 0)).2)])]) (by kernel_rfl) ?_
    refine rT 2 [(1, pp 1 0), (4, s0 2 lh2_1.length), (6, pp 3 0), (23, s0 0 a_Tables.length), (24, ii x24_1), (25, ii x25_1)] (qib1 a_Sorters a_Tables lh2_1 x25_1 [(0, rc encP a_Tables z0 y0 2)]) 4 ?_
    refine dQ ?_
    show XQ _ _ _ _ _ _ _ _
    refine sQ ?_
    refine XQ.quiet E0_ok (by kernel_rfl) (by kernel_rfl) ?_
    refine XU.run E0_ok 1 6 [1, 4, 7, 8, 23, 24, 25] rfl (σ' := (qib2 a_Tables lh2_1 x24_1 x25_1 [])) (by kernel_rfl) ?_
    refine XU.done (by kernel_rfl) ?_
    show XQ _ _ _ _ _ _ _ _
    refine sQ ?_
    refine XQ.block (id := 3) (by kernel_rfl) ?_
    refine qQ ?_
    refine rS 4 (qib2 a_Tables lh2_1 x24_1 x25_1 [(34, ii ((List.getD a_Tables (Int.toNat x25_1) (0, 0)).1)), (37, ii (w64 (a_Sorters - 1)))]) ?_
    obtain ⟨r6, r6_h, h⟩ := bS h
    refine XR.call E0_ok [1, 4, 7, 8, 23, 24, 25, 38] rfl (K := 65) (args := [ii ((List.getD a_Tables (Int.toNat x25_1) (0, 0)).1), ii 0, ii (w64 (a_Sorters - 1))]) (d := (some (path 12 38))) (by kernel_rfl) (KC.of_calls E0_ok (F := Proofs.Tryd.f65) (v := .bool r6) (by kernel_rfl) rfl rfl (fun w hI => f65_ok m ((List.getD a_Tables (Int.toNat x25_1) (0, 0)).1) 0 (w64 (a_Sorters - 1)) r6 r6_h w hI)) ?_
    rintro _ _ _ ⟨rfl, rfl, rfl⟩
    refine XR.conv (σ' := (qib2 a_Tables lh2_1 x24_1 x25_1 [(38, .bool r6)])) (h' := (qib1 a_Sorters a_Tables lh2_1 x25_1 [(0, rc encP a_Tables z0 y0 2)])) (c' := 4) ?_ (by kernel_rfl)
    refine rS 2 (qib2 a_Tables lh2_1 x24_1 x25_1 [(40, .bool (!r6))]) ?_
    cases b3 : (!r6 : Bool) with
    | true =>
     have h := cT b3 h
     refine rS 8 (qib2 a_Tables lh2_1 x24_1 x25_1 [(33, .bool true)]) ?_
     refine dQ ?_
     show XQ _ _ _ _ _ _ _ _
     refine iT (.tmp 33) ?_
     refine qQ ?_
     refine rS 2 [(2, .slice none 0 0), (3, ii 2)] ?_
     refine dQ ?_
     show XQ _ _ _ _ _ _ _ _
     refine XQ.ghost 117 1 rfl (σ' := [(2, s0 4 0), (3, ii 2)]) (h' := (qib1 a_Sorters a_Tables lh2_1 x25_1 [(0, rc encP a_Tables z0 y0 2)])) ⟨rfl, rfl, trivial⟩ ⟨⟨_, rfl, .inl rfl⟩, ⟨_, rfl, .inl rfl⟩, ⟨_, rfl, .inl rfl⟩, ⟨_, rfl, .inl rfl⟩, trivial⟩ ?_
     refine XQ.conv (σ' := [(2, s0 4 0), (3, ii 2)]) (h' := ((4, rc (encI .u64) [] 0 117 1) :: qib1 a_Sorters a_Tables lh2_1 x25_1 [(0, rc encP a_Tables z0 y0 2)])) (c' := 5) ?_ (by kernel_rfl)
     refine XQ.ren (σ' := [(2, s0 1 0), (3, ii 2)]) (h' := [(1, rc (encI .u64) [] 0 117 1), (0, rc encP a_Tables z0 y0 2)]) (c' := 2) [0, 4] (by decide) rfl ⟨rfl, rfl, trivial⟩ ⟨⟨_, _, rfl, rfl, .inl ⟨rfl, rowC_scal (encI_ok .u64) _⟩⟩, ⟨_, _, rfl, rfl, .inl ⟨rfl, rwP⟩⟩, trivial⟩ rfl ?_
     refine XQ.ret (by kernel_rfl) ?_
     cases h
     exact hQ
    | false =>
     have h := cF b3 h
     refine rS 4 (qib2 a_Tables lh2_1 x24_1 x25_1 [(40, .bool false), (41, ii ((List.getD a_Tables (Int.toNat x25_1) (0, 0)).2)), (44, ii (w64 (a_Sorters - 1)))]) ?_
     obtain ⟨r7, r7_h, h⟩ := bS h
     refine XR.call E0_ok [1, 4, 7, 8, 23, 24, 25, 40, 45] rfl (K := 65) (args := [ii ((List.getD a_Tables (Int.toNat x25_1) (0, 0)).2), ii 0, ii (w64 (a_Sorters - 1))]) (d := (some (path 12 45))) (by kernel_rfl) (KC.of_calls E0_ok (F := Proofs.Tryd.f65) (v := .bool r7) (by kernel_rfl) rfl rfl (fun w hI => f65_ok m ((List.getD a_Tables (Int.toNat x25_1) (0, 0)).2) 0 (w64 (a_Sorters - 1)) r7 r7_h w hI)) ?_
     rintro _ _ _ ⟨rfl, rfl, rfl⟩
     refine XR.conv (σ' := (qib2 a_Tables lh2_1 x24_1 x25_1 [(40, .bool false), (45, .bool r7)])) (h' := (qib1 a_Sorters a_Tables lh2_1 x25_1 [(0, rc encP a_Tables z0 y0 2)])) (c' := 4) ?_ (by kernel_rfl)
     refine rS 3 (qib2 a_Tables lh2_1 x24_1 x25_1 [(33, .bool (!r7))]) ?_
     refine dQ ?_
     show XQ _ _ _ _ _ _ _ _
     cases b4 : (!r7 : Bool) with
     | true =>
      have h := cT b4 h
      refine iT (.tmp 33) ?_
      refine qQ ?_
      refine rS 2 [(2, .slice none 0 0), (3, ii 2)] ?_
      refine dQ ?_
      show XQ _ _ _ _ _ _ _ _
      refine XQ.ghost 117 1 rfl (σ' := [(2, s0 4 0), (3, ii 2)]) (h' := (qib1 a_Sorters a_Tables lh2_1 x25_1 [(0, rc encP a_Tables z0 y0 2)])) ⟨rfl, rfl, trivial⟩ ⟨⟨_, rfl, .inl rfl⟩, ⟨_, rfl, .inl rfl⟩, ⟨_, rfl, .inl rfl⟩, ⟨_, rfl, .inl rfl⟩, trivial⟩ ?_
      refine XQ.conv (σ' := [(2, s0 4 0), (3, ii 2)]) (h' := ((4, rc (encI .u64) [] 0 117 1) :: qib1 a_Sorters a_Tables lh2_1 x25_1 [(0, rc encP a_Tables z0 y0 2)])) (c' := 5) ?_ (by kernel_rfl)
      refine XQ.ren (σ' := [(2, s0 1 0), (3, ii 2)]) (h' := [(1, rc (encI .u64) [] 0 117 1), (0, rc encP a_Tables z0 y0 2)]) (c' := 2) [0, 4] (by decide) rfl ⟨rfl, rfl, trivial⟩ ⟨⟨_, _, rfl, rfl, .inl ⟨rfl, rowC_scal (encI_ok .u64) _⟩⟩, ⟨_, _, rfl, rfl, .inl ⟨rfl, rwP⟩⟩, trivial⟩ rfl ?_
      refine XQ.ret (by kernel_rfl) ?_
      cases h
      exact hQ
     | false =>
      have h := cF b4 h
      refine iF (.tmp 33) ?_
      refine qQ ?_
      refine rS 4 (qib2 a_Tables lh2_1 x24_1 x25_1 [(48, .bool (((List.getD a_Tables (Int.toNat x25_1) (0, 0)).1) == ((List.getD a_Tables (Int.toNat x25_1) (0, 0)).2)))]) ?_
      refine dQ ?_
      show XQ _ _ _ _ _ _ _ _
      cases b5 : (((List.getD a_Tables (Int.toNat x25_1) (0, 0)).1) == ((List.getD a_Tables (Int.toNat x25_1) (0, 0)).2) : Bool) with
      | true =>
       have h := cT b5 h
       refine iT (.tmp 48) ?_
       refine qQ ?_
       refine rS 2 [(2, .slice none 0 0), (3, ii 13)] ?_
       refine dQ ?_
       show XQ _ _ _ _ _ _ _ _
       refine XQ.ghost 117 1 rfl (σ' := [(2, s0 4 0), (3, ii 13)]) (h' := (qib1 a_Sorters a_Tables lh2_1 x25_1 [(0, rc encP a_Tables z0 y0 2)])) ⟨rfl, rfl, trivial⟩ ⟨⟨_, rfl, .inl rfl⟩, ⟨_, rfl, .inl rfl⟩, ⟨_, rfl, .inl rfl⟩, ⟨_, rfl, .inl rfl⟩, trivial⟩ ?_
       refine XQ.conv (σ' := [(2, s0 4 0), (3, ii 13)]) (h' := ((4, rc (encI .u64) [] 0 117 1) :: qib1 a_Sorters a_Tables lh2_1 x25_1 [(0, rc encP a_Tables z0 y0 2)])) (c' := 5) ?_ (by kernel_rfl)
       refine XQ.ren (σ' := [(2, s0 1 0), (3, ii 13)]) (h' := [(1, rc (encI .u64) [] 0 117 1), (0, rc encP a_Tables z0 y0 2)]) (c' := 2) [0, 4] (by decide) rfl ⟨rfl, rfl, trivial⟩ ⟨⟨_, _, rfl, rfl, .inl ⟨rfl, rowC_scal (encI_ok .u64) _⟩⟩, ⟨_, _, rfl, rfl, .inl ⟨rfl, rwP⟩⟩, trivial⟩ rfl ?_
       refine XQ.ret (by kernel_rfl) ?_
       cases h
       exact hQ
      | false =>
       have h := cF b5 h
       refine iF (.tmp 48) ?_
       refine qQ ?_
       refine rS 3 (qib2 a_Tables lh2_1 x24_1 x25_1 [(53, s0 2 lh2_1.length), (54, ii ((List.getD a_Tables (Int.toNat x25_1) (0, 0)).1)), (55, ii ((List.getD a_Tables (Int.toNat x25_1) (0, 0)).2))]) ?_
       refine XR.callK E0_ok [1, 4, 7, 8, 23, 24, 25, 56] rfl (K := 76) (args := [s0 2 lh2_1.length, ii ((List.getD a_Tables (Int.toNat x25_1) (0, 0)).1), ii ((List.getD a_Tables (Int.toNat x25_1) (0, 0)).2)]) (d := (some (path 12 56))) (by kernel_rfl) ?_
       refine KC.bodyN E0_ok (F := Proofs.Tryd.f76) (by kernel_rfl) (code := f74_C76) (by kernel_rfl) (nt := 15) (by kernel_rfl) (rs := [.tmp 6]) (by kernel_rfl) (by kernel_rfl) (σ := (qib3 a_Tables lh2_1 x25_1 [])) (by kernel_rfl) ?_
       refine qQ ?_
       refine rS 1 (qib3 a_Tables lh2_1 x25_1 []) ?_
       refine nQ id ?_
       refine rS 2 [(2, ii ((List.getD a_Tables (Int.toNat x25_1) (0, 0)).2)), (7, s0 2 lh2_1.length), (8, ii ((List.getD a_Tables (Int.toNat x25_1) (0, 0)).1))] ?_
       cases b6 : (inRow ((List.getD a_Tables (Int.toNat x25_1) (0, 0)).1) lh2_1.length : Bool) with
       | false => cases (cF b6 h)
       | true =>
        have h := cT b6 h
        refine XR.rd E0_ok [2, 9] rfl (v := pp 2 ((Int.toNat ((List.getD a_Tables (Int.toNat x25_1) (0, 0)).1)) * 1)) (v_idx (s := 1) (x := (src 15 (.tmp 7))) (y := (src 15 (.tmp 8))) (b := 2) (o := 0) (len := lh2_1.length) (cap := lh2_1.length) (ik := .i64) (i := (List.getD a_Tables (Int.toNat x25_1) (0, 0)).1) (off := (Int.toNat ((List.getD a_Tables (Int.toNat x25_1) (0, 0)).1)) * 1) (d := (some (path 12 9))) (by kernel_rfl) (by kernel_rfl) (by kernel_rfl) b6 (by omega)) (σ' := [(2, ii ((List.getD a_Tables (Int.toNat x25_1) (0, 0)).2)), (9, pp 2 ((Int.toNat ((List.getD a_Tables (Int.toNat x25_1) (0, 0)).1)) * 1))]) (by kernel_rfl) ?_
        refine XR.rd E0_ok [2, 10] rfl (v := uu (List.getD lh2_1 (Int.toNat ((List.getD a_Tables (Int.toNat x25_1) (0, 0)).1)) 0)) (v_load1 (encI_ok .u64) (x := (src 15 (.tmp 9))) (b := 2) (off := (Int.toNat ((List.getD a_Tables (Int.toNat x25_1) (0, 0)).1)) * 1) (xs := lh2_1) (fz := 0) (e := 117) (es := 1) (d := (some (path 12 10))) (by kernel_rfl) (by kernel_rfl) (by kernel_rfl) (Int.toNat ((List.getD a_Tables (Int.toNat x25_1) (0, 0)).1)) 0 0 (by first | rfl | omega) (row_len (inRow_toNat b6) (by simp)) rfl rfl) (σ' := [(2, ii ((List.getD a_Tables (Int.toNat x25_1) (0, 0)).2)), (10, uu (List.getD lh2_1 (Int.toNat ((List.getD a_Tables (Int.toNat x25_1) (0, 0)).1)) 0))]) (by kernel_rfl) ?_
        refine rS 1 [(10, uu (List.getD lh2_1 (Int.toNat ((List.getD a_Tables (Int.toNat x25_1) (0, 0)).1)) 0)), (11, ii ((List.getD a_Tables (Int.toNat x25_1) (0, 0)).2))] ?_
        cases b7 : (decide (0 ≤ (List.getD a_Tables (Int.toNat x25_1) (0, 0)).2) : Bool) with
        | false => cases (cF b7 h)
        | true =>
         have h := cT b7 h
         have e8 : insV (headI ((gsOf E0 15 (opsOf (lft (rgt f74_C76)))).drop 5) (trS 15 [(10, uu (List.getD lh2_1 (Int.toNat ((List.getD a_Tables (Int.toNat x25_1) (0, 0)).1)) 0)), (11, ii ((List.getD a_Tables (Int.toNat x25_1) (0, 0)).2))])) (trS 15 [(10, uu (List.getD lh2_1 (Int.toNat ((List.getD a_Tables (Int.toNat x25_1) (0, 0)).1)) 0)), (11, ii ((List.getD a_Tables (Int.toNat x25_1) (0, 0)).2))]) (qib1 a_Sorters a_Tables lh2_1 x25_1 [(0, rc encP a_Tables z0 y0 2)]) = (match (decide (0 ≤ (List.getD a_Tables (Int.toNat x25_1) (0, 0)).2) : Bool) with | true => some (uu (shV false .u64 (List.getD lh2_1 (Int.toNat ((List.getD a_Tables (Int.toNat x25_1) (0, 0)).1)) 0) ((List.getD a_Tables (Int.toNat x25_1) (0, 0)).2))) | false => none) := by kernel_rfl
         refine XR.rd E0_ok [12] rfl (e8.trans (by rw [b7])) (σ' := [(12, uu (shV false .u64 (List.getD lh2_1 (Int.toNat ((List.getD a_Tables (Int.toNat x25_1) (0, 0)).1)) 0) ((List.getD a_Tables (Int.toNat x25_1) (0, 0)).2)))]) (by kernel_rfl) ?_
         refine rS 3 [(6, .bool ((andV .u64 (shV false .u64 (List.getD lh2_1 (Int.toNat ((List.getD a_Tables (Int.toNat x25_1) (0, 0)).1)) 0) ((List.getD a_Tables (Int.toNat x25_1) (0, 0)).2)) 1) == 1))] ?_
         refine dQ ?_
         show XQ _ _ _ _ _ _ _ _
         refine XQ.ret (by kernel_rfl) ?_
         refine ⟨fun i q => (by cases q), .bool ((andV .u64 (shV false .u64 (List.getD lh2_1 (Int.toNat ((List.getD a_Tables (Int.toNat x25_1) (0, 0)).1)) 0) ((List.getD a_Tables (Int.toNat x25_1) (0, 0)).2)) 1) == 1), (by kernel_rfl), ?_⟩
         refine XR.conv (σ' := (qib2 a_Tables lh2_1 x24_1 x25_1 [(56, .bool ((andV .u64 (shV false .u64 (List.getD lh2_1 (Int.toNat ((List.getD a_Tables (Int.toNat x25_1) (0, 0)).1)) 0) ((List.getD a_Tables (Int.toNat x25_1) (0, 0)).2)) 1) == 1))])) (h' := (qib1 a_Sorters a_Tables lh2_1 x25_1 [(0, rc encP a_Tables z0 y0 2)])) (c' := 4) ?_ (by kernel_rfl)
         refine rS 1 (qib2 a_Tables lh2_1 x24_1 x25_1 [(52, .bool ((andV .u64 (shV false .u64 (List.getD lh2_1 (Int.toNat ((List.getD a_Tables (Int.toNat x25_1) (0, 0)).1)) 0) ((List.getD a_Tables (Int.toNat x25_1) (0, 0)).2)) 1) == 1))]) ?_
         refine dQ ?_
         show XQ _ _ _ _ _ _ _ _
         cases b9 : ((andV .u64 (shV false .u64 (List.getD lh2_1 (Int.toNat ((List.getD a_Tables (Int.toNat x25_1) (0, 0)).1)) 0) ((List.getD a_Tables (Int.toNat x25_1) (0, 0)).2)) 1) == 1 : Bool) with
         | true =>
          have h := cT b9 h
          refine iT (.tmp 52) ?_
          refine qQ ?_
          refine rS 2 [(2, .slice none 0 0), (3, ii 6)] ?_
          refine dQ ?_
          show XQ _ _ _ _ _ _ _ _
          refine XQ.ghost 117 1 rfl (σ' := [(2, s0 4 0), (3, ii 6)]) (h' := (qib1 a_Sorters a_Tables lh2_1 x25_1 [(0, rc encP a_Tables z0 y0 2)])) ⟨rfl, rfl, trivial⟩ ⟨⟨_, rfl, .inl rfl⟩, ⟨_, rfl, .inl rfl⟩, ⟨_, rfl, .inl rfl⟩, ⟨_, rfl, .inl rfl⟩, trivial⟩ ?_
          refine XQ.conv (σ' := [(2, s0 4 0), (3, ii 6)]) (h' := ((4, rc (encI .u64) [] 0 117 1) :: qib1 a_Sorters a_Tables lh2_1 x25_1 [(0, rc encP a_Tables z0 y0 2)])) (c' := 5) ?_ (by kernel_rfl)
          refine XQ.ren (σ' := [(2, s0 1 0), (3, ii 6)]) (h' := [(1, rc (encI .u64) [] 0 117 1), (0, rc encP a_Tables z0 y0 2)]) (c' := 2) [0, 4] (by decide) rfl ⟨rfl, rfl, trivial⟩ ⟨⟨_, _, rfl, rfl, .inl ⟨rfl, rowC_scal (encI_ok .u64) _⟩⟩, ⟨_, _, rfl, rfl, .inl ⟨rfl, rwP⟩⟩, trivial⟩ rfl ?_
          refine XQ.ret (by kernel_rfl) ?_
          cases h
          exact hQ
         | false =>
          have h := cF b9 h
          refine iF (.tmp 52) ?_
          refine kQ ?_
          show XQ _ _ _ _ _ _ _ _
          refine rQ ?_
          refine rS 3 [(1, pp 1 0), (4, s0 2 lh2_1.length), (23, s0 0 a_Tables.length), (24, ii x24_1), (25, ii x25_1), (57, s0 2 lh2_1.length), (58, ii ((List.getD a_Tables (Int.toNat x25_1) (0, 0)).1)), (59, ii ((List.getD a_Tables (Int.toNat x25_1) (0, 0)).2))] ?_
          refine XR.callK E0_ok [1, 4, 23, 24, 25] rfl (K := 77) (args := [s0 2 lh2_1.length, ii ((List.getD a_Tables (Int.toNat x25_1) (0, 0)).1), ii ((List.getD a_Tables (Int.toNat x25_1) (0, 0)).2)]) (d := (some (path 12 60))) (by kernel_rfl) ?_
          refine KC.bodyN E0_ok (F := Proofs.Tryd.f77) (by kernel_rfl) (code := f74_C77) (by kernel_rfl) (nt := 22) (by kernel_rfl) (rs := []) (by kernel_rfl) (by kernel_rfl) (σ := (qib3 a_Tables lh2_1 x25_1 [])) (by kernel_rfl) ?_
          refine sQ ?_
          refine XQ.tail E0_ok 8 (by kernel_rfl) (by kernel_rfl) ?_
          refine XS.step E0_ok 2 rfl [0, 1, 2, 6, 7] rfl (σ' := (qib3 a_Tables lh2_1 x25_1 [(6, s0 2 lh2_1.length), (7, ii ((List.getD a_Tables (Int.toNat x25_1) (0, 0)).1))])) (by kernel_rfl) ?_
          refine XS.rd E0_ok rfl [0, 1, 2, 6, 7, 8] rfl (v := pp 2 ((Int.toNat ((List.getD a_Tables (Int.toNat x25_1) (0, 0)).1)) * 1)) (v_idx (s := 1) (x := (src 22 (.tmp 6))) (y := (src 22 (.tmp 7))) (b := 2) (o := 0) (len := lh2_1.length) (cap := lh2_1.length) (ik := .i64) (i := (List.getD a_Tables (Int.toNat x25_1) (0, 0)).1) (off := (Int.toNat ((List.getD a_Tables (Int.toNat x25_1) (0, 0)).1)) * 1) (d := (some (path 12 8))) (by kernel_rfl) (by kernel_rfl) (by kernel_rfl) b6 (by omega)) (σ' := (qib3 a_Tables lh2_1 x25_1 [(6, s0 2 lh2_1.length), (7, ii ((List.getD a_Tables (Int.toNat x25_1) (0, 0)).1)), (8, pp 2 ((Int.toNat ((List.getD a_Tables (Int.toNat x25_1) (0, 0)).1)) * 1))])) (by kernel_rfl) ?_
          refine XS.rd E0_ok rfl [0, 1, 2, 6, 7, 9] rfl (v := uu (List.getD lh2_1 (Int.toNat ((List.getD a_Tables (Int.toNat x25_1) (0, 0)).1)) 0)) (v_load1 (encI_ok .u64) (x := (src 22 (.tmp 8))) (b := 2) (off := (Int.toNat ((List.getD a_Tables (Int.toNat x25_1) (0, 0)).1)) * 1) (xs := lh2_1) (fz := 0) (e := 117) (es := 1) (d := (some (path 12 9))) (by kernel_rfl) (by kernel_rfl) (by kernel_rfl) (Int.toNat ((List.getD a_Tables (Int.toNat x25_1) (0, 0)).1)) 0 0 (by first | rfl | omega) (row_len (inRow_toNat b6) (by simp)) rfl rfl) (σ' := (qib3 a_Tables lh2_1 x25_1 (qib4 a_Tables lh2_1 x25_1 []))) (by kernel_rfl) ?_
          refine XS.step E0_ok 1 rfl [0, 1, 2, 6, 7, 9, 10] rfl (σ' := (qib3 a_Tables lh2_1 x25_1 (qib4 a_Tables lh2_1 x25_1 [(10, ii ((List.getD a_Tables (Int.toNat x25_1) (0, 0)).2))]))) (by kernel_rfl) ?_
          have e10 : insV (headI ((gsOf E0 22 (opsOf (lft f74_C77))).drop 5) (trS 22 (qib3 a_Tables lh2_1 x25_1 (qib4 a_Tables lh2_1 x25_1 [(10, ii ((List.getD a_Tables (Int.toNat x25_1) (0, 0)).2))])))) (trS 22 (qib3 a_Tables lh2_1 x25_1 (qib4 a_Tables lh2_1 x25_1 [(10, ii ((List.getD a_Tables (Int.toNat x25_1) (0, 0)).2))]))) (qib1 a_Sorters a_Tables lh2_1 x25_1 [(0, rc encP a_Tables z0 y0 2)]) = (match (decide (0 ≤ (List.getD a_Tables (Int.toNat x25_1) (0, 0)).2) : Bool) with | true => some (uu (shV true .u64 1 ((List.getD a_Tables (Int.toNat x25_1) (0, 0)).2))) | false => none) := by kernel_rfl
          refine XS.rd E0_ok rfl [0, 1, 2, 6, 7, 9, 11] rfl (e10.trans (by rw [b7])) (σ' := (qib3 a_Tables lh2_1 x25_1 (qib4 a_Tables lh2_1 x25_1 [(11, uu (shV true .u64 1 ((List.getD a_Tables (Int.toNat x25_1) (0, 0)).2)))]))) (by kernel_rfl) ?_
          refine XS.step E0_ok 1 rfl [0, 1, 2, 6, 7, 12] rfl (σ' := (qib3 a_Tables lh2_1 x25_1 [(6, s0 2 lh2_1.length), (7, ii ((List.getD a_Tables (Int.toNat x25_1) (0, 0)).1)), (12, uu (xorV .u64 (List.getD lh2_1 (Int.toNat ((List.getD a_Tables (Int.toNat x25_1) (0, 0)).1)) 0) (shV true .u64 1 ((List.getD a_Tables (Int.toNat x25_1) (0, 0)).2))))])) (by kernel_rfl) ?_
          refine XS.rd E0_ok rfl [0, 1, 2, 12, 13] rfl (v := pp 2 ((Int.toNat ((List.getD a_Tables (Int.toNat x25_1) (0, 0)).1)) * 1)) (v_idx (s := 1) (x := (src 22 (.tmp 6))) (y := (src 22 (.tmp 7))) (b := 2) (o := 0) (len := lh2_1.length) (cap := lh2_1.length) (ik := .i64) (i := (List.getD a_Tables (Int.toNat x25_1) (0, 0)).1) (off := (Int.toNat ((List.getD a_Tables (Int.toNat x25_1) (0, 0)).1)) * 1) (d := (some (path 12 13))) (by kernel_rfl) (by kernel_rfl) (by kernel_rfl) b6 (by omega)) (σ' := (qib3 a_Tables lh2_1 x25_1 [(12, uu (xorV .u64 (List.getD lh2_1 (Int.toNat ((List.getD a_Tables (Int.toNat x25_1) (0, 0)).1)) 0) (shV true .u64 1 ((List.getD a_Tables (Int.toNat x25_1) (0, 0)).2)))), (13, pp 2 ((Int.toNat ((List.getD a_Tables (Int.toNat x25_1) (0, 0)).1)) * 1))])) (by kernel_rfl) ?_
          refine XS.done (by kernel_rfl) ?_
          refine XR.ef E0_ok [0, 1, 2] rfl (e_store (encI_ok .u64) (size := 1) (x := (src 22 (.tmp 13))) (y := (src 22 (.tmp 12))) (b := 2) (off := (Int.toNat ((List.getD a_Tables (Int.toNat x25_1) (0, 0)).1)) * 1) (xs := lh2_1) (e := 117) (es := 1) (d := none) (h' := [(3, .cells [ii ((List.getD a_Tables (Int.toNat x25_1) (0, 0)).1), ii ((List.getD a_Tables (Int.toNat x25_1) (0, 0)).2)] 0 55 0), (2, rc (encI .u64) (List.set lh2_1 (Int.toNat ((List.getD a_Tables (Int.toNat x25_1) (0, 0)).1)) (xorV .u64 (List.getD lh2_1 (Int.toNat ((List.getD a_Tables (Int.toNat x25_1) (0, 0)).1)) 0) (shV true .u64 1 ((List.getD a_Tables (Int.toNat x25_1) (0, 0)).2)))) 0 117 1), (1, .cells [ii a_Sorters, s0 0 a_Tables.length] 0 34 0), (0, rc encP a_Tables z0 y0 2)]) (w := uu (xorV .u64 (List.getD lh2_1 (Int.toNat ((List.getD a_Tables (Int.toNat x25_1) (0, 0)).1)) 0) (shV true .u64 1 ((List.getD a_Tables (Int.toNat x25_1) (0, 0)).2)))) (ws := [uu (xorV .u64 (List.getD lh2_1 (Int.toNat ((List.getD a_Tables (Int.toNat x25_1) (0, 0)).1)) 0) (shV true .u64 1 ((List.getD a_Tables (Int.toNat x25_1) (0, 0)).2)))]) (a := xorV .u64 (List.getD lh2_1 (Int.toNat ((List.getD a_Tables (Int.toNat x25_1) (0, 0)).1)) 0) (shV true .u64 1 ((List.getD a_Tables (Int.toNat x25_1) (0, 0)).2))) (by kernel_rfl) (by kernel_rfl) (by kernel_rfl) (Int.toNat ((List.getD a_Tables (Int.toNat x25_1) (0, 0)).1)) 0 0 (by first | rfl | omega) (row_len (inRow_toNat b6) (by simp)) (by kernel_rfl) rfl rfl rfl rfl rfl (by kernel_rfl)) (σ' := (qib3 a_Tables lh2_1 x25_1 [])) (by kernel_rfl) ?_
          refine dQ ?_
          show XQ _ _ _ _ _ _ _ _
          refine XQ.tail E0_ok 8 (by kernel_rfl) (by kernel_rfl) ?_
          refine XS.step E0_ok 2 rfl [1, 14, 15] rfl (σ' := [(1, ii ((List.getD a_Tables (Int.toNat x25_1) (0, 0)).1)), (14, s0 2 lh2_1.length), (15, ii ((List.getD a_Tables (Int.toNat x25_1) (0, 0)).2))]) (by kernel_rfl) ?_
          cases b11 : (inRow ((List.getD a_Tables (Int.toNat x25_1) (0, 0)).2) lh2_1.length : Bool) with
          | false => cases (cF b11 h)
          | true =>
           have h := cT b11 h
           refine XS.rd E0_ok rfl [1, 14, 15, 16] rfl (v := pp 2 ((Int.toNat ((List.getD a_Tables (Int.toNat x25_1) (0, 0)).2)) * 1)) (v_idx (s := 1) (x := (src 22 (.tmp 14))) (y := (src 22 (.tmp 15))) (b := 2) (o := 0) (len := lh2_1.length) (cap := lh2_1.length) (ik := .i64) (i := (List.getD a_Tables (Int.toNat x25_1) (0, 0)).2) (off := (Int.toNat ((List.getD a_Tables (Int.toNat x25_1) (0, 0)).2)) * 1) (d := (some (path 12 16))) (by kernel_rfl) (by kernel_rfl) (by kernel_rfl) b11 (by omega)) (σ' := [(1, ii ((List.getD a_Tables (Int.toNat x25_1) (0, 0)).1)), (14, s0 2 lh2_1.length), (15, ii ((List.getD a_Tables (Int.toNat x25_1) (0, 0)).2)), (16, pp 2 ((Int.toNat ((List.getD a_Tables (Int.toNat x25_1) (0, 0)).2)) * 1))]) (by kernel_rfl) ?_
           refine XS.rd E0_ok rfl [1, 14, 15, 17] rfl (v := uu (List.getD (List.set lh2_1 (Int.toNat ((List.getD a_Tables (Int.toNat x25_1) (0, 0)).1)) (xorV .u64 (List.getD lh2_1 (Int.toNat ((List.getD a_Tables (Int.toNat x25_1) (0, 0)).1)) 0) (shV true .u64 1 ((List.getD a_Tables (Int.toNat x25_1) (0, 0)).2)))) (Int.toNat ((List.getD a_Tables (Int.toNat x25_1) (0, 0)).2)) 0)) (v_load1 (encI_ok .u64) (x := (src 22 (.tmp 16))) (b := 2) (off := (Int.toNat ((List.getD a_Tables (Int.toNat x25_1) (0, 0)).2)) * 1) (xs := List.set lh2_1 (Int.toNat ((List.getD a_Tables (Int.toNat x25_1) (0, 0)).1)) (xorV .u64 (List.getD lh2_1 (Int.toNat ((List.getD a_Tables (Int.toNat x25_1) (0, 0)).1)) 0) (shV true .u64 1 ((List.getD a_Tables (Int.toNat x25_1) (0, 0)).2)))) (fz := 0) (e := 117) (es := 1) (d := (some (path 12 17))) (by kernel_rfl) (by kernel_rfl) (by kernel_rfl) (Int.toNat ((List.getD a_Tables (Int.toNat x25_1) (0, 0)).2)) 0 0 (by first | rfl | omega) (row_len (inRow_toNat b11) (by simp)) rfl rfl) (σ' := [(1, ii ((List.getD a_Tables (Int.toNat x25_1) (0, 0)).1)), (14, s0 2 lh2_1.length), (15, ii ((List.getD a_Tables (Int.toNat x25_1) (0, 0)).2)), (17, uu (List.getD (List.set lh2_1 (Int.toNat ((List.getD a_Tables (Int.toNat x25_1) (0, 0)).1)) (xorV .u64 (List.getD lh2_1 (Int.toNat ((List.getD a_Tables (Int.toNat x25_1) (0, 0)).1)) 0) (shV true .u64 1 ((List.getD a_Tables (Int.toNat x25_1) (0, 0)).2)))) (Int.toNat ((List.getD a_Tables (Int.toNat x25_1) (0, 0)).2)) 0))]) (by kernel_rfl) ?_
           refine XS.step E0_ok 1 rfl [14, 15, 17, 18] rfl (σ' := [(14, s0 2 lh2_1.length), (15, ii ((List.getD a_Tables (Int.toNat x25_1) (0, 0)).2)), (17, uu (List.getD (List.set lh2_1 (Int.toNat ((List.getD a_Tables (Int.toNat x25_1) (0, 0)).1)) (xorV .u64 (List.getD lh2_1 (Int.toNat ((List.getD a_Tables (Int.toNat x25_1) (0, 0)).1)) 0) (shV true .u64 1 ((List.getD a_Tables (Int.toNat x25_1) (0, 0)).2)))) (Int.toNat ((List.getD a_Tables (Int.toNat x25_1) (0, 0)).2)) 0)), (18, ii ((List.getD a_Tables (Int.toNat x25_1) (0, 0)).1))]) (by kernel_rfl) ?_
           cases b12 : (decide (0 ≤ (List.getD a_Tables (Int.toNat x25_1) (0, 0)).1) : Bool) with
           | false => cases (cF b12 h)
           | true =>
            have h := cT b12 h
            have e13 : insV (headI ((gsOf E0 22 (opsOf (rgt f74_C77))).drop 5) (trS 22 [(14, s0 2 lh2_1.length), (15, ii ((List.getD a_Tables (Int.toNat x25_1) (0, 0)).2)), (17, uu (List.getD (List.set lh2_1 (Int.toNat ((List.getD a_Tables (Int.toNat x25_1) (0, 0)).1)) (xorV .u64 (List.getD lh2_1 (Int.toNat ((List.getD a_Tables (Int.toNat x25_1) (0, 0)).1)) 0) (shV true .u64 1 ((List.getD a_Tables (Int.toNat x25_1) (0, 0)).2)))) (Int.toNat ((List.getD a_Tables (Int.toNat x25_1) (0, 0)).2)) 0)), (18, ii ((List.getD a_Tables (Int.toNat x25_1) (0, 0)).1))])) (trS 22 [(14, s0 2 lh2_1.length), (15, ii ((List.getD a_Tables (Int.toNat x25_1) (0, 0)).2)), (17, uu (List.getD (List.set lh2_1 (Int.toNat ((List.getD a_Tables (Int.toNat x25_1) (0, 0)).1)) (xorV .u64 (List.getD lh2_1 (Int.toNat ((List.getD a_Tables (Int.toNat x25_1) (0, 0)).1)) 0) (shV true .u64 1 ((List.getD a_Tables (Int.toNat x25_1) (0, 0)).2)))) (Int.toNat ((List.getD a_Tables (Int.toNat x25_1) (0, 0)).2)) 0)), (18, ii ((List.getD a_Tables (Int.toNat x25_1) (0, 0)).1))]) [(3, .cells [ii ((List.getD a_Tables (Int.toNat x25_1) (0, 0)).1), ii ((List.getD a_Tables (Int.toNat x25_1) (0, 0)).2)] 0 55 0), (2, rc (encI .u64) (List.set lh2_1 (Int.toNat ((List.getD a_Tables (Int.toNat x25_1) (0, 0)).1)) (xorV .u64 (List.getD lh2_1 (Int.toNat ((List.getD a_Tables (Int.toNat x25_1) (0, 0)).1)) 0) (shV true .u64 1 ((List.getD a_Tables (Int.toNat x25_1) (0, 0)).2)))) 0 117 1), (1, .cells [ii a_Sorters, s0 0 a_Tables.length] 0 34 0), (0, rc encP a_Tables z0 y0 2)] = (match (decide (0 ≤ (List.getD a_Tables (Int.toNat x25_1) (0, 0)).1) : Bool) with | true => some (uu (shV true .u64 1 ((List.getD a_Tables (Int.toNat x25_1) (0, 0)).1))) | false => none) := by kernel_rfl
            refine XS.rd E0_ok rfl [14, 15, 17, 19] rfl (e13.trans (by rw [b12])) (σ' := [(14, s0 2 lh2_1.length), (15, ii ((List.getD a_Tables (Int.toNat x25_1) (0, 0)).2)), (17, uu (List.getD (List.set lh2_1 (Int.toNat ((List.getD a_Tables (Int.toNat x25_1) (0, 0)).1)) (xorV .u64 (List.getD lh2_1 (Int.toNat ((List.getD a_Tables (Int.toNat x25_1) (0, 0)).1)) 0) (shV true .u64 1 ((List.getD a_Tables (Int.toNat x25_1) (0, 0)).2)))) (Int.toNat ((List.getD a_Tables (Int.toNat x25_1) (0, 0)).2)) 0)), (19, uu (shV true .u64 1 ((List.getD a_Tables (Int.toNat x25_1) (0, 0)).1)))]) (by kernel_rfl) ?_
            refine XS.step E0_ok 1 rfl [14, 15, 20] rfl (σ' := [(14, s0 2 lh2_1.length), (15, ii ((List.getD a_Tables (Int.toNat x25_1) (0, 0)).2)), (20, uu (xorV .u64 (List.getD (List.set lh2_1 (Int.toNat ((List.getD a_Tables (Int.toNat x25_1) (0, 0)).1)) (xorV .u64 (List.getD lh2_1 (Int.toNat ((List.getD a_Tables (Int.toNat x25_1) (0, 0)).1)) 0) (shV true .u64 1 ((List.getD a_Tables (Int.toNat x25_1) (0, 0)).2)))) (Int.toNat ((List.getD a_Tables (Int.toNat x25_1) (0, 0)).2)) 0) (shV true .u64 1 ((List.getD a_Tables (Int.toNat x25_1) (0, 0)).1))))]) (by kernel_rfl) ?_
            refine XS.rd E0_ok rfl [20, 21] rfl (v := pp 2 ((Int.toNat ((List.getD a_Tables (Int.toNat x25_1) (0, 0)).2)) * 1)) (v_idx (s := 1) (x := (src 22 (.tmp 14))) (y := (src 22 (.tmp 15))) (b := 2) (o := 0) (len := lh2_1.length) (cap := lh2_1.length) (ik := .i64) (i := (List.getD a_Tables (Int.toNat x25_1) (0, 0)).2) (off := (Int.toNat ((List.getD a_Tables (Int.toNat x25_1) (0, 0)).2)) * 1) (d := (some (path 12 21))) (by kernel_rfl) (by kernel_rfl) (by kernel_rfl) b11 (by omega)) (σ' := [(20, uu (xorV .u64 (List.getD (List.set lh2_1 (Int.toNat ((List.getD a_Tables (Int.toNat x25_1) (0, 0)).1)) (xorV .u64 (List.getD lh2_1 (Int.toNat ((List.getD a_Tables (Int.toNat x25_1) (0, 0)).1)) 0) (shV true .u64 1 ((List.getD a_Tables (Int.toNat x25_1) (0, 0)).2)))) (Int.toNat ((List.getD a_Tables (Int.toNat x25_1) (0, 0)).2)) 0) (shV true .u64 1 ((List.getD a_Tables (Int.toNat x25_1) (0, 0)).1)))), (21, pp 2 ((Int.toNat ((List.getD a_Tables (Int.toNat x25_1) (0, 0)).2)) * 1))]) (by kernel_rfl) ?_
            refine XS.done (by kernel_rfl) ?_
            refine XR.ef E0_ok [] rfl (e_store (encI_ok .u64) (size := 1) (x := (src 22 (.tmp 21))) (y := (src 22 (.tmp 20))) (b := 2) (off := (Int.toNat ((List.getD a_Tables (Int.toNat x25_1) (0, 0)).2)) * 1) (xs := List.set lh2_1 (Int.toNat ((List.getD a_Tables (Int.toNat x25_1) (0, 0)).1)) (xorV .u64 (List.getD lh2_1 (Int.toNat ((List.getD a_Tables (Int.toNat x25_1) (0, 0)).1)) 0) (shV true .u64 1 ((List.getD a_Tables (Int.toNat x25_1) (0, 0)).2)))) (e := 117) (es := 1) (d := none) (h' := [(3, .cells [ii ((List.getD a_Tables (Int.toNat x25_1) (0, 0)).1), ii ((List.getD a_Tables (Int.toNat x25_1) (0, 0)).2)] 0 55 0), (2, rc (encI .u64) (List.set (List.set lh2_1 (Int.toNat ((List.getD a_Tables (Int.toNat x25_1) (0, 0)).1)) (xorV .u64 (List.getD lh2_1 (Int.toNat ((List.getD a_Tables (Int.toNat x25_1) (0, 0)).1)) 0) (shV true .u64 1 ((List.getD a_Tables (Int.toNat x25_1) (0, 0)).2)))) (Int.toNat ((List.getD a_Tables (Int.toNat x25_1) (0, 0)).2)) (xorV .u64 (List.getD (List.set lh2_1 (Int.toNat ((List.getD a_Tables (Int.toNat x25_1) (0, 0)).1)) (xorV .u64 (List.getD lh2_1 (Int.toNat ((List.getD a_Tables (Int.toNat x25_1) (0, 0)).1)) 0) (shV true .u64 1 ((List.getD a_Tables (Int.toNat x25_1) (0, 0)).2)))) (Int.toNat ((List.getD a_Tables (Int.toNat x25_1) (0, 0)).2)) 0) (shV true .u64 1 ((List.getD a_Tables (Int.toNat x25_1) (0, 0)).1)))) 0 117 1), (1, .cells [ii a_Sorters, s0 0 a_Tables.length] 0 34 0), (0, rc encP a_Tables z0 y0 2)]) (w := uu (xorV .u64 (List.getD (List.set lh2_1 (Int.toNat ((List.getD a_Tables (Int.toNat x25_1) (0, 0)).1)) (xorV .u64 (List.getD lh2_1 (Int.toNat ((List.getD a_Tables (Int.toNat x25_1) (0, 0)).1)) 0) (shV true .u64 1 ((List.getD a_Tables (Int.toNat x25_1) (0, 0)).2)))) (Int.toNat ((List.getD a_Tables (Int.toNat x25_1) (0, 0)).2)) 0) (shV true .u64 1 ((List.getD a_Tables (Int.toNat x25_1) (0, 0)).1)))) (ws := [uu (xorV .u64 (List.getD (List.set lh2_1 (Int.toNat ((List.getD a_Tables (Int.toNat x25_1) (0, 0)).1)) (xorV .u64 (List.getD lh2_1 (Int.toNat ((List.getD a_Tables (Int.toNat x25_1) (0, 0)).1)) 0) (shV true .u64 1 ((List.getD a_Tables (Int.toNat x25_1) (0, 0)).2)))) (Int.toNat ((List.getD a_Tables (Int.toNat x25_1) (0, 0)).2)) 0) (shV true .u64 1 ((List.getD a_Tables (Int.toNat x25_1) (0, 0)).1)))]) (a := xorV .u64 (List.getD (List.set lh2_1 (Int.toNat ((List.getD a_Tables (Int.toNat x25_1) (0, 0)).1)) (xorV .u64 (List.getD lh2_1 (Int.toNat ((List.getD a_Tables (Int.toNat x25_1) (0, 0)).1)) 0) (shV true .u64 1 ((List.getD a_Tables (Int.toNat x25_1) (0, 0)).2)))) (Int.toNat ((List.getD a_Tables (Int.toNat x25_1) (0, 0)).2)) 0) (shV true .u64 1 ((List.getD a_Tables (Int.toNat x25_1) (0, 0)).1))) (by kernel_rfl) (by kernel_rfl) (by kernel_rfl) (Int.toNat ((List.getD a_Tables (Int.toNat x25_1) (0, 0)).2)) 0 0 (by first | rfl | omega) (row_len (inRow_toNat b11) (by simp)) (by kernel_rfl) rfl rfl rfl rfl rfl (by kernel_rfl)) (σ' := []) (by kernel_rfl) ?_
            refine dQ ?_
            refine ⟨fun i q => (by cases q), .tuple #[], (by kernel_rfl), ?_⟩
            refine XR.conv (σ' := [(1, pp 1 0), (4, s0 2 lh2_1.length), (23, s0 0 a_Tables.length), (24, ii x24_1), (25, ii x25_1)]) (h' := [(3, .cells [ii ((List.getD a_Tables (Int.toNat x25_1) (0, 0)).1), ii ((List.getD a_Tables (Int.toNat x25_1) (0, 0)).2)] 0 55 0), (2, rc (encI .u64) (List.set (List.set lh2_1 (Int.toNat ((List.getD a_Tables (Int.toNat x25_1) (0, 0)).1)) (xorV .u64 (List.getD lh2_1 (Int.toNat ((List.getD a_Tables (Int.toNat x25_1) (0, 0)).1)) 0) (shV true .u64 1 ((List.getD a_Tables (Int.toNat x25_1) (0, 0)).2)))) (Int.toNat ((List.getD a_Tables (Int.toNat x25_1) (0, 0)).2)) (xorV .u64 (List.getD (List.set lh2_1 (Int.toNat ((List.getD a_Tables (Int.toNat x25_1) (0, 0)).1)) (xorV .u64 (List.getD lh2_1 (Int.toNat ((List.getD a_Tables (Int.toNat x25_1) (0, 0)).1)) 0) (shV true .u64 1 ((List.getD a_Tables (Int.toNat x25_1) (0, 0)).2)))) (Int.toNat ((List.getD a_Tables (Int.toNat x25_1) (0, 0)).2)) 0) (shV true .u64 1 ((List.getD a_Tables (Int.toNat x25_1) (0, 0)).1)))) 0 117 1), (1, .cells [ii a_Sorters, s0 0 a_Tables.length] 0 34 0), (0, rc encP a_Tables z0 y0 2)]) (c' := 4) ?_ (by kernel_rfl)
            refine dQ ?_
            show XQ _ _ _ _ _ _ _ _
            refine rQ ?_
            refine rS 2 [(1, pp 1 0), (4, s0 2 lh2_1.length), (23, s0 0 a_Tables.length), (24, ii x24_1), (25, ii (w64 (x25_1 + 1)))] ?_
            refine dQ ?_
            show XL _ _ _ _ _ _ _ _ _
            refine XL.ren (σ' := [(1, pp 1 0), (4, s0 2 lh2_1.length), (23, s0 0 a_Tables.length), (24, ii x24_1), (25, ii (w64 (x25_1 + 1)))]) (h' := [(2, rc (encI .u64) (List.set (List.set lh2_1 (Int.toNat ((List.getD a_Tables (Int.toNat x25_1) (0, 0)).1)) (xorV .u64 (List.getD lh2_1 (Int.toNat ((List.getD a_Tables (Int.toNat x25_1) (0, 0)).1)) 0) (shV true .u64 1 ((List.getD a_Tables (Int.toNat x25_1) (0, 0)).2)))) (Int.toNat ((List.getD a_Tables (Int.toNat x25_1) (0, 0)).2)) (xorV .u64 (List.getD (List.set lh2_1 (Int.toNat ((List.getD a_Tables (Int.toNat x25_1) (0, 0)).1)) (xorV .u64 (List.getD lh2_1 (Int.toNat ((List.getD a_Tables (Int.toNat x25_1) (0, 0)).1)) 0) (shV true .u64 1 ((List.getD a_Tables (Int.toNat x25_1) (0, 0)).2)))) (Int.toNat ((List.getD a_Tables (Int.toNat x25_1) (0, 0)).2)) 0) (shV true .u64 1 ((List.getD a_Tables (Int.toNat x25_1) (0, 0)).1)))) 0 117 1), (1, .cells [ii a_Sorters, s0 0 a_Tables.length] 0 34 0), (0, rc encP a_Tables z0 y0 2)]) (c' := 3) [0, 1, 2] (by decide) rfl ⟨rfl, rfl, rfl, rfl, rfl, trivial⟩ ⟨⟨_, _, rfl, rfl, .inl ⟨rfl, rowC_scal (encI_ok .u64) _⟩⟩, ⟨_, _, rfl, rfl, .inr ⟨_, _, _, _, rfl, rfl⟩⟩, ⟨_, _, rfl, rfl, .inl ⟨rfl, rwP⟩⟩, trivial⟩ rfl ?_
            refine XL.conv (f74_1_ok m fuel z0 y0 a_Sorters a_Tables x24_1 (w64 (x25_1 + 1)) (List.set (List.set lh2_1 (Int.toNat ((List.getD a_Tables (Int.toNat x25_1) (0, 0)).1)) (xorV .u64 (List.getD lh2_1 (Int.toNat ((List.getD a_Tables (Int.toNat x25_1) (0, 0)).1)) 0) (shV true .u64 1 ((List.getD a_Tables (Int.toNat x25_1) (0, 0)).2)))) (Int.toNat ((List.getD a_Tables (Int.toNat x25_1) (0, 0)).2)) (xorV .u64 (List.getD (List.set lh2_1 (Int.toNat ((List.getD a_Tables (Int.toNat x25_1) (0, 0)).1)) (xorV .u64 (List.getD lh2_1 (Int.toNat ((List.getD a_Tables (Int.toNat x25_1) (0, 0)).1)) 0) (shV true .u64 1 ((List.getD a_Tables (Int.toNat x25_1) (0, 0)).2)))) (Int.toNat ((List.getD a_Tables (Int.toNat x25_1) (0, 0)).2)) 0) (shV true .u64 1 ((List.getD a_Tables (Int.toNat x25_1) (0, 0)).1)))) o h Q hQ) (by first | rfl | simp)
  | false =>
   have h := cF b1 h
   refine iF (.tmp 26) ?_
   refine XQ.ren (σ' := [(4, s0 1 lh2_1.length)]) (h' := [(1, rc (encI .u64) lh2_1 0 117 1), (0, rc encP a_Tables z0 y0 2)]) (c' := 2) [0, 2] (by decide) rfl ⟨rfl, trivial⟩ ⟨⟨_, _, rfl, rfl, .inl ⟨rfl, rowC_scal (encI_ok .u64) _⟩⟩, ⟨_, _, rfl, rfl, .inl ⟨rfl, rwP⟩⟩, trivial⟩ rfl ?_
   refine XQ.exit (i := 1) (by kernel_rfl) ?_
   cases h
   exact hQ
def f74 (m : Nat) (a_Sorters : Int) (a_Tables : List (Int × Int)) : Option ((List Int) × Int) :=
 (f65 m a_Sorters 1 8).bind fun r1 =>
  cond (!r1) (
   some ([], 1)
  ) (
   cond (decide (((a_Tables.length : Nat) : Int) > 28)) (
    some ([], 3)
   ) (
    cond (mkOK a_Sorters a_Sorters 8) (
     (f74_1 m m a_Sorters a_Tables ((a_Tables.length : Nat) : Int) 0 (List.replicate (Int.toNat a_Sorters) 0)).bind fun o1 =>
      match o1 with
      | .r x3_r1 =>
       some ([], x3_r1)
      | .x1 lh1_x11 =>
       some (lh1_x11, 0)
    ) none
   )
  )
set_option maxHeartbeats 8000000 in
theorem f74_ok (m : Nat) (z0 : Nat) (y0 : Nat) (a_Sorters : Int) (a_Tables : List (Int × Int)) (o : (List Int) × Int) (h : f74 m a_Sorters a_Tables = some o) : KC E0 74 [.agg #[ii a_Sorters, s0 0 a_Tables.length]] [(0, rc encP a_Tables z0 y0 2)] 1 (fun v h' c' => v = .tuple #[s0 1 o.1.length, ii o.2] ∧ h' = [(1, rc (encI .u64) o.1 0 117 1)] ++ [(0, rc encP a_Tables z0 y0 2)] ∧ c' = 2) := by
 refine KC.bodyN E0_ok (F := Proofs.Tryd.f74) (by kernel_rfl) (code := f74_C74) (by kernel_rfl) (nt := 63) (by kernel_rfl) (rs := [.tmp 2, .tmp 3]) (by kernel_rfl) (by kernel_rfl) (σ := [(0, .agg #[ii a_Sorters, s0 0 a_Tables.length])]) (by kernel_rfl) ?_
 unfold f74 at h
 refine qQ ?_
 refine rT 3 [(1, pp 1 0)] [(1, .cells [ii a_Sorters, s0 0 a_Tables.length] 0 34 0), (0, rc encP a_Tables z0 y0 2)] 2 ?_
 refine dQ ?_
 show XQ _ _ _ _ _ _ _ _
 refine sQ ?_
 refine XQ.block (id := 0) (by kernel_rfl) ?_
 refine qQ ?_
 refine rS 2 [(1, pp 1 0), (11, ii a_Sorters)] ?_
 obtain ⟨r1, r1_h, h⟩ := bS h
 refine XR.call E0_ok [1, 12] rfl (K := 65) (args := [ii a_Sorters, ii 1, ii 8]) (d := (some (path 12 12))) (by kernel_rfl) (KC.of_calls E0_ok (F := Proofs.Tryd.f65) (v := .bool r1) (by kernel_rfl) rfl rfl (fun w hI => f65_ok m a_Sorters 1 8 r1 r1_h w hI)) ?_
 rintro _ _ _ ⟨rfl, rfl, rfl⟩
 refine XR.conv (σ' := [(1, pp 1 0), (12, .bool r1)]) (h' := [(1, .cells [ii a_Sorters, s0 0 a_Tables.length] 0 34 0), (0, rc encP a_Tables z0 y0 2)]) (c' := 2) ?_ (by kernel_rfl)
 refine rS 2 [(1, pp 1 0), (9, .bool (!r1))] ?_
 refine dQ ?_
 show XQ _ _ _ _ _ _ _ _
 cases b1 : (!r1 : Bool) with
 | true =>
  have h := cT b1 h
  refine iT (.tmp 9) ?_
  refine qQ ?_
  refine rS 2 [(2, .slice none 0 0), (3, ii 1)] ?_
  refine dQ ?_
  show XQ _ _ _ _ _ _ _ _
  refine XQ.ghost 117 1 rfl (σ' := [(2, s0 2 0), (3, ii 1)]) (h' := [(1, .cells [ii a_Sorters, s0 0 a_Tables.length] 0 34 0), (0, rc encP a_Tables z0 y0 2)]) ⟨rfl, rfl, trivial⟩ ⟨⟨_, rfl, .inl rfl⟩, ⟨_, rfl, .inl rfl⟩, trivial⟩ ?_
  refine XQ.conv (σ' := [(2, s0 2 0), (3, ii 1)]) (h' := [(2, rc (encI .u64) [] 0 117 1), (1, .cells [ii a_Sorters, s0 0 a_Tables.length] 0 34 0), (0, rc encP a_Tables z0 y0 2)]) (c' := 3) ?_ (by kernel_rfl)
  refine XQ.ren (σ' := [(2, s0 1 0), (3, ii 1)]) (h' := [(1, rc (encI .u64) [] 0 117 1), (0, rc encP a_Tables z0 y0 2)]) (c' := 2) [0, 2] (by decide) rfl ⟨rfl, rfl, trivial⟩ ⟨⟨_, _, rfl, rfl, .inl ⟨rfl, rowC_scal (encI_ok .u64) _⟩⟩, ⟨_, _, rfl, rfl, .inl ⟨rfl, rwP⟩⟩, trivial⟩ rfl ?_
  refine XQ.ret (by kernel_rfl) ?_
  have h := Option.some.inj h
  subst h
  exact ⟨fun i q => (by cases q), .tuple #[s0 1 0, ii 1], (by kernel_rfl), (by kernel_rfl), (by kernel_rfl), rfl⟩
 | false =>
  have h := cF b1 h
  refine iF (.tmp 9) ?_
  refine qQ ?_
  refine rS 5 [(1, pp 1 0), (14, .bool (decide (((a_Tables.length : Nat) : Int) > 28)))] ?_
  refine dQ ?_
  show XQ _ _ _ _ _ _ _ _
  cases b2 : (decide (((a_Tables.length : Nat) : Int) > 28) : Bool) with
  | true =>
   have h := cT b2 h
   refine iT (.tmp 14) ?_
   refine qQ ?_
   refine rS 2 [(2, .slice none 0 0), (3, ii 3)] ?_
   refine dQ ?_
   show XQ _ _ _ _ _ _ _ _
   refine XQ.ghost 117 1 rfl (σ' := [(2, s0 2 0), (3, ii 3)]) (h' := [(1, .cells [ii a_Sorters, s0 0 a_Tables.length] 0 34 0), (0, rc encP a_Tables z0 y0 2)]) ⟨rfl, rfl, trivial⟩ ⟨⟨_, rfl, .inl rfl⟩, ⟨_, rfl, .inl rfl⟩, trivial⟩ ?_
   refine XQ.conv (σ' := [(2, s0 2 0), (3, ii 3)]) (h' := [(2, rc (encI .u64) [] 0 117 1), (1, .cells [ii a_Sorters, s0 0 a_Tables.length] 0 34 0), (0, rc encP a_Tables z0 y0 2)]) (c' := 3) ?_ (by kernel_rfl)
   refine XQ.ren (σ' := [(2, s0 1 0), (3, ii 3)]) (h' := [(1, rc (encI .u64) [] 0 117 1), (0, rc encP a_Tables z0 y0 2)]) (c' := 2) [0, 2] (by decide) rfl ⟨rfl, rfl, trivial⟩ ⟨⟨_, _, rfl, rfl, .inl ⟨rfl, rowC_scal (encI_ok .u64) _⟩⟩, ⟨_, _, rfl, rfl, .inl ⟨rfl, rwP⟩⟩, trivial⟩ rfl ?_
   refine XQ.ret (by kernel_rfl) ?_
   have h := Option.some.inj h
   subst h
   exact ⟨fun i q => (by cases q), .tuple #[s0 1 0, ii 3], (by kernel_rfl), (by kernel_rfl), (by kernel_rfl), rfl⟩
  | false =>
   have h := cF b2 h
   refine iF (.tmp 14) ?_
   refine kQ ?_
   show XQ _ _ _ _ _ _ _ _
   refine qQ ?_
   refine rS 2 [(1, pp 1 0), (20, ii a_Sorters)] ?_
   cases b3 : (mkOK a_Sorters a_Sorters 8 : Bool) with
   | false => cases (cF b3 h)
   | true =>
    have h := cT b3 h
    refine XR.ef E0_ok [1, 21] rfl (e_make (encI_ok .u64) (x := (src 63 (.tmp 20))) (y := (src 63 (.tmp 20))) (l := a_Sorters) (n := a_Sorters) (bytes := 8) (e := 117) (z := #[uu 0]) (d := (some (path 12 21))) (by kernel_rfl) (by kernel_rfl) (by kernel_rfl) 0 rfl (by kernel_rfl) b3) (σ' := [(1, pp 1 0), (21, s0 2 (Int.toNat a_Sorters))]) (by kernel_rfl) ?_
    refine rS 1 [(1, pp 1 0), (4, s0 2 (Int.toNat a_Sorters))] ?_
    refine dQ ?_
    show XQ _ _ _ _ _ _ _ _
    refine sQ ?_
    refine qQ ?_
    refine rS 4 [(1, pp 1 0), (4, s0 2 (Int.toNat a_Sorters)), (23, s0 0 a_Tables.length), (24, ii ((a_Tables.length : Nat) : Int)), (25, ii 0)] ?_
    refine dQ ?_
    show XQ _ _ _ _ _ _ _ _
    refine XQ.block (id := 1) (by kernel_rfl) ?_
    refine XQ.loop m (by kernel_rfl) ?_
    obtain ⟨o1, o1_h, h⟩ := bS h
    refine XL.ren (σ' := [(1, pp 1 0), (4, s0 2 (Int.toNat a_Sorters)), (23, s0 0 a_Tables.length), (24, ii ((a_Tables.length : Nat) : Int)), (25, ii 0)]) (h' := [(2, rc (encI .u64) (List.replicate (Int.toNat a_Sorters) 0) 0 117 1), (1, .cells [ii a_Sorters, s0 0 a_Tables.length] 0 34 0), (0, rc encP a_Tables z0 y0 2)]) (c' := 3) [0, 1, 2] (by decide) rfl ⟨rfl, rfl, rfl, rfl, rfl, trivial⟩ ⟨⟨_, _, rfl, rfl, .inl ⟨rfl, rowC_scal (encI_ok .u64) _⟩⟩, ⟨_, _, rfl, rfl, .inr ⟨_, _, _, _, rfl, rfl⟩⟩, ⟨_, _, rfl, rfl, .inl ⟨rfl, rwP⟩⟩, trivial⟩ rfl ?_
    cases o1 with
    | r x3_r1 =>
     dsimp only at h
     refine XL.conv (f74_1_ok m m z0 y0 a_Sorters a_Tables ((a_Tables.length : Nat) : Int) 0 (List.replicate (Int.toNat a_Sorters) 0) (.r x3_r1) o1_h _ ?_) (by first | rfl | simp)
     have h := Option.some.inj h
     subst h
     exact ⟨fun i q => (by cases q), .tuple #[s0 1 0, ii x3_r1], (by kernel_rfl), (by kernel_rfl), (by kernel_rfl), rfl⟩
    | x1 lh1_x11 =>
     dsimp only at h
     refine XL.conv (f74_1_ok m m z0 y0 a_Sorters a_Tables ((a_Tables.length : Nat) : Int) 0 (List.replicate (Int.toNat a_Sorters) 0) (.x1 lh1_x11) o1_h _ ?_) (by first | rfl | simp)
     show XQ _ _ _ _ _ _ _ _
     refine qQ ?_
     refine rS 3 [(2, s0 1 lh1_x11.length), (3, ii 0)] ?_
     refine dQ ?_
     show XQ _ _ _ _ _ _ _ _
     refine XQ.ren (σ' := [(2, s0 1 lh1_x11.length), (3, ii 0)]) (h' := [(1, rc (encI .u64) lh1_x11 0 117 1), (0, rc encP a_Tables z0 y0 2)]) (c' := 2) [0, 1] (by decide) rfl ⟨rfl, rfl, trivial⟩ ⟨⟨_, _, rfl, rfl, .inl ⟨rfl, rowC_scal (encI_ok .u64) _⟩⟩, ⟨_, _, rfl, rfl, .inl ⟨rfl, rwP⟩⟩, trivial⟩ rfl ?_
     refine XQ.ret (by kernel_rfl) ?_
     have h := Option.some.inj h
     subst h
     exact ⟨fun i q => (by cases q), .tuple #[s0 1 lh1_x11.length, ii 0], (by kernel_rfl), (by kernel_rfl), (by kernel_rfl), rfl⟩
end Go.Xm
