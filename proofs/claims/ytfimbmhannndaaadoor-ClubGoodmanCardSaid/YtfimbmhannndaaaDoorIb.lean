/- What these functions of the program compute, as functions in Lean, and the proofs that they do: vitolaref12.Cross, club.opened, club.room).plan. Conditions: the library's variables hold what their texts lay. -/
import Derived.Test.YtfimbmhannndaaaDoorIa
namespace Go.Xm
open Go.RowKit
set_option linter.unusedVariables false
set_option linter.unusedSimpArgs false
set_option maxRecDepth 20000

/-! vitola/vitolaref12.Cross -/
/-! vitola/club.opened -/
noncomputable def f74_C74 : Code := Proofs.Tryd.f74.body.getD .skip
noncomputable def f74_C76 : Code := Proofs.Tryd.f76.body.getD .skip
noncomputable def f74_C77 : Code := Proofs.Tryd.f77.body.getD .skip
noncomputable def f74_L1 : Code := lft (lft (rgt (lft (rgt (rgt (rgt f74_C74))))))

inductive Of74_1 where
 | r (x3_r1 : Int)
 | x1 (lh1_x11 : List Int)

def f74_1 (m : Nat) : Nat → Int → List (Int × Int) → Int → Int → List Int → Option Of74_1
 | 0, _, _, _, _, _ => none
 | fuel + 1, a_Sorters, a_Tables, x24_1, x25_1, lh2_1 =>
  cond (decide (x25_1 < x24_1)) (
   cond (inRow x25_1 a_Tables.length) (
    (f65 m ((List.getD a_Tables (Int.toNat x25_1) (0, 0)).1) 0 (w64 (a_Sorters - 1))).bind fun r6 =>
     cond (!r6) (
      some (.r 2)
     ) (
      (f65 m ((List.getD a_Tables (Int.toNat x25_1) (0, 0)).2) 0 (w64 (a_Sorters - 1))).bind fun r7 =>
       cond (!r7) (
        some (.r 2)
       ) (
        cond (((List.getD a_Tables (Int.toNat x25_1) (0, 0)).1) == ((List.getD a_Tables (Int.toNat x25_1) (0, 0)).2)) (
         some (.r 13)
        ) (
         cond (inRow ((List.getD a_Tables (Int.toNat x25_1) (0, 0)).1) lh2_1.length) (
          cond (decide (0 ≤ (List.getD a_Tables (Int.toNat x25_1) (0, 0)).2)) (
           cond ((andV .u64 (shV false .u64 (List.getD lh2_1 (Int.toNat ((List.getD a_Tables (Int.toNat x25_1) (0, 0)).1)) 0) ((List.getD a_Tables (Int.toNat x25_1) (0, 0)).2)) 1) == 1) (
            some (.r 6)
           ) (
            cond (inRow ((List.getD a_Tables (Int.toNat x25_1) (0, 0)).2) lh2_1.length) (
             cond (decide (0 ≤ (List.getD a_Tables (Int.toNat x25_1) (0, 0)).1)) (
              f74_1 m fuel a_Sorters a_Tables x24_1 (w64 (x25_1 + 1)) (List.set (List.set lh2_1 (Int.toNat ((List.getD a_Tables (Int.toNat x25_1) (0, 0)).1)) (xorV .u64 (List.getD lh2_1 (Int.toNat ((List.getD a_Tables (Int.toNat x25_1) (0, 0)).1)) 0) (shV true .u64 1 ((List.getD a_Tables (Int.toNat x25_1) (0, 0)).2)))) (Int.toNat ((List.getD a_Tables (Int.toNat x25_1) (0, 0)).2)) (xorV .u64 (List.getD (List.set lh2_1 (Int.toNat ((List.getD a_Tables (Int.toNat x25_1) (0, 0)).1)) (xorV .u64 (List.getD lh2_1 (Int.toNat ((List.getD a_Tables (Int.toNat x25_1) (0, 0)).1)) 0) (shV true .u64 1 ((List.getD a_Tables (Int.toNat x25_1) (0, 0)).2)))) (Int.toNat ((List.getD a_Tables (Int.toNat x25_1) (0, 0)).2)) 0) (shV true .u64 1 ((List.getD a_Tables (Int.toNat x25_1) (0, 0)).1))))
             ) none
            ) none
           )
          ) none
         ) none
        )
       )
     )
   ) none
  ) (
   some (.x1 lh2_1)
  )

theorem f74_1_ok (m : Nat) : ∀ (fuel : Nat) (z0 : Nat) (y0 : Nat) (a_Sorters : Int) (a_Tables : List (Int × Int)) (x24_1 : Int) (x25_1 : Int) (lh2_1 : List Int) (o : Of74_1), f74_1 m fuel a_Sorters a_Tables x24_1 x25_1 lh2_1 = some o → ∀ Q : QP, (match o with | .r x3_r1 => Q .ret [(2, s0 1 0), (3, ii x3_r1)] [(1, rc (encI .u64) [] 0 117 1), (0, rc encP a_Tables z0 y0 2)] 2 | .x1 lh1_x11 => Q (.exit 1) [(4, s0 1 lh1_x11.length)] [(1, rc (encI .u64) lh1_x11 0 117 1), (0, rc encP a_Tables z0 y0 2)] 2) → XL E0 63 1 fuel f74_L1 [(1, pp 1 0), (4, s0 2 lh2_1.length), (23, s0 0 a_Tables.length), (24, ii x24_1), (25, ii x25_1)] [(2, rc (encI .u64) lh2_1 0 117 1), (1, .cells [ii a_Sorters, s0 0 a_Tables.length] 0 34 0), (0, rc encP a_Tables z0 y0 2)] 3 Q
 | 0, z0, y0, a_Sorters, a_Tables, x24_1, x25_1, lh2_1, o, h, Q, hQ => by cases h
 | fuel + 1, z0, y0, a_Sorters, a_Tables, x24_1, x25_1, lh2_1, o, h, Q, hQ => by
  unfold f74_1 at h
  refine XL.succ E0_ok ?_
  refine XQ.seq E0_ok (by kernel_rfl) ?_
  refine XQ.region (by kernel_rfl) ?_
  refine XR.runS E0_ok 1 1 [(1, pp 1 0), (4, s0 2 lh2_1.length), (23, s0 0 a_Tables.length), (24, ii x24_1), (25, ii x25_1), (26, .bool (decide (x25_1 < x24_1)))] rfl (by kernel_rfl) ?_
  refine XR.done (by kernel_rfl) ?_
  show XQ _ _ _ _ _ _ _ _
  refine XQ.seq E0_ok (by kernel_rfl) ?_
  cases b1 : (decide (x25_1 < x24_1) : Bool) with
  | true =>
   have h := cT b1 h
   refine XQ.cond (s := (.tmp 26)) (b := true) (by kernel_rfl) (by kernel_rfl) (fun _ => ?_) (fun q => by cases q)
   refine XQ.skip (by kernel_rfl) ?_
   show XQ _ _ _ _ _ _ _ _
   refine XQ.seq E0_ok (by kernel_rfl) ?_
   refine XQ.block (id := 2) (by kernel_rfl) ?_
   refine XQ.seq E0_ok (by kernel_rfl) ?_
   refine XQ.region (by kernel_rfl) ?_
   cases b2 : (inRow x25_1 a_Tables.length : Bool) with
   | false => cases (cF b2 h)
   | true =>
    have h := cT b2 h
    refine XR.rd E0_ok [1, 4, 23, 24, 25, 27] rfl (v := pp 0 ((Int.toNat x25_1) * 2)) (v_idx (s := 2) (x := (src 63 (.tmp 23))) (y := (src 63 (.tmp 25))) (b := 0) (o := 0) (len := a_Tables.length) (cap := a_Tables.length) (ik := .i64) (i := x25_1) (off := (Int.toNat x25_1) * 2) (d := (some (path 12 27))) (by kernel_rfl) (by kernel_rfl) (by kernel_rfl) b2 (by omega)) (σ' := [(1, pp 1 0), (4, s0 2 lh2_1.length), (23, s0 0 a_Tables.length), (24, ii x24_1), (25, ii x25_1), (27, pp 0 ((Int.toNat x25_1) * 2))]) (by kernel_rfl) ?_
    refine XR.rd E0_ok [1, 4, 23, 24, 25, 28] rfl (v := .agg #[ii ((List.getD a_Tables (Int.toNat x25_1) (0, 0)).1), ii ((List.getD a_Tables (Int.toNat x25_1) (0, 0)).2)]) (v_loadN encP_ok (x := (src 63 (.tmp 27))) (b := 0) (off := (Int.toNat x25_1) * 2) (xs := a_Tables) (fz := z0) (e := y0) (es := 2) (d := (some (path 12 28))) (by kernel_rfl) (by kernel_rfl) (by kernel_rfl) (Int.toNat x25_1) (0, 0) (by first | rfl | omega) (row_len (inRow_toNat b2) (by simp)) rfl) (σ' := [(1, pp 1 0), (4, s0 2 lh2_1.length), (23, s0 0 a_Tables.length), (24, ii x24_1), (25, ii x25_1), (28, .agg #[ii ((List.getD a_Tables (Int.toNat x25_1) (0, 0)).1), ii ((List.getD a_Tables (Int.toNat x25_1) (0, 0)).2)])]) (by kernel_rfl) ?_
    refine XR.runT E0_ok 1 2 [(1, pp 1 0), (4, s0 2 lh2_1.length), (6, pp 3 0), (23, s0 0 a_Tables.length), (24, ii x24_1), (25, ii x25_1)] [(3, .cells [ii ((List.getD a_Tables (Int.toNat x25_1) (0, 0)).1), ii ((List.getD a_Tables (Int.toNat x25_1) (0, 0)).2)] 0 55 0), (2, rc (encI .u64) lh2_1 0 117 1), (1, .cells [ii a_Sorters, s0 0 a_Tables.length] 0 34 0), (0, rc encP a_Tables z0 y0 2)] 4 rfl (by kernel_rfl) ?_
    refine XR.done (by kernel_rfl) ?_
    show XQ _ _ _ _ _ _ _ _
    refine XQ.seq E0_ok (by kernel_rfl) ?_
    refine XQ.quiet E0_ok (by kernel_rfl) (by kernel_rfl) ?_
    refine XU.run E0_ok 1 6 [1, 4, 7, 8, 23, 24, 25] rfl (σ' := [(1, pp 1 0), (4, s0 2 lh2_1.length), (7, ii ((List.getD a_Tables (Int.toNat x25_1) (0, 0)).1)), (8, ii ((List.getD a_Tables (Int.toNat x25_1) (0, 0)).2)), (23, s0 0 a_Tables.length), (24, ii x24_1), (25, ii x25_1)]) (by kernel_rfl) ?_
    refine XU.done (by kernel_rfl) ?_
    show XQ _ _ _ _ _ _ _ _
    refine XQ.seq E0_ok (by kernel_rfl) ?_
    refine XQ.block (id := 3) (by kernel_rfl) ?_
    refine XQ.seq E0_ok (by kernel_rfl) ?_
    refine XQ.region (by kernel_rfl) ?_
    refine XR.runS E0_ok 1 4 [(1, pp 1 0), (4, s0 2 lh2_1.length), (7, ii ((List.getD a_Tables (Int.toNat x25_1) (0, 0)).1)), (8, ii ((List.getD a_Tables (Int.toNat x25_1) (0, 0)).2)), (23, s0 0 a_Tables.length), (24, ii x24_1), (25, ii x25_1), (34, ii ((List.getD a_Tables (Int.toNat x25_1) (0, 0)).1)), (37, ii (w64 (a_Sorters - 1)))] rfl (by kernel_rfl) ?_
    obtain ⟨r6, r6_h, h⟩ := bS h
    refine XR.call E0_ok [1, 4, 7, 8, 23, 24, 25, 38] rfl (K := 65) (args := [ii ((List.getD a_Tables (Int.toNat x25_1) (0, 0)).1), ii 0, ii (w64 (a_Sorters - 1))]) (d := (some (path 12 38))) (by kernel_rfl) (KC.of_calls E0_ok (F := Proofs.Tryd.f65) (v := .bool r6) (by kernel_rfl) rfl rfl (fun w hI => f65_ok m ((List.getD a_Tables (Int.toNat x25_1) (0, 0)).1) 0 (w64 (a_Sorters - 1)) r6 r6_h w hI)) ?_
    rintro _ _ _ ⟨rfl, rfl, rfl⟩
    refine XR.conv (σ' := [(1, pp 1 0), (4, s0 2 lh2_1.length), (7, ii ((List.getD a_Tables (Int.toNat x25_1) (0, 0)).1)), (8, ii ((List.getD a_Tables (Int.toNat x25_1) (0, 0)).2)), (23, s0 0 a_Tables.length), (24, ii x24_1), (25, ii x25_1), (38, .bool r6)]) (h' := [(3, .cells [ii ((List.getD a_Tables (Int.toNat x25_1) (0, 0)).1), ii ((List.getD a_Tables (Int.toNat x25_1) (0, 0)).2)] 0 55 0), (2, rc (encI .u64) lh2_1 0 117 1), (1, .cells [ii a_Sorters, s0 0 a_Tables.length] 0 34 0), (0, rc encP a_Tables z0 y0 2)]) (c' := 4) ?_ (by kernel_rfl)
    refine XR.runS E0_ok 1 2 [(1, pp 1 0), (4, s0 2 lh2_1.length), (7, ii ((List.getD a_Tables (Int.toNat x25_1) (0, 0)).1)), (8, ii ((List.getD a_Tables (Int.toNat x25_1) (0, 0)).2)), (23, s0 0 a_Tables.length), (24, ii x24_1), (25, ii x25_1), (40, .bool (!r6))] rfl (by kernel_rfl) ?_
    cases b3 : (!r6 : Bool) with
    | true =>
     have h := cT b3 h
     refine XR.runS E0_ok 1 8 [(1, pp 1 0), (4, s0 2 lh2_1.length), (7, ii ((List.getD a_Tables (Int.toNat x25_1) (0, 0)).1)), (8, ii ((List.getD a_Tables (Int.toNat x25_1) (0, 0)).2)), (23, s0 0 a_Tables.length), (24, ii x24_1), (25, ii x25_1), (33, .bool true)] rfl (by kernel_rfl) ?_
     refine XR.done (by kernel_rfl) ?_
     show XQ _ _ _ _ _ _ _ _
     refine XQ.cond (s := (.tmp 33)) (b := true) (by kernel_rfl) (by kernel_rfl) (fun _ => ?_) (fun q => by cases q)
     refine XQ.seq E0_ok (by kernel_rfl) ?_
     refine XQ.region (by kernel_rfl) ?_
     refine XR.runS E0_ok 1 2 [(2, .slice none 0 0), (3, ii 2)] rfl (by kernel_rfl) ?_
     refine XR.done (by kernel_rfl) ?_
     show XQ _ _ _ _ _ _ _ _
     refine XQ.ghost 117 1 rfl (σ' := [(2, s0 4 0), (3, ii 2)]) (h' := [(3, .cells [ii ((List.getD a_Tables (Int.toNat x25_1) (0, 0)).1), ii ((List.getD a_Tables (Int.toNat x25_1) (0, 0)).2)] 0 55 0), (2, rc (encI .u64) lh2_1 0 117 1), (1, .cells [ii a_Sorters, s0 0 a_Tables.length] 0 34 0), (0, rc encP a_Tables z0 y0 2)]) ⟨by kernel_rfl, by kernel_rfl, trivial⟩ ⟨⟨_, rfl, .inl rfl⟩, ⟨_, rfl, .inl rfl⟩, ⟨_, rfl, .inl rfl⟩, ⟨_, rfl, .inl rfl⟩, trivial⟩ ?_
     refine XQ.conv (σ' := [(2, s0 4 0), (3, ii 2)]) (h' := [(4, rc (encI .u64) [] 0 117 1), (3, .cells [ii ((List.getD a_Tables (Int.toNat x25_1) (0, 0)).1), ii ((List.getD a_Tables (Int.toNat x25_1) (0, 0)).2)] 0 55 0), (2, rc (encI .u64) lh2_1 0 117 1), (1, .cells [ii a_Sorters, s0 0 a_Tables.length] 0 34 0), (0, rc encP a_Tables z0 y0 2)]) (c' := 5) ?_ (by kernel_rfl)
     refine XQ.ren (σ' := [(2, s0 1 0), (3, ii 2)]) (h' := [(1, rc (encI .u64) [] 0 117 1), (0, rc encP a_Tables z0 y0 2)]) (c' := 2) [0, 4] (by decide) rfl ⟨by kernel_rfl, by kernel_rfl, trivial⟩ ⟨⟨_, _, rfl, rfl, .inl ⟨rfl, rowC_scal (encI_ok .u64) _⟩⟩, ⟨_, _, rfl, rfl, .inl ⟨rfl, rowC_scal encP_ok _⟩⟩, trivial⟩ rfl ?_
     refine XQ.ret (by kernel_rfl) ?_
     cases h
     exact hQ
    | false =>
     have h := cF b3 h
     refine XR.runS E0_ok 1 4 [(1, pp 1 0), (4, s0 2 lh2_1.length), (7, ii ((List.getD a_Tables (Int.toNat x25_1) (0, 0)).1)), (8, ii ((List.getD a_Tables (Int.toNat x25_1) (0, 0)).2)), (23, s0 0 a_Tables.length), (24, ii x24_1), (25, ii x25_1), (40, .bool false), (41, ii ((List.getD a_Tables (Int.toNat x25_1) (0, 0)).2)), (44, ii (w64 (a_Sorters - 1)))] rfl (by kernel_rfl) ?_
     obtain ⟨r7, r7_h, h⟩ := bS h
     refine XR.call E0_ok [1, 4, 7, 8, 23, 24, 25, 40, 45] rfl (K := 65) (args := [ii ((List.getD a_Tables (Int.toNat x25_1) (0, 0)).2), ii 0, ii (w64 (a_Sorters - 1))]) (d := (some (path 12 45))) (by kernel_rfl) (KC.of_calls E0_ok (F := Proofs.Tryd.f65) (v := .bool r7) (by kernel_rfl) rfl rfl (fun w hI => f65_ok m ((List.getD a_Tables (Int.toNat x25_1) (0, 0)).2) 0 (w64 (a_Sorters - 1)) r7 r7_h w hI)) ?_
     rintro _ _ _ ⟨rfl, rfl, rfl⟩
     refine XR.conv (σ' := [(1, pp 1 0), (4, s0 2 lh2_1.length), (7, ii ((List.getD a_Tables (Int.toNat x25_1) (0, 0)).1)), (8, ii ((List.getD a_Tables (Int.toNat x25_1) (0, 0)).2)), (23, s0 0 a_Tables.length), (24, ii x24_1), (25, ii x25_1), (40, .bool false), (45, .bool r7)]) (h' := [(3, .cells [ii ((List.getD a_Tables (Int.toNat x25_1) (0, 0)).1), ii ((List.getD a_Tables (Int.toNat x25_1) (0, 0)).2)] 0 55 0), (2, rc (encI .u64) lh2_1 0 117 1), (1, .cells [ii a_Sorters, s0 0 a_Tables.length] 0 34 0), (0, rc encP a_Tables z0 y0 2)]) (c' := 4) ?_ (by kernel_rfl)
     refine XR.runS E0_ok 1 3 [(1, pp 1 0), (4, s0 2 lh2_1.length), (7, ii ((List.getD a_Tables (Int.toNat x25_1) (0, 0)).1)), (8, ii ((List.getD a_Tables (Int.toNat x25_1) (0, 0)).2)), (23, s0 0 a_Tables.length), (24, ii x24_1), (25, ii x25_1), (33, .bool (!r7))] rfl (by kernel_rfl) ?_
     refine XR.done (by kernel_rfl) ?_
     show XQ _ _ _ _ _ _ _ _
     cases b4 : (!r7 : Bool) with
     | true =>
      have h := cT b4 h
      refine XQ.cond (s := (.tmp 33)) (b := true) (by kernel_rfl) (by kernel_rfl) (fun _ => ?_) (fun q => by cases q)
      refine XQ.seq E0_ok (by kernel_rfl) ?_
      refine XQ.region (by kernel_rfl) ?_
      refine XR.runS E0_ok 1 2 [(2, .slice none 0 0), (3, ii 2)] rfl (by kernel_rfl) ?_
      refine XR.done (by kernel_rfl) ?_
      show XQ _ _ _ _ _ _ _ _
      refine XQ.ghost 117 1 rfl (σ' := [(2, s0 4 0), (3, ii 2)]) (h' := [(3, .cells [ii ((List.getD a_Tables (Int.toNat x25_1) (0, 0)).1), ii ((List.getD a_Tables (Int.toNat x25_1) (0, 0)).2)] 0 55 0), (2, rc (encI .u64) lh2_1 0 117 1), (1, .cells [ii a_Sorters, s0 0 a_Tables.length] 0 34 0), (0, rc encP a_Tables z0 y0 2)]) ⟨by kernel_rfl, by kernel_rfl, trivial⟩ ⟨⟨_, rfl, .inl rfl⟩, ⟨_, rfl, .inl rfl⟩, ⟨_, rfl, .inl rfl⟩, ⟨_, rfl, .inl rfl⟩, trivial⟩ ?_
      refine XQ.conv (σ' := [(2, s0 4 0), (3, ii 2)]) (h' := [(4, rc (encI .u64) [] 0 117 1), (3, .cells [ii ((List.getD a_Tables (Int.toNat x25_1) (0, 0)).1), ii ((List.getD a_Tables (Int.toNat x25_1) (0, 0)).2)] 0 55 0), (2, rc (encI .u64) lh2_1 0 117 1), (1, .cells [ii a_Sorters, s0 0 a_Tables.length] 0 34 0), (0, rc encP a_Tables z0 y0 2)]) (c' := 5) ?_ (by kernel_rfl)
      refine XQ.ren (σ' := [(2, s0 1 0), (3, ii 2)]) (h' := [(1, rc (encI .u64) [] 0 117 1), (0, rc encP a_Tables z0 y0 2)]) (c' := 2) [0, 4] (by decide) rfl ⟨by kernel_rfl, by kernel_rfl, trivial⟩ ⟨⟨_, _, rfl, rfl, .inl ⟨rfl, rowC_scal (encI_ok .u64) _⟩⟩, ⟨_, _, rfl, rfl, .inl ⟨rfl, rowC_scal encP_ok _⟩⟩, trivial⟩ rfl ?_
      refine XQ.ret (by kernel_rfl) ?_
      cases h
      exact hQ
     | false =>
      have h := cF b4 h
      refine XQ.cond (s := (.tmp 33)) (b := false) (by kernel_rfl) (by kernel_rfl) (fun q => by cases q) (fun _ => ?_)
      refine XQ.seq E0_ok (by kernel_rfl) ?_
      refine XQ.region (by kernel_rfl) ?_
      refine XR.runS E0_ok 1 4 [(1, pp 1 0), (4, s0 2 lh2_1.length), (7, ii ((List.getD a_Tables (Int.toNat x25_1) (0, 0)).1)), (8, ii ((List.getD a_Tables (Int.toNat x25_1) (0, 0)).2)), (23, s0 0 a_Tables.length), (24, ii x24_1), (25, ii x25_1), (48, .bool (((List.getD a_Tables (Int.toNat x25_1) (0, 0)).1) == ((List.getD a_Tables (Int.toNat x25_1) (0, 0)).2)))] rfl (by kernel_rfl) ?_
      refine XR.done (by kernel_rfl) ?_
      show XQ _ _ _ _ _ _ _ _
      cases b5 : (((List.getD a_Tables (Int.toNat x25_1) (0, 0)).1) == ((List.getD a_Tables (Int.toNat x25_1) (0, 0)).2) : Bool) with
      | true =>
       have h := cT b5 h
       refine XQ.cond (s := (.tmp 48)) (b := true) (by kernel_rfl) (by kernel_rfl) (fun _ => ?_) (fun q => by cases q)
       refine XQ.seq E0_ok (by kernel_rfl) ?_
       refine XQ.region (by kernel_rfl) ?_
       refine XR.runS E0_ok 1 2 [(2, .slice none 0 0), (3, ii 13)] rfl (by kernel_rfl) ?_
       refine XR.done (by kernel_rfl) ?_
       show XQ _ _ _ _ _ _ _ _
       refine XQ.ghost 117 1 rfl (σ' := [(2, s0 4 0), (3, ii 13)]) (h' := [(3, .cells [ii ((List.getD a_Tables (Int.toNat x25_1) (0, 0)).1), ii ((List.getD a_Tables (Int.toNat x25_1) (0, 0)).2)] 0 55 0), (2, rc (encI .u64) lh2_1 0 117 1), (1, .cells [ii a_Sorters, s0 0 a_Tables.length] 0 34 0), (0, rc encP a_Tables z0 y0 2)]) ⟨by kernel_rfl, by kernel_rfl, trivial⟩ ⟨⟨_, rfl, .inl rfl⟩, ⟨_, rfl, .inl rfl⟩, ⟨_, rfl, .inl rfl⟩, ⟨_, rfl, .inl rfl⟩, trivial⟩ ?_
       refine XQ.conv (σ' := [(2, s0 4 0), (3, ii 13)]) (h' := [(4, rc (encI .u64) [] 0 117 1), (3, .cells [ii ((List.getD a_Tables (Int.toNat x25_1) (0, 0)).1), ii ((List.getD a_Tables (Int.toNat x25_1) (0, 0)).2)] 0 55 0), (2, rc (encI .u64) lh2_1 0 117 1), (1, .cells [ii a_Sorters, s0 0 a_Tables.length] 0 34 0), (0, rc encP a_Tables z0 y0 2)]) (c' := 5) ?_ (by kernel_rfl)
       refine XQ.ren (σ' := [(2, s0 1 0), (3, ii 13)]) (h' := [(1, rc (encI .u64) [] 0 117 1), (0, rc encP a_Tables z0 y0 2)]) (c' := 2) [0, 4] (by decide) rfl ⟨by kernel_rfl, by kernel_rfl, trivial⟩ ⟨⟨_, _, rfl, rfl, .inl ⟨rfl, rowC_scal (encI_ok .u64) _⟩⟩, ⟨_, _, rfl, rfl, .inl ⟨rfl, rowC_scal encP_ok _⟩⟩, trivial⟩ rfl ?_
       refine XQ.ret (by kernel_rfl) ?_
       cases h
       exact hQ
      | false =>
       have h := cF b5 h
       refine XQ.cond (s := (.tmp 48)) (b := false) (by kernel_rfl) (by kernel_rfl) (fun q => by cases q) (fun _ => ?_)
       refine XQ.seq E0_ok (by kernel_rfl) ?_
       refine XQ.region (by kernel_rfl) ?_
       refine XR.runS E0_ok 1 3 [(1, pp 1 0), (4, s0 2 lh2_1.length), (7, ii ((List.getD a_Tables (Int.toNat x25_1) (0, 0)).1)), (8, ii ((List.getD a_Tables (Int.toNat x25_1) (0, 0)).2)), (23, s0 0 a_Tables.length), (24, ii x24_1), (25, ii x25_1), (53, s0 2 lh2_1.length), (54, ii ((List.getD a_Tables (Int.toNat x25_1) (0, 0)).1)), (55, ii ((List.getD a_Tables (Int.toNat x25_1) (0, 0)).2))] rfl (by kernel_rfl) ?_
       refine XR.callK E0_ok [1, 4, 7, 8, 23, 24, 25, 56] rfl (K := 76) (args := [s0 2 lh2_1.length, ii ((List.getD a_Tables (Int.toNat x25_1) (0, 0)).1), ii ((List.getD a_Tables (Int.toNat x25_1) (0, 0)).2)]) (d := (some (path 12 56))) (by kernel_rfl) ?_
       refine KC.bodyN E0_ok (F := Proofs.Tryd.f76) (by kernel_rfl) (code := f74_C76) (by kernel_rfl) (nt := 15) (by kernel_rfl) (rs := [.tmp 6]) (by kernel_rfl) (by kernel_rfl) (σ := [(0, s0 2 lh2_1.length), (1, ii ((List.getD a_Tables (Int.toNat x25_1) (0, 0)).1)), (2, ii ((List.getD a_Tables (Int.toNat x25_1) (0, 0)).2))]) (by kernel_rfl) ?_
       refine XQ.seq E0_ok (by kernel_rfl) ?_
       refine XQ.region (by kernel_rfl) ?_
       refine XR.runS E0_ok 1 1 [(0, s0 2 lh2_1.length), (1, ii ((List.getD a_Tables (Int.toNat x25_1) (0, 0)).1)), (2, ii ((List.getD a_Tables (Int.toNat x25_1) (0, 0)).2))] rfl (by kernel_rfl) ?_
       refine XR.done (by kernel_rfl) ?_
       show XQ _ _ _ _ _ _ _ _
       refine XQ.seq E0_ok (by kernel_rfl) ?_
       refine XQ.region (by kernel_rfl) ?_
       refine XR.runS E0_ok 1 2 [(2, ii ((List.getD a_Tables (Int.toNat x25_1) (0, 0)).2)), (7, s0 2 lh2_1.length), (8, ii ((List.getD a_Tables (Int.toNat x25_1) (0, 0)).1))] rfl (by kernel_rfl) ?_
       cases b6 : (inRow ((List.getD a_Tables (Int.toNat x25_1) (0, 0)).1) lh2_1.length : Bool) with
       | false => cases (cF b6 h)
       | true =>
        have h := cT b6 h
        refine XR.rd E0_ok [2, 9] rfl (v := pp 2 ((Int.toNat ((List.getD a_Tables (Int.toNat x25_1) (0, 0)).1)) * 1)) (v_idx (s := 1) (x := (src 15 (.tmp 7))) (y := (src 15 (.tmp 8))) (b := 2) (o := 0) (len := lh2_1.length) (cap := lh2_1.length) (ik := .i64) (i := (List.getD a_Tables (Int.toNat x25_1) (0, 0)).1) (off := (Int.toNat ((List.getD a_Tables (Int.toNat x25_1) (0, 0)).1)) * 1) (d := (some (path 12 9))) (by kernel_rfl) (by kernel_rfl) (by kernel_rfl) b6 (by omega)) (σ' := [(2, ii ((List.getD a_Tables (Int.toNat x25_1) (0, 0)).2)), (9, pp 2 ((Int.toNat ((List.getD a_Tables (Int.toNat x25_1) (0, 0)).1)) * 1))]) (by kernel_rfl) ?_
        refine XR.rd E0_ok [2, 10] rfl (v := .int .u64 (List.getD lh2_1 (Int.toNat ((List.getD a_Tables (Int.toNat x25_1) (0, 0)).1)) 0)) (v_load1 (encI_ok .u64) (x := (src 15 (.tmp 9))) (b := 2) (off := (Int.toNat ((List.getD a_Tables (Int.toNat x25_1) (0, 0)).1)) * 1) (xs := lh2_1) (fz := 0) (e := 117) (es := 1) (d := (some (path 12 10))) (by kernel_rfl) (by kernel_rfl) (by kernel_rfl) (Int.toNat ((List.getD a_Tables (Int.toNat x25_1) (0, 0)).1)) 0 0 (by first | rfl | omega) (row_len (inRow_toNat b6) (by simp)) rfl rfl) (σ' := [(2, ii ((List.getD a_Tables (Int.toNat x25_1) (0, 0)).2)), (10, .int .u64 (List.getD lh2_1 (Int.toNat ((List.getD a_Tables (Int.toNat x25_1) (0, 0)).1)) 0))]) (by kernel_rfl) ?_
        refine XR.runS E0_ok 1 1 [(10, .int .u64 (List.getD lh2_1 (Int.toNat ((List.getD a_Tables (Int.toNat x25_1) (0, 0)).1)) 0)), (11, ii ((List.getD a_Tables (Int.toNat x25_1) (0, 0)).2))] rfl (by kernel_rfl) ?_
        cases b7 : (decide (0 ≤ (List.getD a_Tables (Int.toNat x25_1) (0, 0)).2) : Bool) with
        | false => cases (cF b7 h)
        | true =>
         have h := cT b7 h
         have e8 : insV (headI ((gsOf E0 15 (opsOf (lft (rgt f74_C76)))).drop 5) (trS 15 [(10, .int .u64 (List.getD lh2_1 (Int.toNat ((List.getD a_Tables (Int.toNat x25_1) (0, 0)).1)) 0)), (11, ii ((List.getD a_Tables (Int.toNat x25_1) (0, 0)).2))])) (trS 15 [(10, .int .u64 (List.getD lh2_1 (Int.toNat ((List.getD a_Tables (Int.toNat x25_1) (0, 0)).1)) 0)), (11, ii ((List.getD a_Tables (Int.toNat x25_1) (0, 0)).2))]) [(3, .cells [ii ((List.getD a_Tables (Int.toNat x25_1) (0, 0)).1), ii ((List.getD a_Tables (Int.toNat x25_1) (0, 0)).2)] 0 55 0), (2, rc (encI .u64) lh2_1 0 117 1), (1, .cells [ii a_Sorters, s0 0 a_Tables.length] 0 34 0), (0, rc encP a_Tables z0 y0 2)] = (match (decide (0 ≤ (List.getD a_Tables (Int.toNat x25_1) (0, 0)).2) : Bool) with | true => some (.int .u64 (shV false .u64 (List.getD lh2_1 (Int.toNat ((List.getD a_Tables (Int.toNat x25_1) (0, 0)).1)) 0) ((List.getD a_Tables (Int.toNat x25_1) (0, 0)).2))) | false => none) := by kernel_rfl
         refine XR.rd E0_ok [12] rfl (e8.trans (by rw [b7])) (σ' := [(12, .int .u64 (shV false .u64 (List.getD lh2_1 (Int.toNat ((List.getD a_Tables (Int.toNat x25_1) (0, 0)).1)) 0) ((List.getD a_Tables (Int.toNat x25_1) (0, 0)).2)))]) (by kernel_rfl) ?_
         refine XR.runS E0_ok 1 3 [(6, .bool ((andV .u64 (shV false .u64 (List.getD lh2_1 (Int.toNat ((List.getD a_Tables (Int.toNat x25_1) (0, 0)).1)) 0) ((List.getD a_Tables (Int.toNat x25_1) (0, 0)).2)) 1) == 1))] rfl (by kernel_rfl) ?_
         refine XR.done (by kernel_rfl) ?_
         show XQ _ _ _ _ _ _ _ _
         refine XQ.ret (by kernel_rfl) ?_
         refine ⟨fun i q => (by cases q), .bool ((andV .u64 (shV false .u64 (List.getD lh2_1 (Int.toNat ((List.getD a_Tables (Int.toNat x25_1) (0, 0)).1)) 0) ((List.getD a_Tables (Int.toNat x25_1) (0, 0)).2)) 1) == 1), (by kernel_rfl), ?_⟩
         refine XR.conv (σ' := [(1, pp 1 0), (4, s0 2 lh2_1.length), (7, ii ((List.getD a_Tables (Int.toNat x25_1) (0, 0)).1)), (8, ii ((List.getD a_Tables (Int.toNat x25_1) (0, 0)).2)), (23, s0 0 a_Tables.length), (24, ii x24_1), (25, ii x25_1), (56, .bool ((andV .u64 (shV false .u64 (List.getD lh2_1 (Int.toNat ((List.getD a_Tables (Int.toNat x25_1) (0, 0)).1)) 0) ((List.getD a_Tables (Int.toNat x25_1) (0, 0)).2)) 1) == 1))]) (h' := [(3, .cells [ii ((List.getD a_Tables (Int.toNat x25_1) (0, 0)).1), ii ((List.getD a_Tables (Int.toNat x25_1) (0, 0)).2)] 0 55 0), (2, rc (encI .u64) lh2_1 0 117 1), (1, .cells [ii a_Sorters, s0 0 a_Tables.length] 0 34 0), (0, rc encP a_Tables z0 y0 2)]) (c' := 4) ?_ (by kernel_rfl)
         refine XR.runS E0_ok 1 1 [(1, pp 1 0), (4, s0 2 lh2_1.length), (7, ii ((List.getD a_Tables (Int.toNat x25_1) (0, 0)).1)), (8, ii ((List.getD a_Tables (Int.toNat x25_1) (0, 0)).2)), (23, s0 0 a_Tables.length), (24, ii x24_1), (25, ii x25_1), (52, .bool ((andV .u64 (shV false .u64 (List.getD lh2_1 (Int.toNat ((List.getD a_Tables (Int.toNat x25_1) (0, 0)).1)) 0) ((List.getD a_Tables (Int.toNat x25_1) (0, 0)).2)) 1) == 1))] rfl (by kernel_rfl) ?_
         refine XR.done (by kernel_rfl) ?_
         show XQ _ _ _ _ _ _ _ _
         cases b9 : ((andV .u64 (shV false .u64 (List.getD lh2_1 (Int.toNat ((List.getD a_Tables (Int.toNat x25_1) (0, 0)).1)) 0) ((List.getD a_Tables (Int.toNat x25_1) (0, 0)).2)) 1) == 1 : Bool) with
         | true =>
          have h := cT b9 h
          refine XQ.cond (s := (.tmp 52)) (b := true) (by kernel_rfl) (by kernel_rfl) (fun _ => ?_) (fun q => by cases q)
          refine XQ.seq E0_ok (by kernel_rfl) ?_
          refine XQ.region (by kernel_rfl) ?_
          refine XR.runS E0_ok 1 2 [(2, .slice none 0 0), (3, ii 6)] rfl (by kernel_rfl) ?_
          refine XR.done (by kernel_rfl) ?_
          show XQ _ _ _ _ _ _ _ _
          refine XQ.ghost 117 1 rfl (σ' := [(2, s0 4 0), (3, ii 6)]) (h' := [(3, .cells [ii ((List.getD a_Tables (Int.toNat x25_1) (0, 0)).1), ii ((List.getD a_Tables (Int.toNat x25_1) (0, 0)).2)] 0 55 0), (2, rc (encI .u64) lh2_1 0 117 1), (1, .cells [ii a_Sorters, s0 0 a_Tables.length] 0 34 0), (0, rc encP a_Tables z0 y0 2)]) ⟨by kernel_rfl, by kernel_rfl, trivial⟩ ⟨⟨_, rfl, .inl rfl⟩, ⟨_, rfl, .inl rfl⟩, ⟨_, rfl, .inl rfl⟩, ⟨_, rfl, .inl rfl⟩, trivial⟩ ?_
          refine XQ.conv (σ' := [(2, s0 4 0), (3, ii 6)]) (h' := [(4, rc (encI .u64) [] 0 117 1), (3, .cells [ii ((List.getD a_Tables (Int.toNat x25_1) (0, 0)).1), ii ((List.getD a_Tables (Int.toNat x25_1) (0, 0)).2)] 0 55 0), (2, rc (encI .u64) lh2_1 0 117 1), (1, .cells [ii a_Sorters, s0 0 a_Tables.length] 0 34 0), (0, rc encP a_Tables z0 y0 2)]) (c' := 5) ?_ (by kernel_rfl)
          refine XQ.ren (σ' := [(2, s0 1 0), (3, ii 6)]) (h' := [(1, rc (encI .u64) [] 0 117 1), (0, rc encP a_Tables z0 y0 2)]) (c' := 2) [0, 4] (by decide) rfl ⟨by kernel_rfl, by kernel_rfl, trivial⟩ ⟨⟨_, _, rfl, rfl, .inl ⟨rfl, rowC_scal (encI_ok .u64) _⟩⟩, ⟨_, _, rfl, rfl, .inl ⟨rfl, rowC_scal encP_ok _⟩⟩, trivial⟩ rfl ?_
          refine XQ.ret (by kernel_rfl) ?_
          cases h
          exact hQ
         | false =>
          have h := cF b9 h
          refine XQ.cond (s := (.tmp 52)) (b := false) (by kernel_rfl) (by kernel_rfl) (fun q => by cases q) (fun _ => ?_)
          refine XQ.skip (by kernel_rfl) ?_
          show XQ _ _ _ _ _ _ _ _
          refine XQ.region (by kernel_rfl) ?_
          refine XR.runS E0_ok 1 3 [(1, pp 1 0), (4, s0 2 lh2_1.length), (23, s0 0 a_Tables.length), (24, ii x24_1), (25, ii x25_1), (57, s0 2 lh2_1.length), (58, ii ((List.getD a_Tables (Int.toNat x25_1) (0, 0)).1)), (59, ii ((List.getD a_Tables (Int.toNat x25_1) (0, 0)).2))] rfl (by kernel_rfl) ?_
          refine XR.callK E0_ok [1, 4, 23, 24, 25] rfl (K := 77) (args := [s0 2 lh2_1.length, ii ((List.getD a_Tables (Int.toNat x25_1) (0, 0)).1), ii ((List.getD a_Tables (Int.toNat x25_1) (0, 0)).2)]) (d := (some (path 12 60))) (by kernel_rfl) ?_
          refine KC.bodyN E0_ok (F := Proofs.Tryd.f77) (by kernel_rfl) (code := f74_C77) (by kernel_rfl) (nt := 22) (by kernel_rfl) (rs := []) (by kernel_rfl) (by kernel_rfl) (σ := [(0, s0 2 lh2_1.length), (1, ii ((List.getD a_Tables (Int.toNat x25_1) (0, 0)).1)), (2, ii ((List.getD a_Tables (Int.toNat x25_1) (0, 0)).2))]) (by kernel_rfl) ?_
          refine XQ.seq E0_ok (by kernel_rfl) ?_
          refine XQ.tail E0_ok 8 (by kernel_rfl) (by kernel_rfl) ?_
          refine XS.step E0_ok 2 rfl [0, 1, 2, 6, 7] rfl (σ' := [(0, s0 2 lh2_1.length), (1, ii ((List.getD a_Tables (Int.toNat x25_1) (0, 0)).1)), (2, ii ((List.getD a_Tables (Int.toNat x25_1) (0, 0)).2)), (6, s0 2 lh2_1.length), (7, ii ((List.getD a_Tables (Int.toNat x25_1) (0, 0)).1))]) (by kernel_rfl) ?_
          refine XS.rd E0_ok rfl [0, 1, 2, 6, 7, 8] rfl (v := pp 2 ((Int.toNat ((List.getD a_Tables (Int.toNat x25_1) (0, 0)).1)) * 1)) (v_idx (s := 1) (x := (src 22 (.tmp 6))) (y := (src 22 (.tmp 7))) (b := 2) (o := 0) (len := lh2_1.length) (cap := lh2_1.length) (ik := .i64) (i := (List.getD a_Tables (Int.toNat x25_1) (0, 0)).1) (off := (Int.toNat ((List.getD a_Tables (Int.toNat x25_1) (0, 0)).1)) * 1) (d := (some (path 12 8))) (by kernel_rfl) (by kernel_rfl) (by kernel_rfl) b6 (by omega)) (σ' := [(0, s0 2 lh2_1.length), (1, ii ((List.getD a_Tables (Int.toNat x25_1) (0, 0)).1)), (2, ii ((List.getD a_Tables (Int.toNat x25_1) (0, 0)).2)), (6, s0 2 lh2_1.length), (7, ii ((List.getD a_Tables (Int.toNat x25_1) (0, 0)).1)), (8, pp 2 ((Int.toNat ((List.getD a_Tables (Int.toNat x25_1) (0, 0)).1)) * 1))]) (by kernel_rfl) ?_
          refine XS.rd E0_ok rfl [0, 1, 2, 6, 7, 9] rfl (v := .int .u64 (List.getD lh2_1 (Int.toNat ((List.getD a_Tables (Int.toNat x25_1) (0, 0)).1)) 0)) (v_load1 (encI_ok .u64) (x := (src 22 (.tmp 8))) (b := 2) (off := (Int.toNat ((List.getD a_Tables (Int.toNat x25_1) (0, 0)).1)) * 1) (xs := lh2_1) (fz := 0) (e := 117) (es := 1) (d := (some (path 12 9))) (by kernel_rfl) (by kernel_rfl) (by kernel_rfl) (Int.toNat ((List.getD a_Tables (Int.toNat x25_1) (0, 0)).1)) 0 0 (by first | rfl | omega) (row_len (inRow_toNat b6) (by simp)) rfl rfl) (σ' := [(0, s0 2 lh2_1.length), (1, ii ((List.getD a_Tables (Int.toNat x25_1) (0, 0)).1)), (2, ii ((List.getD a_Tables (Int.toNat x25_1) (0, 0)).2)), (6, s0 2 lh2_1.length), (7, ii ((List.getD a_Tables (Int.toNat x25_1) (0, 0)).1)), (9, .int .u64 (List.getD lh2_1 (Int.toNat ((List.getD a_Tables (Int.toNat x25_1) (0, 0)).1)) 0))]) (by kernel_rfl) ?_
          refine XS.step E0_ok 1 rfl [0, 1, 2, 6, 7, 9, 10] rfl (σ' := [(0, s0 2 lh2_1.length), (1, ii ((List.getD a_Tables (Int.toNat x25_1) (0, 0)).1)), (2, ii ((List.getD a_Tables (Int.toNat x25_1) (0, 0)).2)), (6, s0 2 lh2_1.length), (7, ii ((List.getD a_Tables (Int.toNat x25_1) (0, 0)).1)), (9, .int .u64 (List.getD lh2_1 (Int.toNat ((List.getD a_Tables (Int.toNat x25_1) (0, 0)).1)) 0)), (10, ii ((List.getD a_Tables (Int.toNat x25_1) (0, 0)).2))]) (by kernel_rfl) ?_
          have e10 : insV (headI ((gsOf E0 22 (opsOf (lft f74_C77))).drop 5) (trS 22 [(0, s0 2 lh2_1.length), (1, ii ((List.getD a_Tables (Int.toNat x25_1) (0, 0)).1)), (2, ii ((List.getD a_Tables (Int.toNat x25_1) (0, 0)).2)), (6, s0 2 lh2_1.length), (7, ii ((List.getD a_Tables (Int.toNat x25_1) (0, 0)).1)), (9, .int .u64 (List.getD lh2_1 (Int.toNat ((List.getD a_Tables (Int.toNat x25_1) (0, 0)).1)) 0)), (10, ii ((List.getD a_Tables (Int.toNat x25_1) (0, 0)).2))])) (trS 22 [(0, s0 2 lh2_1.length), (1, ii ((List.getD a_Tables (Int.toNat x25_1) (0, 0)).1)), (2, ii ((List.getD a_Tables (Int.toNat x25_1) (0, 0)).2)), (6, s0 2 lh2_1.length), (7, ii ((List.getD a_Tables (Int.toNat x25_1) (0, 0)).1)), (9, .int .u64 (List.getD lh2_1 (Int.toNat ((List.getD a_Tables (Int.toNat x25_1) (0, 0)).1)) 0)), (10, ii ((List.getD a_Tables (Int.toNat x25_1) (0, 0)).2))]) [(3, .cells [ii ((List.getD a_Tables (Int.toNat x25_1) (0, 0)).1), ii ((List.getD a_Tables (Int.toNat x25_1) (0, 0)).2)] 0 55 0), (2, rc (encI .u64) lh2_1 0 117 1), (1, .cells [ii a_Sorters, s0 0 a_Tables.length] 0 34 0), (0, rc encP a_Tables z0 y0 2)] = (match (decide (0 ≤ (List.getD a_Tables (Int.toNat x25_1) (0, 0)).2) : Bool) with | true => some (.int .u64 (shV true .u64 1 ((List.getD a_Tables (Int.toNat x25_1) (0, 0)).2))) | false => none) := by kernel_rfl
          refine XS.rd E0_ok rfl [0, 1, 2, 6, 7, 9, 11] rfl (e10.trans (by rw [b7])) (σ' := [(0, s0 2 lh2_1.length), (1, ii ((List.getD a_Tables (Int.toNat x25_1) (0, 0)).1)), (2, ii ((List.getD a_Tables (Int.toNat x25_1) (0, 0)).2)), (6, s0 2 lh2_1.length), (7, ii ((List.getD a_Tables (Int.toNat x25_1) (0, 0)).1)), (9, .int .u64 (List.getD lh2_1 (Int.toNat ((List.getD a_Tables (Int.toNat x25_1) (0, 0)).1)) 0)), (11, .int .u64 (shV true .u64 1 ((List.getD a_Tables (Int.toNat x25_1) (0, 0)).2)))]) (by kernel_rfl) ?_
          refine XS.step E0_ok 1 rfl [0, 1, 2, 6, 7, 12] rfl (σ' := [(0, s0 2 lh2_1.length), (1, ii ((List.getD a_Tables (Int.toNat x25_1) (0, 0)).1)), (2, ii ((List.getD a_Tables (Int.toNat x25_1) (0, 0)).2)), (6, s0 2 lh2_1.length), (7, ii ((List.getD a_Tables (Int.toNat x25_1) (0, 0)).1)), (12, .int .u64 (xorV .u64 (List.getD lh2_1 (Int.toNat ((List.getD a_Tables (Int.toNat x25_1) (0, 0)).1)) 0) (shV true .u64 1 ((List.getD a_Tables (Int.toNat x25_1) (0, 0)).2))))]) (by kernel_rfl) ?_
          refine XS.rd E0_ok rfl [0, 1, 2, 12, 13] rfl (v := pp 2 ((Int.toNat ((List.getD a_Tables (Int.toNat x25_1) (0, 0)).1)) * 1)) (v_idx (s := 1) (x := (src 22 (.tmp 6))) (y := (src 22 (.tmp 7))) (b := 2) (o := 0) (len := lh2_1.length) (cap := lh2_1.length) (ik := .i64) (i := (List.getD a_Tables (Int.toNat x25_1) (0, 0)).1) (off := (Int.toNat ((List.getD a_Tables (Int.toNat x25_1) (0, 0)).1)) * 1) (d := (some (path 12 13))) (by kernel_rfl) (by kernel_rfl) (by kernel_rfl) b6 (by omega)) (σ' := [(0, s0 2 lh2_1.length), (1, ii ((List.getD a_Tables (Int.toNat x25_1) (0, 0)).1)), (2, ii ((List.getD a_Tables (Int.toNat x25_1) (0, 0)).2)), (12, .int .u64 (xorV .u64 (List.getD lh2_1 (Int.toNat ((List.getD a_Tables (Int.toNat x25_1) (0, 0)).1)) 0) (shV true .u64 1 ((List.getD a_Tables (Int.toNat x25_1) (0, 0)).2)))), (13, pp 2 ((Int.toNat ((List.getD a_Tables (Int.toNat x25_1) (0, 0)).1)) * 1))]) (by kernel_rfl) ?_
          refine XS.done (by kernel_rfl) ?_
          refine XR.ef E0_ok [0, 1, 2] rfl (e_store (encI_ok .u64) (size := 1) (x := (src 22 (.tmp 13))) (y := (src 22 (.tmp 12))) (b := 2) (off := (Int.toNat ((List.getD a_Tables (Int.toNat x25_1) (0, 0)).1)) * 1) (xs := lh2_1) (e := 117) (es := 1) (d := none) (h' := [(3, .cells [ii ((List.getD a_Tables (Int.toNat x25_1) (0, 0)).1), ii ((List.getD a_Tables (Int.toNat x25_1) (0, 0)).2)] 0 55 0), (2, rc (encI .u64) (List.set lh2_1 (Int.toNat ((List.getD a_Tables (Int.toNat x25_1) (0, 0)).1)) (xorV .u64 (List.getD lh2_1 (Int.toNat ((List.getD a_Tables (Int.toNat x25_1) (0, 0)).1)) 0) (shV true .u64 1 ((List.getD a_Tables (Int.toNat x25_1) (0, 0)).2)))) 0 117 1), (1, .cells [ii a_Sorters, s0 0 a_Tables.length] 0 34 0), (0, rc encP a_Tables z0 y0 2)]) (w := .int .u64 (xorV .u64 (List.getD lh2_1 (Int.toNat ((List.getD a_Tables (Int.toNat x25_1) (0, 0)).1)) 0) (shV true .u64 1 ((List.getD a_Tables (Int.toNat x25_1) (0, 0)).2)))) (ws := [.int .u64 (xorV .u64 (List.getD lh2_1 (Int.toNat ((List.getD a_Tables (Int.toNat x25_1) (0, 0)).1)) 0) (shV true .u64 1 ((List.getD a_Tables (Int.toNat x25_1) (0, 0)).2)))]) (a := xorV .u64 (List.getD lh2_1 (Int.toNat ((List.getD a_Tables (Int.toNat x25_1) (0, 0)).1)) 0) (shV true .u64 1 ((List.getD a_Tables (Int.toNat x25_1) (0, 0)).2))) (by kernel_rfl) (by kernel_rfl) (by kernel_rfl) (Int.toNat ((List.getD a_Tables (Int.toNat x25_1) (0, 0)).1)) 0 0 (by first | rfl | omega) (row_len (inRow_toNat b6) (by simp)) (by kernel_rfl) rfl rfl rfl rfl rfl (by kernel_rfl)) (σ' := [(0, s0 2 lh2_1.length), (1, ii ((List.getD a_Tables (Int.toNat x25_1) (0, 0)).1)), (2, ii ((List.getD a_Tables (Int.toNat x25_1) (0, 0)).2))]) (by kernel_rfl) ?_
          refine XR.done (by kernel_rfl) ?_
          show XQ _ _ _ _ _ _ _ _
          refine XQ.tail E0_ok 8 (by kernel_rfl) (by kernel_rfl) ?_
          refine XS.step E0_ok 2 rfl [1, 14, 15] rfl (σ' := [(1, ii ((List.getD a_Tables (Int.toNat x25_1) (0, 0)).1)), (14, s0 2 lh2_1.length), (15, ii ((List.getD a_Tables (Int.toNat x25_1) (0, 0)).2))]) (by kernel_rfl) ?_
          cases b11 : (inRow ((List.getD a_Tables (Int.toNat x25_1) (0, 0)).2) lh2_1.length : Bool) with
          | false => cases (cF b11 h)
          | true =>
           have h := cT b11 h
           refine XS.rd E0_ok rfl [1, 14, 15, 16] rfl (v := pp 2 ((Int.toNat ((List.getD a_Tables (Int.toNat x25_1) (0, 0)).2)) * 1)) (v_idx (s := 1) (x := (src 22 (.tmp 14))) (y := (src 22 (.tmp 15))) (b := 2) (o := 0) (len := lh2_1.length) (cap := lh2_1.length) (ik := .i64) (i := (List.getD a_Tables (Int.toNat x25_1) (0, 0)).2) (off := (Int.toNat ((List.getD a_Tables (Int.toNat x25_1) (0, 0)).2)) * 1) (d := (some (path 12 16))) (by kernel_rfl) (by kernel_rfl) (by kernel_rfl) b11 (by omega)) (σ' := [(1, ii ((List.getD a_Tables (Int.toNat x25_1) (0, 0)).1)), (14, s0 2 lh2_1.length), (15, ii ((List.getD a_Tables (Int.toNat x25_1) (0, 0)).2)), (16, pp 2 ((Int.toNat ((List.getD a_Tables (Int.toNat x25_1) (0, 0)).2)) * 1))]) (by kernel_rfl) ?_
           refine XS.rd E0_ok rfl [1, 14, 15, 17] rfl (v := .int .u64 (List.getD (List.set lh2_1 (Int.toNat ((List.getD a_Tables (Int.toNat x25_1) (0, 0)).1)) (xorV .u64 (List.getD lh2_1 (Int.toNat ((List.getD a_Tables (Int.toNat x25_1) (0, 0)).1)) 0) (shV true .u64 1 ((List.getD a_Tables (Int.toNat x25_1) (0, 0)).2)))) (Int.toNat ((List.getD a_Tables (Int.toNat x25_1) (0, 0)).2)) 0)) (v_load1 (encI_ok .u64) (x := (src 22 (.tmp 16))) (b := 2) (off := (Int.toNat ((List.getD a_Tables (Int.toNat x25_1) (0, 0)).2)) * 1) (xs := List.set lh2_1 (Int.toNat ((List.getD a_Tables (Int.toNat x25_1) (0, 0)).1)) (xorV .u64 (List.getD lh2_1 (Int.toNat ((List.getD a_Tables (Int.toNat x25_1) (0, 0)).1)) 0) (shV true .u64 1 ((List.getD a_Tables (Int.toNat x25_1) (0, 0)).2)))) (fz := 0) (e := 117) (es := 1) (d := (some (path 12 17))) (by kernel_rfl) (by kernel_rfl) (by kernel_rfl) (Int.toNat ((List.getD a_Tables (Int.toNat x25_1) (0, 0)).2)) 0 0 (by first | rfl | omega) (row_len (inRow_toNat b11) (by simp)) rfl rfl) (σ' := [(1, ii ((List.getD a_Tables (Int.toNat x25_1) (0, 0)).1)), (14, s0 2 lh2_1.length), (15, ii ((List.getD a_Tables (Int.toNat x25_1) (0, 0)).2)), (17, .int .u64 (List.getD (List.set lh2_1 (Int.toNat ((List.getD a_Tables (Int.toNat x25_1) (0, 0)).1)) (xorV .u64 (List.getD lh2_1 (Int.toNat ((List.getD a_Tables (Int.toNat x25_1) (0, 0)).1)) 0) (shV true .u64 1 ((List.getD a_Tables (Int.toNat x25_1) (0, 0)).2)))) (Int.toNat ((List.getD a_Tables (Int.toNat x25_1) (0, 0)).2)) 0))]) (by kernel_rfl) ?_
           refine XS.step E0_ok 1 rfl [14, 15, 17, 18] rfl (σ' := [(14, s0 2 lh2_1.length), (15, ii ((List.getD a_Tables (Int.toNat x25_1) (0, 0)).2)), (17, .int .u64 (List.getD (List.set lh2_1 (Int.toNat ((List.getD a_Tables (Int.toNat x25_1) (0, 0)).1)) (xorV .u64 (List.getD lh2_1 (Int.toNat ((List.getD a_Tables (Int.toNat x25_1) (0, 0)).1)) 0) (shV true .u64 1 ((List.getD a_Tables (Int.toNat x25_1) (0, 0)).2)))) (Int.toNat ((List.getD a_Tables (Int.toNat x25_1) (0, 0)).2)) 0)), (18, ii ((List.getD a_Tables (Int.toNat x25_1) (0, 0)).1))]) (by kernel_rfl) ?_
           cases b12 : (decide (0 ≤ (List.getD a_Tables (Int.toNat x25_1) (0, 0)).1) : Bool) with
           | false => cases (cF b12 h)
           | true =>
            have h := cT b12 h
            have e13 : insV (headI ((gsOf E0 22 (opsOf (rgt f74_C77))).drop 5) (trS 22 [(14, s0 2 lh2_1.length), (15, ii ((List.getD a_Tables (Int.toNat x25_1) (0, 0)).2)), (17, .int .u64 (List.getD (List.set lh2_1 (Int.toNat ((List.getD a_Tables (Int.toNat x25_1) (0, 0)).1)) (xorV .u64 (List.getD lh2_1 (Int.toNat ((List.getD a_Tables (Int.toNat x25_1) (0, 0)).1)) 0) (shV true .u64 1 ((List.getD a_Tables (Int.toNat x25_1) (0, 0)).2)))) (Int.toNat ((List.getD a_Tables (Int.toNat x25_1) (0, 0)).2)) 0)), (18, ii ((List.getD a_Tables (Int.toNat x25_1) (0, 0)).1))])) (trS 22 [(14, s0 2 lh2_1.length), (15, ii ((List.getD a_Tables (Int.toNat x25_1) (0, 0)).2)), (17, .int .u64 (List.getD (List.set lh2_1 (Int.toNat ((List.getD a_Tables (Int.toNat x25_1) (0, 0)).1)) (xorV .u64 (List.getD lh2_1 (Int.toNat ((List.getD a_Tables (Int.toNat x25_1) (0, 0)).1)) 0) (shV true .u64 1 ((List.getD a_Tables (Int.toNat x25_1) (0, 0)).2)))) (Int.toNat ((List.getD a_Tables (Int.toNat x25_1) (0, 0)).2)) 0)), (18, ii ((List.getD a_Tables (Int.toNat x25_1) (0, 0)).1))]) [(3, .cells [ii ((List.getD a_Tables (Int.toNat x25_1) (0, 0)).1), ii ((List.getD a_Tables (Int.toNat x25_1) (0, 0)).2)] 0 55 0), (2, rc (encI .u64) (List.set lh2_1 (Int.toNat ((List.getD a_Tables (Int.toNat x25_1) (0, 0)).1)) (xorV .u64 (List.getD lh2_1 (Int.toNat ((List.getD a_Tables (Int.toNat x25_1) (0, 0)).1)) 0) (shV true .u64 1 ((List.getD a_Tables (Int.toNat x25_1) (0, 0)).2)))) 0 117 1), (1, .cells [ii a_Sorters, s0 0 a_Tables.length] 0 34 0), (0, rc encP a_Tables z0 y0 2)] = (match (decide (0 ≤ (List.getD a_Tables (Int.toNat x25_1) (0, 0)).1) : Bool) with | true => some (.int .u64 (shV true .u64 1 ((List.getD a_Tables (Int.toNat x25_1) (0, 0)).1))) | false => none) := by kernel_rfl
            refine XS.rd E0_ok rfl [14, 15, 17, 19] rfl (e13.trans (by rw [b12])) (σ' := [(14, s0 2 lh2_1.length), (15, ii ((List.getD a_Tables (Int.toNat x25_1) (0, 0)).2)), (17, .int .u64 (List.getD (List.set lh2_1 (Int.toNat ((List.getD a_Tables (Int.toNat x25_1) (0, 0)).1)) (xorV .u64 (List.getD lh2_1 (Int.toNat ((List.getD a_Tables (Int.toNat x25_1) (0, 0)).1)) 0) (shV true .u64 1 ((List.getD a_Tables (Int.toNat x25_1) (0, 0)).2)))) (Int.toNat ((List.getD a_Tables (Int.toNat x25_1) (0, 0)).2)) 0)), (19, .int .u64 (shV true .u64 1 ((List.getD a_Tables (Int.toNat x25_1) (0, 0)).1)))]) (by kernel_rfl) ?_
            refine XS.step E0_ok 1 rfl [14, 15, 20] rfl (σ' := [(14, s0 2 lh2_1.length), (15, ii ((List.getD a_Tables (Int.toNat x25_1) (0, 0)).2)), (20, .int .u64 (xorV .u64 (List.getD (List.set lh2_1 (Int.toNat ((List.getD a_Tables (Int.toNat x25_1) (0, 0)).1)) (xorV .u64 (List.getD lh2_1 (Int.toNat ((List.getD a_Tables (Int.toNat x25_1) (0, 0)).1)) 0) (shV true .u64 1 ((List.getD a_Tables (Int.toNat x25_1) (0, 0)).2)))) (Int.toNat ((List.getD a_Tables (Int.toNat x25_1) (0, 0)).2)) 0) (shV true .u64 1 ((List.getD a_Tables (Int.toNat x25_1) (0, 0)).1))))]) (by kernel_rfl) ?_
            refine XS.rd E0_ok rfl [20, 21] rfl (v := pp 2 ((Int.toNat ((List.getD a_Tables (Int.toNat x25_1) (0, 0)).2)) * 1)) (v_idx (s := 1) (x := (src 22 (.tmp 14))) (y := (src 22 (.tmp 15))) (b := 2) (o := 0) (len := lh2_1.length) (cap := lh2_1.length) (ik := .i64) (i := (List.getD a_Tables (Int.toNat x25_1) (0, 0)).2) (off := (Int.toNat ((List.getD a_Tables (Int.toNat x25_1) (0, 0)).2)) * 1) (d := (some (path 12 21))) (by kernel_rfl) (by kernel_rfl) (by kernel_rfl) b11 (by omega)) (σ' := [(20, .int .u64 (xorV .u64 (List.getD (List.set lh2_1 (Int.toNat ((List.getD a_Tables (Int.toNat x25_1) (0, 0)).1)) (xorV .u64 (List.getD lh2_1 (Int.toNat ((List.getD a_Tables (Int.toNat x25_1) (0, 0)).1)) 0) (shV true .u64 1 ((List.getD a_Tables (Int.toNat x25_1) (0, 0)).2)))) (Int.toNat ((List.getD a_Tables (Int.toNat x25_1) (0, 0)).2)) 0) (shV true .u64 1 ((List.getD a_Tables (Int.toNat x25_1) (0, 0)).1)))), (21, pp 2 ((Int.toNat ((List.getD a_Tables (Int.toNat x25_1) (0, 0)).2)) * 1))]) (by kernel_rfl) ?_
            refine XS.done (by kernel_rfl) ?_
            refine XR.ef E0_ok [] rfl (e_store (encI_ok .u64) (size := 1) (x := (src 22 (.tmp 21))) (y := (src 22 (.tmp 20))) (b := 2) (off := (Int.toNat ((List.getD a_Tables (Int.toNat x25_1) (0, 0)).2)) * 1) (xs := List.set lh2_1 (Int.toNat ((List.getD a_Tables (Int.toNat x25_1) (0, 0)).1)) (xorV .u64 (List.getD lh2_1 (Int.toNat ((List.getD a_Tables (Int.toNat x25_1) (0, 0)).1)) 0) (shV true .u64 1 ((List.getD a_Tables (Int.toNat x25_1) (0, 0)).2)))) (e := 117) (es := 1) (d := none) (h' := [(3, .cells [ii ((List.getD a_Tables (Int.toNat x25_1) (0, 0)).1), ii ((List.getD a_Tables (Int.toNat x25_1) (0, 0)).2)] 0 55 0), (2, rc (encI .u64) (List.set (List.set lh2_1 (Int.toNat ((List.getD a_Tables (Int.toNat x25_1) (0, 0)).1)) (xorV .u64 (List.getD lh2_1 (Int.toNat ((List.getD a_Tables (Int.toNat x25_1) (0, 0)).1)) 0) (shV true .u64 1 ((List.getD a_Tables (Int.toNat x25_1) (0, 0)).2)))) (Int.toNat ((List.getD a_Tables (Int.toNat x25_1) (0, 0)).2)) (xorV .u64 (List.getD (List.set lh2_1 (Int.toNat ((List.getD a_Tables (Int.toNat x25_1) (0, 0)).1)) (xorV .u64 (List.getD lh2_1 (Int.toNat ((List.getD a_Tables (Int.toNat x25_1) (0, 0)).1)) 0) (shV true .u64 1 ((List.getD a_Tables (Int.toNat x25_1) (0, 0)).2)))) (Int.toNat ((List.getD a_Tables (Int.toNat x25_1) (0, 0)).2)) 0) (shV true .u64 1 ((List.getD a_Tables (Int.toNat x25_1) (0, 0)).1)))) 0 117 1), (1, .cells [ii a_Sorters, s0 0 a_Tables.length] 0 34 0), (0, rc encP a_Tables z0 y0 2)]) (w := .int .u64 (xorV .u64 (List.getD (List.set lh2_1 (Int.toNat ((List.getD a_Tables (Int.toNat x25_1) (0, 0)).1)) (xorV .u64 (List.getD lh2_1 (Int.toNat ((List.getD a_Tables (Int.toNat x25_1) (0, 0)).1)) 0) (shV true .u64 1 ((List.getD a_Tables (Int.toNat x25_1) (0, 0)).2)))) (Int.toNat ((List.getD a_Tables (Int.toNat x25_1) (0, 0)).2)) 0) (shV true .u64 1 ((List.getD a_Tables (Int.toNat x25_1) (0, 0)).1)))) (ws := [.int .u64 (xorV .u64 (List.getD (List.set lh2_1 (Int.toNat ((List.getD a_Tables (Int.toNat x25_1) (0, 0)).1)) (xorV .u64 (List.getD lh2_1 (Int.toNat ((List.getD a_Tables (Int.toNat x25_1) (0, 0)).1)) 0) (shV true .u64 1 ((List.getD a_Tables (Int.toNat x25_1) (0, 0)).2)))) (Int.toNat ((List.getD a_Tables (Int.toNat x25_1) (0, 0)).2)) 0) (shV true .u64 1 ((List.getD a_Tables (Int.toNat x25_1) (0, 0)).1)))]) (a := xorV .u64 (List.getD (List.set lh2_1 (Int.toNat ((List.getD a_Tables (Int.toNat x25_1) (0, 0)).1)) (xorV .u64 (List.getD lh2_1 (Int.toNat ((List.getD a_Tables (Int.toNat x25_1) (0, 0)).1)) 0) (shV true .u64 1 ((List.getD a_Tables (Int.toNat x25_1) (0, 0)).2)))) (Int.toNat ((List.getD a_Tables (Int.toNat x25_1) (0, 0)).2)) 0) (shV true .u64 1 ((List.getD a_Tables (Int.toNat x25_1) (0, 0)).1))) (by kernel_rfl) (by kernel_rfl) (by kernel_rfl) (Int.toNat ((List.getD a_Tables (Int.toNat x25_1) (0, 0)).2)) 0 0 (by first | rfl | omega) (row_len (inRow_toNat b11) (by simp)) (by kernel_rfl) rfl rfl rfl rfl rfl (by kernel_rfl)) (σ' := []) (by kernel_rfl) ?_
            refine XR.done (by kernel_rfl) ?_
            refine ⟨fun i q => (by cases q), .tuple #[], (by kernel_rfl), ?_⟩
            refine XR.conv (σ' := [(1, pp 1 0), (4, s0 2 lh2_1.length), (23, s0 0 a_Tables.length), (24, ii x24_1), (25, ii x25_1)]) (h' := [(3, .cells [ii ((List.getD a_Tables (Int.toNat x25_1) (0, 0)).1), ii ((List.getD a_Tables (Int.toNat x25_1) (0, 0)).2)] 0 55 0), (2, rc (encI .u64) (List.set (List.set lh2_1 (Int.toNat ((List.getD a_Tables (Int.toNat x25_1) (0, 0)).1)) (xorV .u64 (List.getD lh2_1 (Int.toNat ((List.getD a_Tables (Int.toNat x25_1) (0, 0)).1)) 0) (shV true .u64 1 ((List.getD a_Tables (Int.toNat x25_1) (0, 0)).2)))) (Int.toNat ((List.getD a_Tables (Int.toNat x25_1) (0, 0)).2)) (xorV .u64 (List.getD (List.set lh2_1 (Int.toNat ((List.getD a_Tables (Int.toNat x25_1) (0, 0)).1)) (xorV .u64 (List.getD lh2_1 (Int.toNat ((List.getD a_Tables (Int.toNat x25_1) (0, 0)).1)) 0) (shV true .u64 1 ((List.getD a_Tables (Int.toNat x25_1) (0, 0)).2)))) (Int.toNat ((List.getD a_Tables (Int.toNat x25_1) (0, 0)).2)) 0) (shV true .u64 1 ((List.getD a_Tables (Int.toNat x25_1) (0, 0)).1)))) 0 117 1), (1, .cells [ii a_Sorters, s0 0 a_Tables.length] 0 34 0), (0, rc encP a_Tables z0 y0 2)]) (c' := 4) ?_ (by kernel_rfl)
            refine XR.done (by kernel_rfl) ?_
            show XQ _ _ _ _ _ _ _ _
            refine XQ.region (by kernel_rfl) ?_
            refine XR.runS E0_ok 1 2 [(1, pp 1 0), (4, s0 2 lh2_1.length), (23, s0 0 a_Tables.length), (24, ii x24_1), (25, ii (w64 (x25_1 + 1)))] rfl (by kernel_rfl) ?_
            refine XR.done (by kernel_rfl) ?_
            show XL _ _ _ _ _ _ _ _ _
            refine XL.ren (σ' := [(1, pp 1 0), (4, s0 2 lh2_1.length), (23, s0 0 a_Tables.length), (24, ii x24_1), (25, ii (w64 (x25_1 + 1)))]) (h' := [(2, rc (encI .u64) (List.set (List.set lh2_1 (Int.toNat ((List.getD a_Tables (Int.toNat x25_1) (0, 0)).1)) (xorV .u64 (List.getD lh2_1 (Int.toNat ((List.getD a_Tables (Int.toNat x25_1) (0, 0)).1)) 0) (shV true .u64 1 ((List.getD a_Tables (Int.toNat x25_1) (0, 0)).2)))) (Int.toNat ((List.getD a_Tables (Int.toNat x25_1) (0, 0)).2)) (xorV .u64 (List.getD (List.set lh2_1 (Int.toNat ((List.getD a_Tables (Int.toNat x25_1) (0, 0)).1)) (xorV .u64 (List.getD lh2_1 (Int.toNat ((List.getD a_Tables (Int.toNat x25_1) (0, 0)).1)) 0) (shV true .u64 1 ((List.getD a_Tables (Int.toNat x25_1) (0, 0)).2)))) (Int.toNat ((List.getD a_Tables (Int.toNat x25_1) (0, 0)).2)) 0) (shV true .u64 1 ((List.getD a_Tables (Int.toNat x25_1) (0, 0)).1)))) 0 117 1), (1, .cells [ii a_Sorters, s0 0 a_Tables.length] 0 34 0), (0, rc encP a_Tables z0 y0 2)]) (c' := 3) [0, 1, 2] (by decide) rfl ⟨by kernel_rfl, by kernel_rfl, by kernel_rfl, by kernel_rfl, by kernel_rfl, trivial⟩ ⟨⟨_, _, rfl, rfl, .inl ⟨rfl, rowC_scal (encI_ok .u64) _⟩⟩, ⟨_, _, rfl, rfl, .inr ⟨_, _, _, _, rfl, rfl⟩⟩, ⟨_, _, rfl, rfl, .inl ⟨rfl, rowC_scal encP_ok _⟩⟩, trivial⟩ rfl ?_
            refine XL.conv (f74_1_ok m fuel z0 y0 a_Sorters a_Tables x24_1 (w64 (x25_1 + 1)) (List.set (List.set lh2_1 (Int.toNat ((List.getD a_Tables (Int.toNat x25_1) (0, 0)).1)) (xorV .u64 (List.getD lh2_1 (Int.toNat ((List.getD a_Tables (Int.toNat x25_1) (0, 0)).1)) 0) (shV true .u64 1 ((List.getD a_Tables (Int.toNat x25_1) (0, 0)).2)))) (Int.toNat ((List.getD a_Tables (Int.toNat x25_1) (0, 0)).2)) (xorV .u64 (List.getD (List.set lh2_1 (Int.toNat ((List.getD a_Tables (Int.toNat x25_1) (0, 0)).1)) (xorV .u64 (List.getD lh2_1 (Int.toNat ((List.getD a_Tables (Int.toNat x25_1) (0, 0)).1)) 0) (shV true .u64 1 ((List.getD a_Tables (Int.toNat x25_1) (0, 0)).2)))) (Int.toNat ((List.getD a_Tables (Int.toNat x25_1) (0, 0)).2)) 0) (shV true .u64 1 ((List.getD a_Tables (Int.toNat x25_1) (0, 0)).1)))) o h Q hQ) (by first | rfl | simp)
  | false =>
   have h := cF b1 h
   refine XQ.cond (s := (.tmp 26)) (b := false) (by kernel_rfl) (by kernel_rfl) (fun q => by cases q) (fun _ => ?_)
   refine XQ.ren (σ' := [(4, s0 1 lh2_1.length)]) (h' := [(1, rc (encI .u64) lh2_1 0 117 1), (0, rc encP a_Tables z0 y0 2)]) (c' := 2) [0, 2] (by decide) rfl ⟨by kernel_rfl, trivial⟩ ⟨⟨_, _, rfl, rfl, .inl ⟨rfl, rowC_scal (encI_ok .u64) _⟩⟩, ⟨_, _, rfl, rfl, .inl ⟨rfl, rowC_scal encP_ok _⟩⟩, trivial⟩ rfl ?_
   refine XQ.exit (i := 1) (by kernel_rfl) ?_
   cases h
   exact hQ

def f74 (m : Nat) (a_Sorters : Int) (a_Tables : List (Int × Int)) : Option ((List Int) × Int) :=
 (f65 m a_Sorters 1 8).bind fun r1 =>
  cond (!r1) (
   some ([], 1)
  ) (
   cond (decide (((a_Tables.length : Nat) : Int) > 28)) (
    some ([], 3)
   ) (
    cond (mkOK a_Sorters a_Sorters 8) (
     (f74_1 m m a_Sorters a_Tables ((a_Tables.length : Nat) : Int) 0 (List.replicate (Int.toNat a_Sorters) 0)).bind fun o1 =>
      match o1 with
      | .r x3_r1 =>
       some ([], x3_r1)
      | .x1 lh1_x11 =>
       some (lh1_x11, 0)
    ) none
   )
  )

set_option maxHeartbeats 8000000 in
theorem f74_ok (m : Nat) (z0 : Nat) (y0 : Nat) (a_Sorters : Int) (a_Tables : List (Int × Int)) (o : (List Int) × Int) (h : f74 m a_Sorters a_Tables = some o) : KC E0 74 [.agg #[ii a_Sorters, s0 0 a_Tables.length]] [(0, rc encP a_Tables z0 y0 2)] 1 (fun v h' c' => v = .tuple #[s0 1 o.1.length, ii o.2] ∧ h' = [(1, rc (encI .u64) o.1 0 117 1)] ++ [(0, rc encP a_Tables z0 y0 2)] ∧ c' = 2) := by
 refine KC.bodyN E0_ok (F := Proofs.Tryd.f74) (by kernel_rfl) (code := f74_C74) (by kernel_rfl) (nt := 63) (by kernel_rfl) (rs := [.tmp 2, .tmp 3]) (by kernel_rfl) (by kernel_rfl) (σ := [(0, .agg #[ii a_Sorters, s0 0 a_Tables.length])]) (by kernel_rfl) ?_
 unfold f74 at h
 refine XQ.seq E0_ok (by kernel_rfl) ?_
 refine XQ.region (by kernel_rfl) ?_
 refine XR.runT E0_ok 1 3 [(1, pp 1 0)] [(1, .cells [ii a_Sorters, s0 0 a_Tables.length] 0 34 0), (0, rc encP a_Tables z0 y0 2)] 2 rfl (by kernel_rfl) ?_
 refine XR.done (by kernel_rfl) ?_
 show XQ _ _ _ _ _ _ _ _
 refine XQ.seq E0_ok (by kernel_rfl) ?_
 refine XQ.block (id := 0) (by kernel_rfl) ?_
 refine XQ.seq E0_ok (by kernel_rfl) ?_
 refine XQ.region (by kernel_rfl) ?_
 refine XR.runS E0_ok 1 2 [(1, pp 1 0), (11, ii a_Sorters)] rfl (by kernel_rfl) ?_
 obtain ⟨r1, r1_h, h⟩ := bS h
 refine XR.call E0_ok [1, 12] rfl (K := 65) (args := [ii a_Sorters, ii 1, ii 8]) (d := (some (path 12 12))) (by kernel_rfl) (KC.of_calls E0_ok (F := Proofs.Tryd.f65) (v := .bool r1) (by kernel_rfl) rfl rfl (fun w hI => f65_ok m a_Sorters 1 8 r1 r1_h w hI)) ?_
 rintro _ _ _ ⟨rfl, rfl, rfl⟩
 refine XR.conv (σ' := [(1, pp 1 0), (12, .bool r1)]) (h' := [(1, .cells [ii a_Sorters, s0 0 a_Tables.length] 0 34 0), (0, rc encP a_Tables z0 y0 2)]) (c' := 2) ?_ (by kernel_rfl)
 refine XR.runS E0_ok 1 2 [(1, pp 1 0), (9, .bool (!r1))] rfl (by kernel_rfl) ?_
 refine XR.done (by kernel_rfl) ?_
 show XQ _ _ _ _ _ _ _ _
 cases b1 : (!r1 : Bool) with
 | true =>
  have h := cT b1 h
  refine XQ.cond (s := (.tmp 9)) (b := true) (by kernel_rfl) (by kernel_rfl) (fun _ => ?_) (fun q => by cases q)
  refine XQ.seq E0_ok (by kernel_rfl) ?_
  refine XQ.region (by kernel_rfl) ?_
  refine XR.runS E0_ok 1 2 [(2, .slice none 0 0), (3, ii 1)] rfl (by kernel_rfl) ?_
  refine XR.done (by kernel_rfl) ?_
  show XQ _ _ _ _ _ _ _ _
  refine XQ.ghost 117 1 rfl (σ' := [(2, s0 2 0), (3, ii 1)]) (h' := [(1, .cells [ii a_Sorters, s0 0 a_Tables.length] 0 34 0), (0, rc encP a_Tables z0 y0 2)]) ⟨by kernel_rfl, by kernel_rfl, trivial⟩ ⟨⟨_, rfl, .inl rfl⟩, ⟨_, rfl, .inl rfl⟩, trivial⟩ ?_
  refine XQ.conv (σ' := [(2, s0 2 0), (3, ii 1)]) (h' := [(2, rc (encI .u64) [] 0 117 1), (1, .cells [ii a_Sorters, s0 0 a_Tables.length] 0 34 0), (0, rc encP a_Tables z0 y0 2)]) (c' := 3) ?_ (by kernel_rfl)
  refine XQ.ren (σ' := [(2, s0 1 0), (3, ii 1)]) (h' := [(1, rc (encI .u64) [] 0 117 1), (0, rc encP a_Tables z0 y0 2)]) (c' := 2) [0, 2] (by decide) rfl ⟨by kernel_rfl, by kernel_rfl, trivial⟩ ⟨⟨_, _, rfl, rfl, .inl ⟨rfl, rowC_scal (encI_ok .u64) _⟩⟩, ⟨_, _, rfl, rfl, .inl ⟨rfl, rowC_scal encP_ok _⟩⟩, trivial⟩ rfl ?_
  refine XQ.ret (by kernel_rfl) ?_
  have h := Option.some.inj h
  subst h
  exact ⟨fun i q => (by cases q), .tuple #[s0 1 0, ii 1], (by kernel_rfl), (by kernel_rfl), (by kernel_rfl), rfl⟩
 | false =>
  have h := cF b1 h
  refine XQ.cond (s := (.tmp 9)) (b := false) (by kernel_rfl) (by kernel_rfl) (fun q => by cases q) (fun _ => ?_)
  refine XQ.seq E0_ok (by kernel_rfl) ?_
  refine XQ.region (by kernel_rfl) ?_
  refine XR.runS E0_ok 1 5 [(1, pp 1 0), (14, .bool (decide (((a_Tables.length : Nat) : Int) > 28)))] rfl (by kernel_rfl) ?_
  refine XR.done (by kernel_rfl) ?_
  show XQ _ _ _ _ _ _ _ _
  cases b2 : (decide (((a_Tables.length : Nat) : Int) > 28) : Bool) with
  | true =>
   have h := cT b2 h
   refine XQ.cond (s := (.tmp 14)) (b := true) (by kernel_rfl) (by kernel_rfl) (fun _ => ?_) (fun q => by cases q)
   refine XQ.seq E0_ok (by kernel_rfl) ?_
   refine XQ.region (by kernel_rfl) ?_
   refine XR.runS E0_ok 1 2 [(2, .slice none 0 0), (3, ii 3)] rfl (by kernel_rfl) ?_
   refine XR.done (by kernel_rfl) ?_
   show XQ _ _ _ _ _ _ _ _
   refine XQ.ghost 117 1 rfl (σ' := [(2, s0 2 0), (3, ii 3)]) (h' := [(1, .cells [ii a_Sorters, s0 0 a_Tables.length] 0 34 0), (0, rc encP a_Tables z0 y0 2)]) ⟨by kernel_rfl, by kernel_rfl, trivial⟩ ⟨⟨_, rfl, .inl rfl⟩, ⟨_, rfl, .inl rfl⟩, trivial⟩ ?_
   refine XQ.conv (σ' := [(2, s0 2 0), (3, ii 3)]) (h' := [(2, rc (encI .u64) [] 0 117 1), (1, .cells [ii a_Sorters, s0 0 a_Tables.length] 0 34 0), (0, rc encP a_Tables z0 y0 2)]) (c' := 3) ?_ (by kernel_rfl)
   refine XQ.ren (σ' := [(2, s0 1 0), (3, ii 3)]) (h' := [(1, rc (encI .u64) [] 0 117 1), (0, rc encP a_Tables z0 y0 2)]) (c' := 2) [0, 2] (by decide) rfl ⟨by kernel_rfl, by kernel_rfl, trivial⟩ ⟨⟨_, _, rfl, rfl, .inl ⟨rfl, rowC_scal (encI_ok .u64) _⟩⟩, ⟨_, _, rfl, rfl, .inl ⟨rfl, rowC_scal encP_ok _⟩⟩, trivial⟩ rfl ?_
   refine XQ.ret (by kernel_rfl) ?_
   have h := Option.some.inj h
   subst h
   exact ⟨fun i q => (by cases q), .tuple #[s0 1 0, ii 3], (by kernel_rfl), (by kernel_rfl), (by kernel_rfl), rfl⟩
  | false =>
   have h := cF b2 h
   refine XQ.cond (s := (.tmp 14)) (b := false) (by kernel_rfl) (by kernel_rfl) (fun q => by cases q) (fun _ => ?_)
   refine XQ.skip (by kernel_rfl) ?_
   show XQ _ _ _ _ _ _ _ _
   refine XQ.seq E0_ok (by kernel_rfl) ?_
   refine XQ.region (by kernel_rfl) ?_
   refine XR.runS E0_ok 1 2 [(1, pp 1 0), (20, ii a_Sorters)] rfl (by kernel_rfl) ?_
   cases b3 : (mkOK a_Sorters a_Sorters 8 : Bool) with
   | false => cases (cF b3 h)
   | true =>
    have h := cT b3 h
    refine XR.ef E0_ok [1, 21] rfl (e_make (encI_ok .u64) (x := (src 63 (.tmp 20))) (y := (src 63 (.tmp 20))) (l := a_Sorters) (n := a_Sorters) (bytes := 8) (e := 117) (z := #[.int .u64 0]) (d := (some (path 12 21))) (by kernel_rfl) (by kernel_rfl) (by kernel_rfl) 0 rfl (by kernel_rfl) b3) (σ' := [(1, pp 1 0), (21, s0 2 (Int.toNat a_Sorters))]) (by kernel_rfl) ?_
    refine XR.runS E0_ok 1 1 [(1, pp 1 0), (4, s0 2 (Int.toNat a_Sorters))] rfl (by kernel_rfl) ?_
    refine XR.done (by kernel_rfl) ?_
    show XQ _ _ _ _ _ _ _ _
    refine XQ.seq E0_ok (by kernel_rfl) ?_
    refine XQ.seq E0_ok (by kernel_rfl) ?_
    refine XQ.region (by kernel_rfl) ?_
    refine XR.runS E0_ok 1 4 [(1, pp 1 0), (4, s0 2 (Int.toNat a_Sorters)), (23, s0 0 a_Tables.length), (24, ii ((a_Tables.length : Nat) : Int)), (25, ii 0)] rfl (by kernel_rfl) ?_
    refine XR.done (by kernel_rfl) ?_
    show XQ _ _ _ _ _ _ _ _
    refine XQ.block (id := 1) (by kernel_rfl) ?_
    refine XQ.loop m (by kernel_rfl) ?_
    obtain ⟨o1, o1_h, h⟩ := bS h
    refine XL.ren (σ' := [(1, pp 1 0), (4, s0 2 (Int.toNat a_Sorters)), (23, s0 0 a_Tables.length), (24, ii ((a_Tables.length : Nat) : Int)), (25, ii 0)]) (h' := [(2, rc (encI .u64) (List.replicate (Int.toNat a_Sorters) 0) 0 117 1), (1, .cells [ii a_Sorters, s0 0 a_Tables.length] 0 34 0), (0, rc encP a_Tables z0 y0 2)]) (c' := 3) [0, 1, 2] (by decide) rfl ⟨by kernel_rfl, by kernel_rfl, by kernel_rfl, by kernel_rfl, by kernel_rfl, trivial⟩ ⟨⟨_, _, rfl, rfl, .inl ⟨rfl, rowC_scal (encI_ok .u64) _⟩⟩, ⟨_, _, rfl, rfl, .inr ⟨_, _, _, _, rfl, rfl⟩⟩, ⟨_, _, rfl, rfl, .inl ⟨rfl, rowC_scal encP_ok _⟩⟩, trivial⟩ rfl ?_
    cases o1 with
    | r x3_r1 =>
     dsimp only at h
     refine XL.conv (f74_1_ok m m z0 y0 a_Sorters a_Tables ((a_Tables.length : Nat) : Int) 0 (List.replicate (Int.toNat a_Sorters) 0) (.r x3_r1) o1_h _ ?_) (by first | rfl | simp)
     have h := Option.some.inj h
     subst h
     exact ⟨fun i q => (by cases q), .tuple #[s0 1 0, ii x3_r1], (by kernel_rfl), (by kernel_rfl), (by kernel_rfl), rfl⟩
    | x1 lh1_x11 =>
     dsimp only at h
     refine XL.conv (f74_1_ok m m z0 y0 a_Sorters a_Tables ((a_Tables.length : Nat) : Int) 0 (List.replicate (Int.toNat a_Sorters) 0) (.x1 lh1_x11) o1_h _ ?_) (by first | rfl | simp)
     show XQ _ _ _ _ _ _ _ _
     refine XQ.seq E0_ok (by kernel_rfl) ?_
     refine XQ.region (by kernel_rfl) ?_
     refine XR.runS E0_ok 1 3 [(2, s0 1 lh1_x11.length), (3, ii 0)] rfl (by kernel_rfl) ?_
     refine XR.done (by kernel_rfl) ?_
     show XQ _ _ _ _ _ _ _ _
     refine XQ.ren (σ' := [(2, s0 1 lh1_x11.length), (3, ii 0)]) (h' := [(1, rc (encI .u64) lh1_x11 0 117 1), (0, rc encP a_Tables z0 y0 2)]) (c' := 2) [0, 1] (by decide) rfl ⟨by kernel_rfl, by kernel_rfl, trivial⟩ ⟨⟨_, _, rfl, rfl, .inl ⟨rfl, rowC_scal (encI_ok .u64) _⟩⟩, ⟨_, _, rfl, rfl, .inl ⟨rfl, rowC_scal encP_ok _⟩⟩, trivial⟩ rfl ?_
     refine XQ.ret (by kernel_rfl) ?_
     have h := Option.some.inj h
     subst h
     exact ⟨fun i q => (by cases q), .tuple #[s0 1 lh1_x11.length, ii 0], (by kernel_rfl), (by kernel_rfl), (by kernel_rfl), rfl⟩

/-! (vitola/club.room).plan -/
noncomputable def f78_C78 : Code := Proofs.Tryd.f78.body.getD .skip
noncomputable def f78_C76 : Code := Proofs.Tryd.f76.body.getD .skip
noncomputable def f78_L1 : Code := lft (lft (rgt (lft (rgt (rgt f78_C78)))))
noncomputable def f78_L2 : Code := lft (lft (rgt (rgt (lft (lft (rgt (rgt f78_L1)))))))

def f78_2 (m : Nat) : Nat → List Int → Int → Int → Int → Int → List (Int × Int) → Option (List (Int × Int))
 | 0, _, _, _, _, _, _ => none
 | fuel + 1, a, x10_1, x11_1, xh2_0_1, x5_2, lh4_2 =>
  cond (decide (x5_2 < ((a.length : Nat) : Int))) (
   cond (inRow x11_1 a.length) (
    cond (decide (0 ≤ x5_2)) (
     cond ((andV .u64 (shV false .u64 (List.getD a (Int.toNat x11_1) 0) x5_2) 1) == 1) (
      cond (fitsB (lh4_2.length + 1) 16) (
       f78_2 m fuel a x10_1 x11_1 xh2_0_1 (w64 (x5_2 + 1)) (lh4_2 ++ [(x11_1, x5_2)])
      ) none
     ) (
      f78_2 m fuel a x10_1 x11_1 xh2_0_1 (w64 (x5_2 + 1)) lh4_2
     )
    ) none
   ) none
  ) (
   some (lh4_2)
  )

theorem f78_2_ok (m : Nat) : ∀ (fuel : Nat) (z0 : Nat) (y0 : Nat) (a : List Int) (x10_1 : Int) (x11_1 : Int) (xh2_0_1 : Int) (x5_2 : Int) (lh4_2 : List (Int × Int)) (o : (List (Int × Int))), f78_2 m fuel a x10_1 x11_1 xh2_0_1 x5_2 lh4_2 = some o → ∀ Q : QP, Q (.exit 2) [(0, s0 0 a.length), (2, pp 1 0), (3, pp 2 0), (10, ii x10_1), (11, ii x11_1)] [(4, rc encP o 0 55 2), (3, rc encP [] 0 55 2), (2, .cells [ii xh2_0_1, s0 4 o.length] 0 34 0), (1, .cells [ii 0, s0 3 0] 0 34 0), (0, rc (encI .u64) a z0 y0 1)] 5 → XL E0 36 1 fuel f78_L2 [(0, s0 0 a.length), (2, pp 1 0), (3, pp 2 0), (4, ii x11_1), (5, ii x5_2), (10, ii x10_1), (11, ii x11_1)] [(4, rc encP lh4_2 0 55 2), (3, rc encP [] 0 55 2), (2, .cells [ii xh2_0_1, s0 4 lh4_2.length] 0 34 0), (1, .cells [ii 0, s0 3 0] 0 34 0), (0, rc (encI .u64) a z0 y0 1)] 5 Q
 | 0, z0, y0, a, x10_1, x11_1, xh2_0_1, x5_2, lh4_2, o, h, Q, hQ => by cases h
 | fuel + 1, z0, y0, a, x10_1, x11_1, xh2_0_1, x5_2, lh4_2, o, h, Q, hQ => by
  unfold f78_2 at h
  refine XL.succ E0_ok ?_
  refine XQ.seq E0_ok (by kernel_rfl) ?_
  refine XQ.seq E0_ok (by kernel_rfl) ?_
  refine XQ.region (by kernel_rfl) ?_
  refine XR.runS E0_ok 1 4 [(0, s0 0 a.length), (2, pp 1 0), (3, pp 2 0), (4, ii x11_1), (5, ii x5_2), (10, ii x10_1), (11, ii x11_1), (19, .bool (decide (x5_2 < ((a.length : Nat) : Int))))] rfl (by kernel_rfl) ?_
  refine XR.done (by kernel_rfl) ?_
  show XQ _ _ _ _ _ _ _ _
  cases b1 : (decide (x5_2 < ((a.length : Nat) : Int)) : Bool) with
  | true =>
   have h := cT b1 h
   refine XQ.cond (s := (.tmp 19)) (b := true) (by kernel_rfl) (by kernel_rfl) (fun _ => ?_) (fun q => by cases q)
   refine XQ.skip (by kernel_rfl) ?_
   show XQ _ _ _ _ _ _ _ _
   refine XQ.seq E0_ok (by kernel_rfl) ?_
   refine XQ.block (id := 3) (by kernel_rfl) ?_
   refine XQ.seq E0_ok (by kernel_rfl) ?_
   refine XQ.region (by kernel_rfl) ?_
   refine XR.runS E0_ok 1 3 [(0, s0 0 a.length), (2, pp 1 0), (3, pp 2 0), (4, ii x11_1), (5, ii x5_2), (10, ii x10_1), (11, ii x11_1), (22, s0 0 a.length), (23, ii x11_1), (24, ii x5_2)] rfl (by kernel_rfl) ?_
   refine XR.callK E0_ok [0, 2, 3, 4, 5, 10, 11, 25] rfl (K := 76) (args := [s0 0 a.length, ii x11_1, ii x5_2]) (d := (some (path 12 25))) (by kernel_rfl) ?_
   refine KC.bodyN E0_ok (F := Proofs.Tryd.f76) (by kernel_rfl) (code := f78_C76) (by kernel_rfl) (nt := 15) (by kernel_rfl) (rs := [.tmp 6]) (by kernel_rfl) (by kernel_rfl) (σ := [(0, s0 0 a.length), (1, ii x11_1), (2, ii x5_2)]) (by kernel_rfl) ?_
   refine XQ.seq E0_ok (by kernel_rfl) ?_
   refine XQ.region (by kernel_rfl) ?_
   refine XR.runS E0_ok 1 1 [(0, s0 0 a.length), (1, ii x11_1), (2, ii x5_2)] rfl (by kernel_rfl) ?_
   refine XR.done (by kernel_rfl) ?_
   show XQ _ _ _ _ _ _ _ _
   refine XQ.seq E0_ok (by kernel_rfl) ?_
   refine XQ.region (by kernel_rfl) ?_
   refine XR.runS E0_ok 1 2 [(2, ii x5_2), (7, s0 0 a.length), (8, ii x11_1)] rfl (by kernel_rfl) ?_
   cases b2 : (inRow x11_1 a.length : Bool) with
   | false => cases (cF b2 h)
   | true =>
    have h := cT b2 h
    refine XR.rd E0_ok [2, 9] rfl (v := pp 0 ((Int.toNat x11_1) * 1)) (v_idx (s := 1) (x := (src 15 (.tmp 7))) (y := (src 15 (.tmp 8))) (b := 0) (o := 0) (len := a.length) (cap := a.length) (ik := .i64) (i := x11_1) (off := (Int.toNat x11_1) * 1) (d := (some (path 12 9))) (by kernel_rfl) (by kernel_rfl) (by kernel_rfl) b2 (by omega)) (σ' := [(2, ii x5_2), (9, pp 0 ((Int.toNat x11_1) * 1))]) (by kernel_rfl) ?_
    refine XR.rd E0_ok [2, 10] rfl (v := .int .u64 (List.getD a (Int.toNat x11_1) 0)) (v_load1 (encI_ok .u64) (x := (src 15 (.tmp 9))) (b := 0) (off := (Int.toNat x11_1) * 1) (xs := a) (fz := z0) (e := y0) (es := 1) (d := (some (path 12 10))) (by kernel_rfl) (by kernel_rfl) (by kernel_rfl) (Int.toNat x11_1) 0 0 (by first | rfl | omega) (row_len (inRow_toNat b2) (by simp)) rfl rfl) (σ' := [(2, ii x5_2), (10, .int .u64 (List.getD a (Int.toNat x11_1) 0))]) (by kernel_rfl) ?_
    refine XR.runS E0_ok 1 1 [(10, .int .u64 (List.getD a (Int.toNat x11_1) 0)), (11, ii x5_2)] rfl (by kernel_rfl) ?_
    cases b3 : (decide (0 ≤ x5_2) : Bool) with
    | false => cases (cF b3 h)
    | true =>
     have h := cT b3 h
     have e4 : insV (headI ((gsOf E0 15 (opsOf (lft (rgt f78_C76)))).drop 5) (trS 15 [(10, .int .u64 (List.getD a (Int.toNat x11_1) 0)), (11, ii x5_2)])) (trS 15 [(10, .int .u64 (List.getD a (Int.toNat x11_1) 0)), (11, ii x5_2)]) [(4, rc encP lh4_2 0 55 2), (3, rc encP [] 0 55 2), (2, .cells [ii xh2_0_1, s0 4 lh4_2.length] 0 34 0), (1, .cells [ii 0, s0 3 0] 0 34 0), (0, rc (encI .u64) a z0 y0 1)] = (match (decide (0 ≤ x5_2) : Bool) with | true => some (.int .u64 (shV false .u64 (List.getD a (Int.toNat x11_1) 0) x5_2)) | false => none) := by kernel_rfl
     refine XR.rd E0_ok [12] rfl (e4.trans (by rw [b3])) (σ' := [(12, .int .u64 (shV false .u64 (List.getD a (Int.toNat x11_1) 0) x5_2))]) (by kernel_rfl) ?_
     refine XR.runS E0_ok 1 3 [(6, .bool ((andV .u64 (shV false .u64 (List.getD a (Int.toNat x11_1) 0) x5_2) 1) == 1))] rfl (by kernel_rfl) ?_
     refine XR.done (by kernel_rfl) ?_
     show XQ _ _ _ _ _ _ _ _
     refine XQ.ret (by kernel_rfl) ?_
     refine ⟨fun i q => (by cases q), .bool ((andV .u64 (shV false .u64 (List.getD a (Int.toNat x11_1) 0) x5_2) 1) == 1), (by kernel_rfl), ?_⟩
     refine XR.conv (σ' := [(0, s0 0 a.length), (2, pp 1 0), (3, pp 2 0), (4, ii x11_1), (5, ii x5_2), (10, ii x10_1), (11, ii x11_1), (25, .bool ((andV .u64 (shV false .u64 (List.getD a (Int.toNat x11_1) 0) x5_2) 1) == 1))]) (h' := [(4, rc encP lh4_2 0 55 2), (3, rc encP [] 0 55 2), (2, .cells [ii xh2_0_1, s0 4 lh4_2.length] 0 34 0), (1, .cells [ii 0, s0 3 0] 0 34 0), (0, rc (encI .u64) a z0 y0 1)]) (c' := 5) ?_ (by kernel_rfl)
     refine XR.done (by kernel_rfl) ?_
     show XQ _ _ _ _ _ _ _ _
     cases b5 : ((andV .u64 (shV false .u64 (List.getD a (Int.toNat x11_1) 0) x5_2) 1) == 1 : Bool) with
     | true =>
      have h := cT b5 h
      refine XQ.cond (s := (.tmp 25)) (b := true) (by kernel_rfl) (by kernel_rfl) (fun _ => ?_) (fun q => by cases q)
      refine XQ.region (by kernel_rfl) ?_
      refine XR.runT E0_ok 1 6 [(0, s0 0 a.length), (2, pp 1 0), (3, pp 2 0), (4, ii x11_1), (5, ii x5_2), (10, ii x10_1), (11, ii x11_1), (27, s0 4 lh4_2.length), (31, s0 5 1)] [(5, .cells [ii x11_1, ii x5_2] 0 55 2), (4, rc encP lh4_2 0 55 2), (3, rc encP [] 0 55 2), (2, .cells [ii xh2_0_1, s0 4 lh4_2.length] 0 34 0), (1, .cells [ii 0, s0 3 0] 0 34 0), (0, rc (encI .u64) a z0 y0 1)] 6 rfl (by kernel_rfl) ?_
      cases b6 : (fitsB (lh4_2.length + 1) 16 : Bool) with
      | false => cases (cF b6 h)
      | true =>
       have h := cT b6 h
       refine XR.ef E0_ok [0, 2, 3, 4, 5, 10, 11, 32] rfl (e_append encP_ok (bytes := 16) (e := 55) (x := (src 36 (.tmp 27))) (y := (src 36 (.tmp 31))) (b := 4) (len := lh4_2.length) (cap := lh4_2.length) (xs := lh4_2) (m := 0) (ys := [(x11_1, x5_2)]) (d := (some (path 12 32))) (n' := (lh4_2 ++ [(x11_1, x5_2)]).length) (h' := [(6, rc encP (lh4_2 ++ [(x11_1, x5_2)]) 0 55 2), (5, .cells [ii x11_1, ii x5_2] 0 55 2), (3, rc encP [] 0 55 2), (2, .cells [ii xh2_0_1, s0 4 lh4_2.length] 0 34 0), (1, .cells [ii 0, s0 3 0] 0 34 0), (0, rc (encI .u64) a z0 y0 1)]) (by kernel_rfl) (by kernel_rfl) (by kernel_rfl) (by kernel_rfl) rfl (by simp) (by simp) b6 (by simp) (by kernel_rfl)) (σ' := [(0, s0 0 a.length), (2, pp 1 0), (3, pp 2 0), (4, ii x11_1), (5, ii x5_2), (10, ii x10_1), (11, ii x11_1), (32, s0 6 ((lh4_2 ++ [(x11_1, x5_2)]).length))]) (by kernel_rfl) ?_
       refine XR.runT E0_ok 1 2 [(0, s0 0 a.length), (2, pp 1 0), (3, pp 2 0), (4, ii x11_1), (5, ii x5_2), (10, ii x10_1), (11, ii x11_1)] [(6, rc encP (lh4_2 ++ [(x11_1, x5_2)]) 0 55 2), (5, .cells [ii x11_1, ii x5_2] 0 55 2), (3, rc encP [] 0 55 2), (2, .cells [ii xh2_0_1, s0 6 ((lh4_2 ++ [(x11_1, x5_2)]).length)] 0 34 0), (1, .cells [ii 0, s0 3 0] 0 34 0), (0, rc (encI .u64) a z0 y0 1)] 7 rfl (by kernel_rfl) ?_
       refine XR.done (by kernel_rfl) ?_
       show XQ _ _ _ _ _ _ _ _
       refine XQ.region (by kernel_rfl) ?_
       refine XR.runS E0_ok 1 3 [(0, s0 0 a.length), (2, pp 1 0), (3, pp 2 0), (4, ii x11_1), (5, ii (w64 (x5_2 + 1))), (10, ii x10_1), (11, ii x11_1)] rfl (by kernel_rfl) ?_
       refine XR.done (by kernel_rfl) ?_
       show XL _ _ _ _ _ _ _ _ _
       refine XL.ren (σ' := [(0, s0 0 a.length), (2, pp 1 0), (3, pp 2 0), (4, ii x11_1), (5, ii (w64 (x5_2 + 1))), (10, ii x10_1), (11, ii x11_1)]) (h' := [(4, rc encP (lh4_2 ++ [(x11_1, x5_2)]) 0 55 2), (3, rc encP [] 0 55 2), (2, .cells [ii xh2_0_1, s0 4 ((lh4_2 ++ [(x11_1, x5_2)]).length)] 0 34 0), (1, .cells [ii 0, s0 3 0] 0 34 0), (0, rc (encI .u64) a z0 y0 1)]) (c' := 5) [0, 1, 2, 3, 6] (by decide) rfl ⟨by kernel_rfl, by kernel_rfl, by kernel_rfl, by kernel_rfl, by kernel_rfl, by kernel_rfl, by kernel_rfl, trivial⟩ ⟨⟨_, _, rfl, rfl, .inl ⟨rfl, rowC_scal encP_ok _⟩⟩, ⟨_, _, rfl, rfl, .inl ⟨rfl, rowC_scal encP_ok _⟩⟩, ⟨_, _, rfl, rfl, .inr ⟨_, _, _, _, rfl, rfl⟩⟩, ⟨_, _, rfl, rfl, .inr ⟨_, _, _, _, rfl, rfl⟩⟩, ⟨_, _, rfl, rfl, .inl ⟨rfl, rowC_scal (encI_ok .u64) _⟩⟩, trivial⟩ rfl ?_
       refine XL.conv (f78_2_ok m fuel z0 y0 a x10_1 x11_1 xh2_0_1 (w64 (x5_2 + 1)) (lh4_2 ++ [(x11_1, x5_2)]) o h Q hQ) (by first | rfl | simp)
     | false =>
      have h := cF b5 h
      refine XQ.cond (s := (.tmp 25)) (b := false) (by kernel_rfl) (by kernel_rfl) (fun q => by cases q) (fun _ => ?_)
      refine XQ.skip (by kernel_rfl) ?_
      show XQ _ _ _ _ _ _ _ _
      refine XQ.region (by kernel_rfl) ?_
      refine XR.runS E0_ok 1 3 [(0, s0 0 a.length), (2, pp 1 0), (3, pp 2 0), (4, ii x11_1), (5, ii (w64 (x5_2 + 1))), (10, ii x10_1), (11, ii x11_1)] rfl (by kernel_rfl) ?_
      refine XR.done (by kernel_rfl) ?_
      show XL _ _ _ _ _ _ _ _ _
      refine XL.ren (σ' := [(0, s0 0 a.length), (2, pp 1 0), (3, pp 2 0), (4, ii x11_1), (5, ii (w64 (x5_2 + 1))), (10, ii x10_1), (11, ii x11_1)]) (h' := [(4, rc encP lh4_2 0 55 2), (3, rc encP [] 0 55 2), (2, .cells [ii xh2_0_1, s0 4 lh4_2.length] 0 34 0), (1, .cells [ii 0, s0 3 0] 0 34 0), (0, rc (encI .u64) a z0 y0 1)]) (c' := 5) [0, 1, 2, 3, 4] (by decide) rfl ⟨by kernel_rfl, by kernel_rfl, by kernel_rfl, by kernel_rfl, by kernel_rfl, by kernel_rfl, by kernel_rfl, trivial⟩ ⟨⟨_, _, rfl, rfl, .inl ⟨rfl, rowC_scal encP_ok _⟩⟩, ⟨_, _, rfl, rfl, .inl ⟨rfl, rowC_scal encP_ok _⟩⟩, ⟨_, _, rfl, rfl, .inr ⟨_, _, _, _, rfl, rfl⟩⟩, ⟨_, _, rfl, rfl, .inr ⟨_, _, _, _, rfl, rfl⟩⟩, ⟨_, _, rfl, rfl, .inl ⟨rfl, rowC_scal (encI_ok .u64) _⟩⟩, trivial⟩ rfl ?_
      refine XL.conv (f78_2_ok m fuel z0 y0 a x10_1 x11_1 xh2_0_1 (w64 (x5_2 + 1)) lh4_2 o h Q hQ) (by first | rfl | simp)
  | false =>
   have h := cF b1 h
   refine XQ.cond (s := (.tmp 19)) (b := false) (by kernel_rfl) (by kernel_rfl) (fun q => by cases q) (fun _ => ?_)
   refine XQ.ren (σ' := [(0, s0 0 a.length), (2, pp 1 0), (3, pp 2 0), (10, ii x10_1), (11, ii x11_1)]) (h' := [(4, rc encP lh4_2 0 55 2), (3, rc encP [] 0 55 2), (2, .cells [ii xh2_0_1, s0 4 lh4_2.length] 0 34 0), (1, .cells [ii 0, s0 3 0] 0 34 0), (0, rc (encI .u64) a z0 y0 1)]) (c' := 5) [0, 1, 2, 3, 4] (by decide) rfl ⟨by kernel_rfl, by kernel_rfl, by kernel_rfl, by kernel_rfl, by kernel_rfl, trivial⟩ ⟨⟨_, _, rfl, rfl, .inl ⟨rfl, rowC_scal encP_ok _⟩⟩, ⟨_, _, rfl, rfl, .inl ⟨rfl, rowC_scal encP_ok _⟩⟩, ⟨_, _, rfl, rfl, .inr ⟨_, _, _, _, rfl, rfl⟩⟩, ⟨_, _, rfl, rfl, .inr ⟨_, _, _, _, rfl, rfl⟩⟩, ⟨_, _, rfl, rfl, .inl ⟨rfl, rowC_scal (encI_ok .u64) _⟩⟩, trivial⟩ rfl ?_
   refine XQ.exit (i := 2) (by kernel_rfl) ?_
   cases h
   exact hQ

def f78_1 (m : Nat) : Nat → List Int → Int → Int → Int → List (Int × Int) → Option (Int × (List (Int × Int)))
 | 0, _, _, _, _, _ => none
 | fuel + 1, a, x10_1, x11_1, xh2_0_1, lh4_1 =>
  cond (decide (x11_1 < x10_1)) (
   (f78_2 m m a x10_1 x11_1 xh2_0_1 (w64 (x11_1 + 1)) lh4_1).bind fun o2 =>
    f78_1 m fuel a x10_1 (w64 (x11_1 + 1)) xh2_0_1 o2
  ) (
   some (xh2_0_1, lh4_1)
  )

theorem f78_1_ok (m : Nat) : ∀ (fuel : Nat) (z0 : Nat) (y0 : Nat) (a : List Int) (x10_1 : Int) (x11_1 : Int) (xh2_0_1 : Int) (lh4_1 : List (Int × Int)) (o : (Int × (List (Int × Int)))), f78_1 m fuel a x10_1 x11_1 xh2_0_1 lh4_1 = some o → ∀ Q : QP, Q (.exit 0) [(2, pp 1 0), (3, pp 2 0)] [(4, rc encP o.2 0 55 2), (3, rc encP [] 0 55 2), (2, .cells [ii o.1, s0 4 o.2.length] 0 34 0), (1, .cells [ii 0, s0 3 0] 0 34 0), (0, rc (encI .u64) a z0 y0 1)] 5 → XL E0 36 1 fuel f78_L1 [(0, s0 0 a.length), (2, pp 1 0), (3, pp 2 0), (10, ii x10_1), (11, ii x11_1)] [(4, rc encP lh4_1 0 55 2), (3, rc encP [] 0 55 2), (2, .cells [ii xh2_0_1, s0 4 lh4_1.length] 0 34 0), (1, .cells [ii 0, s0 3 0] 0 34 0), (0, rc (encI .u64) a z0 y0 1)] 5 Q
 | 0, z0, y0, a, x10_1, x11_1, xh2_0_1, lh4_1, o, h, Q, hQ => by cases h
 | fuel + 1, z0, y0, a, x10_1, x11_1, xh2_0_1, lh4_1, o, h, Q, hQ => by
  unfold f78_1 at h
  refine XL.succ E0_ok ?_
  refine XQ.seq E0_ok (by kernel_rfl) ?_
  refine XQ.region (by kernel_rfl) ?_
  refine XR.runS E0_ok 1 1 [(0, s0 0 a.length), (2, pp 1 0), (3, pp 2 0), (10, ii x10_1), (11, ii x11_1), (12, .bool (decide (x11_1 < x10_1)))] rfl (by kernel_rfl) ?_
  refine XR.done (by kernel_rfl) ?_
  show XQ _ _ _ _ _ _ _ _
  refine XQ.seq E0_ok (by kernel_rfl) ?_
  cases b1 : (decide (x11_1 < x10_1) : Bool) with
  | true =>
   have h := cT b1 h
   refine XQ.cond (s := (.tmp 12)) (b := true) (by kernel_rfl) (by kernel_rfl) (fun _ => ?_) (fun q => by cases q)
   refine XQ.skip (by kernel_rfl) ?_
   show XQ _ _ _ _ _ _ _ _
   refine XQ.seq E0_ok (by kernel_rfl) ?_
   refine XQ.block (id := 1) (by kernel_rfl) ?_
   refine XQ.seq E0_ok (by kernel_rfl) ?_
   refine XQ.region (by kernel_rfl) ?_
   refine XR.runS E0_ok 1 2 [(0, s0 0 a.length), (2, pp 1 0), (3, pp 2 0), (4, ii x11_1), (10, ii x10_1), (11, ii x11_1)] rfl (by kernel_rfl) ?_
   refine XR.done (by kernel_rfl) ?_
   show XQ _ _ _ _ _ _ _ _
   refine XQ.seq E0_ok (by kernel_rfl) ?_
   refine XQ.region (by kernel_rfl) ?_
   refine XR.runS E0_ok 1 3 [(0, s0 0 a.length), (2, pp 1 0), (3, pp 2 0), (4, ii x11_1), (5, ii (w64 (x11_1 + 1))), (10, ii x10_1), (11, ii x11_1)] rfl (by kernel_rfl) ?_
   refine XR.done (by kernel_rfl) ?_
   show XQ _ _ _ _ _ _ _ _
   refine XQ.block (id := 2) (by kernel_rfl) ?_
   refine XQ.loop m (by kernel_rfl) ?_
   obtain ⟨o2, o2_h, h⟩ := bS h
   refine XL.ren (σ' := [(0, s0 0 a.length), (2, pp 1 0), (3, pp 2 0), (4, ii x11_1), (5, ii (w64 (x11_1 + 1))), (10, ii x10_1), (11, ii x11_1)]) (h' := [(4, rc encP lh4_1 0 55 2), (3, rc encP [] 0 55 2), (2, .cells [ii xh2_0_1, s0 4 lh4_1.length] 0 34 0), (1, .cells [ii 0, s0 3 0] 0 34 0), (0, rc (encI .u64) a z0 y0 1)]) (c' := 5) [0, 1, 2, 3, 4] (by decide) rfl ⟨by kernel_rfl, by kernel_rfl, by kernel_rfl, by kernel_rfl, by kernel_rfl, by kernel_rfl, by kernel_rfl, trivial⟩ ⟨⟨_, _, rfl, rfl, .inl ⟨rfl, rowC_scal encP_ok _⟩⟩, ⟨_, _, rfl, rfl, .inl ⟨rfl, rowC_scal encP_ok _⟩⟩, ⟨_, _, rfl, rfl, .inr ⟨_, _, _, _, rfl, rfl⟩⟩, ⟨_, _, rfl, rfl, .inr ⟨_, _, _, _, rfl, rfl⟩⟩, ⟨_, _, rfl, rfl, .inl ⟨rfl, rowC_scal (encI_ok .u64) _⟩⟩, trivial⟩ rfl ?_
   refine XL.conv (f78_2_ok m m z0 y0 a x10_1 x11_1 xh2_0_1 (w64 (x11_1 + 1)) lh4_1 o2 o2_h _ ?_) (by first | rfl | simp)
   show XQ _ _ _ _ _ _ _ _
   refine XQ.region (by kernel_rfl) ?_
   refine XR.runS E0_ok 1 2 [(0, s0 0 a.length), (2, pp 1 0), (3, pp 2 0), (10, ii x10_1), (11, ii (w64 (x11_1 + 1)))] rfl (by kernel_rfl) ?_
   refine XR.done (by kernel_rfl) ?_
   show XL _ _ _ _ _ _ _ _ _
   refine XL.ren (σ' := [(0, s0 0 a.length), (2, pp 1 0), (3, pp 2 0), (10, ii x10_1), (11, ii (w64 (x11_1 + 1)))]) (h' := [(4, rc encP o2 0 55 2), (3, rc encP [] 0 55 2), (2, .cells [ii xh2_0_1, s0 4 o2.length] 0 34 0), (1, .cells [ii 0, s0 3 0] 0 34 0), (0, rc (encI .u64) a z0 y0 1)]) (c' := 5) [0, 1, 2, 3, 4] (by decide) rfl ⟨by kernel_rfl, by kernel_rfl, by kernel_rfl, by kernel_rfl, by kernel_rfl, trivial⟩ ⟨⟨_, _, rfl, rfl, .inl ⟨rfl, rowC_scal encP_ok _⟩⟩, ⟨_, _, rfl, rfl, .inl ⟨rfl, rowC_scal encP_ok _⟩⟩, ⟨_, _, rfl, rfl, .inr ⟨_, _, _, _, rfl, rfl⟩⟩, ⟨_, _, rfl, rfl, .inr ⟨_, _, _, _, rfl, rfl⟩⟩, ⟨_, _, rfl, rfl, .inl ⟨rfl, rowC_scal (encI_ok .u64) _⟩⟩, trivial⟩ rfl ?_
   refine XL.conv (f78_1_ok m fuel z0 y0 a x10_1 (w64 (x11_1 + 1)) xh2_0_1 o2 o h Q hQ) (by first | rfl | simp)
  | false =>
   have h := cF b1 h
   refine XQ.cond (s := (.tmp 12)) (b := false) (by kernel_rfl) (by kernel_rfl) (fun q => by cases q) (fun _ => ?_)
   refine XQ.ren (σ' := [(2, pp 1 0), (3, pp 2 0)]) (h' := [(4, rc encP lh4_1 0 55 2), (3, rc encP [] 0 55 2), (2, .cells [ii xh2_0_1, s0 4 lh4_1.length] 0 34 0), (1, .cells [ii 0, s0 3 0] 0 34 0), (0, rc (encI .u64) a z0 y0 1)]) (c' := 5) [0, 1, 2, 3, 4] (by decide) rfl ⟨by kernel_rfl, by kernel_rfl, trivial⟩ ⟨⟨_, _, rfl, rfl, .inl ⟨rfl, rowC_scal encP_ok _⟩⟩, ⟨_, _, rfl, rfl, .inl ⟨rfl, rowC_scal encP_ok _⟩⟩, ⟨_, _, rfl, rfl, .inr ⟨_, _, _, _, rfl, rfl⟩⟩, ⟨_, _, rfl, rfl, .inr ⟨_, _, _, _, rfl, rfl⟩⟩, ⟨_, _, rfl, rfl, .inl ⟨rfl, rowC_scal (encI_ok .u64) _⟩⟩, trivial⟩ rfl ?_
   refine XQ.exit (i := 0) (by kernel_rfl) ?_
   cases h
   exact hQ

def f78 (m : Nat) (a : List Int) : Option (Int × (List (Int × Int))) :=
 (f78_1 m m a ((a.length : Nat) : Int) 0 ((a.length : Nat) : Int) []).bind fun o1 =>
  some (o1.1, o1.2)

set_option maxHeartbeats 8000000 in
theorem f78_ok (m : Nat) (z0 : Nat) (y0 : Nat) (a : List Int) (o : Int × (List (Int × Int))) (h : f78 m a = some o) : KC E0 78 [s0 0 a.length] [(0, rc (encI .u64) a z0 y0 1)] 1 (fun v h' c' => v = .agg #[ii o.1, s0 1 o.2.length] ∧ h' = [(1, rc encP o.2 0 55 2)] ++ [(0, rc (encI .u64) a z0 y0 1)] ∧ c' = 2) := by
 refine KC.renO ?_
 refine KC.bodyN E0_ok (F := Proofs.Tryd.f78) (by kernel_rfl) (code := f78_C78) (by kernel_rfl) (nt := 36) (by kernel_rfl) (rs := [.cell 2 34]) (by kernel_rfl) (by kernel_rfl) (σ := [(0, s0 0 a.length)]) (by kernel_rfl) ?_
 unfold f78 at h
 refine XQ.seq E0_ok (by kernel_rfl) ?_
 refine XQ.region (by kernel_rfl) ?_
 refine XR.runT E0_ok 1 1 [(0, s0 0 a.length), (2, pp 1 0)] [(1, .cells [ii 0, .slice none 0 0] 0 34 0), (0, rc (encI .u64) a z0 y0 1)] 2 rfl (by kernel_rfl) ?_
 refine XR.done (by kernel_rfl) ?_
 show XQ _ _ _ _ _ _ _ _
 refine XQ.ghost 55 2 rfl (σ' := [(0, s0 0 a.length), (2, pp 1 0)]) (h' := [(1, .cells [ii 0, s0 2 0] 0 34 0), (0, rc (encI .u64) a z0 y0 1)]) ⟨by kernel_rfl, by kernel_rfl, trivial⟩ ⟨⟨_, rfl, .inr ⟨_, _, _, _, rfl, rfl⟩⟩, ⟨_, rfl, .inl rfl⟩, trivial⟩ ?_
 refine XQ.conv (σ' := [(0, s0 0 a.length), (2, pp 1 0)]) (h' := [(2, rc encP [] 0 55 2), (1, .cells [ii 0, s0 2 0] 0 34 0), (0, rc (encI .u64) a z0 y0 1)]) (c' := 3) ?_ (by kernel_rfl)
 refine XQ.seq E0_ok (by kernel_rfl) ?_
 refine XQ.region (by kernel_rfl) ?_
 refine XR.runT E0_ok 1 5 [(0, s0 0 a.length), (2, pp 1 0), (3, pp 3 0)] [(3, .cells [ii ((a.length : Nat) : Int), .slice none 0 0] 0 34 0), (2, rc encP [] 0 55 2), (1, .cells [ii 0, s0 2 0] 0 34 0), (0, rc (encI .u64) a z0 y0 1)] 4 rfl (by kernel_rfl) ?_
 refine XR.done (by kernel_rfl) ?_
 show XQ _ _ _ _ _ _ _ _
 refine XQ.ghost 55 2 rfl (σ' := [(0, s0 0 a.length), (2, pp 1 0), (3, pp 3 0)]) (h' := [(3, .cells [ii ((a.length : Nat) : Int), s0 4 0] 0 34 0), (2, rc encP [] 0 55 2), (1, .cells [ii 0, s0 2 0] 0 34 0), (0, rc (encI .u64) a z0 y0 1)]) ⟨by kernel_rfl, by kernel_rfl, by kernel_rfl, trivial⟩ ⟨⟨_, rfl, .inr ⟨_, _, _, _, rfl, rfl⟩⟩, ⟨_, rfl, .inl rfl⟩, ⟨_, rfl, .inl rfl⟩, ⟨_, rfl, .inl rfl⟩, trivial⟩ ?_
 refine XQ.conv (σ' := [(0, s0 0 a.length), (2, pp 1 0), (3, pp 3 0)]) (h' := [(4, rc encP [] 0 55 2), (3, .cells [ii ((a.length : Nat) : Int), s0 4 0] 0 34 0), (2, rc encP [] 0 55 2), (1, .cells [ii 0, s0 2 0] 0 34 0), (0, rc (encI .u64) a z0 y0 1)]) (c' := 5) ?_ (by kernel_rfl)
 refine XQ.seq E0_ok (by kernel_rfl) ?_
 refine XQ.seq E0_ok (by kernel_rfl) ?_
 refine XQ.region (by kernel_rfl) ?_
 refine XR.runS E0_ok 1 3 [(0, s0 0 a.length), (2, pp 1 0), (3, pp 3 0), (10, ii ((a.length : Nat) : Int)), (11, ii 0)] rfl (by kernel_rfl) ?_
 refine XR.done (by kernel_rfl) ?_
 show XQ _ _ _ _ _ _ _ _
 refine XQ.block (id := 0) (by kernel_rfl) ?_
 refine XQ.loop m (by kernel_rfl) ?_
 obtain ⟨o1, o1_h, h⟩ := bS h
 refine XL.ren (σ' := [(0, s0 0 a.length), (2, pp 1 0), (3, pp 2 0), (10, ii ((a.length : Nat) : Int)), (11, ii 0)]) (h' := [(4, rc encP [] 0 55 2), (3, rc encP [] 0 55 2), (2, .cells [ii ((a.length : Nat) : Int), s0 4 0] 0 34 0), (1, .cells [ii 0, s0 3 0] 0 34 0), (0, rc (encI .u64) a z0 y0 1)]) (c' := 5) [0, 1, 3, 2, 4] (by decide) rfl ⟨by kernel_rfl, by kernel_rfl, by kernel_rfl, by kernel_rfl, by kernel_rfl, trivial⟩ ⟨⟨_, _, rfl, rfl, .inl ⟨rfl, rowC_scal encP_ok _⟩⟩, ⟨_, _, rfl, rfl, .inl ⟨rfl, rowC_scal encP_ok _⟩⟩, ⟨_, _, rfl, rfl, .inr ⟨_, _, _, _, rfl, rfl⟩⟩, ⟨_, _, rfl, rfl, .inr ⟨_, _, _, _, rfl, rfl⟩⟩, ⟨_, _, rfl, rfl, .inl ⟨rfl, rowC_scal (encI_ok .u64) _⟩⟩, trivial⟩ rfl ?_
 refine XL.conv (f78_1_ok m m z0 y0 a ((a.length : Nat) : Int) 0 ((a.length : Nat) : Int) [] o1 o1_h _ ?_) (by first | rfl | simp)
 show XQ _ _ _ _ _ _ _ _
 refine XQ.seq E0_ok (by kernel_rfl) ?_
 refine XQ.region (by kernel_rfl) ?_
 refine XR.runT E0_ok 1 2 [(2, pp 1 0)] [(4, rc encP o1.2 0 55 2), (3, rc encP [] 0 55 2), (2, .cells [ii o1.1, s0 4 o1.2.length] 0 34 0), (1, .cells [ii o1.1, s0 4 o1.2.length] 0 34 0), (0, rc (encI .u64) a z0 y0 1)] 5 rfl (by kernel_rfl) ?_
 refine XR.done (by kernel_rfl) ?_
 show XQ _ _ _ _ _ _ _ _
 refine XQ.ren (σ' := [(2, pp 1 0)]) (h' := [(2, rc encP o1.2 0 55 2), (1, .cells [ii o1.1, s0 2 o1.2.length] 0 34 0), (0, rc (encI .u64) a z0 y0 1)]) (c' := 3) [0, 1, 4] (by decide) rfl ⟨by kernel_rfl, trivial⟩ ⟨⟨_, _, rfl, rfl, .inl ⟨rfl, rowC_scal encP_ok _⟩⟩, ⟨_, _, rfl, rfl, .inr ⟨_, _, _, _, rfl, rfl⟩⟩, ⟨_, _, rfl, rfl, .inl ⟨rfl, rowC_scal (encI_ok .u64) _⟩⟩, trivial⟩ rfl ?_
 refine XQ.ret (by kernel_rfl) ?_
 have h := Option.some.inj h
 subst h
 exact ⟨fun i q => (by cases q), .agg #[ii o1.1, s0 2 o1.2.length], (by kernel_rfl), [0, 2], .agg #[ii o1.1, s0 1 o1.2.length], [(1, rc encP o1.2 0 55 2), (0, rc (encI .u64) a z0 y0 1)], (by decide), rfl, (by kernel_rfl), ⟨⟨_, _, rfl, rfl, .inl ⟨rfl, rowC_scal encP_ok _⟩⟩, ⟨_, _, rfl, rfl, .inl ⟨rfl, rowC_scal (encI_ok .u64) _⟩⟩, trivial⟩, (by kernel_rfl), (by kernel_rfl), rfl⟩

end Go.Xm
