/- What these functions of the program compute, as functions in Lean, and the proofs that they do: dock.Park, vitolalaw14.MasterParked. Conditions: the library's variables hold what their texts lay. -/
import Derived.Test.YtglkjlafglpalaaGreatDoorWe
import Derived.Test.YtglkjlafglpalaaGreatDoorEz
namespace Go.Xm
open Go.RowKit
set_option linter.unusedVariables false
set_option linter.unusedSimpArgs false
set_option maxRecDepth 20000
set_option maxHeartbeats 4000000
noncomputable def f43_C43 : Code := Proofs.Tryz.f43.body.getD .skip
noncomputable def f43_C84 : Code := Proofs.Tryz.f84.body.getD .skip
noncomputable def f43_C107 : Code := Proofs.Tryz.f107.body.getD .skip
noncomputable def f43_C134 : Code := Proofs.Tryz.f134.body.getD .skip
noncomputable def f43_C175 : Code := Proofs.Tryz.f175.body.getD .skip
noncomputable def f43_C176 : Code := Proofs.Tryz.f176.body.getD .skip
noncomputable def f43_C205 : Code := Proofs.Tryz.f205.body.getD .skip
noncomputable def f43_C177 : Code := Proofs.Tryz.f177.body.getD .skip
noncomputable def f43_C108 : Code := Proofs.Tryz.f108.body.getD .skip
noncomputable def f43_L1 : Code := lft (lft (rgt (lft (rgt f43_C205))))
noncomputable def f43_L2 : Code := lft (lft (rgt (lft (rgt (rgt (rgt (rgt f43_C84)))))))
noncomputable def f43_L3 : Code := lft (lft (rgt (lft (rgt (rgt (rgt f43_C43))))))
def f43_1 (m : Nat) : Nat → List Int → Int → Int → Int → Option Int
 | 0, _, _, _, _ => none
 | fuel + 1, b, x7_1, x8_1, xh1_0_1 =>
  cond (decide (x8_1 < x7_1)) (
   cond (inRow x8_1 b.length) (
    cond (decide ((0 : Int) ≤ (List.getD b (Int.toNat x8_1) 0))) (
     cond (!(decide ((List.getD b (Int.toNat x8_1) 0) ≤ xh1_0_1))) (
      none
     ) (
      f43_1 m fuel b x7_1 (w64 (x8_1 + 1)) xh1_0_1
     )
    ) none
   ) none
  ) (
   some (xh1_0_1)
  )
abbrev aPl8 (b : List Int) (z0 : Nat) (y0 : Nat) : Nat × XObj := (0, rc (encI .i64) b z0 y0 1)
abbrev aPl9 : Nat × Value := (1, .func (.func 177) #[] #[pp 1 0])
abbrev aPl13 (b : List Int) (x8_1 : Int) := (List.getD b (Int.toNat x8_1) 0)
theorem f43_1_ok (m : Nat) : ∀ (fuel : Nat) (z0 : Nat) (y0 : Nat) (b : List Int) (x7_1 : Int) (x8_1 : Int) (xh1_0_1 : Int) (o : Int), f43_1 m fuel b x7_1 x8_1 xh1_0_1 = some o → ∀ Q : QP, Q (.exit 0) [] [(1, .cells [ii o] 0 3 0), (0, rc (encI .i64) b z0 y0 1)] 2 → XL E0 19 2 fuel f43_L1 [(0, s0 0 b.length), (1, .func (.func 177) #[] #[pp 1 0]), (7, ii x7_1), (8, ii x8_1)] [(1, .cells [ii xh1_0_1] 0 3 0), (0, rc (encI .i64) b z0 y0 1)] 2 Q
 | 0, z0, y0, b, x7_1, x8_1, xh1_0_1, o, h, Q, hQ => by cases h
 | fuel + 1, z0, y0, b, x7_1, x8_1, xh1_0_1, o, h, Q, hQ => by
  unfold f43_1 at h
  refine XL.succ E0_ok ?_
  refine qE 1 [(0, s0 0 b.length), aPl9, (7, ii x7_1), (8, ii x8_1), (9, .bool (decide (x8_1 < x7_1)))] id ?_
  refine sQ ?_
  cases b1 : (decide (x8_1 < x7_1) : Bool)
  case false =>
   have h := cF b1 h
   refine iF 9 ?_
   refine nR [] [(1, .cells [ii xh1_0_1] 0 3 0), (aPl8 b z0 y0)] 2 [0, 1] ?_
   refine XQ.exit (i := 0) (by kernel_rfl) ?_
   cases h
   exact hQ
  have h := cT b1 h
  refine iT 9 ?_
  refine kQ ?_
  show XQ _ _ _ _ _ _ _ _
  refine sQ ?_
  refine XQ.block (id := 1) (by kernel_rfl) ?_
  refine qQ ?_
  refine rS 2 [(0, s0 0 b.length), aPl9, (5, ii x8_1), (7, ii x7_1), (8, ii x8_1)] ?_
  refine nQ id ?_
  refine rS 3 [(0, s0 0 b.length), aPl9, (5, ii x8_1), (7, ii x7_1), (8, ii x8_1), (11, .func (.func 177) #[] #[pp 1 0]), (12, s0 0 b.length), (13, ii x8_1)] ?_
  obtain ⟨b2, h⟩ := oC h
  refine rR (pp 0 ((Int.toNat x8_1) * 1)) (iV 12 (.tmp 13) 14 1 0 b2) [(0, s0 0 b.length), aPl9, (5, ii x8_1), (7, ii x7_1), (8, ii x8_1), (11, .func (.func 177) #[] #[pp 1 0]), (14, pp 0 ((Int.toNat x8_1) * 1))] ?_
  refine rR (ii (aPl13 b x8_1)) (v_load1 (encI_ok .i64) (x := (src 19 (.tmp 14))) (b := 0) (off := (Int.toNat x8_1) * 1) (xs := b) (fz := z0) (e := y0) (es := 1) (d := (some (path 12 15))) (by kernel_rfl) (by kernel_rfl) (by kernel_rfl) (Int.toNat x8_1) 0 0 (by first | with_reducible rfl | omega | rfl) (row_len (inRow_toNat b2) (by simp)) rfl rfl) [(0, s0 0 b.length), aPl9, (5, ii x8_1), (7, ii x7_1), (8, ii x8_1), (11, .func (.func 177) #[] #[pp 1 0]), (15, ii (aPl13 b x8_1))] ?_
  refine cK [0, 1, 5, 7, 8, 16] 177 [ii (aPl13 b x8_1), pp 1 0] 16 ?_
  refine kN Proofs.Tryz.f177 f43_C177 8 [.tmp 3] ?_
  refine qQ ?_
  refine rS 1 [(0, ii (aPl13 b x8_1)), (1, pp 1 0)] ?_
  refine nQ id ?_
  refine rS 2 [(4, ii (aPl13 b x8_1)), (5, ii xh1_0_1)] ?_
  refine cK [6] 175 [ii (aPl13 b x8_1), ii 0, ii xh1_0_1] 6 ?_
  refine kN Proofs.Tryz.f175 f43_C175 15 [.tmp 6] ?_
  refine qQ ?_
  refine rS 1 [(0, ii (aPl13 b x8_1)), (1, ii 0), (2, ii xh1_0_1)] ?_
  refine nQ id ?_
  refine rS 4 [(0, ii (aPl13 b x8_1)), (2, ii xh1_0_1), (10, .bool (decide ((0 : Int) ≤ (aPl13 b x8_1))))] ?_
  cases b3 : (decide ((0 : Int) ≤ (aPl13 b x8_1)) : Bool)
  case false => exact nomatch (cF b3 h)
  have h := cT b3 h
  refine rE 5 [(6, .bool (decide ((aPl13 b x8_1) ≤ xh1_0_1)))] id ?_
  refine tV (.bool (decide ((aPl13 b x8_1) ≤ xh1_0_1))) id ?_
  refine rE 2 [(3, .bool (!(decide ((aPl13 b x8_1) ≤ xh1_0_1))))] id ?_
  refine tV (.bool (!(decide ((aPl13 b x8_1) ≤ xh1_0_1)))) id ?_
  refine eQ id ?_
  cases b4 : (!(decide ((aPl13 b x8_1) ≤ xh1_0_1)) : Bool)
  case true => cases (cT b4 h)
  have h := cF b4 h
  refine iK 16 id ?_
  refine rQ ?_
  refine rS 2 [(0, s0 0 b.length), aPl9, (7, ii x7_1), (8, ii (w64 (x8_1 + 1)))] ?_
  refine dQ ?_
  show XL _ _ _ _ _ _ _ _ _
  refine nL [(0, s0 0 b.length), aPl9, (7, ii x7_1), (8, ii (w64 (x8_1 + 1)))] [(1, .cells [ii xh1_0_1] 0 3 0), (aPl8 b z0 y0)] 2 [0, 1] ?_
  refine XL.conv (f43_1_ok m fuel z0 y0 b x7_1 (w64 (x8_1 + 1)) xh1_0_1 o h Q hQ) (by first | with_reducible rfl | simp | rfl)
def f43_2 (m : Nat) : Nat → Int → List Int → Int → Int → Int → List (Option (Int × Int)) → Option (List (Option (Int × Int)))
 | 0, _, _, _, _, _, _ => none
 | fuel + 1, a, b, x20_2, x21_2, xh1_1_2, lh2_2 =>
  cond (decide (x21_2 < x20_2)) (
   cond (inRow x21_2 b.length) (
    cond (decide (0 ≤ List.getD b (Int.toNat x21_2) 0)) (
     cond (decide (0 ≤ a)) (
      cond ((andV .u64 (shV true .u64 (shV false .u64 (xorV .u64 18446744073709551615 xh1_1_2) (List.getD b (Int.toNat x21_2) 0)) (List.getD b (Int.toNat x21_2) 0)) (IntKind.wrap .u64 ((shV true .u64 1 a) - 1))) == 0) (
       cond (fitsB (lh2_2.length + 1) 16) (
        f43_2 m fuel a b x20_2 (w64 (x21_2 + 1)) xh1_1_2 (lh2_2 ++ [none])
       ) none
      ) (
       (tzS (andV .u64 (shV true .u64 (shV false .u64 (xorV .u64 18446744073709551615 xh1_1_2) (List.getD b (Int.toNat x21_2) 0)) (List.getD b (Int.toNat x21_2) 0)) (IntKind.wrap .u64 ((shV true .u64 1 a) - 1)))).bind fun r3 =>
        cond (decide (0 ≤ r3)) (
         cond (fitsB (lh2_2.length + 1) 16) (
          f43_2 m fuel a b x20_2 (w64 (x21_2 + 1)) (orV .u64 xh1_1_2 (shV true .u64 1 r3)) (lh2_2 ++ [some (r3, w64 (r3 - (List.getD b (Int.toNat x21_2) 0)))])
         ) none
        ) none
      )
     ) none
    ) none
   ) none
  ) (
   some (lh2_2)
  )
abbrev aPl1 (b : List Int) (x21_2 : Int) := (List.getD b (Int.toNat x21_2) 0)
abbrev aPl2 (xh1_1_2 : Int) (b : List Int) (x21_2 : Int) := (shV true .u64 (shV false .u64 (xorV .u64 18446744073709551615 xh1_1_2) (aPl1 b x21_2)) (aPl1 b x21_2))
abbrev aPl14 (b : List Int) (x21_2 : Int) (xh1_1_2 : Int) : List (Nat × Value) := [(0, pp 1 0), (1, ii (aPl1 b x21_2)), (13, .int .u64 (shV false .u64 (xorV .u64 18446744073709551615 xh1_1_2) (aPl1 b x21_2))), (14, ii (aPl1 b x21_2))]
abbrev aPl17 (xh1_1_2 : Int) (b : List Int) (x21_2 : Int) (a : Int) := (andV .u64 (aPl2 xh1_1_2 b x21_2) (IntKind.wrap .u64 ((shV true .u64 1 a) - 1)))
abbrev aPl18 (b : List Int) : Nat × Value := (19, s0 0 b.length)
abbrev aPl19 (b : List Int) (x21_2 : Int) (xh1_1_2 : Int) : List (Nat × Value) := [(0, pp 1 0), (1, ii (aPl1 b x21_2)), (11, .int .u64 (xorV .u64 18446744073709551615 xh1_1_2)), (12, ii (aPl1 b x21_2))]
abbrev aPl21 (a : Int) (xh1_1_2 : Int) : Nat × XObj := (1, .cells [ii a, .int .u64 xh1_1_2] 0 175 0)
theorem f43_2_ok (m : Nat) : ∀ (fuel : Nat) (a : Int) (z0 : Nat) (y0 : Nat) (b : List Int) (x20_2 : Int) (x21_2 : Int) (xh1_1_2 : Int) (lh2_2 : List (Option (Int × Int))) (o : (List (Option (Int × Int)))), f43_2 m fuel a b x20_2 x21_2 xh1_1_2 lh2_2 = some o → ∀ Q : QP, Q (.exit 0) [(8, s0 1 o.length)] [(1, rc encF o 0 142 1), (0, rc (encI .i64) b z0 y0 1)] 2 → XL E0 32 1 fuel f43_L2 [(7, pp 1 0), (8, s0 2 lh2_2.length), (19, s0 0 b.length), (20, ii x20_2), (21, ii x21_2)] [(2, rc encF lh2_2 0 142 1), (1, .cells [ii a, .int .u64 xh1_1_2] 0 175 0), (0, rc (encI .i64) b z0 y0 1)] 3 Q
 | 0, a, z0, y0, b, x20_2, x21_2, xh1_1_2, lh2_2, o, h, Q, hQ => by cases h
 | fuel + 1, a, z0, y0, b, x20_2, x21_2, xh1_1_2, lh2_2, o, h, Q, hQ => by
  unfold f43_2 at h
  refine XL.succ E0_ok ?_
  refine qE 1 [(7, pp 1 0), (8, s0 2 lh2_2.length), (aPl18 b), (20, ii x20_2), (21, ii x21_2), (22, .bool (decide (x21_2 < x20_2)))] id ?_
  refine sQ ?_
  cases b1 : (decide (x21_2 < x20_2) : Bool)
  case false =>
   have h := cF b1 h
   refine iF 22 ?_
   refine nR [(8, s0 1 lh2_2.length)] [(1, rc encF lh2_2 0 142 1), (aPl8 b z0 y0)] 2 [0, 2] ?_
   refine XQ.exit (i := 0) (by kernel_rfl) ?_
   cases h
   exact hQ
  have h := cT b1 h
  refine iT 22 ?_
  refine kQ ?_
  show XQ _ _ _ _ _ _ _ _
  refine sQ ?_
  refine XQ.block (id := 1) (by kernel_rfl) ?_
  refine qQ ?_
  obtain ⟨b2, h⟩ := oC h
  refine rR (pp 0 ((Int.toNat x21_2) * 1)) (iV 19 (.tmp 21) 23 1 0 b2) [(7, pp 1 0), (8, s0 2 lh2_2.length), (aPl18 b), (20, ii x20_2), (21, ii x21_2), (23, pp 0 ((Int.toNat x21_2) * 1))] ?_
  refine rR (ii (aPl1 b x21_2)) (v_load1 (encI_ok .i64) (x := (src 32 (.tmp 23))) (b := 0) (off := (Int.toNat x21_2) * 1) (xs := b) (fz := z0) (e := y0) (es := 1) (d := (some (path 12 24))) (by kernel_rfl) (by kernel_rfl) (by kernel_rfl) (Int.toNat x21_2) 0 0 (by first | with_reducible rfl | omega | rfl) (row_len (inRow_toNat b2) (by simp)) rfl rfl) [(7, pp 1 0), (8, s0 2 lh2_2.length), (aPl18 b), (20, ii x20_2), (21, ii x21_2), (24, ii (aPl1 b x21_2))] ?_
  refine rE 1 [(7, pp 1 0), (8, s0 2 lh2_2.length), (10, ii (aPl1 b x21_2)), (aPl18 b), (20, ii x20_2), (21, ii x21_2)] id ?_
  refine rQ ?_
  refine rS 2 [(7, pp 1 0), (aPl18 b), (20, ii x20_2), (21, ii x21_2), (25, s0 2 lh2_2.length), (26, ii (aPl1 b x21_2))] ?_
  refine cK [7, 19, 20, 21, 25, 27] 108 [pp 1 0, ii (aPl1 b x21_2)] 27 ?_
  refine kN Proofs.Tryz.f108 f43_C108 44 [.tmp 4] ?_
  refine qE 1 [(0, pp 1 0), (1, ii (aPl1 b x21_2))] id ?_
  refine sQ ?_
  refine XQ.quiet E0_ok (by kernel_rfl) (by kernel_rfl) ?_
  refine XU.run E0_ok 1 6 [0, 1, 11, 12] rfl (σ' := (aPl19 b x21_2 xh1_1_2)) (by kernel_rfl) ?_
  obtain ⟨b3, h⟩ := oC h
  have e4 : insV (headI ((gsOf E0 44 (opsOf (lft (rgt f43_C108)))).drop 6) (trS 44 (aPl19 b x21_2 xh1_1_2))) (trS 44 (aPl19 b x21_2 xh1_1_2)) [(2, rc encF lh2_2 0 142 1), (aPl21 a xh1_1_2), (aPl8 b z0 y0)] = (match (decide (0 ≤ List.getD b (Int.toNat x21_2) 0) : Bool) with | true => some (.int .u64 (shV false .u64 (xorV .u64 18446744073709551615 xh1_1_2) (aPl1 b x21_2))) | false => none) := by kernel_rfl
  refine XU.rd E0_ok [0, 1, 13] rfl (e4.trans (by rw [b3])) (σ' := [(0, pp 1 0), (1, ii (aPl1 b x21_2)), (13, .int .u64 (shV false .u64 (xorV .u64 18446744073709551615 xh1_1_2) (aPl1 b x21_2)))]) (by kernel_rfl) ?_
  refine XU.run E0_ok 1 1 [0, 1, 13, 14] rfl (σ' := (aPl14 b x21_2 xh1_1_2)) (by kernel_rfl) ?_
  have e5 : insV (headI ((gsOf E0 44 (opsOf (lft (rgt f43_C108)))).drop 8) (trS 44 (aPl14 b x21_2 xh1_1_2))) (trS 44 (aPl14 b x21_2 xh1_1_2)) [(2, rc encF lh2_2 0 142 1), (aPl21 a xh1_1_2), (aPl8 b z0 y0)] = (match (decide (0 ≤ List.getD b (Int.toNat x21_2) 0) : Bool) with | true => some (.int .u64 (aPl2 xh1_1_2 b x21_2)) | false => none) := by kernel_rfl
  refine XU.rd E0_ok [0, 1, 15] rfl (e5.trans (by rw [b3])) (σ' := [(0, pp 1 0), (1, ii (aPl1 b x21_2)), (15, .int .u64 (aPl2 xh1_1_2 b x21_2))]) (by kernel_rfl) ?_
  refine XU.run E0_ok 1 4 [0, 1, 15, 19] rfl (σ' := [(0, pp 1 0), (1, ii (aPl1 b x21_2)), (15, .int .u64 (aPl2 xh1_1_2 b x21_2)), (19, ii a)]) (by kernel_rfl) ?_
  obtain ⟨b6, h⟩ := oC h
  have e7 : insV (headI ((gsOf E0 44 (opsOf (lft (rgt f43_C108)))).drop 13) (trS 44 [(0, pp 1 0), (1, ii (aPl1 b x21_2)), (15, .int .u64 (aPl2 xh1_1_2 b x21_2)), (19, ii a)])) (trS 44 [(0, pp 1 0), (1, ii (aPl1 b x21_2)), (15, .int .u64 (aPl2 xh1_1_2 b x21_2)), (19, ii a)]) [(2, rc encF lh2_2 0 142 1), (aPl21 a xh1_1_2), (aPl8 b z0 y0)] = (match (decide (0 ≤ a) : Bool) with | true => some (.int .u64 (shV true .u64 1 a)) | false => none) := by kernel_rfl
  refine XU.rd E0_ok [0, 1, 15, 20] rfl (e7.trans (by rw [b6])) (σ' := [(0, pp 1 0), (1, ii (aPl1 b x21_2)), (15, .int .u64 (aPl2 xh1_1_2 b x21_2)), (20, .int .u64 (shV true .u64 1 a))]) (by kernel_rfl) ?_
  refine XU.run E0_ok 1 3 [0, 1, 5] rfl (σ' := [(0, pp 1 0), (1, ii (aPl1 b x21_2)), (5, .int .u64 (aPl17 xh1_1_2 b x21_2 a))]) (by kernel_rfl) ?_
  refine XU.done (by kernel_rfl) ?_
  show XQ _ _ _ _ _ _ _ _
  refine sQ ?_
  refine qE 2 [(0, pp 1 0), (1, ii (aPl1 b x21_2)), (5, .int .u64 (aPl17 xh1_1_2 b x21_2 a)), (24, .bool ((aPl17 xh1_1_2 b x21_2 a) == 0))] id ?_
  cases b8 : ((aPl17 xh1_1_2 b x21_2 a) == 0 : Bool)
  case true =>
   have h := cT b8 h
   refine iT 24 ?_
   refine qE 3 [(4, .iface 145 (.agg #[]))] id ?_
   refine tV (.iface 145 (.agg #[])) id ?_
   refine rD 1 [(7, pp 1 0), (aPl18 b), (20, ii x20_2), (21, ii x21_2), (25, s0 2 lh2_2.length), (28, s0 3 1)] (fun h => (3, .cells [.iface 145 (.agg #[])] 0 142 1) :: h) 4 ?_
   obtain ⟨b9, h⟩ := oC h
   refine eR (e_append encF_ok (bytes := 16) (e := 142) (x := (src 32 (.tmp 25))) (y := (src 32 (.tmp 28))) (b := 2) (len := lh2_2.length) (cap := lh2_2.length) (xs := lh2_2) (m := 0) (ys := [none]) (d := (some (path 12 29))) (n' := (lh2_2 ++ [none]).length) (h' := [(4, rc encF (lh2_2 ++ [none]) 0 142 1), (3, .cells [.iface 145 (.agg #[])] 0 142 1), (aPl21 a xh1_1_2), (aPl8 b z0 y0)]) (by kernel_rfl) (by kernel_rfl) (by kernel_rfl) (by kernel_rfl) rfl (by simp) (by simp) b9 (by simp) (by kernel_rfl)) [(7, pp 1 0), (aPl18 b), (20, ii x20_2), (21, ii x21_2), (29, s0 4 ((lh2_2 ++ [none]).length))] ?_
   refine rE 1 [(7, pp 1 0), (8, s0 4 ((lh2_2 ++ [none]).length)), (aPl18 b), (20, ii x20_2), (21, ii x21_2)] id ?_
   refine rQ ?_
   refine rS 2 [(7, pp 1 0), (8, s0 4 ((lh2_2 ++ [none]).length)), (aPl18 b), (20, ii x20_2), (21, ii (w64 (x21_2 + 1)))] ?_
   refine dQ ?_
   show XL _ _ _ _ _ _ _ _ _
   refine nL [(7, pp 1 0), (8, s0 2 ((lh2_2 ++ [none]).length)), (aPl18 b), (20, ii x20_2), (21, ii (w64 (x21_2 + 1)))] [(2, rc encF (lh2_2 ++ [none]) 0 142 1), (aPl21 a xh1_1_2), (aPl8 b z0 y0)] 3 [0, 1, 4] ?_
   refine XL.conv (f43_2_ok m fuel a z0 y0 b x20_2 (w64 (x21_2 + 1)) xh1_1_2 (lh2_2 ++ [none]) o h Q hQ) (by first | with_reducible rfl | simp | rfl)
  have h := cF b8 h
  refine iK 24 id ?_
  refine qQ ?_
  refine rS 1 [(0, pp 1 0), (1, ii (aPl1 b x21_2)), (27, .int .u64 (aPl17 xh1_1_2 b x21_2 a))] ?_
  obtain ⟨r3, r3_h, h⟩ := bS h
  refine cQ [0, 1, 28] 28 (KC.of_calls E0_ok (F := Proofs.Tryz.f135) (v := ii r3) (by kernel_rfl) rfl rfl (fun w hI => tzS_ok r3_h w hI.1)) ?_
  refine rE 1 [(0, pp 1 0), (1, ii (aPl1 b x21_2)), (6, ii r3)] id ?_
  refine sQ ?_
  refine XQ.tail E0_ok 9 (by kernel_rfl) (by kernel_rfl) ?_
  refine XS.step E0_ok 5 rfl [1, 6, 29, 32, 33] rfl (σ' := [(1, ii (aPl1 b x21_2)), (6, ii r3), (29, pp 1 0), (32, .int .u64 xh1_1_2), (33, ii r3)]) (by kernel_rfl) ?_
  obtain ⟨b10, h⟩ := oC h
  have e11 : insV (headI ((gsOf E0 44 (opsOf (lft (rgt (rgt (rgt (rgt f43_C108))))))).drop 5) (trS 44 [(1, ii (aPl1 b x21_2)), (6, ii r3), (29, pp 1 0), (32, .int .u64 xh1_1_2), (33, ii r3)])) (trS 44 [(1, ii (aPl1 b x21_2)), (6, ii r3), (29, pp 1 0), (32, .int .u64 xh1_1_2), (33, ii r3)]) [(2, rc encF lh2_2 0 142 1), (aPl21 a xh1_1_2), (aPl8 b z0 y0)] = (match (decide (0 ≤ r3) : Bool) with | true => some (.int .u64 (shV true .u64 1 r3)) | false => none) := by kernel_rfl
  refine XS.rd E0_ok rfl [1, 6, 29, 32, 34] rfl (e11.trans (by rw [b10])) (σ' := [(1, ii (aPl1 b x21_2)), (6, ii r3), (29, pp 1 0), (32, .int .u64 xh1_1_2), (34, .int .u64 (shV true .u64 1 r3))]) (by kernel_rfl) ?_
  refine XS.step E0_ok 3 rfl [1, 6, 35, 37] rfl (σ' := [(1, ii (aPl1 b x21_2)), (6, ii r3), (35, .int .u64 (orV .u64 xh1_1_2 (shV true .u64 1 r3))), (37, pp 1 1)]) (by kernel_rfl) ?_
  refine XS.done (by kernel_rfl) ?_
  refine rD 1 [(1, ii (aPl1 b x21_2)), (6, ii r3)] (fun h => hset h 1 (.cells [ii a, .int .u64 (orV .u64 xh1_1_2 (shV true .u64 1 r3))] 0 175 0)) 3 ?_
  refine nQ id ?_
  refine rE 7 [(4, .iface 144 (.agg #[ii r3, ii (w64 (r3 - (aPl1 b x21_2)))]))] id ?_
  refine tV (.iface 144 (.agg #[ii r3, ii (w64 (r3 - (aPl1 b x21_2)))])) id ?_
  refine rD 1 [(7, pp 1 0), (aPl18 b), (20, ii x20_2), (21, ii x21_2), (25, s0 2 lh2_2.length), (28, s0 3 1)] (fun h => (3, .cells [.iface 144 (.agg #[ii r3, ii (w64 (r3 - (aPl1 b x21_2)))])] 0 142 1) :: h) 4 ?_
  obtain ⟨b12, h⟩ := oC h
  refine eR (e_append encF_ok (bytes := 16) (e := 142) (x := (src 32 (.tmp 25))) (y := (src 32 (.tmp 28))) (b := 2) (len := lh2_2.length) (cap := lh2_2.length) (xs := lh2_2) (m := 0) (ys := [some (r3, w64 (r3 - (aPl1 b x21_2)))]) (d := (some (path 12 29))) (n' := (lh2_2 ++ [some (r3, w64 (r3 - (aPl1 b x21_2)))]).length) (h' := [(4, rc encF (lh2_2 ++ [some (r3, w64 (r3 - (aPl1 b x21_2)))]) 0 142 1), (3, .cells [.iface 144 (.agg #[ii r3, ii (w64 (r3 - (aPl1 b x21_2)))])] 0 142 1), (1, .cells [ii a, .int .u64 (orV .u64 xh1_1_2 (shV true .u64 1 r3))] 0 175 0), (aPl8 b z0 y0)]) (by kernel_rfl) (by kernel_rfl) (by kernel_rfl) (by kernel_rfl) rfl (by simp) (by simp) b12 (by simp) (by kernel_rfl)) [(7, pp 1 0), (aPl18 b), (20, ii x20_2), (21, ii x21_2), (29, s0 4 ((lh2_2 ++ [some (r3, w64 (r3 - (aPl1 b x21_2)))]).length))] ?_
  refine rE 1 [(7, pp 1 0), (8, s0 4 ((lh2_2 ++ [some (r3, w64 (r3 - (aPl1 b x21_2)))]).length)), (aPl18 b), (20, ii x20_2), (21, ii x21_2)] id ?_
  refine rQ ?_
  refine rS 2 [(7, pp 1 0), (8, s0 4 ((lh2_2 ++ [some (r3, w64 (r3 - (aPl1 b x21_2)))]).length)), (aPl18 b), (20, ii x20_2), (21, ii (w64 (x21_2 + 1)))] ?_
  refine dQ ?_
  show XL _ _ _ _ _ _ _ _ _
  refine nL [(7, pp 1 0), (8, s0 2 ((lh2_2 ++ [some (r3, w64 (r3 - (aPl1 b x21_2)))]).length)), (aPl18 b), (20, ii x20_2), (21, ii (w64 (x21_2 + 1)))] [(2, rc encF (lh2_2 ++ [some (r3, w64 (r3 - (aPl1 b x21_2)))]) 0 142 1), (1, .cells [ii a, .int .u64 (orV .u64 xh1_1_2 (shV true .u64 1 r3))] 0 175 0), (aPl8 b z0 y0)] 3 [0, 1, 4] ?_
  refine XL.conv (f43_2_ok m fuel a z0 y0 b x20_2 (w64 (x21_2 + 1)) (orV .u64 xh1_1_2 (shV true .u64 1 r3)) (lh2_2 ++ [some (r3, w64 (r3 - (aPl1 b x21_2)))]) o h Q hQ) (by first | with_reducible rfl | simp | rfl)
def f43_3 (m : Nat) : Nat → List Int → (List (Option (Int × Int))) → Int → Int → List Int → Option (List Int)
 | 0, _, _, _, _, _ => none
 | fuel + 1, b, o2, x20_3, x21_3, lh1_3 =>
  cond (decide (x21_3 < x20_3)) (
   cond (inRow x21_3 o2.length) (
    cond (Option.isSome (List.getD o2 (Int.toNat x21_3) none)) (
     cond (fitsB (lh1_3.length + 1) 8) (
      f43_3 m fuel b o2 x20_3 (w64 (x21_3 + 1)) (lh1_3 ++ [(Option.getD (List.getD o2 (Int.toNat x21_3) none) (0, 0)).1])
     ) none
    ) (
     cond (fitsB (lh1_3.length + 1) 8) (
      f43_3 m fuel b o2 x20_3 (w64 (x21_3 + 1)) (lh1_3 ++ [(-1)])
     ) none
    )
   ) none
  ) (
   some (lh1_3)
  )
abbrev aPl26 (x21_3 : Int) := (Int.toNat x21_3)
abbrev aPl29 (lh1_3 : List Int) : Nat × Value := (8, s0 1 lh1_3.length)
theorem f43_3_ok (m : Nat) : ∀ (fuel : Nat) (z0 : Nat) (y0 : Nat) (b : List Int) (o2 : (List (Option (Int × Int)))) (x20_3 : Int) (x21_3 : Int) (lh1_3 : List Int) (o : (List Int)), f43_3 m fuel b o2 x20_3 x21_3 lh1_3 = some o → ∀ Q : QP, Q (.exit 0) [(7, ii 0), (8, s0 1 o.length)] [(1, rc (encI .i64) o 0 3 1), (0, rc (encI .i64) b z0 y0 1)] 2 → XL E0 43 1 fuel f43_L3 [(7, ii 0), (8, s0 1 lh1_3.length), (19, s0 2 o2.length), (20, ii x20_3), (21, ii x21_3)] [(2, rc encF o2 0 142 1), (1, rc (encI .i64) lh1_3 0 3 1), (0, rc (encI .i64) b z0 y0 1)] 3 Q
 | 0, z0, y0, b, o2, x20_3, x21_3, lh1_3, o, h, Q, hQ => by cases h
 | fuel + 1, z0, y0, b, o2, x20_3, x21_3, lh1_3, o, h, Q, hQ => by
  unfold f43_3 at h
  refine XL.succ E0_ok ?_
  refine qE 1 [(7, ii 0), (aPl29 lh1_3), (19, s0 2 o2.length), (20, ii x20_3), (21, ii x21_3), (22, .bool (decide (x21_3 < x20_3)))] id ?_
  refine sQ ?_
  cases b1 : (decide (x21_3 < x20_3) : Bool)
  case false =>
   have h := cF b1 h
   refine iF 22 ?_
   refine nR [(7, ii 0), (aPl29 lh1_3)] [(1, rc (encI .i64) lh1_3 0 3 1), (aPl8 b z0 y0)] 2 [0, 1] ?_
   refine XQ.exit (i := 0) (by kernel_rfl) ?_
   cases h
   exact hQ
  have h := cT b1 h
  refine iT 22 ?_
  refine kQ ?_
  show XQ _ _ _ _ _ _ _ _
  refine sQ ?_
  refine XQ.block (id := 1) (by kernel_rfl) ?_
  refine qQ ?_
  obtain ⟨b2, h⟩ := oC h
  refine rR (pp 2 ((aPl26 x21_3) * 1)) (iV 19 (.tmp 21) 23 1 0 b2) [(7, ii 0), (aPl29 lh1_3), (19, s0 2 o2.length), (20, ii x20_3), (21, ii x21_3), (23, pp 2 ((aPl26 x21_3) * 1))] ?_
  refine rR _ (lV encF_ok 23 24 2 ((aPl26 x21_3) * 1) o2 0 142 1 (aPl26 x21_3) 0 none (rl b2)) [(7, ii 0), (aPl29 lh1_3), (19, s0 2 o2.length), (20, ii x20_3), (21, ii x21_3), (24, optF (List.getD o2 (aPl26 x21_3) none))] ?_
  refine rS 1 [(7, ii 0), (aPl29 lh1_3), (10, optF (List.getD o2 (aPl26 x21_3) none)), (19, s0 2 o2.length), (20, ii x20_3), (21, ii x21_3)] ?_
  refine nQ id ?_
  refine rE 1 [(7, ii 0), (aPl29 lh1_3), (19, s0 2 o2.length), (20, ii x20_3), (21, ii x21_3), (25, optF (List.getD o2 (aPl26 x21_3) none))] id ?_
  refine XQ.block (id := 2) (by kernel_rfl) ?_
  refine qQ ?_
  cases b3 : (Option.isSome (List.getD o2 (aPl26 x21_3) none) : Bool)
  case false =>
   have h := cF b3 h
   refine XR.conv (σ' := [(7, ii 0), (aPl29 lh1_3), (19, s0 2 o2.length), (20, ii x20_3), (21, ii x21_3), (25, .iface 145 (.agg #[]))]) (h' := [(2, rc encF o2 0 142 1), (1, rc (encI .i64) lh1_3 0 3 1), (aPl8 b z0 y0)]) (c' := 3) ?_ (by first | (rw [optF_none b3]; done) | (rw [optF_none b3]; rfl))
   refine rE 3 [(7, ii 0), (aPl29 lh1_3), (19, s0 2 o2.length), (20, ii x20_3), (21, ii x21_3), (25, .iface 145 (.agg #[])), (27, .bool false), (28, .agg #[ii 0, ii 0])] id ?_
   refine iF 27 ?_
   refine qE 3 [(7, ii 0), (aPl29 lh1_3), (19, s0 2 o2.length), (20, ii x20_3), (21, ii x21_3), (35, .bool true), (36, .agg #[])] id ?_
   refine iT 35 ?_
   refine qG 2 [(7, ii 0), (aPl29 lh1_3), (19, s0 2 o2.length), (20, ii x20_3), (21, ii x21_3)] (fun h => (3, .cells [] 0 145 0) :: h) 4 id ?_
   refine rQ ?_
   refine rD 2 [(7, ii 0), (19, s0 2 o2.length), (20, ii x20_3), (21, ii x21_3), (37, s0 1 lh1_3.length), (38, s0 4 1)] (fun h => (4, .cells [ii (-1)] 0 3 1) :: h) 5 ?_
   obtain ⟨b5, h⟩ := oC h
   refine eR (e_append (encI_ok .i64) (bytes := 8) (e := 3) (x := (src 43 (.tmp 37))) (y := (src 43 (.tmp 38))) (b := 1) (len := lh1_3.length) (cap := lh1_3.length) (xs := lh1_3) (m := 0) (ys := [(-1)]) (d := (some (path 12 39))) (n' := (lh1_3 ++ [(-1)]).length) (h' := [(5, rc (encI .i64) (lh1_3 ++ [(-1)]) 0 3 1), (4, .cells [ii (-1)] 0 3 1), (3, .cells [] 0 145 0), (2, rc encF o2 0 142 1), (aPl8 b z0 y0)]) (by kernel_rfl) (by kernel_rfl) (by kernel_rfl) (by kernel_rfl) rfl (by simp) (by simp) b5 (by simp) (by kernel_rfl)) [(7, ii 0), (19, s0 2 o2.length), (20, ii x20_3), (21, ii x21_3), (39, s0 5 ((lh1_3 ++ [(-1)]).length))] ?_
   refine rE 1 [(7, ii 0), (8, s0 5 ((lh1_3 ++ [(-1)]).length)), (19, s0 2 o2.length), (20, ii x20_3), (21, ii x21_3)] id ?_
   refine rQ ?_
   refine rS 2 [(7, ii 0), (8, s0 5 ((lh1_3 ++ [(-1)]).length)), (19, s0 2 o2.length), (20, ii x20_3), (21, ii (w64 (x21_3 + 1)))] ?_
   refine dQ ?_
   show XL _ _ _ _ _ _ _ _ _
   refine nL [(7, ii 0), (8, s0 1 ((lh1_3 ++ [(-1)]).length)), (19, s0 2 o2.length), (20, ii x20_3), (21, ii (w64 (x21_3 + 1)))] [(2, rc encF o2 0 142 1), (1, rc (encI .i64) (lh1_3 ++ [(-1)]) 0 3 1), (aPl8 b z0 y0)] 3 [0, 5, 2] ?_
   refine XL.conv (f43_3_ok m fuel z0 y0 b o2 x20_3 (w64 (x21_3 + 1)) (lh1_3 ++ [(-1)]) o h Q hQ) (by first | with_reducible rfl | simp | rfl)
  have h := cT b3 h
  refine XR.conv (σ' := [(7, ii 0), (aPl29 lh1_3), (19, s0 2 o2.length), (20, ii x20_3), (21, ii x21_3), (25, .iface 144 (.agg #[ii ((Option.getD (List.getD o2 (aPl26 x21_3) none) (0, 0)).1), ii ((Option.getD (List.getD o2 (aPl26 x21_3) none) (0, 0)).2)]))]) (h' := [(2, rc encF o2 0 142 1), (1, rc (encI .i64) lh1_3 0 3 1), (aPl8 b z0 y0)]) (c' := 3) ?_ (by first | (rw [optF_some b3]; done) | (rw [optF_some b3]; rfl))
  refine rE 3 [(7, ii 0), (aPl29 lh1_3), (19, s0 2 o2.length), (20, ii x20_3), (21, ii x21_3), (25, .iface 144 (.agg #[ii ((Option.getD (List.getD o2 (aPl26 x21_3) none) (0, 0)).1), ii ((Option.getD (List.getD o2 (aPl26 x21_3) none) (0, 0)).2)])), (27, .bool true), (28, .agg #[ii ((Option.getD (List.getD o2 (aPl26 x21_3) none) (0, 0)).1), ii ((Option.getD (List.getD o2 (aPl26 x21_3) none) (0, 0)).2)])] id ?_
  refine iT 27 ?_
  refine qG 2 [(7, ii 0), (aPl29 lh1_3), (11, pp 3 0), (19, s0 2 o2.length), (20, ii x20_3), (21, ii x21_3)] (fun h => (3, .cells [ii ((Option.getD (List.getD o2 (aPl26 x21_3) none) (0, 0)).1), ii ((Option.getD (List.getD o2 (aPl26 x21_3) none) (0, 0)).2)] 0 144 0) :: h) 4 id ?_
  refine rQ ?_
  refine rD 4 [(7, ii 0), (19, s0 2 o2.length), (20, ii x20_3), (21, ii x21_3), (29, s0 1 lh1_3.length), (32, s0 4 1)] (fun h => (4, .cells [ii ((Option.getD (List.getD o2 (aPl26 x21_3) none) (0, 0)).1)] 0 3 1) :: h) 5 ?_
  obtain ⟨b4, h⟩ := oC h
  refine eR (e_append (encI_ok .i64) (bytes := 8) (e := 3) (x := (src 43 (.tmp 29))) (y := (src 43 (.tmp 32))) (b := 1) (len := lh1_3.length) (cap := lh1_3.length) (xs := lh1_3) (m := 0) (ys := [(Option.getD (List.getD o2 (aPl26 x21_3) none) (0, 0)).1]) (d := (some (path 12 33))) (n' := (lh1_3 ++ [(Option.getD (List.getD o2 (aPl26 x21_3) none) (0, 0)).1]).length) (h' := [(5, rc (encI .i64) (lh1_3 ++ [(Option.getD (List.getD o2 (aPl26 x21_3) none) (0, 0)).1]) 0 3 1), (4, .cells [ii ((Option.getD (List.getD o2 (aPl26 x21_3) none) (0, 0)).1)] 0 3 1), (3, .cells [ii ((Option.getD (List.getD o2 (aPl26 x21_3) none) (0, 0)).1), ii ((Option.getD (List.getD o2 (aPl26 x21_3) none) (0, 0)).2)] 0 144 0), (2, rc encF o2 0 142 1), (aPl8 b z0 y0)]) (by kernel_rfl) (by kernel_rfl) (by kernel_rfl) (by kernel_rfl) rfl (by simp) (by simp) b4 (by simp) (by kernel_rfl)) [(7, ii 0), (19, s0 2 o2.length), (20, ii x20_3), (21, ii x21_3), (33, s0 5 ((lh1_3 ++ [(Option.getD (List.getD o2 (aPl26 x21_3) none) (0, 0)).1]).length))] ?_
  refine rE 1 [(7, ii 0), (8, s0 5 ((lh1_3 ++ [(Option.getD (List.getD o2 (aPl26 x21_3) none) (0, 0)).1]).length)), (19, s0 2 o2.length), (20, ii x20_3), (21, ii x21_3)] id ?_
  refine rQ ?_
  refine rS 2 [(7, ii 0), (8, s0 5 ((lh1_3 ++ [(Option.getD (List.getD o2 (aPl26 x21_3) none) (0, 0)).1]).length)), (19, s0 2 o2.length), (20, ii x20_3), (21, ii (w64 (x21_3 + 1)))] ?_
  refine dQ ?_
  show XL _ _ _ _ _ _ _ _ _
  refine nL [(7, ii 0), (8, s0 1 ((lh1_3 ++ [(Option.getD (List.getD o2 (aPl26 x21_3) none) (0, 0)).1]).length)), (19, s0 2 o2.length), (20, ii x20_3), (21, ii (w64 (x21_3 + 1)))] [(2, rc encF o2 0 142 1), (1, rc (encI .i64) (lh1_3 ++ [(Option.getD (List.getD o2 (aPl26 x21_3) none) (0, 0)).1]) 0 3 1), (aPl8 b z0 y0)] 3 [0, 5, 2] ?_
  refine XL.conv (f43_3_ok m fuel z0 y0 b o2 x20_3 (w64 (x21_3 + 1)) (lh1_3 ++ [(Option.getD (List.getD o2 (aPl26 x21_3) none) (0, 0)).1]) o h Q hQ) (by first | with_reducible rfl | simp | rfl)
def f43 (m : Nat) (a : Int) (b : List Int) : Option ((List Int) × Int) :=
 cond (decide ((1 : Int) ≤ a)) (
  cond (!(decide (a ≤ 8))) (
   none
  ) (
   cond (decide (((b.length : Nat) : Int) > a)) (
    none
   ) (
    (f43_1 m m b ((b.length : Nat) : Int) 0 (w64 (a - 1))).bind fun o1 =>
     (f43_2 m m a b ((b.length : Nat) : Int) 0 0 []).bind fun o2 =>
      (f43_3 m m b o2 ((o2.length : Nat) : Int) 0 []).bind fun o3 =>
       some (o3, 0)
   )
  )
 ) none
abbrev aPl28 (b : List Int) := ((b.length : Nat) : Int)
theorem f43_ok (m : Nat) (z0 : Nat) (y0 : Nat) (a : Int) (b : List Int) (o : (List Int) × Int) (h : f43 m a b = some o) : KC E0 43 [ii a, s0 0 b.length] [(0, rc (encI .i64) b z0 y0 1)] 1 (fun v h' c' => v = .tuple #[s0 1 o.1.length, ii o.2] ∧ h' = [(1, rc (encI .i64) o.1 0 3 1)] ++ [(0, rc (encI .i64) b z0 y0 1)] ∧ c' = 2) := by
 refine kN Proofs.Tryz.f43 f43_C43 43 [.tmp 4, .tmp 5] ?_
 unfold f43 at h
 refine qQ ?_
 refine rS 2 [(0, ii a), (1, s0 0 b.length)] ?_
 refine nQ id ?_
 refine rS 2 [(14, ii a), (15, s0 0 b.length)] ?_
 refine cK [16] 84 [ii a, s0 0 b.length] 16 ?_
 refine kN Proofs.Tryz.f84 f43_C84 32 [.tmp 4, .tmp 5] ?_
 refine qE 2 [(0, ii a), (1, s0 0 b.length)] id ?_
 refine sQ ?_
 refine qQ ?_
 refine rS 2 [(0, ii a), (1, s0 0 b.length), (11, ii a), (12, s0 0 b.length)] ?_
 refine cK [0, 1, 13] 107 [ii a, s0 0 b.length] 13 ?_
 refine kN Proofs.Tryz.f107 f43_C107 10 [.tmp 4] ?_
 refine qQ ?_
 refine rS 1 [(0, ii a), (1, s0 0 b.length)] ?_
 refine nQ id ?_
 refine rS 4 [(5, ii a), (7, ii (w64 (a - 1))), (8, s0 0 b.length)] ?_
 refine cK [9] 134 [ii a, ii (w64 (a - 1)), s0 0 b.length] 9 ?_
 refine kN Proofs.Tryz.f134 f43_C134 20 [.tmp 6] ?_
 refine qG 2 [(0, ii a), (2, s0 0 b.length), (4, pp 1 0)] (fun h => (1, .cells [ii (w64 (a - 1))] 0 3 0) :: h) 2 id ?_
 refine sQ ?_
 refine XQ.block (id := 0) (by kernel_rfl) ?_
 refine qQ ?_
 refine rS 1 [(0, ii a), (2, s0 0 b.length), (4, pp 1 0), (8, ii a)] ?_
 refine cK [0, 2, 4, 9] 175 [ii a, ii 1, ii 8] 9 ?_
 refine kN Proofs.Tryz.f175 f43_C175 15 [.tmp 6] ?_
 refine qQ ?_
 refine rS 1 [(0, ii a), (1, ii 1), (2, ii 8)] ?_
 refine nQ id ?_
 refine rS 4 [(0, ii a), (2, ii 8), (10, .bool (decide ((1 : Int) ≤ a)))] ?_
 cases b1 : (decide ((1 : Int) ≤ a) : Bool)
 case false => exact nomatch (cF b1 h)
 have h := cT b1 h
 refine rE 5 [(6, .bool (decide (a ≤ 8)))] id ?_
 refine tV (.bool (decide (a ≤ 8))) id ?_
 refine rE 2 [(0, ii a), (2, s0 0 b.length), (4, pp 1 0), (7, .bool (!(decide (a ≤ 8))))] id ?_
 cases b2 : (!(decide (a ≤ 8)) : Bool)
 case true => cases (cT b2 h)
 have h := cF b2 h
 refine iF 7 ?_
 refine qE 5 [(2, s0 0 b.length), (4, pp 1 0), (11, .bool (decide ((aPl28 b) > a)))] id ?_
 cases b3 : (decide ((aPl28 b) > a) : Bool)
 case true => cases (cT b3 h)
 have h := cF b3 h
 refine iF 11 ?_
 refine qQ ?_
 refine rS 2 [(17, s0 0 b.length), (18, .func (.func 177) #[] #[pp 1 0])] ?_
 refine cK [19] 176 [s0 0 b.length, .func (.func 177) #[] #[pp 1 0]] 19 ?_
 refine kN Proofs.Tryz.f176 f43_C176 9 [.tmp 4] ?_
 refine qQ ?_
 refine rS 1 [(0, s0 0 b.length), aPl9] ?_
 refine nQ id ?_
 refine rS 2 [(5, s0 0 b.length), (6, .func (.func 177) #[] #[pp 1 0])] ?_
 refine cK [7] 205 [s0 0 b.length, .func (.func 177) #[] #[pp 1 0]] 7 ?_
 refine kN Proofs.Tryz.f205 f43_C205 19 [.tmp 4] ?_
 refine qE 1 [(0, s0 0 b.length), aPl9] id ?_
 refine sQ ?_
 refine qE 3 [(0, s0 0 b.length), aPl9, (7, ii (aPl28 b)), (8, ii 0)] id ?_
 refine XQ.block (id := 0) (by kernel_rfl) ?_
 refine XQ.loop m (by kernel_rfl) ?_
 obtain ⟨o1, o1_h, h⟩ := bS h
 refine nL [(0, s0 0 b.length), aPl9, (7, ii (aPl28 b)), (8, ii 0)] [(1, .cells [ii (w64 (a - 1))] 0 3 0), (aPl8 b z0 y0)] 2 [0, 1] ?_
 refine XL.conv (f43_1_ok m m z0 y0 b (aPl28 b) 0 (w64 (a - 1)) o1 o1_h _ ?_) (by first | with_reducible rfl | simp | rfl)
 show XQ _ _ _ _ _ _ _ _
 refine qE 1 [(4, ii (-1))] id ?_
 refine tV (ii (-1)) id ?_
 refine rE 2 [(4, .bool false)] id ?_
 refine tV (.bool false) id ?_
 refine rE 1 [(16, .bool false)] id ?_
 refine iK 16 id ?_
 refine qE 1 [(6, ii 0)] id ?_
 refine tV (ii 0) id ?_
 refine rE 1 [(4, ii 0)] id ?_
 refine tV (ii 0) id ?_
 refine rS 1 [(0, ii a), (1, s0 0 b.length), (6, ii 0)] ?_
 refine nQ id ?_
 refine rE 2 [(0, ii a), (1, s0 0 b.length), (6, ii 0), (15, .bool false)] id ?_
 refine iK 15 id ?_
 refine qQ ?_
 refine rD 4 [(1, s0 0 b.length), (7, pp 2 0)] (fun h => (2, .cells [ii a, .int .u64 0] 0 175 0) :: h) 3 ?_
 refine nQ id ?_
 refine rE 1 [(1, s0 0 b.length), (7, pp 2 0), (8, .slice none 0 0)] id ?_
 refine XQ.ghost 142 1 rfl (σ' := [(1, s0 0 b.length), (7, pp 2 0), (8, s0 3 0)]) (h' := [(2, .cells [ii a, .int .u64 0] 0 175 0), (1, .cells [ii o1] 0 3 0), (aPl8 b z0 y0)]) ⟨by kernel_rfl, by kernel_rfl, by kernel_rfl, trivial⟩ ⟨⟨_, rfl, .inl rfl⟩, ⟨_, rfl, .inl rfl⟩, ⟨_, rfl, .inl rfl⟩, trivial⟩ ?_
 refine XQ.conv (σ' := [(1, s0 0 b.length), (7, pp 2 0), (8, s0 3 0)]) (h' := [(3, rc encF [] 0 142 1), (2, .cells [ii a, .int .u64 0] 0 175 0), (1, .cells [ii o1] 0 3 0), (aPl8 b z0 y0)]) (c' := 4) ?_ (by kernel_rfl)
 refine sQ ?_
 refine qE 3 [(7, pp 2 0), (8, s0 3 0), (aPl18 b), (20, ii (aPl28 b)), (21, ii 0)] id ?_
 refine XQ.block (id := 0) (by kernel_rfl) ?_
 refine XQ.loop m (by kernel_rfl) ?_
 obtain ⟨o2, o2_h, h⟩ := bS h
 refine nL [(7, pp 1 0), (8, s0 2 0), (aPl18 b), (20, ii (aPl28 b)), (21, ii 0)] [(2, rc encF [] 0 142 1), (1, .cells [ii a, .int .u64 0] 0 175 0), (aPl8 b z0 y0)] 3 [0, 2, 3] ?_
 refine XL.conv (f43_2_ok m m a z0 y0 b (aPl28 b) 0 0 [] o2 o2_h _ ?_) (by first | with_reducible rfl | simp | rfl)
 show XQ _ _ _ _ _ _ _ _
 refine qE 3 [(4, s0 1 o2.length), (5, ii 0)] id ?_
 refine tV (.tuple #[s0 1 o2.length, ii 0]) id ?_
 refine rS 5 [(6, s0 1 o2.length), (7, ii 0)] ?_
 refine nQ id ?_
 refine rE 1 [(6, s0 1 o2.length), (7, ii 0), (8, .slice none 0 0)] id ?_
 refine XQ.ghost 3 1 rfl (σ' := [(6, s0 1 o2.length), (7, ii 0), (8, s0 2 0)]) (h' := [(1, rc encF o2 0 142 1), (aPl8 b z0 y0)]) ⟨by kernel_rfl, by kernel_rfl, by kernel_rfl, trivial⟩ ⟨⟨_, rfl, .inl rfl⟩, ⟨_, rfl, .inl rfl⟩, trivial⟩ ?_
 refine XQ.conv (σ' := [(6, s0 1 o2.length), (7, ii 0), (8, s0 2 0)]) (h' := [(2, rc (encI .i64) [] 0 3 1), (1, rc encF o2 0 142 1), (aPl8 b z0 y0)]) (c' := 3) ?_ (by kernel_rfl)
 refine sQ ?_
 refine qE 3 [(7, ii 0), (8, s0 2 0), (19, s0 1 o2.length), (20, ii ((o2.length : Nat) : Int)), (21, ii 0)] id ?_
 refine XQ.block (id := 0) (by kernel_rfl) ?_
 refine XQ.loop m (by kernel_rfl) ?_
 obtain ⟨o3, o3_h, h⟩ := bS h
 refine nL [(7, ii 0), (8, s0 1 0), (19, s0 2 o2.length), (20, ii ((o2.length : Nat) : Int)), (21, ii 0)] [(2, rc encF o2 0 142 1), (1, rc (encI .i64) [] 0 3 1), (aPl8 b z0 y0)] 3 [0, 2, 1] ?_
 refine XL.conv (f43_3_ok m m z0 y0 b o2 ((o2.length : Nat) : Int) 0 [] o3 o3_h _ ?_) (by first | with_reducible rfl | simp | rfl)
 show XQ _ _ _ _ _ _ _ _
 refine qE 4 [(4, s0 1 o3.length), (5, ii 0)] id ?_
 refine nR [(4, s0 1 o3.length), (5, ii 0)] [(1, rc (encI .i64) o3 0 3 1), (aPl8 b z0 y0)] 2 [0, 1] ?_
 obtain rfl := sI h
 exact tV (.tuple #[s0 1 o3.length, ii 0]) id ⟨by kernel_rfl, by kernel_rfl, rfl⟩
noncomputable def f12_C12 : Code := Proofs.Tryz.f12.body.getD .skip
noncomputable def f12_L1 : Code := lft (lft (rgt (lft (rgt (rgt (rgt (rgt (rgt f12_C12))))))))
noncomputable def f12_L2 : Code := lft (lft (rgt (lft (rgt (rgt (rgt (rgt (rgt (rgt (rgt (rgt (rgt f12_C12))))))))))))
noncomputable def f12_L3 : Code := lft (lft (rgt (lft (rgt (rgt (rgt (rgt (rgt (rgt (rgt (rgt (rgt (rgt (rgt f12_C12))))))))))))))
def f12_1 (m : Nat) : Nat → Int → Int → Int → List Int → BkS → List Int → Option (Int × BkS × (List Int))
 | 0, _, _, _, _, _, _ => none
 | fuel + 1, x7_1, x42_1, x43_1, lh0_1, kh1_1, lh2_1 =>
  cond (decide (x43_1 < x42_1)) (
   cond (inRow x43_1 8) (
    cond (decide (Int.toNat x43_1 < lh0_1.length)) (
     cond (x7_1 != 0) (
      cond (fitsB (lh2_1.length + 1) 8) (
       f12_1 m fuel x7_1 x42_1 (w64 (x43_1 + 1)) lh0_1 kh1_1 (lh2_1 ++ [Int.tmod (w64 (List.getD lh0_1 (Int.toNat x43_1) 0)) x7_1])
      ) none
     ) none
    ) none
   ) none
  ) (
   some (x7_1, kh1_1, lh2_1)
  )
abbrev aPl12 (lh0_1 : List Int) (x43_1 : Int) := (w64 (List.getD lh0_1 (Int.toNat x43_1) 0))
theorem f12_1_ok (m : Nat) : ∀ (fuel : Nat) (x7_1 : Int) (x42_1 : Int) (x43_1 : Int) (lh0_1 : List Int) (kh1_1 : BkS) (lh2_1 : List Int) (o : (Int × BkS × (List Int))), f12_1 m fuel x7_1 x42_1 x43_1 lh0_1 kh1_1 lh2_1 = some o → ∀ Q : QP, Q (.exit 0) [(7, ii o.1), (8, pp 0 0), (10, s0 1 o.2.2.length)] [(1, rc (encI .i64) o.2.2 0 3 1), (0, .ext (bookX o.2.1))] 2 → XL E0 143 0 fuel f12_L1 [(4, pp 0 0), (7, ii x7_1), (8, pp 1 0), (10, s0 2 lh2_1.length), (42, ii x42_1), (43, ii x43_1)] [(2, rc (encI .i64) lh2_1 0 3 1), (1, .ext (bookX kh1_1)), (0, rc (encI .u8) lh0_1 0 81 0)] 3 Q
 | 0, x7_1, x42_1, x43_1, lh0_1, kh1_1, lh2_1, o, h, Q, hQ => by cases h
 | fuel + 1, x7_1, x42_1, x43_1, lh0_1, kh1_1, lh2_1, o, h, Q, hQ => by
  unfold f12_1 at h
  refine XL.succ E0_ok ?_
  refine qE 1 [(4, pp 0 0), (7, ii x7_1), (8, pp 1 0), (10, s0 2 lh2_1.length), (42, ii x42_1), (43, ii x43_1), (44, .bool (decide (x43_1 < x42_1)))] id ?_
  refine sQ ?_
  cases b1 : (decide (x43_1 < x42_1) : Bool)
  case false =>
   have h := cF b1 h
   refine iF 44 ?_
   refine nR [(7, ii x7_1), (8, pp 0 0), (10, s0 1 lh2_1.length)] [(1, rc (encI .i64) lh2_1 0 3 1), (0, .ext (bookX kh1_1))] 2 [1, 2] ?_
   refine XQ.exit (i := 0) (by kernel_rfl) ?_
   cases h
   exact hQ
  have h := cT b1 h
  refine iT 44 ?_
  refine kQ ?_
  show XQ _ _ _ _ _ _ _ _
  refine sQ ?_
  refine XQ.block (id := 1) (by kernel_rfl) ?_
  refine qE 2 [(4, pp 0 0), (7, ii x7_1), (8, pp 1 0), (10, s0 2 lh2_1.length), (11, ii x43_1), (42, ii x42_1), (43, ii x43_1)] id ?_
  refine rQ ?_
  refine rS 2 [(4, pp 0 0), (7, ii x7_1), (8, pp 1 0), (42, ii x42_1), (43, ii x43_1), (46, s0 2 lh2_1.length), (47, ii x43_1)] ?_
  obtain ⟨b2, h⟩ := oC h
  refine rR (pp 0 ((Int.toNat x43_1) * 1)) (v_idxA (s := 1) (len := 8) (x := (src 143 (.tmp 4))) (y := (src 143 (.tmp 47))) (b := 0) (o := 0) (ik := .i64) (i := x43_1) (off := (Int.toNat x43_1) * 1) (d := (some (path 12 48))) (by kernel_rfl) (by kernel_rfl) (by kernel_rfl) b2 (by omega)) [(4, pp 0 0), (7, ii x7_1), (8, pp 1 0), (42, ii x42_1), (43, ii x43_1), (46, s0 2 lh2_1.length), (48, pp 0 ((Int.toNat x43_1) * 1))] ?_
  obtain ⟨b3, h⟩ := oC h
  refine rR _ (lV (encI_ok .u8) 48 49 0 ((Int.toNat x43_1) * 1) lh0_1 0 81 0 (Int.toNat x43_1) 0 0 (row_len b3 (by simp))) [(4, pp 0 0), (7, ii x7_1), (8, pp 1 0), (42, ii x42_1), (43, ii x43_1), (46, s0 2 lh2_1.length), (49, .int .u8 (List.getD lh0_1 (Int.toNat x43_1) 0))] ?_
  refine rS 2 [(4, pp 0 0), (7, ii x7_1), (8, pp 1 0), (42, ii x42_1), (43, ii x43_1), (46, s0 2 lh2_1.length), (50, ii (aPl12 lh0_1 x43_1)), (51, ii x7_1)] ?_
  obtain ⟨b4, h⟩ := oC h
  refine rR (ii (Int.tmod (aPl12 lh0_1 x43_1) x7_1)) (mR b4) [(4, pp 0 0), (7, ii x7_1), (8, pp 1 0), (42, ii x42_1), (43, ii x43_1), (46, s0 2 lh2_1.length), (52, ii (Int.tmod (aPl12 lh0_1 x43_1) x7_1))] ?_
  refine rD 1 [(4, pp 0 0), (7, ii x7_1), (8, pp 1 0), (42, ii x42_1), (43, ii x43_1), (46, s0 2 lh2_1.length), (53, s0 3 1)] (fun h => (3, .cells [ii (Int.tmod (aPl12 lh0_1 x43_1) x7_1)] 0 3 1) :: h) 4 ?_
  obtain ⟨b6, h⟩ := oC h
  refine eR (e_append (encI_ok .i64) (bytes := 8) (e := 3) (x := (src 143 (.tmp 46))) (y := (src 143 (.tmp 53))) (b := 2) (len := lh2_1.length) (cap := lh2_1.length) (xs := lh2_1) (m := 0) (ys := [Int.tmod (aPl12 lh0_1 x43_1) x7_1]) (d := (some (path 12 54))) (n' := (lh2_1 ++ [Int.tmod (aPl12 lh0_1 x43_1) x7_1]).length) (h' := [(4, rc (encI .i64) (lh2_1 ++ [Int.tmod (aPl12 lh0_1 x43_1) x7_1]) 0 3 1), (3, .cells [ii (Int.tmod (aPl12 lh0_1 x43_1) x7_1)] 0 3 1), (1, .ext (bookX kh1_1)), (0, rc (encI .u8) lh0_1 0 81 0)]) (by kernel_rfl) (by kernel_rfl) (by kernel_rfl) (by kernel_rfl) rfl (by simp) (by simp) b6 (by simp) (by kernel_rfl)) [(4, pp 0 0), (7, ii x7_1), (8, pp 1 0), (42, ii x42_1), (43, ii x43_1), (54, s0 4 ((lh2_1 ++ [Int.tmod (aPl12 lh0_1 x43_1) x7_1]).length))] ?_
  refine rE 1 [(4, pp 0 0), (7, ii x7_1), (8, pp 1 0), (10, s0 4 ((lh2_1 ++ [Int.tmod (aPl12 lh0_1 x43_1) x7_1]).length)), (42, ii x42_1), (43, ii x43_1)] id ?_
  refine rQ ?_
  refine rS 2 [(4, pp 0 0), (7, ii x7_1), (8, pp 1 0), (10, s0 4 ((lh2_1 ++ [Int.tmod (aPl12 lh0_1 x43_1) x7_1]).length)), (42, ii x42_1), (43, ii (w64 (x43_1 + 1)))] ?_
  refine dQ ?_
  show XL _ _ _ _ _ _ _ _ _
  refine nL [(4, pp 0 0), (7, ii x7_1), (8, pp 1 0), (10, s0 2 ((lh2_1 ++ [Int.tmod (aPl12 lh0_1 x43_1) x7_1]).length)), (42, ii x42_1), (43, ii (w64 (x43_1 + 1)))] [(2, rc (encI .i64) (lh2_1 ++ [Int.tmod (aPl12 lh0_1 x43_1) x7_1]) 0 3 1), (1, .ext (bookX kh1_1)), (0, rc (encI .u8) lh0_1 0 81 0)] 3 [0, 1, 4] ?_
  refine XL.conv (f12_1_ok m fuel x7_1 x42_1 (w64 (x43_1 + 1)) lh0_1 kh1_1 (lh2_1 ++ [Int.tmod (aPl12 lh0_1 x43_1) x7_1]) o h Q hQ) (by first | with_reducible rfl | simp | rfl)
def f12_2 (m : Nat) : Nat → Int → Int → BkS → List Int → List (ByteArray × Int) → List Int → Option (BkS × (List (ByteArray × Int)))
 | 0, _, _, _, _, _, _ => none
 | fuel + 1, x73_2, x74_2, kh0_2, lh1_2, mh2_2, lh3_2 =>
  cond (decide (x74_2 < x73_2)) (
   cond (inRow x74_2 lh3_2.length) (
    cond (inRow x74_2 lh1_2.length) (
     cond (decide ((List.getD lh1_2 (Int.toNat x74_2) 0) < 0)) (
      cond (Nat.ble ((bs [98, 97, 108, 101, 32]).size + (strN [IntKind.wrap .u8 (97 + (IntKind.wrap .u8 x74_2))]).size) 9223372036854775807) (
       cond (Nat.ble ((catS (bs [98, 97, 108, 101, 32]) (strN [IntKind.wrap .u8 (97 + (IntKind.wrap .u8 x74_2))])).size + (bs [32, 55, 32]).size) 9223372036854775807) (
        cond (okI (List.getD lh3_2 (Int.toNat x74_2) 0)) (
         cond (Nat.ble ((catS (catS (bs [98, 97, 108, 101, 32]) (strN [IntKind.wrap .u8 (97 + (IntKind.wrap .u8 x74_2))])) (bs [32, 55, 32])).size + (itoaV (List.getD lh3_2 (Int.toNat x74_2) 0)).size) 9223372036854775807) (
          (tellS m kh0_2 (catS (catS (catS (bs [98, 97, 108, 101, 32]) (strN [IntKind.wrap .u8 (97 + (IntKind.wrap .u8 x74_2))])) (bs [32, 55, 32])) (itoaV (List.getD lh3_2 (Int.toNat x74_2) 0)))).bind fun r6 =>
           cond (r6.1 != 12) (
            none
           ) (
            f12_2 m fuel x73_2 (w64 (x74_2 + 1)) r6.2 lh1_2 mh2_2 lh3_2
           )
         ) none
        ) none
       ) none
      ) none
     ) (
      cond (Nat.ble ((bs [98, 97, 108, 101, 32]).size + (strN [IntKind.wrap .u8 (97 + (IntKind.wrap .u8 x74_2))]).size) 9223372036854775807) (
       cond (Nat.ble ((catS (bs [98, 97, 108, 101, 32]) (strN [IntKind.wrap .u8 (97 + (IntKind.wrap .u8 x74_2))])).size + (bs [32, 55, 32]).size) 9223372036854775807) (
        cond (okI (List.getD lh3_2 (Int.toNat x74_2) 0)) (
         cond (Nat.ble ((catS (catS (bs [98, 97, 108, 101, 32]) (strN [IntKind.wrap .u8 (97 + (IntKind.wrap .u8 x74_2))])) (bs [32, 55, 32])).size + (itoaV (List.getD lh3_2 (Int.toNat x74_2) 0)).size) 9223372036854775807) (
          (tellS m kh0_2 (catS (catS (catS (bs [98, 97, 108, 101, 32]) (strN [IntKind.wrap .u8 (97 + (IntKind.wrap .u8 x74_2))])) (bs [32, 55, 32])) (itoaV (List.getD lh3_2 (Int.toNat x74_2) 0)))).bind fun r7 =>
           cond (r7.1 != 0) (
            none
           ) (
            f12_2 m fuel x73_2 (w64 (x74_2 + 1)) r7.2 lh1_2 (putS mh2_2 (strN [IntKind.wrap .u8 (97 + (IntKind.wrap .u8 x74_2))]) (List.getD lh1_2 (Int.toNat x74_2) 0)) lh3_2
           )
         ) none
        ) none
       ) none
      ) none
     )
    ) none
   ) none
  ) (
   some (kh0_2, mh2_2)
  )
abbrev aPl0 (x74_2 : Int) := (strN [IntKind.wrap .u8 (97 + (IntKind.wrap .u8 x74_2))])
abbrev aPl30 (x74_2 : Int) := (catS (bs [98, 97, 108, 101, 32]) (aPl0 x74_2))
abbrev aPl5 (x74_2 : Int) := (catS (aPl30 x74_2) (bs [32, 55, 32]))
abbrev aPl6 (lh3_2 : List Int) (x74_2 : Int) := (List.getD lh3_2 (Int.toNat x74_2) 0)
abbrev aPl7 : Nat × Value := (13, .map (some 2))
abbrev aPl10 (lh1_2 : List Int) : Nat × Value := (12, s0 1 lh1_2.length)
abbrev aPl11 (lh3_2 : List Int) : Nat × Value := (72, s0 3 lh3_2.length)
abbrev aPl20 (x74_2 : Int) : Nat × Value := (16, .string (aPl0 x74_2))
abbrev aPl22 := (Value.int .i64)
abbrev aPl24 (lh1_2 : List Int) (lh3_2 : List Int) (x73_2 : Int) (x74_2 : Int) : List (Nat × Value) := [(8, pp 0 0), (aPl10 lh1_2), aPl7, (aPl11 lh3_2), (73, ii x73_2), (74, ii (w64 (x74_2 + 1)))]
abbrev aPl27 (lh3_2 : List Int) (x74_2 : Int) : Nat × Value := (15, ii (aPl6 lh3_2 x74_2))
theorem f12_2_ok (m : Nat) : ∀ (fuel : Nat) (x73_2 : Int) (x74_2 : Int) (kh0_2 : BkS) (lh1_2 : List Int) (mh2_2 : List (ByteArray × Int)) (lh3_2 : List Int) (o : (BkS × (List (ByteArray × Int)))), f12_2 m fuel x73_2 x74_2 kh0_2 lh1_2 mh2_2 lh3_2 = some o → ∀ Q : QP, Q (.exit 2) [(8, pp 0 0), (13, .map (some 1))] [(1, .imap (imS (Value.int .i64) o.2)), (0, .ext (bookX o.1))] 2 → XL E0 143 0 fuel f12_L2 [(8, pp 0 0), (12, s0 1 lh1_2.length), (13, .map (some 2)), (72, s0 3 lh3_2.length), (73, ii x73_2), (74, ii x74_2)] [(3, rc (encI .i64) lh3_2 0 3 1), (2, .imap (imS (Value.int .i64) mh2_2)), (1, rc (encI .i64) lh1_2 0 3 1), (0, .ext (bookX kh0_2))] 4 Q
 | 0, x73_2, x74_2, kh0_2, lh1_2, mh2_2, lh3_2, o, h, Q, hQ => by cases h
 | fuel + 1, x73_2, x74_2, kh0_2, lh1_2, mh2_2, lh3_2, o, h, Q, hQ => by
  unfold f12_2 at h
  refine XL.succ E0_ok ?_
  refine qE 1 [(8, pp 0 0), (aPl10 lh1_2), aPl7, (aPl11 lh3_2), (73, ii x73_2), (74, ii x74_2), (75, .bool (decide (x74_2 < x73_2)))] id ?_
  refine sQ ?_
  cases b1 : (decide (x74_2 < x73_2) : Bool)
  case false =>
   have h := cF b1 h
   refine iF 75 ?_
   refine nR [(8, pp 0 0), (13, .map (some 1))] [(1, .imap (imS aPl22 mh2_2)), (0, .ext (bookX kh0_2))] 2 [0, 2] ?_
   refine XQ.exit (i := 2) (by kernel_rfl) ?_
   cases h
   exact hQ
  have h := cT b1 h
  refine iT 75 ?_
  refine kQ ?_
  show XQ _ _ _ _ _ _ _ _
  refine sQ ?_
  refine XQ.block (id := 3) (by kernel_rfl) ?_
  refine qQ ?_
  refine rS 1 [(8, pp 0 0), (aPl10 lh1_2), aPl7, (aPl11 lh3_2), (73, ii x73_2), (74, ii x74_2), (76, ii x74_2)] ?_
  obtain ⟨b2, h⟩ := oC h
  refine rR (pp 3 ((Int.toNat x74_2) * 1)) (iV 72 (.tmp 74) 77 1 0 b2) [(8, pp 0 0), (aPl10 lh1_2), aPl7, (aPl11 lh3_2), (73, ii x73_2), (74, ii x74_2), (76, ii x74_2), (77, pp 3 ((Int.toNat x74_2) * 1))] ?_
  refine rR _ (lV (encI_ok .i64) 77 78 3 ((Int.toNat x74_2) * 1) lh3_2 0 3 1 (Int.toNat x74_2) 0 0 (rl b2)) [(8, pp 0 0), (aPl10 lh1_2), aPl7, (aPl11 lh3_2), (73, ii x73_2), (74, ii x74_2), (76, ii x74_2), (78, ii (aPl6 lh3_2 x74_2))] ?_
  refine rS 2 [(8, pp 0 0), (aPl10 lh1_2), aPl7, (14, ii x74_2), (aPl27 lh3_2 x74_2), (aPl11 lh3_2), (73, ii x73_2), (74, ii x74_2)] ?_
  refine nQ id ?_
  refine rD 6 [(8, pp 0 0), (aPl10 lh1_2), aPl7, (14, ii x74_2), (aPl27 lh3_2 x74_2), (aPl20 x74_2), (aPl11 lh3_2), (73, ii x73_2), (74, ii x74_2)] (fun h => (4, .cells [.int .u8 (IntKind.wrap .u8 (97 + (IntKind.wrap .u8 x74_2)))] 0 5 1) :: h) 5 ?_
  refine nQ id ?_
  refine rE 1 [(8, pp 0 0), (aPl10 lh1_2), aPl7, (14, ii x74_2), (aPl27 lh3_2 x74_2), (aPl20 x74_2), (17, ii 0), (aPl11 lh3_2), (73, ii x73_2), (74, ii x74_2)] id ?_
  refine sQ ?_
  refine qQ ?_
  refine rS 2 [(8, pp 0 0), (aPl10 lh1_2), aPl7, (14, ii x74_2), (aPl27 lh3_2 x74_2), (aPl20 x74_2), (17, ii 0), (aPl11 lh3_2), (73, ii x73_2), (74, ii x74_2), (84, s0 1 lh1_2.length), (85, ii x74_2)] ?_
  obtain ⟨b3, h⟩ := oC h
  refine rR (pp 1 ((Int.toNat x74_2) * 1)) (iV 84 (.tmp 85) 86 1 0 b3) [(8, pp 0 0), (aPl10 lh1_2), aPl7, (14, ii x74_2), (aPl27 lh3_2 x74_2), (aPl20 x74_2), (17, ii 0), (aPl11 lh3_2), (73, ii x73_2), (74, ii x74_2), (86, pp 1 ((Int.toNat x74_2) * 1))] ?_
  refine rR _ (lV (encI_ok .i64) 86 87 1 ((Int.toNat x74_2) * 1) lh1_2 0 3 1 (Int.toNat x74_2) 0 0 (rl b3)) [(8, pp 0 0), (aPl10 lh1_2), aPl7, (14, ii x74_2), (aPl27 lh3_2 x74_2), (aPl20 x74_2), (17, ii 0), (aPl11 lh3_2), (73, ii x73_2), (74, ii x74_2), (87, ii (List.getD lh1_2 (Int.toNat x74_2) 0))] ?_
  refine rE 1 [(8, pp 0 0), (aPl10 lh1_2), aPl7, (14, ii x74_2), (aPl27 lh3_2 x74_2), (aPl20 x74_2), (17, ii 0), (aPl11 lh3_2), (73, ii x73_2), (74, ii x74_2), (88, .bool (decide ((List.getD lh1_2 (Int.toNat x74_2) 0) < 0)))] id ?_
  cases b4 : (decide ((List.getD lh1_2 (Int.toNat x74_2) 0) < 0) : Bool)
  case true =>
   have h := cT b4 h
   refine iT 88 ?_
   refine rQ ?_
   refine rS 1 [(8, pp 0 0), (aPl10 lh1_2), aPl7, (aPl27 lh3_2 x74_2), (aPl20 x74_2), (17, ii 12), (aPl11 lh3_2), (73, ii x73_2), (74, ii x74_2)] ?_
   refine nQ id ?_
   refine rS 2 [(8, pp 0 0), (aPl10 lh1_2), aPl7, (aPl27 lh3_2 x74_2), (17, ii 12), (aPl11 lh3_2), (73, ii x73_2), (74, ii x74_2), (95, pp 0 0), (96, .string (aPl0 x74_2))] ?_
   obtain ⟨b5, h⟩ := oC h
   refine rR (.string (aPl30 x74_2)) (mR b5) [(8, pp 0 0), (aPl10 lh1_2), aPl7, (aPl27 lh3_2 x74_2), (17, ii 12), (aPl11 lh3_2), (73, ii x73_2), (74, ii x74_2), (95, pp 0 0), (97, .string (aPl30 x74_2))] ?_
   obtain ⟨b7, h⟩ := oC h
   refine rR (.string (aPl5 x74_2)) (mR b7) [(8, pp 0 0), (aPl10 lh1_2), aPl7, (aPl27 lh3_2 x74_2), (17, ii 12), (aPl11 lh3_2), (73, ii x73_2), (74, ii x74_2), (95, pp 0 0), (98, .string (aPl5 x74_2))] ?_
   refine rS 1 [(8, pp 0 0), (aPl10 lh1_2), aPl7, (17, ii 12), (aPl11 lh3_2), (73, ii x73_2), (74, ii x74_2), (95, pp 0 0), (98, .string (aPl5 x74_2)), (99, ii (aPl6 lh3_2 x74_2))] ?_
   obtain ⟨b9, h⟩ := oC h
   refine cQ [8, 12, 13, 17, 72, 73, 74, 95, 98, 100] 100 (KC.of_calls E0_ok (F := Proofs.Tryz.f44) (v := .string (itoaV (aPl6 lh3_2 x74_2))) (by kernel_rfl) rfl rfl (itoaV_ok b9)) ?_
   obtain ⟨b10, h⟩ := oC h
   refine rR (.string (catS (aPl5 x74_2) (itoaV (aPl6 lh3_2 x74_2)))) (mR b10) [(8, pp 0 0), (aPl10 lh1_2), aPl7, (17, ii 12), (aPl11 lh3_2), (73, ii x73_2), (74, ii x74_2), (95, pp 0 0), (101, .string (catS (aPl5 x74_2) (itoaV (aPl6 lh3_2 x74_2))))] ?_
   obtain ⟨r6, r6_h, h⟩ := bS h
   refine cQ [8, 12, 13, 17, 72, 73, 74, 102] 102 (KC.ofX rfl rfl (tell_cx r6_h) (i := 0) (by kernel_rfl) rfl) ?_
   refine rE 2 [(8, pp 0 0), (aPl10 lh1_2), aPl7, (aPl11 lh3_2), (73, ii x73_2), (74, ii x74_2), (104, .bool (r6.1 != 12))] id ?_
   cases b12 : (r6.1 != 12 : Bool)
   case true => cases (cT b12 h)
   have h := cF b12 h
   refine iK 104 id ?_
   refine rQ ?_
   refine rS 2 (aPl24 lh1_2 lh3_2 x73_2 x74_2) ?_
   refine dQ ?_
   show XL _ _ _ _ _ _ _ _ _
   refine nL (aPl24 lh1_2 lh3_2 x73_2 x74_2) [(3, rc (encI .i64) lh3_2 0 3 1), (2, .imap (imS aPl22 mh2_2)), (1, rc (encI .i64) lh1_2 0 3 1), (0, .ext (bookX r6.2))] 4 [0, 1, 2, 3] ?_
   refine XL.conv (f12_2_ok m fuel x73_2 (w64 (x74_2 + 1)) r6.2 lh1_2 mh2_2 lh3_2 o h Q hQ) (by first | with_reducible rfl | simp | rfl)
  have h := cF b4 h
  refine iF 88 ?_
  refine rQ ?_
  refine rS 4 [(8, pp 0 0), (aPl10 lh1_2), aPl7, (aPl27 lh3_2 x74_2), (aPl20 x74_2), (17, ii 0), (aPl11 lh3_2), (73, ii x73_2), (74, ii x74_2), (89, .map (some 2)), (90, .string (aPl0 x74_2)), (91, s0 1 lh1_2.length), (92, ii x74_2)] ?_
  refine rR (pp 1 ((Int.toNat x74_2) * 1)) (iV 91 (.tmp 92) 93 1 0 b3) [(8, pp 0 0), (aPl10 lh1_2), aPl7, (aPl27 lh3_2 x74_2), (aPl20 x74_2), (17, ii 0), (aPl11 lh3_2), (73, ii x73_2), (74, ii x74_2), (89, .map (some 2)), (90, .string (aPl0 x74_2)), (93, pp 1 ((Int.toNat x74_2) * 1))] ?_
  refine rR _ (lV (encI_ok .i64) 93 94 1 ((Int.toNat x74_2) * 1) lh1_2 0 3 1 (Int.toNat x74_2) 0 0 (rl b3)) [(8, pp 0 0), (aPl10 lh1_2), aPl7, (aPl27 lh3_2 x74_2), (aPl20 x74_2), (17, ii 0), (aPl11 lh3_2), (73, ii x73_2), (74, ii x74_2), (89, .map (some 2)), (90, .string (aPl0 x74_2)), (94, ii (List.getD lh1_2 (Int.toNat x74_2) 0))] ?_
  refine eR (e_mputS aPl22 (m := (src 143 (.tmp 89))) (i := (src 143 (.tmp 90))) (x := (src 143 (.tmp 94))) (d := none) (b := 2) (k := (aPl0 x74_2)) (l := mh2_2) (a := List.getD lh1_2 (Int.toNat x74_2) 0) (h' := [(4, .cells [.int .u8 (IntKind.wrap .u8 (97 + (IntKind.wrap .u8 x74_2)))] 0 5 1), (3, rc (encI .i64) lh3_2 0 3 1), (2, .imap (imS aPl22 (putS mh2_2 (aPl0 x74_2) (List.getD lh1_2 (Int.toNat x74_2) 0)))), (1, rc (encI .i64) lh1_2 0 3 1), (0, .ext (bookX kh0_2))]) (by kernel_rfl) (by kernel_rfl) (by kernel_rfl) (by kernel_rfl) (by kernel_rfl) rfl rfl) [(8, pp 0 0), (aPl10 lh1_2), aPl7, (aPl27 lh3_2 x74_2), (aPl20 x74_2), (17, ii 0), (aPl11 lh3_2), (73, ii x73_2), (74, ii x74_2)] ?_
  refine nQ id ?_
  refine rS 2 [(8, pp 0 0), (aPl10 lh1_2), aPl7, (aPl27 lh3_2 x74_2), (17, ii 0), (aPl11 lh3_2), (73, ii x73_2), (74, ii x74_2), (95, pp 0 0), (96, .string (aPl0 x74_2))] ?_
  obtain ⟨b13, h⟩ := oC h
  refine rR (.string (aPl30 x74_2)) (mR b13) [(8, pp 0 0), (aPl10 lh1_2), aPl7, (aPl27 lh3_2 x74_2), (17, ii 0), (aPl11 lh3_2), (73, ii x73_2), (74, ii x74_2), (95, pp 0 0), (97, .string (aPl30 x74_2))] ?_
  obtain ⟨b15, h⟩ := oC h
  refine rR (.string (aPl5 x74_2)) (mR b15) [(8, pp 0 0), (aPl10 lh1_2), aPl7, (aPl27 lh3_2 x74_2), (17, ii 0), (aPl11 lh3_2), (73, ii x73_2), (74, ii x74_2), (95, pp 0 0), (98, .string (aPl5 x74_2))] ?_
  refine rS 1 [(8, pp 0 0), (aPl10 lh1_2), aPl7, (17, ii 0), (aPl11 lh3_2), (73, ii x73_2), (74, ii x74_2), (95, pp 0 0), (98, .string (aPl5 x74_2)), (99, ii (aPl6 lh3_2 x74_2))] ?_
  obtain ⟨b17, h⟩ := oC h
  refine cQ [8, 12, 13, 17, 72, 73, 74, 95, 98, 100] 100 (KC.of_calls E0_ok (F := Proofs.Tryz.f44) (v := .string (itoaV (aPl6 lh3_2 x74_2))) (by kernel_rfl) rfl rfl (itoaV_ok b17)) ?_
  obtain ⟨b18, h⟩ := oC h
  refine rR (.string (catS (aPl5 x74_2) (itoaV (aPl6 lh3_2 x74_2)))) (mR b18) [(8, pp 0 0), (aPl10 lh1_2), aPl7, (17, ii 0), (aPl11 lh3_2), (73, ii x73_2), (74, ii x74_2), (95, pp 0 0), (101, .string (catS (aPl5 x74_2) (itoaV (aPl6 lh3_2 x74_2))))] ?_
  obtain ⟨r7, r7_h, h⟩ := bS h
  refine cQ [8, 12, 13, 17, 72, 73, 74, 102] 102 (KC.ofX rfl rfl (tell_cx r7_h) (i := 0) (by kernel_rfl) rfl) ?_
  refine rE 2 [(8, pp 0 0), (aPl10 lh1_2), aPl7, (aPl11 lh3_2), (73, ii x73_2), (74, ii x74_2), (104, .bool (r7.1 != 0))] id ?_
  cases b20 : (r7.1 != 0 : Bool)
  case true => cases (cT b20 h)
  have h := cF b20 h
  refine iK 104 id ?_
  refine rQ ?_
  refine rS 2 (aPl24 lh1_2 lh3_2 x73_2 x74_2) ?_
  refine dQ ?_
  show XL _ _ _ _ _ _ _ _ _
  refine nL (aPl24 lh1_2 lh3_2 x73_2 x74_2) [(3, rc (encI .i64) lh3_2 0 3 1), (2, .imap (imS aPl22 (putS mh2_2 (aPl0 x74_2) (List.getD lh1_2 (Int.toNat x74_2) 0)))), (1, rc (encI .i64) lh1_2 0 3 1), (0, .ext (bookX r7.2))] 4 [0, 1, 2, 3] ?_
  refine XL.conv (f12_2_ok m fuel x73_2 (w64 (x74_2 + 1)) r7.2 lh1_2 (putS mh2_2 (aPl0 x74_2) (List.getD lh1_2 (Int.toNat x74_2) 0)) lh3_2 o h Q hQ) (by first | with_reducible rfl | simp | rfl)
def f12_3 (m : Nat) : Nat → Int → Int → List (ByteArray × Int) → List Bl → Option ((List (ByteArray × Int)) × (List Bl))
 | 0, _, _, _, _ => none
 | fuel + 1, x109_3, x110_3, mh0_3, lh1_3 =>
  cond (decide (x110_3 < x109_3)) (
   cond (inRow x110_3 lh1_3.length) (
    cond (!(hasS mh0_3 ((List.getD lh1_3 (Int.toNat x110_3) ((bs []), 0, 0)).1))) (
     none
    ) (
     cond ((getS 0 mh0_3 ((List.getD lh1_3 (Int.toNat x110_3) ((bs []), 0, 0)).1)) != ((List.getD lh1_3 (Int.toNat x110_3) ((bs []), 0, 0)).2.1)) (
      none
     ) (
      cond (((List.getD lh1_3 (Int.toNat x110_3) ((bs []), 0, 0)).2.2) != 7) (
       none
      ) (
       f12_3 m fuel x109_3 (w64 (x110_3 + 1)) mh0_3 lh1_3
      )
     )
    )
   ) none
  ) (
   some (mh0_3, lh1_3)
  )
abbrev aPl3 (lh1_3 : List Bl) (x110_3 : Int) := (List.getD lh1_3 (Int.toNat x110_3) ((bs []), 0, 0))
abbrev aPl16 : Nat × Value := (13, .map (some 0))
abbrev aPl23 (lh1_3 : List Bl) : Nat × Value := (108, s0 1 lh1_3.length)
abbrev aPl25 (lh1_3 : List Bl) : Nat × Value := (18, s0 1 lh1_3.length)
theorem f12_3_ok (m : Nat) : ∀ (fuel : Nat) (x109_3 : Int) (x110_3 : Int) (mh0_3 : List (ByteArray × Int)) (lh1_3 : List Bl) (o : ((List (ByteArray × Int)) × (List Bl))), f12_3 m fuel x109_3 x110_3 mh0_3 lh1_3 = some o → ∀ Q : QP, Q (.exit 4) [(13, .map (some 0)), (18, s0 1 o.2.length)] [(1, rc encL o.2 0 74 3), (0, .imap (imS (Value.int .i64) o.1))] 2 → XL E0 143 0 fuel f12_L3 [(13, .map (some 0)), (18, s0 1 lh1_3.length), (108, s0 1 lh1_3.length), (109, ii x109_3), (110, ii x110_3)] [(1, rc encL lh1_3 0 74 3), (0, .imap (imS (Value.int .i64) mh0_3))] 2 Q
 | 0, x109_3, x110_3, mh0_3, lh1_3, o, h, Q, hQ => by cases h
 | fuel + 1, x109_3, x110_3, mh0_3, lh1_3, o, h, Q, hQ => by
  unfold f12_3 at h
  refine XL.succ E0_ok ?_
  refine qE 1 [aPl16, (aPl25 lh1_3), (aPl23 lh1_3), (109, ii x109_3), (110, ii x110_3), (111, .bool (decide (x110_3 < x109_3)))] id ?_
  refine sQ ?_
  cases b1 : (decide (x110_3 < x109_3) : Bool)
  case false =>
   have h := cF b1 h
   refine iF 111 ?_
   refine nR [aPl16, (aPl25 lh1_3)] [(1, rc encL lh1_3 0 74 3), (0, .imap (imS aPl22 mh0_3))] 2 [0, 1] ?_
   refine XQ.exit (i := 4) (by kernel_rfl) ?_
   cases h
   exact hQ
  have h := cT b1 h
  refine iT 111 ?_
  refine kQ ?_
  show XQ _ _ _ _ _ _ _ _
  refine sQ ?_
  refine XQ.block (id := 5) (by kernel_rfl) ?_
  refine qQ ?_
  obtain ⟨b2, h⟩ := oC h
  refine rR (pp 1 ((Int.toNat x110_3) * 3)) (iV 108 (.tmp 110) 112 3 0 b2) [aPl16, (aPl25 lh1_3), (aPl23 lh1_3), (109, ii x109_3), (110, ii x110_3), (112, pp 1 ((Int.toNat x110_3) * 3))] ?_
  refine rR _ (LV encL_ok 112 113 1 ((Int.toNat x110_3) * 3) lh1_3 0 74 3 (Int.toNat x110_3) ((bs []), 0, 0) (rl b2)) [aPl16, (aPl25 lh1_3), (aPl23 lh1_3), (109, ii x109_3), (110, ii x110_3), (113, .agg #[.string ((aPl3 lh1_3 x110_3).1), ii ((aPl3 lh1_3 x110_3).2.1), ii ((aPl3 lh1_3 x110_3).2.2)])] ?_
  refine rD 2 [aPl16, (aPl25 lh1_3), (20, pp 2 0), (aPl23 lh1_3), (109, ii x109_3), (110, ii x110_3)] (fun h => (2, .cells [.string ((aPl3 lh1_3 x110_3).1), ii ((aPl3 lh1_3 x110_3).2.1), ii ((aPl3 lh1_3 x110_3).2.2)] 0 74 0) :: h) 3 ?_
  refine nQ id ?_
  refine rS 3 [aPl16, (aPl25 lh1_3), (20, pp 2 0), (aPl23 lh1_3), (109, ii x109_3), (110, ii x110_3), (115, .map (some 0)), (117, .string ((aPl3 lh1_3 x110_3).1))] ?_
  refine rR (.tuple #[ii (getS 0 mh0_3 ((aPl3 lh1_3 x110_3).1)), .bool (hasS mh0_3 ((aPl3 lh1_3 x110_3).1))]) (v_mgetSo aPl22 (x := (src 143 (.tmp 115))) (i := (src 143 (.tmp 117))) (z := .int .i64 0) (d := (some (path 12 118))) (b := 0) (k := (aPl3 lh1_3 x110_3).1) (l := mh0_3) (d0 := 0) (by kernel_rfl) (by kernel_rfl) (by kernel_rfl) (by kernel_rfl) rfl rfl rfl) [aPl16, (aPl25 lh1_3), (20, pp 2 0), (aPl23 lh1_3), (109, ii x109_3), (110, ii x110_3), (118, .tuple #[ii (getS 0 mh0_3 ((aPl3 lh1_3 x110_3).1)), .bool (hasS mh0_3 ((aPl3 lh1_3 x110_3).1))])] ?_
  refine rS 5 [aPl16, (aPl25 lh1_3), (20, pp 2 0), (21, ii (getS 0 mh0_3 ((aPl3 lh1_3 x110_3).1))), (22, .bool (hasS mh0_3 ((aPl3 lh1_3 x110_3).1))), (aPl23 lh1_3), (109, ii x109_3), (110, ii x110_3)] ?_
  refine nQ id ?_
  refine rS 3 [aPl16, (aPl25 lh1_3), (20, pp 2 0), (21, ii (getS 0 mh0_3 ((aPl3 lh1_3 x110_3).1))), (aPl23 lh1_3), (109, ii x109_3), (110, ii x110_3), (123, .bool (!(hasS mh0_3 ((aPl3 lh1_3 x110_3).1))))] ?_
  cases b3 : (!(hasS mh0_3 ((aPl3 lh1_3 x110_3).1)) : Bool)
  case true => cases (cT b3 h)
  have h := cF b3 h
  refine rS 6 [aPl16, (aPl25 lh1_3), (20, pp 2 0), (aPl23 lh1_3), (109, ii x109_3), (110, ii x110_3), (129, .bool ((getS 0 mh0_3 ((aPl3 lh1_3 x110_3).1)) != ((aPl3 lh1_3 x110_3).2.1)))] ?_
  cases b4 : ((getS 0 mh0_3 ((aPl3 lh1_3 x110_3).1)) != ((aPl3 lh1_3 x110_3).2.1) : Bool)
  case true => cases (cT b4 h)
  have h := cF b4 h
  refine rE 4 [aPl16, (aPl25 lh1_3), (aPl23 lh1_3), (109, ii x109_3), (110, ii x110_3), (133, .bool (((aPl3 lh1_3 x110_3).2.2) != 7))] id ?_
  cases b5 : (((aPl3 lh1_3 x110_3).2.2) != 7 : Bool)
  case true => cases (cT b5 h)
  have h := cF b5 h
  refine iK 133 id ?_
  refine rQ ?_
  refine rS 2 [aPl16, (aPl25 lh1_3), (aPl23 lh1_3), (109, ii x109_3), (110, ii (w64 (x110_3 + 1)))] ?_
  refine dQ ?_
  show XL _ _ _ _ _ _ _ _ _
  refine nL [aPl16, (aPl25 lh1_3), (aPl23 lh1_3), (109, ii x109_3), (110, ii (w64 (x110_3 + 1)))] [(1, rc encL lh1_3 0 74 3), (0, .imap (imS aPl22 mh0_3))] 2 [0, 1] ?_
  refine XL.conv (f12_3_ok m fuel x109_3 (w64 (x110_3 + 1)) mh0_3 lh1_3 o h Q hQ) (by first | with_reducible rfl | simp | rfl)
def f12 (m : Nat) (a : Int) (b_0 : Int) (b_1 : Int) (b_2 : Int) (b_3 : Int) (b_4 : Int) (b_5 : Int) (b_6 : Int) (b_7 : Int) (c : Int) : Option (Bool) :=
 cond (okN (w64 (1 + (Int.tmod (w64 a) 8)))) (
  cond ((w64 ((w64 (1 + (Int.tmod (w64 a) 8))) + 1)) != 0) (
   (f12_1 m m (w64 (1 + (Int.tmod (w64 a) 8))) (Int.tmod (w64 c) (w64 ((w64 (1 + (Int.tmod (w64 a) 8))) + 1))) 0 [b_0, b_1, b_2, b_3, b_4, b_5, b_6, b_7] (newS (w64 (1 + (Int.tmod (w64 a) 8)))) []).bind fun o1 =>
    (f43 m o1.1 o1.2.2).bind fun r1 =>
     cond (r1.2 != 0) (
      none
     ) (
      cond (((r1.1.length : Nat) : Int) != ((o1.2.2.length : Nat) : Int)) (
       none
      ) (
       (f12_2 m m ((o1.2.2.length : Nat) : Int) 0 o1.2.1 r1.1 [] o1.2.2).bind fun o2 =>
        (balesS m o2.1).bind fun r8 =>
         (f12_3 m m ((r8.length : Nat) : Int) 0 o2.2 r8).bind fun o3 =>
          cond (((o3.2.length : Nat) : Int) == ((o3.1.length : Nat) : Int)) (
           some (true)
          ) none
      )
     )
  ) none
 ) none
abbrev aPl4 (a : Int) := (w64 (1 + (Int.tmod (w64 a) 8)))
abbrev aPl15 (a : Int) (c : Int) : List (Nat × Value) := [(4, pp 0 0), (7, ii (aPl4 a)), (8, pp 1 0), (10, s0 2 0), (42, ii (Int.tmod (w64 c) (w64 ((aPl4 a) + 1)))), (43, ii 0)]
theorem f12_ok (m : Nat) (a : Int) (b_0 : Int) (b_1 : Int) (b_2 : Int) (b_3 : Int) (b_4 : Int) (b_5 : Int) (b_6 : Int) (b_7 : Int) (c : Int) (o : Bool) (h : f12 m a b_0 b_1 b_2 b_3 b_4 b_5 b_6 b_7 c = some o) (w : World) (hI : maInv w) : Calls Proofs.Tryz.prog 12 #[.int .u8 a, .agg #[.int .u8 b_0, .int .u8 b_1, .int .u8 b_2, .int .u8 b_3, .int .u8 b_4, .int .u8 b_5, .int .u8 b_6, .int .u8 b_7], .int .u8 c] w fun e w' => e = .returned (.bool o) ∧ Below w.heap.size w w' := by
 refine KC.calls (E := E0) (args := [.int .u8 a, .agg #[.int .u8 b_0, .int .u8 b_1, .int .u8 b_2, .int .u8 b_3, .int .u8 b_4, .int .u8 b_5, .int .u8 b_6, .int .u8 b_7], .int .u8 c]) (v := .bool o) rfl rfl (KC.bodyN E0_ok (F := Proofs.Tryz.f12) (by kernel_rfl) (code := f12_C12) (by kernel_rfl) (nt := 143) (by kernel_rfl) (rs := [.tmp 6]) (by kernel_rfl) (by kernel_rfl) (σ := [(0, .int .u8 a), (1, .agg #[.int .u8 b_0, .int .u8 b_1, .int .u8 b_2, .int .u8 b_3, .int .u8 b_4, .int .u8 b_5, .int .u8 b_6, .int .u8 b_7]), (2, .int .u8 c)]) (by kernel_rfl) ?_) w (maInv_size hI) hI
 unfold f12 at h
 refine qQ ?_
 refine rD 2 [(0, .int .u8 a), (2, .int .u8 c), (4, pp 0 0)] (fun h => (0, .cells [.int .u8 b_0, .int .u8 b_1, .int .u8 b_2, .int .u8 b_3, .int .u8 b_4, .int .u8 b_5, .int .u8 b_6, .int .u8 b_7] 0 81 0) :: h) 1 ?_
 refine nQ id ?_
 refine rS 5 [(2, .int .u8 c), (4, pp 0 0), (7, ii (aPl4 a))] ?_
 refine nQ id ?_
 refine rS 1 [(2, .int .u8 c), (4, pp 0 0), (7, ii (aPl4 a)), (28, ii (aPl4 a))] ?_
 cases b1 : (okN (aPl4 a) : Bool)
 case false => exact nomatch (cF b1 h)
 have h := cT b1 h
 refine cQ [2, 4, 7, 29] 29 (KC.ofN (g := fun u => .tuple #[u, ii 0]) (q := bookX (newS (aPl4 a))) rfl g_ok (new_cn b1)) ?_
 refine rE 5 [(2, .int .u8 c), (4, pp 0 0), (7, ii (aPl4 a)), (8, pp 1 0), (9, ii 0)] id ?_
 refine sQ ?_
 refine qE 6 [(2, .int .u8 c), (4, pp 0 0), (7, ii (aPl4 a)), (8, pp 1 0), (37, .bool false)] id ?_
 refine iK 37 id ?_
 refine qE 1 [(2, .int .u8 c), (4, pp 0 0), (7, ii (aPl4 a)), (8, pp 1 0), (10, .slice none 0 0)] id ?_
 refine XQ.ghost 3 1 rfl (σ' := [(2, .int .u8 c), (4, pp 0 0), (7, ii (aPl4 a)), (8, pp 1 0), (10, s0 2 0)]) (h' := [(1, .ext (bookX (newS (aPl4 a)))), (0, .cells [.int .u8 b_0, .int .u8 b_1, .int .u8 b_2, .int .u8 b_3, .int .u8 b_4, .int .u8 b_5, .int .u8 b_6, .int .u8 b_7] 0 81 0)]) ⟨by kernel_rfl, by kernel_rfl, by kernel_rfl, by kernel_rfl, by kernel_rfl, trivial⟩ ⟨⟨_, rfl, .inl rfl⟩, ⟨_, rfl, .inl rfl⟩, trivial⟩ ?_
 refine XQ.conv (σ' := [(2, .int .u8 c), (4, pp 0 0), (7, ii (aPl4 a)), (8, pp 1 0), (10, s0 2 0)]) (h' := [(2, rc (encI .i64) [] 0 3 1), (1, .ext (bookX (newS (aPl4 a)))), (0, .cells [.int .u8 b_0, .int .u8 b_1, .int .u8 b_2, .int .u8 b_3, .int .u8 b_4, .int .u8 b_5, .int .u8 b_6, .int .u8 b_7] 0 81 0)]) (c' := 3) ?_ (by kernel_rfl)
 refine sQ ?_
 refine qQ ?_
 refine rS 4 [(4, pp 0 0), (7, ii (aPl4 a)), (8, pp 1 0), (10, s0 2 0), (39, ii (w64 c)), (41, ii (w64 ((aPl4 a) + 1)))] ?_
 obtain ⟨b2, h⟩ := oC h
 refine rR (ii (Int.tmod (w64 c) (w64 ((aPl4 a) + 1)))) (mR b2) [(4, pp 0 0), (7, ii (aPl4 a)), (8, pp 1 0), (10, s0 2 0), (42, ii (Int.tmod (w64 c) (w64 ((aPl4 a) + 1))))] ?_
 refine rE 1 (aPl15 a c) id ?_
 refine XQ.block (id := 0) (by kernel_rfl) ?_
 refine XQ.loop m (by kernel_rfl) ?_
 obtain ⟨o1, o1_h, h⟩ := bS h
 refine nL (aPl15 a c) [(2, rc (encI .i64) [] 0 3 1), (1, .ext (bookX (newS (aPl4 a)))), (0, .cells [.int .u8 b_0, .int .u8 b_1, .int .u8 b_2, .int .u8 b_3, .int .u8 b_4, .int .u8 b_5, .int .u8 b_6, .int .u8 b_7] 0 81 0)] 3 [0, 1, 2] ?_
 refine XL.conv (σ' := (aPl15 a c)) (h' := [(2, rc (encI .i64) [] 0 3 1), (1, .ext (bookX (newS (aPl4 a)))), (0, rc (encI .u8) [b_0, b_1, b_2, b_3, b_4, b_5, b_6, b_7] 0 81 0)]) (c' := 3) ?_ (by kernel_rfl)
 refine XL.conv (f12_1_ok m m (aPl4 a) (Int.tmod (w64 c) (w64 ((aPl4 a) + 1))) 0 [b_0, b_1, b_2, b_3, b_4, b_5, b_6, b_7] (newS (aPl4 a)) [] o1 o1_h _ ?_) (by first | with_reducible rfl | simp | rfl)
 show XQ _ _ _ _ _ _ _ _
 refine qQ ?_
 refine rS 2 [(8, pp 0 0), (10, s0 1 o1.2.2.length), (57, ii o1.1), (58, s0 1 o1.2.2.length)] ?_
 obtain ⟨r1, r1_h, h⟩ := bS h
 refine cA [8, 10, 59] 59 [ii o1.1, s0 1 o1.2.2.length] (KC.liftH (n0 := 1) (m := 1) (args0 := [ii o1.1, s0 0 o1.2.2.length]) (h0 := [(0, rc (encI .i64) o1.2.2 (0 + ((rowC (encI .i64) o1.2.2).length + 1)) 3 1)]) (V := .tuple #[s0 1 r1.1.length, ii r1.2]) (V2 := .tuple #[s0 2 r1.1.length, ii r1.2]) (H := [(1, rc (encI .i64) r1.1 0 3 1)]) (H2 := [(2, rc (encI .i64) r1.1 0 3 1)]) [1] [2, 3, 1] (f43_ok m (0 + ((rowC (encI .i64) o1.2.2).length + 1)) 3 o1.1 o1.2.2 r1 r1_h) (by rfl) (by decide) rfl (by kernel_rfl) ⟨⟨_, _, rfl, rfl, .inl ⟨rfl, rowC_scal (encI_ok .i64) _⟩⟩, trivial⟩ (by decide) (by decide) (by kernel_rfl) ⟨⟨_, _, rfl, rfl, .inl ⟨rfl, rowC_scal (encI_ok .i64) _⟩⟩, trivial⟩ (by rfl)) ?_
 refine rE 5 [(8, pp 0 0), (9, ii r1.2), (10, s0 1 o1.2.2.length), (12, s0 2 r1.1.length)] id ?_
 refine sQ ?_
 refine qQ ?_
 refine rS 3 [(8, pp 0 0), (10, s0 1 o1.2.2.length), (12, s0 2 r1.1.length), (64, .bool (r1.2 != 0))] ?_
 cases b5 : (r1.2 != 0 : Bool)
 case true => cases (cT b5 h)
 have h := cF b5 h
 refine rE 6 [(8, pp 0 0), (10, s0 1 o1.2.2.length), (12, s0 2 r1.1.length), (70, .bool (((r1.1.length : Nat) : Int) != ((o1.2.2.length : Nat) : Int)))] id ?_
 cases b6 : (((r1.1.length : Nat) : Int) != ((o1.2.2.length : Nat) : Int) : Bool)
 case true => cases (cT b6 h)
 have h := cF b6 h
 refine iK 70 id ?_
 refine qG 2 [(8, pp 0 0), (10, s0 1 o1.2.2.length), (12, s0 2 r1.1.length), (13, .map (some 3))] (fun h => (3, .imap (imS aPl22 [])) :: h) 4 id ?_
 refine sQ ?_
 refine qE 3 [(8, pp 0 0), (12, s0 2 r1.1.length), (13, .map (some 3)), (72, s0 1 o1.2.2.length), (73, ii ((o1.2.2.length : Nat) : Int)), (74, ii 0)] id ?_
 refine XQ.block (id := 2) (by kernel_rfl) ?_
 refine XQ.loop m (by kernel_rfl) ?_
 obtain ⟨o2, o2_h, h⟩ := bS h
 refine nL [(8, pp 0 0), (12, s0 1 r1.1.length), aPl7, (72, s0 3 o1.2.2.length), (73, ii ((o1.2.2.length : Nat) : Int)), (74, ii 0)] [(3, rc (encI .i64) o1.2.2 0 3 1), (2, .imap (imS aPl22 [])), (1, rc (encI .i64) r1.1 0 3 1), (0, .ext (bookX o1.2.1))] 4 [0, 2, 3, 1] ?_
 refine XL.conv (f12_2_ok m m ((o1.2.2.length : Nat) : Int) 0 o1.2.1 r1.1 [] o1.2.2 o2 o2_h _ ?_) (by first | with_reducible rfl | simp | rfl)
 show XQ _ _ _ _ _ _ _ _
 refine qQ ?_
 refine rS 1 [(13, .map (some 1)), (106, pp 0 0)] ?_
 obtain ⟨r8, r8_h, h⟩ := bS h
 refine cQ [13, 107] 107 (KC.ofRX (p := bookX o2.1) (f := encL) (el := 74) (s := 3) (xs := r8) encL_ok rfl (bales_cr r8_h) (i := 0) (by kernel_rfl)) ?_
 refine rE 1 [(13, .map (some 1)), (18, s0 2 r8.length)] id ?_
 refine sQ ?_
 refine qE 3 [(13, .map (some 1)), (18, s0 2 r8.length), (108, s0 2 r8.length), (109, ii ((r8.length : Nat) : Int)), (110, ii 0)] id ?_
 refine XQ.block (id := 4) (by kernel_rfl) ?_
 refine XQ.loop m (by kernel_rfl) ?_
 obtain ⟨o3, o3_h, h⟩ := bS h
 refine nL [aPl16, (18, s0 1 r8.length), (108, s0 1 r8.length), (109, ii ((r8.length : Nat) : Int)), (110, ii 0)] [(1, rc encL r8 0 74 3), (0, .imap (imS aPl22 o2.2))] 2 [1, 2] ?_
 refine XL.conv (f12_3_ok m m ((r8.length : Nat) : Int) 0 o2.2 r8 o3 o3_h _ ?_) (by first | with_reducible rfl | simp | rfl)
 show XQ _ _ _ _ _ _ _ _
 refine qQ ?_
 refine rS 3 [(136, ii ((o3.2.length : Nat) : Int)), (137, .map (some 0))] ?_
 refine rR (ii ((o3.1.length : Nat) : Int)) (v_mlen (x := (src 143 (.tmp 137))) (d := (some (path 12 138))) (b := 0) (es := imS aPl22 o3.1) (n := o3.1.length) (by kernel_rfl) (by kernel_rfl) (by kernel_rfl) (imS_len _ _)) [(136, ii ((o3.2.length : Nat) : Int)), (138, ii ((o3.1.length : Nat) : Int))] ?_
 refine rS 2 [(140, .bool (((o3.2.length : Nat) : Int) == ((o3.1.length : Nat) : Int)))] ?_
 cases b9 : (((o3.2.length : Nat) : Int) == ((o3.1.length : Nat) : Int) : Bool)
 case false => exact nomatch (cF b9 h)
 have h := cT b9 h
 refine cQ [140, 141] 141 (KC.of_calls E0_ok (F := Proofs.Tryz.f15) (v := .bool true) (by kernel_rfl) rfl rfl (works_ok)) ?_
 refine rE 2 [(6, .bool true)] id ?_
 obtain rfl := sI h
 exact tV (.bool true) id rfl
end Go.Xm
