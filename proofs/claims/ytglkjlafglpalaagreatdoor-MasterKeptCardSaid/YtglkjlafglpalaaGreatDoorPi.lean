/- What these functions of the program compute, as functions in Lean, and the proofs that they do: vitolalaw14.Days).bays, vitolalaw14.MasterKept. Conditions: the library's variables hold what their texts lay. -/
import Derived.Test.YtglkjlafglpalaaGreatDoorDf
import Derived.Test.YtglkjlafglpalaaGreatDoorPh
namespace Go.Xm
open Go.RowKit
set_option linter.unusedVariables false
set_option linter.unusedSimpArgs false
set_option maxRecDepth 20000
set_option maxHeartbeats 4000000
noncomputable def f41_C41 : Code := Proofs.Tryz.f41.body.getD .skip
def f41 (m : Nat) (a_Bays : Int) (a_Deeds : List (Int × Int × Int × Int)) : Option (Int) :=
 some (w64 (1 + (Int.tmod (w64 a_Bays) 8)))
abbrev aPi3 (a_Bays : Int) (a_Deeds : List (Int × Int × Int × Int)) : Nat × XObj := (1, .cells [.int .u8 a_Bays, s0 0 a_Deeds.length] 0 66 0)
theorem f41_ok (m : Nat) (z0 : Nat) (y0 : Nat) (a_Bays : Int) (a_Deeds : List (Int × Int × Int × Int)) (o : Int) (h : f41 m a_Bays a_Deeds = some o) : KC E0 41 [.agg #[.int .u8 a_Bays, s0 0 a_Deeds.length]] [(0, rc encD a_Deeds z0 y0 4)] 1 (fun v _ _ => v = ii o) := by
 refine kN Proofs.Tryz.f41 f41_C41 8 [.tmp 2] ?_
 unfold f41 at h
 refine qQ ?_
 refine rD 2 [(1, pp 1 0)] (fun h => (aPi3 a_Bays a_Deeds) :: h) 2 ?_
 refine nQ id ?_
 refine rE 6 [(2, ii (w64 (1 + (Int.tmod (w64 a_Bays) 8))))] id ?_
 obtain rfl := sI h
 exact tV (ii (w64 (1 + (Int.tmod (w64 a_Bays) 8)))) id rfl
noncomputable def f7_C7 : Code := Proofs.Tryz.f7.body.getD .skip
noncomputable def f7_C36 : Code := Proofs.Tryz.f36.body.getD .skip
noncomputable def f7_L1 : Code := lft (lft (rgt (lft (rgt (rgt (rgt f7_C7))))))
noncomputable def f7_L2 : Code := lft (lft (rgt (lft (rgt (rgt (rgt (lft (lft (rgt (rgt f7_L1))))))))))
noncomputable def f7_L3 : Code := lft (lft (rgt (lft (rgt (rgt (rgt (rgt (rgt (rgt (rgt (rgt (rgt (lft (lft (rgt (rgt f7_L1))))))))))))))))
abbrev aPi9 := (bs [115, 116, 97, 109, 112, 115, 32])
def f7_2 (m : Nat) : Nat → Int → List (Int × Int × Int × Int) → Int → Int → List ByteArray → Int → Int → Int → Int → BkS → List ByteArray → Option (Int × Int × BkS)
 | 0, _, _, _, _, _, _, _, _, _, _, _ => none
 | fuel + 1, a_Bays, a_Deeds, x27_1, x28_1, lh3_1, x7_2, x8_2, x37_2, x38_2, kh2_2, lh4_2 =>
  cond (decide (x38_2 < x37_2)) (
   cond (inRow x38_2 lh4_2.length) (
    cond (hasV (List.getD lh4_2 (Int.toNat x38_2) (bs [])) aPi9) (
     cond (okS (List.getD lh4_2 (Int.toNat x38_2) (bs []))) (
      f7_2 m fuel a_Bays a_Deeds x27_1 x28_1 lh3_1 (w64 (x7_2 + (lastV (List.getD lh4_2 (Int.toNat x38_2) (bs []))))) x8_2 x37_2 (w64 (x38_2 + 1)) kh2_2 lh4_2
     ) none
    ) (
     cond (hasV (List.getD lh4_2 (Int.toNat x38_2) (bs [])) (bs [98, 97, 108, 101, 32])) (
      cond (okS (List.getD lh4_2 (Int.toNat x38_2) (bs []))) (
       cond (cutOk 0 (iMax 0 (lastB (List.getD lh4_2 (Int.toNat x38_2) (bs [])) 32)) (List.getD lh4_2 (Int.toNat x38_2) (bs [])).size) (
        cond (okS (cutT (List.getD lh4_2 (Int.toNat x38_2) (bs [])) 0 (iMax 0 (lastB (List.getD lh4_2 (Int.toNat x38_2) (bs [])) 32)))) (
         f7_2 m fuel a_Bays a_Deeds x27_1 x28_1 lh3_1 x7_2 (w64 (x8_2 + (lastV (cutT (List.getD lh4_2 (Int.toNat x38_2) (bs [])) 0 (iMax 0 (lastB (List.getD lh4_2 (Int.toNat x38_2) (bs [])) 32)))))) x37_2 (w64 (x38_2 + 1)) kh2_2 lh4_2
        ) none
       ) none
      ) none
     ) (
      f7_2 m fuel a_Bays a_Deeds x27_1 x28_1 lh3_1 x7_2 x8_2 x37_2 (w64 (x38_2 + 1)) kh2_2 lh4_2
     )
    )
   ) none
  ) (
   some (x7_2, x8_2, kh2_2)
  )
abbrev aPi1 (lh4_2 : List ByteArray) (x38_2 : Int) := (List.getD lh4_2 (Int.toNat x38_2) (bs []))
abbrev aPi2 (lh3_1 : List ByteArray) : Nat × Value := (26, s0 3 lh3_1.length)
abbrev aPi4 (lh4_2 : List ByteArray) (x38_2 : Int) := (cutT (aPi1 lh4_2 x38_2) 0 (iMax 0 (lastB (aPi1 lh4_2 x38_2) 32)))
abbrev aPi7 (lh4_2 : List ByteArray) : Nat × Value := (36, s0 4 lh4_2.length)
theorem f7_2_ok (m : Nat) : ∀ (fuel : Nat) (z0 : Nat) (y0 : Nat) (a_Bays : Int) (a_Deeds : List (Int × Int × Int × Int)) (x27_1 : Int) (x28_1 : Int) (lh3_1 : List ByteArray) (x7_2 : Int) (x8_2 : Int) (x37_2 : Int) (x38_2 : Int) (kh2_2 : BkS) (lh4_2 : List ByteArray) (o : (Int × Int × BkS)), f7_2 m fuel a_Bays a_Deeds x27_1 x28_1 lh3_1 x7_2 x8_2 x37_2 x38_2 kh2_2 lh4_2 = some o → ∀ Q : QP, Q (.exit 2) [(1, pp 1 0), (3, pp 2 0), (7, ii o.1), (8, ii o.2.1), (26, s0 3 lh3_1.length), (27, ii x27_1), (28, ii x28_1)] [(3, rc encS lh3_1 0 9 1), (2, .ext (bookX o.2.2)), (1, .cells [.int .u8 a_Bays, s0 0 a_Deeds.length] 0 66 0), (0, rc encD a_Deeds z0 y0 4)] 4 → XL E0 144 1 fuel f7_L2 [(1, pp 1 0), (3, pp 2 0), (7, ii x7_2), (8, ii x8_2), (26, s0 3 lh3_1.length), (27, ii x27_1), (28, ii x28_1), (36, s0 4 lh4_2.length), (37, ii x37_2), (38, ii x38_2)] [(4, rc encS lh4_2 0 9 1), (3, rc encS lh3_1 0 9 1), (2, .ext (bookX kh2_2)), (1, .cells [.int .u8 a_Bays, s0 0 a_Deeds.length] 0 66 0), (0, rc encD a_Deeds z0 y0 4)] 5 Q
 | 0, z0, y0, a_Bays, a_Deeds, x27_1, x28_1, lh3_1, x7_2, x8_2, x37_2, x38_2, kh2_2, lh4_2, o, h, Q, hQ => by cases h
 | fuel + 1, z0, y0, a_Bays, a_Deeds, x27_1, x28_1, lh3_1, x7_2, x8_2, x37_2, x38_2, kh2_2, lh4_2, o, h, Q, hQ => by
  unfold f7_2 at h
  refine XL.succ E0_ok ?_
  refine qE 1 [(1, pp 1 0), (3, pp 2 0), (7, ii x7_2), (8, ii x8_2), (aPi2 lh3_1), (27, ii x27_1), (28, ii x28_1), (aPi7 lh4_2), (37, ii x37_2), (38, ii x38_2), (39, .bool (decide (x38_2 < x37_2)))] id ?_
  refine sQ ?_
  cases b1 : (decide (x38_2 < x37_2) : Bool)
  case false =>
   have h := cF b1 h
   refine iF 39 ?_
   refine nR [(1, pp 1 0), (3, pp 2 0), (7, ii x7_2), (8, ii x8_2), (aPi2 lh3_1), (27, ii x27_1), (28, ii x28_1)] [(3, rc encS lh3_1 0 9 1), (2, .ext (bookX kh2_2)), (aPi3 a_Bays a_Deeds), (0, rc encD a_Deeds z0 y0 4)] 4 [0, 1, 2, 3] ?_
   refine XQ.exit (i := 2) (by kernel_rfl) ?_
   cases h
   exact hQ
  have h := cT b1 h
  refine iT 39 ?_
  refine kQ ?_
  show XQ _ _ _ _ _ _ _ _
  refine sQ ?_
  refine XQ.block (id := 3) (by kernel_rfl) ?_
  refine qQ ?_
  obtain ⟨b2, h⟩ := oC h
  refine rR (pp 4 ((Int.toNat x38_2) * 1)) (iV 36 (.tmp 38) 40 1 0 b2) [(1, pp 1 0), (3, pp 2 0), (7, ii x7_2), (8, ii x8_2), (aPi2 lh3_1), (27, ii x27_1), (28, ii x28_1), (aPi7 lh4_2), (37, ii x37_2), (38, ii x38_2), (40, pp 4 ((Int.toNat x38_2) * 1))] ?_
  refine rR _ (lV encS_ok 40 41 4 ((Int.toNat x38_2) * 1) lh4_2 0 9 1 (Int.toNat x38_2) 0 (bs []) (rl b2)) [(1, pp 1 0), (3, pp 2 0), (7, ii x7_2), (8, ii x8_2), (aPi2 lh3_1), (27, ii x27_1), (28, ii x28_1), (aPi7 lh4_2), (37, ii x37_2), (38, ii x38_2), (41, .string (aPi1 lh4_2 x38_2))] ?_
  refine rE 1 [(1, pp 1 0), (3, pp 2 0), (7, ii x7_2), (8, ii x8_2), (10, .string (aPi1 lh4_2 x38_2)), (aPi2 lh3_1), (27, ii x27_1), (28, ii x28_1), (aPi7 lh4_2), (37, ii x37_2), (38, ii x38_2)] id ?_
  refine XQ.block (id := 4) (by kernel_rfl) ?_
  refine qQ ?_
  refine rS 1 [(1, pp 1 0), (3, pp 2 0), (7, ii x7_2), (8, ii x8_2), (10, .string (aPi1 lh4_2 x38_2)), (aPi2 lh3_1), (27, ii x27_1), (28, ii x28_1), (aPi7 lh4_2), (37, ii x37_2), (38, ii x38_2), (43, .string (aPi1 lh4_2 x38_2))] ?_
  refine cQ [1, 3, 7, 8, 10, 26, 27, 28, 36, 37, 38, 44] 44 (KC.of_calls E0_ok (F := Proofs.Tryz.f38) (v := .bool (hasV (aPi1 lh4_2 x38_2) aPi9)) (by kernel_rfl) rfl rfl (has_ok _ _)) ?_
  refine rE 1 [(1, pp 1 0), (3, pp 2 0), (7, ii x7_2), (8, ii x8_2), (10, .string (aPi1 lh4_2 x38_2)), (aPi2 lh3_1), (27, ii x27_1), (28, ii x28_1), (aPi7 lh4_2), (37, ii x37_2), (38, ii x38_2), (42, .bool (hasV (aPi1 lh4_2 x38_2) aPi9))] id ?_
  cases b3 : (hasV (aPi1 lh4_2 x38_2) aPi9 : Bool)
  case true =>
   have h := cT b3 h
   refine iT 42 ?_
   refine rQ ?_
   refine rS 2 [(1, pp 1 0), (3, pp 2 0), (8, ii x8_2), (aPi2 lh3_1), (27, ii x27_1), (28, ii x28_1), (aPi7 lh4_2), (37, ii x37_2), (38, ii x38_2), (45, ii x7_2), (46, .string (aPi1 lh4_2 x38_2))] ?_
   obtain ⟨b4, h⟩ := oC h
   refine cQ [1, 3, 8, 26, 27, 28, 36, 37, 38, 45, 47] 47 (KC.of_calls E0_ok (F := Proofs.Tryz.f39) (v := ii (lastV (aPi1 lh4_2 x38_2))) (by kernel_rfl) rfl rfl (lastV_ok b4)) ?_
   refine rE 2 [(1, pp 1 0), (3, pp 2 0), (7, ii (w64 (x7_2 + (lastV (aPi1 lh4_2 x38_2))))), (8, ii x8_2), (aPi2 lh3_1), (27, ii x27_1), (28, ii x28_1), (aPi7 lh4_2), (37, ii x37_2), (38, ii x38_2)] id ?_
   refine rQ ?_
   refine rS 2 [(1, pp 1 0), (3, pp 2 0), (7, ii (w64 (x7_2 + (lastV (aPi1 lh4_2 x38_2))))), (8, ii x8_2), (aPi2 lh3_1), (27, ii x27_1), (28, ii x28_1), (aPi7 lh4_2), (37, ii x37_2), (38, ii (w64 (x38_2 + 1)))] ?_
   refine dQ ?_
   show XL _ _ _ _ _ _ _ _ _
   refine nL [(1, pp 1 0), (3, pp 2 0), (7, ii (w64 (x7_2 + (lastV (aPi1 lh4_2 x38_2))))), (8, ii x8_2), (aPi2 lh3_1), (27, ii x27_1), (28, ii x28_1), (aPi7 lh4_2), (37, ii x37_2), (38, ii (w64 (x38_2 + 1)))] [(4, rc encS lh4_2 0 9 1), (3, rc encS lh3_1 0 9 1), (2, .ext (bookX kh2_2)), (aPi3 a_Bays a_Deeds), (0, rc encD a_Deeds z0 y0 4)] 5 [0, 1, 2, 3, 4] ?_
   refine XL.conv (f7_2_ok m fuel z0 y0 a_Bays a_Deeds x27_1 x28_1 lh3_1 (w64 (x7_2 + (lastV (aPi1 lh4_2 x38_2)))) x8_2 x37_2 (w64 (x38_2 + 1)) kh2_2 lh4_2 o h Q hQ) (by first | with_reducible rfl | simp | rfl)
  have h := cF b3 h
  refine iF 42 ?_
  refine qQ ?_
  refine rS 1 [(1, pp 1 0), (3, pp 2 0), (7, ii x7_2), (8, ii x8_2), (10, .string (aPi1 lh4_2 x38_2)), (aPi2 lh3_1), (27, ii x27_1), (28, ii x28_1), (aPi7 lh4_2), (37, ii x37_2), (38, ii x38_2), (50, .string (aPi1 lh4_2 x38_2))] ?_
  refine cQ [1, 3, 7, 8, 10, 26, 27, 28, 36, 37, 38, 51] 51 (KC.of_calls E0_ok (F := Proofs.Tryz.f38) (v := .bool (hasV (aPi1 lh4_2 x38_2) (bs [98, 97, 108, 101, 32]))) (by kernel_rfl) rfl rfl (has_ok _ _)) ?_
  refine rE 1 [(1, pp 1 0), (3, pp 2 0), (7, ii x7_2), (8, ii x8_2), (10, .string (aPi1 lh4_2 x38_2)), (aPi2 lh3_1), (27, ii x27_1), (28, ii x28_1), (aPi7 lh4_2), (37, ii x37_2), (38, ii x38_2), (49, .bool (hasV (aPi1 lh4_2 x38_2) (bs [98, 97, 108, 101, 32])))] id ?_
  cases b5 : (hasV (aPi1 lh4_2 x38_2) (bs [98, 97, 108, 101, 32]) : Bool)
  case false =>
   have h := cF b5 h
   refine iK 49 id ?_
   refine rQ ?_
   refine rS 2 [(1, pp 1 0), (3, pp 2 0), (7, ii x7_2), (8, ii x8_2), (aPi2 lh3_1), (27, ii x27_1), (28, ii x28_1), (aPi7 lh4_2), (37, ii x37_2), (38, ii (w64 (x38_2 + 1)))] ?_
   refine dQ ?_
   show XL _ _ _ _ _ _ _ _ _
   refine nL [(1, pp 1 0), (3, pp 2 0), (7, ii x7_2), (8, ii x8_2), (aPi2 lh3_1), (27, ii x27_1), (28, ii x28_1), (aPi7 lh4_2), (37, ii x37_2), (38, ii (w64 (x38_2 + 1)))] [(4, rc encS lh4_2 0 9 1), (3, rc encS lh3_1 0 9 1), (2, .ext (bookX kh2_2)), (aPi3 a_Bays a_Deeds), (0, rc encD a_Deeds z0 y0 4)] 5 [0, 1, 2, 3, 4] ?_
   refine XL.conv (f7_2_ok m fuel z0 y0 a_Bays a_Deeds x27_1 x28_1 lh3_1 x7_2 x8_2 x37_2 (w64 (x38_2 + 1)) kh2_2 lh4_2 o h Q hQ) (by first | with_reducible rfl | simp | rfl)
  have h := cT b5 h
  refine iT 49 ?_
  refine rQ ?_
  refine rS 3 [(1, pp 1 0), (3, pp 2 0), (7, ii x7_2), (aPi2 lh3_1), (27, ii x27_1), (28, ii x28_1), (aPi7 lh4_2), (37, ii x37_2), (38, ii x38_2), (52, ii x8_2), (53, .string (aPi1 lh4_2 x38_2)), (54, .string (aPi1 lh4_2 x38_2))] ?_
  obtain ⟨b6, h⟩ := oC h
  refine cQ [1, 3, 7, 26, 27, 28, 36, 37, 38, 52, 53, 55] 55 (KC.of_calls E0_ok (F := Proofs.Tryz.f40) (v := ii (lastB (aPi1 lh4_2 x38_2) 32)) (by kernel_rfl) rfl rfl (lastB_ok b6)) ?_
  refine rS 1 [(1, pp 1 0), (3, pp 2 0), (7, ii x7_2), (aPi2 lh3_1), (27, ii x27_1), (28, ii x28_1), (aPi7 lh4_2), (37, ii x37_2), (38, ii x38_2), (52, ii x8_2), (53, .string (aPi1 lh4_2 x38_2)), (56, ii (iMax 0 (lastB (aPi1 lh4_2 x38_2) 32)))] ?_
  obtain ⟨b7, h⟩ := oC h
  refine rR (.string (aPi4 lh4_2 x38_2)) (mR b7) [(1, pp 1 0), (3, pp 2 0), (7, ii x7_2), (aPi2 lh3_1), (27, ii x27_1), (28, ii x28_1), (aPi7 lh4_2), (37, ii x37_2), (38, ii x38_2), (52, ii x8_2), (57, .string (aPi4 lh4_2 x38_2))] ?_
  obtain ⟨b9, h⟩ := oC h
  refine cQ [1, 3, 7, 26, 27, 28, 36, 37, 38, 52, 58] 58 (KC.of_calls E0_ok (F := Proofs.Tryz.f39) (v := ii (lastV (aPi4 lh4_2 x38_2))) (by kernel_rfl) rfl rfl (lastV_ok b9)) ?_
  refine rE 2 [(1, pp 1 0), (3, pp 2 0), (7, ii x7_2), (8, ii (w64 (x8_2 + (lastV (aPi4 lh4_2 x38_2))))), (aPi2 lh3_1), (27, ii x27_1), (28, ii x28_1), (aPi7 lh4_2), (37, ii x37_2), (38, ii x38_2)] id ?_
  refine rQ ?_
  refine rS 2 [(1, pp 1 0), (3, pp 2 0), (7, ii x7_2), (8, ii (w64 (x8_2 + (lastV (aPi4 lh4_2 x38_2))))), (aPi2 lh3_1), (27, ii x27_1), (28, ii x28_1), (aPi7 lh4_2), (37, ii x37_2), (38, ii (w64 (x38_2 + 1)))] ?_
  refine dQ ?_
  show XL _ _ _ _ _ _ _ _ _
  refine nL [(1, pp 1 0), (3, pp 2 0), (7, ii x7_2), (8, ii (w64 (x8_2 + (lastV (aPi4 lh4_2 x38_2))))), (aPi2 lh3_1), (27, ii x27_1), (28, ii x28_1), (aPi7 lh4_2), (37, ii x37_2), (38, ii (w64 (x38_2 + 1)))] [(4, rc encS lh4_2 0 9 1), (3, rc encS lh3_1 0 9 1), (2, .ext (bookX kh2_2)), (aPi3 a_Bays a_Deeds), (0, rc encD a_Deeds z0 y0 4)] 5 [0, 1, 2, 3, 4] ?_
  refine XL.conv (f7_2_ok m fuel z0 y0 a_Bays a_Deeds x27_1 x28_1 lh3_1 x7_2 (w64 (x8_2 + (lastV (aPi4 lh4_2 x38_2)))) x37_2 (w64 (x38_2 + 1)) kh2_2 lh4_2 o h Q hQ) (by first | with_reducible rfl | simp | rfl)
def f7_3 (m : Nat) : Nat → Int → List (Int × Int × Int × Int) → Int → Int → List ByteArray → Int → Int → Int → Int → Int → BkS → List (ByteArray × Bool) → List Bl → Option (Int × Int × BkS)
 | 0, _, _, _, _, _, _, _, _, _, _, _, _, _ => none
 | fuel + 1, a_Bays, a_Deeds, x27_1, x28_1, lh3_1, x8_3, x13_3, x15_3, x102_3, x103_3, kh2_3, mh3_3, lh5_3 =>
  cond (decide (x103_3 < x102_3)) (
   cond (inRow x103_3 lh5_3.length) (
    cond (decide (((List.getD lh5_3 (Int.toNat x103_3) ((bs []), 0, 0)).2.1) ≤ x15_3)) (
     none
    ) (
     (f41 m a_Bays a_Deeds).bind fun r20 =>
      cond (decide (((List.getD lh5_3 (Int.toNat x103_3) ((bs []), 0, 0)).2.1) ≥ r20)) (
       none
      ) (
       cond (decide (((List.getD lh5_3 (Int.toNat x103_3) ((bs []), 0, 0)).2.2) < 1)) (
        none
       ) (
        cond (getS false mh3_3 ((List.getD lh5_3 (Int.toNat x103_3) ((bs []), 0, 0)).1)) (
         none
        ) (
         f7_3 m fuel a_Bays a_Deeds x27_1 x28_1 lh3_1 (w64 (x8_3 - ((List.getD lh5_3 (Int.toNat x103_3) ((bs []), 0, 0)).2.2))) x13_3 ((List.getD lh5_3 (Int.toNat x103_3) ((bs []), 0, 0)).2.1) x102_3 (w64 (x103_3 + 1)) kh2_3 (putS mh3_3 ((List.getD lh5_3 (Int.toNat x103_3) ((bs []), 0, 0)).1) true) lh5_3
        )
       )
      )
    )
   ) none
  ) (
   some (x8_3, x13_3, kh2_3)
  )
abbrev aPi0 (lh5_3 : List Bl) (x103_3 : Int) := (List.getD lh5_3 (Int.toNat x103_3) ((bs []), 0, 0))
abbrev aPi5 : Nat × Value := (14, .map (some 3))
abbrev aPi6 (lh5_3 : List Bl) : Nat × Value := (101, s0 5 lh5_3.length)
abbrev aPi8 (lh3_1 : List ByteArray) : Nat × Value := (26, s0 4 lh3_1.length)
theorem f7_3_ok (m : Nat) : ∀ (fuel : Nat) (z0 : Nat) (y0 : Nat) (a_Bays : Int) (a_Deeds : List (Int × Int × Int × Int)) (x27_1 : Int) (x28_1 : Int) (lh3_1 : List ByteArray) (x8_3 : Int) (x13_3 : Int) (x15_3 : Int) (x102_3 : Int) (x103_3 : Int) (kh2_3 : BkS) (mh3_3 : List (ByteArray × Bool)) (lh5_3 : List Bl) (o : (Int × Int × BkS)), f7_3 m fuel a_Bays a_Deeds x27_1 x28_1 lh3_1 x8_3 x13_3 x15_3 x102_3 x103_3 kh2_3 mh3_3 lh5_3 = some o → ∀ Q : QP, Q (.exit 5) [(1, pp 1 0), (3, pp 2 0), (8, ii o.1), (13, ii o.2.1), (26, s0 3 lh3_1.length), (27, ii x27_1), (28, ii x28_1)] [(3, rc encS lh3_1 0 9 1), (2, .ext (bookX o.2.2)), (1, .cells [.int .u8 a_Bays, s0 0 a_Deeds.length] 0 66 0), (0, rc encD a_Deeds z0 y0 4)] 4 → XL E0 144 1 fuel f7_L3 [(1, pp 1 0), (3, pp 2 0), (8, ii x8_3), (13, ii x13_3), (14, .map (some 3)), (15, ii x15_3), (26, s0 4 lh3_1.length), (27, ii x27_1), (28, ii x28_1), (101, s0 5 lh5_3.length), (102, ii x102_3), (103, ii x103_3)] [(5, rc encL lh5_3 0 74 3), (4, rc encS lh3_1 0 9 1), (3, .imap (imS Value.bool mh3_3)), (2, .ext (bookX kh2_3)), (1, .cells [.int .u8 a_Bays, s0 0 a_Deeds.length] 0 66 0), (0, rc encD a_Deeds z0 y0 4)] 6 Q
 | 0, z0, y0, a_Bays, a_Deeds, x27_1, x28_1, lh3_1, x8_3, x13_3, x15_3, x102_3, x103_3, kh2_3, mh3_3, lh5_3, o, h, Q, hQ => by cases h
 | fuel + 1, z0, y0, a_Bays, a_Deeds, x27_1, x28_1, lh3_1, x8_3, x13_3, x15_3, x102_3, x103_3, kh2_3, mh3_3, lh5_3, o, h, Q, hQ => by
  unfold f7_3 at h
  refine XL.succ E0_ok ?_
  refine qE 1 [(1, pp 1 0), (3, pp 2 0), (8, ii x8_3), (13, ii x13_3), aPi5, (15, ii x15_3), (aPi8 lh3_1), (27, ii x27_1), (28, ii x28_1), (aPi6 lh5_3), (102, ii x102_3), (103, ii x103_3), (104, .bool (decide (x103_3 < x102_3)))] id ?_
  refine sQ ?_
  cases b1 : (decide (x103_3 < x102_3) : Bool)
  case false =>
   have h := cF b1 h
   refine iF 104 ?_
   refine nR [(1, pp 1 0), (3, pp 2 0), (8, ii x8_3), (13, ii x13_3), (aPi2 lh3_1), (27, ii x27_1), (28, ii x28_1)] [(3, rc encS lh3_1 0 9 1), (2, .ext (bookX kh2_3)), (aPi3 a_Bays a_Deeds), (0, rc encD a_Deeds z0 y0 4)] 4 [0, 1, 2, 4] ?_
   refine XQ.exit (i := 5) (by kernel_rfl) ?_
   cases h
   exact hQ
  have h := cT b1 h
  refine iT 104 ?_
  refine kQ ?_
  show XQ _ _ _ _ _ _ _ _
  refine sQ ?_
  refine XQ.block (id := 6) (by kernel_rfl) ?_
  refine qQ ?_
  obtain ⟨b2, h⟩ := oC h
  refine rR (pp 5 ((Int.toNat x103_3) * 3)) (iV 101 (.tmp 103) 105 3 0 b2) [(1, pp 1 0), (3, pp 2 0), (8, ii x8_3), (13, ii x13_3), aPi5, (15, ii x15_3), (aPi8 lh3_1), (27, ii x27_1), (28, ii x28_1), (aPi6 lh5_3), (102, ii x102_3), (103, ii x103_3), (105, pp 5 ((Int.toNat x103_3) * 3))] ?_
  refine rR _ (LV encL_ok 105 106 5 ((Int.toNat x103_3) * 3) lh5_3 0 74 3 (Int.toNat x103_3) ((bs []), 0, 0) (rl b2)) [(1, pp 1 0), (3, pp 2 0), (8, ii x8_3), (13, ii x13_3), aPi5, (15, ii x15_3), (aPi8 lh3_1), (27, ii x27_1), (28, ii x28_1), (aPi6 lh5_3), (102, ii x102_3), (103, ii x103_3), (106, .agg #[.string ((aPi0 lh5_3 x103_3).1), ii ((aPi0 lh5_3 x103_3).2.1), ii ((aPi0 lh5_3 x103_3).2.2)])] ?_
  refine rG 2 [(1, pp 1 0), (3, pp 2 0), (8, ii x8_3), (13, ii x13_3), aPi5, (15, ii x15_3), (17, pp 6 0), (aPi8 lh3_1), (27, ii x27_1), (28, ii x28_1), (aPi6 lh5_3), (102, ii x102_3), (103, ii x103_3)] (fun h => (6, .cells [.string ((aPi0 lh5_3 x103_3).1), ii ((aPi0 lh5_3 x103_3).2.1), ii ((aPi0 lh5_3 x103_3).2.2)] 0 74 0) :: h) 7 id ?_
  refine sQ ?_
  refine sQ ?_
  refine XQ.quiet E0_ok (by kernel_rfl) (by kernel_rfl) ?_
  refine XU.run E0_ok 1 5 [1, 3, 8, 13, 14, 17, 26, 27, 28, 101, 102, 103, 111] rfl (σ' := [(1, pp 1 0), (3, pp 2 0), (8, ii x8_3), (13, ii x13_3), aPi5, (17, pp 6 0), (aPi8 lh3_1), (27, ii x27_1), (28, ii x28_1), (aPi6 lh5_3), (102, ii x102_3), (103, ii x103_3), (111, .bool (decide (((aPi0 lh5_3 x103_3).2.1) ≤ x15_3)))]) (by kernel_rfl) ?_
  cases b3 : (decide (((aPi0 lh5_3 x103_3).2.1) ≤ x15_3) : Bool)
  case true => cases (cT b3 h)
  have h := cF b3 h
  refine XU.run E0_ok 1 3 [1, 3, 8, 13, 14, 17, 26, 27, 28, 101, 102, 103, 111, 113, 114] rfl (σ' := [(1, pp 1 0), (3, pp 2 0), (8, ii x8_3), (13, ii x13_3), aPi5, (17, pp 6 0), (aPi8 lh3_1), (27, ii x27_1), (28, ii x28_1), (aPi6 lh5_3), (102, ii x102_3), (103, ii x103_3), (111, .bool false), (113, ii ((aPi0 lh5_3 x103_3).2.1)), (114, .agg #[.int .u8 a_Bays, s0 0 a_Deeds.length])]) (by kernel_rfl) ?_
  obtain ⟨r20, r20_h, h⟩ := bS h
  refine XU.callH E0_ok [1, 3, 8, 13, 14, 17, 26, 27, 28, 101, 102, 103, 111, 113, 115] rfl (K := 41) (args := [.agg #[.int .u8 a_Bays, s0 0 a_Deeds.length]]) (d := (some (path 12 115))) (V := ii r20) (by kernel_rfl) rfl (KC.quiet E0_ok (args0 := [.agg #[.int .u8 a_Bays, s0 0 a_Deeds.length]]) (h0 := [(0, rc encD a_Deeds (z0 + ((rowC encD a_Deeds).length + 1)) y0 4)]) (n := 1) (V := ii r20) [0] (f41_ok m (z0 + ((rowC encD a_Deeds).length + 1)) y0 a_Bays a_Deeds r20 r20_h) rfl (by rfl) (by decide) rfl (by kernel_rfl) ⟨⟨_, _, rfl, rfl, .inl ⟨rfl, rowC_scal encD_ok _⟩⟩, trivial⟩) (σ' := [(1, pp 1 0), (3, pp 2 0), (8, ii x8_3), (13, ii x13_3), aPi5, (17, pp 6 0), (aPi8 lh3_1), (27, ii x27_1), (28, ii x28_1), (aPi6 lh5_3), (102, ii x102_3), (103, ii x103_3), (111, .bool false), (113, ii ((aPi0 lh5_3 x103_3).2.1)), (115, ii r20)]) (by kernel_rfl) ?_
  refine XU.run E0_ok 1 3 [1, 3, 8, 13, 14, 17, 26, 27, 28, 101, 102, 103, 118] rfl (σ' := [(1, pp 1 0), (3, pp 2 0), (8, ii x8_3), (13, ii x13_3), aPi5, (17, pp 6 0), (aPi8 lh3_1), (27, ii x27_1), (28, ii x28_1), (aPi6 lh5_3), (102, ii x102_3), (103, ii x103_3), (118, .bool (decide (((aPi0 lh5_3 x103_3).2.1) ≥ r20)))]) (by kernel_rfl) ?_
  cases b4 : (decide (((aPi0 lh5_3 x103_3).2.1) ≥ r20) : Bool)
  case true => cases (cT b4 h)
  have h := cF b4 h
  refine XU.run E0_ok 1 5 [1, 3, 8, 13, 14, 17, 26, 27, 28, 101, 102, 103, 123] rfl (σ' := [(1, pp 1 0), (3, pp 2 0), (8, ii x8_3), (13, ii x13_3), aPi5, (17, pp 6 0), (aPi8 lh3_1), (27, ii x27_1), (28, ii x28_1), (aPi6 lh5_3), (102, ii x102_3), (103, ii x103_3), (123, .bool (decide (((aPi0 lh5_3 x103_3).2.2) < 1)))]) (by kernel_rfl) ?_
  cases b5 : (decide (((aPi0 lh5_3 x103_3).2.2) < 1) : Bool)
  case true => cases (cT b5 h)
  have h := cF b5 h
  refine XU.run E0_ok 1 3 [1, 3, 8, 13, 14, 17, 26, 27, 28, 101, 102, 103, 123, 124, 126] rfl (σ' := [(1, pp 1 0), (3, pp 2 0), (8, ii x8_3), (13, ii x13_3), aPi5, (17, pp 6 0), (aPi8 lh3_1), (27, ii x27_1), (28, ii x28_1), (aPi6 lh5_3), (102, ii x102_3), (103, ii x103_3), (123, .bool false), (124, .map (some 3)), (126, .string ((aPi0 lh5_3 x103_3).1))]) (by kernel_rfl) ?_
  refine uR (.bool (getS false mh3_3 ((aPi0 lh5_3 x103_3).1))) (v_mgetS Value.bool (x := (src 144 (.tmp 124))) (i := (src 144 (.tmp 126))) (z := .bool false) (d := (some (path 12 127))) (b := 3) (k := (aPi0 lh5_3 x103_3).1) (l := mh3_3) (d0 := false) (by kernel_rfl) (by kernel_rfl) (by kernel_rfl) (by kernel_rfl) rfl rfl rfl) [(1, pp 1 0), (3, pp 2 0), (8, ii x8_3), (13, ii x13_3), aPi5, (17, pp 6 0), (aPi8 lh3_1), (27, ii x27_1), (28, ii x28_1), (aPi6 lh5_3), (102, ii x102_3), (103, ii x103_3), (123, .bool false), (127, .bool (getS false mh3_3 ((aPi0 lh5_3 x103_3).1)))] ?_
  refine XU.run E0_ok 1 1 [1, 3, 8, 13, 14, 17, 26, 27, 28, 101, 102, 103, 128] rfl (σ' := [(1, pp 1 0), (3, pp 2 0), (8, ii x8_3), (13, ii x13_3), aPi5, (17, pp 6 0), (aPi8 lh3_1), (27, ii x27_1), (28, ii x28_1), (aPi6 lh5_3), (102, ii x102_3), (103, ii x103_3), (128, .bool (getS false mh3_3 ((aPi0 lh5_3 x103_3).1)))]) (by kernel_rfl) ?_
  refine XU.done (by kernel_rfl) ?_
  show XQ _ _ _ _ _ _ _ _
  cases b6 : (getS false mh3_3 ((aPi0 lh5_3 x103_3).1) : Bool)
  case true => cases (cT b6 h)
  have h := cF b6 h
  refine iK 128 id ?_
  refine qQ ?_
  refine rS 3 [(1, pp 1 0), (3, pp 2 0), (8, ii x8_3), (13, ii x13_3), aPi5, (17, pp 6 0), (aPi8 lh3_1), (27, ii x27_1), (28, ii x28_1), (aPi6 lh5_3), (102, ii x102_3), (103, ii x103_3), (129, .map (some 3)), (131, .string ((aPi0 lh5_3 x103_3).1))] ?_
  refine eR (e_mputS Value.bool (m := (src 144 (.tmp 129))) (i := (src 144 (.tmp 131))) (x := (src 144 (.const (.bool true)))) (d := none) (b := 3) (k := (aPi0 lh5_3 x103_3).1) (l := mh3_3) (a := true) (h' := [(6, .cells [.string ((aPi0 lh5_3 x103_3).1), ii ((aPi0 lh5_3 x103_3).2.1), ii ((aPi0 lh5_3 x103_3).2.2)] 0 74 0), (5, rc encL lh5_3 0 74 3), (4, rc encS lh3_1 0 9 1), (3, .imap (imS Value.bool (putS mh3_3 ((aPi0 lh5_3 x103_3).1) true))), (2, .ext (bookX kh2_3)), (aPi3 a_Bays a_Deeds), (0, rc encD a_Deeds z0 y0 4)]) (by kernel_rfl) (by kernel_rfl) (by kernel_rfl) (by kernel_rfl) (by kernel_rfl) rfl rfl) [(1, pp 1 0), (3, pp 2 0), (8, ii x8_3), (13, ii x13_3), aPi5, (17, pp 6 0), (aPi8 lh3_1), (27, ii x27_1), (28, ii x28_1), (aPi6 lh5_3), (102, ii x102_3), (103, ii x103_3)] ?_
  refine nQ id ?_
  refine rE 3 [(1, pp 1 0), (3, pp 2 0), (8, ii x8_3), (13, ii x13_3), aPi5, (15, ii ((aPi0 lh5_3 x103_3).2.1)), (17, pp 6 0), (aPi8 lh3_1), (27, ii x27_1), (28, ii x28_1), (aPi6 lh5_3), (102, ii x102_3), (103, ii x103_3)] id ?_
  refine rQ ?_
  refine rE 5 [(1, pp 1 0), (3, pp 2 0), (8, ii (w64 (x8_3 - ((aPi0 lh5_3 x103_3).2.2)))), (13, ii x13_3), aPi5, (15, ii ((aPi0 lh5_3 x103_3).2.1)), (aPi8 lh3_1), (27, ii x27_1), (28, ii x28_1), (aPi6 lh5_3), (102, ii x102_3), (103, ii x103_3)] id ?_
  refine rQ ?_
  refine rS 2 [(1, pp 1 0), (3, pp 2 0), (8, ii (w64 (x8_3 - ((aPi0 lh5_3 x103_3).2.2)))), (13, ii x13_3), aPi5, (15, ii ((aPi0 lh5_3 x103_3).2.1)), (aPi8 lh3_1), (27, ii x27_1), (28, ii x28_1), (aPi6 lh5_3), (102, ii x102_3), (103, ii (w64 (x103_3 + 1)))] ?_
  refine dQ ?_
  show XL _ _ _ _ _ _ _ _ _
  refine nL [(1, pp 1 0), (3, pp 2 0), (8, ii (w64 (x8_3 - ((aPi0 lh5_3 x103_3).2.2)))), (13, ii x13_3), aPi5, (15, ii ((aPi0 lh5_3 x103_3).2.1)), (aPi8 lh3_1), (27, ii x27_1), (28, ii x28_1), (aPi6 lh5_3), (102, ii x102_3), (103, ii (w64 (x103_3 + 1)))] [(5, rc encL lh5_3 0 74 3), (4, rc encS lh3_1 0 9 1), (3, .imap (imS Value.bool (putS mh3_3 ((aPi0 lh5_3 x103_3).1) true))), (2, .ext (bookX kh2_3)), (aPi3 a_Bays a_Deeds), (0, rc encD a_Deeds z0 y0 4)] 6 [0, 1, 2, 3, 4, 5] ?_
  refine XL.conv (f7_3_ok m fuel z0 y0 a_Bays a_Deeds x27_1 x28_1 lh3_1 (w64 (x8_3 - ((aPi0 lh5_3 x103_3).2.2))) x13_3 ((aPi0 lh5_3 x103_3).2.1) x102_3 (w64 (x103_3 + 1)) kh2_3 (putS mh3_3 ((aPi0 lh5_3 x103_3).1) true) lh5_3 o h Q hQ) (by first | with_reducible rfl | simp | rfl)
def f7_1 (m : Nat) : Nat → Int → List (Int × Int × Int × Int) → Int → Int → BkS → List ByteArray → Option Unit
 | 0, _, _, _, _, _, _ => none
 | fuel + 1, a_Bays, a_Deeds, x27_1, x28_1, kh2_1, lh3_1 =>
  cond (decide (x28_1 < x27_1)) (
   cond (inRow x28_1 lh3_1.length) (
    (tellS m kh2_1 (List.getD lh3_1 (Int.toNat x28_1) (bs []))).bind fun r15 =>
     (linesS m r15.2).bind fun r16 =>
      (f7_2 m m a_Bays a_Deeds x27_1 x28_1 lh3_1 0 0 ((r16.length : Nat) : Int) 0 r15.2 r16).bind fun o2 =>
       cond (decide ((iMin (iMin (iMin (iMin ((stampsS o2.2.2).1) ((stampsS o2.2.2).2.1)) ((stampsS o2.2.2).2.2.1)) ((stampsS o2.2.2).2.2.2)) ((kilosS o2.2.2).2)) < 0)) (
        none
       ) (
        cond ((w64 ((w64 ((w64 (((stampsS o2.2.2).1) + ((stampsS o2.2.2).2.1))) + ((stampsS o2.2.2).2.2.1))) + ((stampsS o2.2.2).2.2.2))) != o2.1) (
         none
        ) (
         cond (((kilosS o2.2.2).1) != o2.2.1) (
          none
         ) (
          (balesS m o2.2.2).bind fun r17 =>
           (f7_3 m m a_Bays a_Deeds x27_1 x28_1 lh3_1 o2.2.1 ((kilosS o2.2.2).2) (-1) ((r17.length : Nat) : Int) 0 o2.2.2 [] r17).bind fun o3 =>
            cond (o3.1 != o3.2.1) (
             none
            ) (
             f7_1 m fuel a_Bays a_Deeds x27_1 (w64 (x28_1 + 1)) o3.2.2 lh3_1
            )
         )
        )
       )
   ) none
  ) (
   some (())
  )
theorem f7_1_ok (m : Nat) : ∀ (fuel : Nat) (z0 : Nat) (y0 : Nat) (a_Bays : Int) (a_Deeds : List (Int × Int × Int × Int)) (x27_1 : Int) (x28_1 : Int) (kh2_1 : BkS) (lh3_1 : List ByteArray) (o : Unit), f7_1 m fuel a_Bays a_Deeds x27_1 x28_1 kh2_1 lh3_1 = some o → ∀ Q : QP, Q (.exit 0) [] [(0, rc encD a_Deeds z0 y0 4)] 1 → XL E0 144 1 fuel f7_L1 [(1, pp 1 0), (3, pp 2 0), (26, s0 3 lh3_1.length), (27, ii x27_1), (28, ii x28_1)] [(3, rc encS lh3_1 0 9 1), (2, .ext (bookX kh2_1)), (1, .cells [.int .u8 a_Bays, s0 0 a_Deeds.length] 0 66 0), (0, rc encD a_Deeds z0 y0 4)] 4 Q
 | 0, z0, y0, a_Bays, a_Deeds, x27_1, x28_1, kh2_1, lh3_1, o, h, Q, hQ => by cases h
 | fuel + 1, z0, y0, a_Bays, a_Deeds, x27_1, x28_1, kh2_1, lh3_1, o, h, Q, hQ => by
  unfold f7_1 at h
  refine XL.succ E0_ok ?_
  refine qE 1 [(1, pp 1 0), (3, pp 2 0), (aPi2 lh3_1), (27, ii x27_1), (28, ii x28_1), (29, .bool (decide (x28_1 < x27_1)))] id ?_
  refine sQ ?_
  cases b1 : (decide (x28_1 < x27_1) : Bool)
  case false =>
   have h := cF b1 h
   refine iF 29 ?_
   refine nR [] [(0, rc encD a_Deeds z0 y0 4)] 1 [0] ?_
   refine XQ.exit (i := 0) (by kernel_rfl) ?_
   cases h
   exact hQ
  have h := cT b1 h
  refine iT 29 ?_
  refine kQ ?_
  show XQ _ _ _ _ _ _ _ _
  refine sQ ?_
  refine XQ.block (id := 1) (by kernel_rfl) ?_
  refine qQ ?_
  obtain ⟨b2, h⟩ := oC h
  refine rR (pp 3 ((Int.toNat x28_1) * 1)) (iV 26 (.tmp 28) 30 1 0 b2) [(1, pp 1 0), (3, pp 2 0), (aPi2 lh3_1), (27, ii x27_1), (28, ii x28_1), (30, pp 3 ((Int.toNat x28_1) * 1))] ?_
  refine rR _ (lV encS_ok 30 31 3 ((Int.toNat x28_1) * 1) lh3_1 0 9 1 (Int.toNat x28_1) 0 (bs []) (rl b2)) [(1, pp 1 0), (3, pp 2 0), (aPi2 lh3_1), (27, ii x27_1), (28, ii x28_1), (31, .string (List.getD lh3_1 (Int.toNat x28_1) (bs [])))] ?_
  refine rS 1 [(1, pp 1 0), (3, pp 2 0), (6, .string (List.getD lh3_1 (Int.toNat x28_1) (bs []))), (aPi2 lh3_1), (27, ii x27_1), (28, ii x28_1)] ?_
  refine nQ id ?_
  refine rS 2 [(1, pp 1 0), (3, pp 2 0), (aPi2 lh3_1), (27, ii x27_1), (28, ii x28_1), (32, pp 2 0), (33, .string (List.getD lh3_1 (Int.toNat x28_1) (bs [])))] ?_
  obtain ⟨r15, r15_h, h⟩ := bS h
  refine cQ [1, 3, 26, 27, 28] 34 (KC.ofX rfl rfl (tell_cx r15_h) (i := 2) (by kernel_rfl) rfl) ?_
  refine nQ id ?_
  refine rE 2 [(1, pp 1 0), (3, pp 2 0), (7, ii 0), (8, ii 0), (aPi2 lh3_1), (27, ii x27_1), (28, ii x28_1)] id ?_
  refine sQ ?_
  refine qQ ?_
  refine rS 1 [(1, pp 1 0), (3, pp 2 0), (7, ii 0), (8, ii 0), (aPi2 lh3_1), (27, ii x27_1), (28, ii x28_1), (35, pp 2 0)] ?_
  obtain ⟨r16, r16_h, h⟩ := bS h
  refine cQ [1, 3, 7, 8, 26, 27, 28, 36] 36 (KC.ofRX (p := bookX r15.2) (f := encS) (el := 9) (s := 1) (xs := r16) encS_ok rfl (lines_cr r16_h) (i := 2) (by kernel_rfl)) ?_
  refine rE 2 [(1, pp 1 0), (3, pp 2 0), (7, ii 0), (8, ii 0), (aPi2 lh3_1), (27, ii x27_1), (28, ii x28_1), (36, s0 4 r16.length), (37, ii ((r16.length : Nat) : Int)), (38, ii 0)] id ?_
  refine XQ.block (id := 2) (by kernel_rfl) ?_
  refine XQ.loop m (by kernel_rfl) ?_
  obtain ⟨o2, o2_h, h⟩ := bS h
  refine nL [(1, pp 1 0), (3, pp 2 0), (7, ii 0), (8, ii 0), (aPi2 lh3_1), (27, ii x27_1), (28, ii x28_1), (36, s0 4 r16.length), (37, ii ((r16.length : Nat) : Int)), (38, ii 0)] [(4, rc encS r16 0 9 1), (3, rc encS lh3_1 0 9 1), (2, .ext (bookX r15.2)), (aPi3 a_Bays a_Deeds), (0, rc encD a_Deeds z0 y0 4)] 5 [0, 1, 2, 3, 4] ?_
  refine XL.conv (f7_2_ok m m z0 y0 a_Bays a_Deeds x27_1 x28_1 lh3_1 0 0 ((r16.length : Nat) : Int) 0 r15.2 r16 o2 o2_h _ ?_) (by first | with_reducible rfl | simp | rfl)
  show XQ _ _ _ _ _ _ _ _
  refine qQ ?_
  refine rS 1 [(1, pp 1 0), (3, pp 2 0), (7, ii o2.1), (8, ii o2.2.1), (aPi2 lh3_1), (27, ii x27_1), (28, ii x28_1), (61, pp 2 0)] ?_
  refine cQ [1, 3, 7, 8, 26, 27, 28, 62] 62 (KC.ofV rfl rfl (stamps_cx o2.2.2) (i := 2) (by kernel_rfl)) ?_
  refine rD 2 [(1, pp 1 0), (3, pp 2 0), (7, ii o2.1), (8, ii o2.2.1), (11, pp 4 0), (aPi2 lh3_1), (27, ii x27_1), (28, ii x28_1)] (fun h => (4, .cells [ii ((stampsS o2.2.2).1), ii ((stampsS o2.2.2).2.1), ii ((stampsS o2.2.2).2.2.1), ii ((stampsS o2.2.2).2.2.2)] 0 47 0) :: h) 5 ?_
  refine nQ id ?_
  refine rS 1 [(1, pp 1 0), (3, pp 2 0), (7, ii o2.1), (8, ii o2.2.1), (11, pp 4 0), (aPi2 lh3_1), (27, ii x27_1), (28, ii x28_1), (64, pp 2 0)] ?_
  refine cQ [1, 3, 7, 8, 11, 26, 27, 28, 65] 65 (KC.ofV rfl rfl (kilos_cx o2.2.2) (i := 2) (by kernel_rfl)) ?_
  refine rE 5 [(1, pp 1 0), (3, pp 2 0), (7, ii o2.1), (8, ii o2.2.1), (11, pp 4 0), (12, ii ((kilosS o2.2.2).1)), (13, ii ((kilosS o2.2.2).2)), (aPi2 lh3_1), (27, ii x27_1), (28, ii x28_1)] id ?_
  refine sQ ?_
  refine qQ ?_
  refine rS 12 [(1, pp 1 0), (3, pp 2 0), (7, ii o2.1), (8, ii o2.2.1), (11, pp 4 0), (12, ii ((kilosS o2.2.2).1)), (13, ii ((kilosS o2.2.2).2)), (aPi2 lh3_1), (27, ii x27_1), (28, ii x28_1), (79, .bool (decide ((iMin (iMin (iMin (iMin ((stampsS o2.2.2).1) ((stampsS o2.2.2).2.1)) ((stampsS o2.2.2).2.2.1)) ((stampsS o2.2.2).2.2.2)) ((kilosS o2.2.2).2)) < 0)))] ?_
  cases b4 : (decide ((iMin (iMin (iMin (iMin ((stampsS o2.2.2).1) ((stampsS o2.2.2).2.1)) ((stampsS o2.2.2).2.2.1)) ((stampsS o2.2.2).2.2.2)) ((kilosS o2.2.2).2)) < 0) : Bool)
  case true => cases (cT b4 h)
  have h := cF b4 h
  refine rS 15 [(1, pp 1 0), (3, pp 2 0), (8, ii o2.2.1), (12, ii ((kilosS o2.2.2).1)), (13, ii ((kilosS o2.2.2).2)), (aPi2 lh3_1), (27, ii x27_1), (28, ii x28_1), (94, .bool ((w64 ((w64 ((w64 (((stampsS o2.2.2).1) + ((stampsS o2.2.2).2.1))) + ((stampsS o2.2.2).2.2.1))) + ((stampsS o2.2.2).2.2.2))) != o2.1))] ?_
  cases b5 : ((w64 ((w64 ((w64 (((stampsS o2.2.2).1) + ((stampsS o2.2.2).2.1))) + ((stampsS o2.2.2).2.2.1))) + ((stampsS o2.2.2).2.2.2))) != o2.1 : Bool)
  case true => cases (cT b5 h)
  have h := cF b5 h
  refine rE 4 [(1, pp 1 0), (3, pp 2 0), (8, ii o2.2.1), (13, ii ((kilosS o2.2.2).2)), (aPi2 lh3_1), (27, ii x27_1), (28, ii x28_1), (98, .bool (((kilosS o2.2.2).1) != o2.2.1))] id ?_
  cases b6 : (((kilosS o2.2.2).1) != o2.2.1 : Bool)
  case true => cases (cT b6 h)
  have h := cF b6 h
  refine iK 98 id ?_
  refine qQ ?_
  refine rD 2 [(1, pp 1 0), (3, pp 2 0), (8, ii o2.2.1), (13, ii ((kilosS o2.2.2).2)), (14, .map (some 5)), (aPi2 lh3_1), (27, ii x27_1), (28, ii x28_1)] (fun h => (5, .imap (imS Value.bool [])) :: h) 6 ?_
  refine nQ id ?_
  refine rE 1 [(1, pp 1 0), (3, pp 2 0), (8, ii o2.2.1), (13, ii ((kilosS o2.2.2).2)), (14, .map (some 5)), (15, ii (-1)), (aPi2 lh3_1), (27, ii x27_1), (28, ii x28_1)] id ?_
  refine sQ ?_
  refine qQ ?_
  refine rS 1 [(1, pp 1 0), (3, pp 2 0), (8, ii o2.2.1), (13, ii ((kilosS o2.2.2).2)), (14, .map (some 5)), (15, ii (-1)), (aPi2 lh3_1), (27, ii x27_1), (28, ii x28_1), (100, pp 2 0)] ?_
  obtain ⟨r17, r17_h, h⟩ := bS h
  refine cQ [1, 3, 8, 13, 14, 15, 26, 27, 28, 101] 101 (KC.ofRX (p := bookX o2.2.2) (f := encL) (el := 74) (s := 3) (xs := r17) encL_ok rfl (bales_cr r17_h) (i := 2) (by kernel_rfl)) ?_
  refine rE 2 [(1, pp 1 0), (3, pp 2 0), (8, ii o2.2.1), (13, ii ((kilosS o2.2.2).2)), (14, .map (some 5)), (15, ii (-1)), (aPi2 lh3_1), (27, ii x27_1), (28, ii x28_1), (101, s0 6 r17.length), (102, ii ((r17.length : Nat) : Int)), (103, ii 0)] id ?_
  refine XQ.block (id := 5) (by kernel_rfl) ?_
  refine XQ.loop m (by kernel_rfl) ?_
  obtain ⟨o3, o3_h, h⟩ := bS h
  refine nL [(1, pp 1 0), (3, pp 2 0), (8, ii o2.2.1), (13, ii ((kilosS o2.2.2).2)), aPi5, (15, ii (-1)), (aPi8 lh3_1), (27, ii x27_1), (28, ii x28_1), (101, s0 5 r17.length), (102, ii ((r17.length : Nat) : Int)), (103, ii 0)] [(5, rc encL r17 0 74 3), (4, rc encS lh3_1 0 9 1), (3, .imap (imS Value.bool [])), (2, .ext (bookX o2.2.2)), (aPi3 a_Bays a_Deeds), (0, rc encD a_Deeds z0 y0 4)] 6 [0, 1, 2, 5, 3, 6] ?_
  refine XL.conv (f7_3_ok m m z0 y0 a_Bays a_Deeds x27_1 x28_1 lh3_1 o2.2.1 ((kilosS o2.2.2).2) (-1) ((r17.length : Nat) : Int) 0 o2.2.2 [] r17 o3 o3_h _ ?_) (by first | with_reducible rfl | simp | rfl)
  show XQ _ _ _ _ _ _ _ _
  refine qE 3 [(1, pp 1 0), (3, pp 2 0), (aPi2 lh3_1), (27, ii x27_1), (28, ii x28_1), (141, .bool (o3.1 != o3.2.1))] id ?_
  cases b8 : (o3.1 != o3.2.1 : Bool)
  case true => cases (cT b8 h)
  have h := cF b8 h
  refine iK 141 id ?_
  refine rQ ?_
  refine rS 2 [(1, pp 1 0), (3, pp 2 0), (aPi2 lh3_1), (27, ii x27_1), (28, ii (w64 (x28_1 + 1)))] ?_
  refine dQ ?_
  show XL _ _ _ _ _ _ _ _ _
  refine nL [(1, pp 1 0), (3, pp 2 0), (aPi2 lh3_1), (27, ii x27_1), (28, ii (w64 (x28_1 + 1)))] [(3, rc encS lh3_1 0 9 1), (2, .ext (bookX o3.2.2)), (aPi3 a_Bays a_Deeds), (0, rc encD a_Deeds z0 y0 4)] 4 [0, 1, 2, 3] ?_
  refine XL.conv (f7_1_ok m fuel z0 y0 a_Bays a_Deeds x27_1 (w64 (x28_1 + 1)) o3.2.2 lh3_1 o h Q hQ) (by first | with_reducible rfl | simp | rfl)
def f7 (m : Nat) (a_Bays : Int) (a_Deeds : List (Int × Int × Int × Int)) : Option (Bool) :=
 (f41 m a_Bays a_Deeds).bind fun r1 =>
  cond (okN r1) (
   (f37 m a_Bays a_Deeds true).bind fun r2 =>
    (f7_1 m m a_Bays a_Deeds ((r2.length : Nat) : Int) 0 (newS r1) r2).bind fun o1 =>
     some (true)
  ) none
theorem f7_ok (m : Nat) (z0 : Nat) (y0 : Nat) (a_Bays : Int) (a_Deeds : List (Int × Int × Int × Int)) (o : Bool) (h : f7 m a_Bays a_Deeds = some o) : KC E0 7 [.agg #[.int .u8 a_Bays, s0 0 a_Deeds.length]] [(0, rc encD a_Deeds z0 y0 4)] 1 (fun v _ _ => v = .bool o) := by
 refine kN Proofs.Tryz.f7 f7_C7 144 [.tmp 2] ?_
 unfold f7 at h
 refine qQ ?_
 refine rD 2 [(1, pp 1 0)] (fun h => (aPi3 a_Bays a_Deeds) :: h) 2 ?_
 refine nQ id ?_
 refine rS 1 [(1, pp 1 0), (19, .agg #[.int .u8 a_Bays, s0 0 a_Deeds.length])] ?_
 refine cK [1, 20] 36 [.agg #[.int .u8 a_Bays, s0 0 a_Deeds.length]] 20 ?_
 refine kN Proofs.Tryz.f36 f7_C36 19 [.tmp 2, .tmp 3] ?_
 refine qQ ?_
 refine rD 3 [(1, pp 2 0)] (fun h => (2, .cells [.int .u8 a_Bays, s0 0 a_Deeds.length] 0 66 0) :: h) 3 ?_
 refine nQ id ?_
 refine rS 1 [(7, .agg #[.int .u8 a_Bays, s0 0 a_Deeds.length])] ?_
 obtain ⟨r1, r1_h, h⟩ := bS h
 refine cA [8] 8 [.agg #[.int .u8 a_Bays, s0 0 a_Deeds.length]] (KQ.call (KC.quiet E0_ok (args0 := [.agg #[.int .u8 a_Bays, s0 0 a_Deeds.length]]) (h0 := [(0, rc encD a_Deeds (z0 + ((rowC encD a_Deeds).length + 1)) y0 4)]) (n := 1) (V := ii r1) [0] (f41_ok m (z0 + ((rowC encD a_Deeds).length + 1)) y0 a_Bays a_Deeds r1 r1_h) rfl (by rfl) (by decide) rfl (by kernel_rfl) ⟨⟨_, _, rfl, rfl, .inl ⟨rfl, rowC_scal encD_ok _⟩⟩, trivial⟩) rfl) ?_
 cases b1 : (okN r1 : Bool)
 case false => exact nomatch (cF b1 h)
 have h := cT b1 h
 refine cQ [9] 9 (KC.ofN (g := fun u => .tuple #[u, ii 0]) (q := bookX (newS r1)) rfl g_ok (new_cn b1)) ?_
 refine rS 5 [(4, pp 3 0), (5, ii 0)] ?_
 refine nQ id ?_
 refine rE 9 [(2, pp 3 0), (3, .bool true)] id ?_
 refine tV (.tuple #[pp 3 0, .bool true]) id ?_
 refine rE 5 [(1, pp 1 0), (3, pp 3 0), (4, .bool true)] id ?_
 refine sQ ?_
 refine qE 2 [(1, pp 1 0), (3, pp 3 0), (24, .bool false)] id ?_
 refine iK 24 id ?_
 refine sQ ?_
 refine qQ ?_
 refine rS 1 [(1, pp 1 0), (3, pp 3 0), (25, .agg #[.int .u8 a_Bays, s0 0 a_Deeds.length])] ?_
 obtain ⟨r2, r2_h, h⟩ := bS h
 refine cA [1, 3, 26] 26 [.agg #[.int .u8 a_Bays, s0 0 a_Deeds.length], .bool true] (KC.liftH (n0 := 1) (m := 1) (args0 := [.agg #[.int .u8 a_Bays, s0 0 a_Deeds.length], .bool true]) (h0 := [(0, rc encD a_Deeds (z0 + ((rowC encD a_Deeds).length + 1)) y0 4)]) (V := s0 1 r2.length) (V2 := s0 4 r2.length) (H := [(1, rc encS r2 0 9 1)]) (H2 := [(4, rc encS r2 0 9 1)]) [0] [2, 3, 4, 5, 1] (f37_ok m (z0 + ((rowC encD a_Deeds).length + 1)) y0 a_Bays a_Deeds true r2 r2_h) (by rfl) (by decide) rfl (by kernel_rfl) ⟨⟨_, _, rfl, rfl, .inl ⟨rfl, rowC_scal encD_ok _⟩⟩, trivial⟩ (by decide) (by decide) (by kernel_rfl) ⟨⟨_, _, rfl, rfl, .inl ⟨rfl, rowC_scal encS_ok _⟩⟩, trivial⟩ (by rfl)) ?_
 refine rE 2 [(1, pp 1 0), (3, pp 3 0), (26, s0 4 r2.length), (27, ii ((r2.length : Nat) : Int)), (28, ii 0)] id ?_
 refine XQ.block (id := 0) (by kernel_rfl) ?_
 refine XQ.loop m (by kernel_rfl) ?_
 obtain ⟨o1, o1_h, h⟩ := bS h
 refine nL [(1, pp 1 0), (3, pp 2 0), (26, s0 3 r2.length), (27, ii ((r2.length : Nat) : Int)), (28, ii 0)] [(3, rc encS r2 0 9 1), (2, .ext (bookX (newS r1))), (aPi3 a_Bays a_Deeds), (0, rc encD a_Deeds z0 y0 4)] 4 [0, 1, 3, 4] ?_
 refine XL.conv (f7_1_ok m m z0 y0 a_Bays a_Deeds ((r2.length : Nat) : Int) 0 (newS r1) r2 o1 o1_h _ ?_) (by first | with_reducible rfl | simp | rfl)
 show XQ _ _ _ _ _ _ _ _
 refine qQ ?_
 refine cQ [143] 143 (KC.of_calls E0_ok (F := Proofs.Tryz.f15) (v := .bool true) (by kernel_rfl) rfl rfl (works_ok)) ?_
 refine rE 1 [(2, .bool true)] id ?_
 obtain rfl := sI h
 exact tV (.bool true) id rfl
end Go.Xm
