/- What these functions of the program compute, as functions in Lean, and the proofs that they do: vitolalaw14.MasterLocked. Conditions: the library's variables hold what their texts lay. -/
import Derived.Test.YtglkjlafglpalaaGreatDoorWe
import Derived.Test.YtglkjlafglpalaaGreatDoorPi
namespace Go.Xm
open Go.RowKit
set_option linter.unusedVariables false
set_option linter.unusedSimpArgs false
set_option maxRecDepth 20000
set_option maxHeartbeats 4000000
noncomputable def f8_C8 : Code := Proofs.Tryz.f8.body.getD .skip
noncomputable def f8_C36 : Code := Proofs.Tryz.f36.body.getD .skip
noncomputable def f8_L1 : Code := lft (lft (rgt (lft (rgt (rgt (rgt f8_C8))))))
noncomputable def f8_L2 : Code := lft (lft (rgt (lft (rgt (rgt (rgt (lft (lft (rgt (rgt f8_L1))))))))))
def f8_2 (m : Nat) : Nat → List (Int × Int × Int × Int) → Int → Int → BkS → List ByteArray → ByteArray → Int → Int → Int → Int → List (ByteArray × Bool) → List ByteArray → Option (ByteArray × Int × Int × (List (ByteArray × Bool)))
 | 0, _, _, _, _, _, _, _, _, _, _, _, _ => none
 | fuel + 1, a_Deeds, x23_1, x24_1, kh1_1, lh2_1, s6_2, x7_2, x8_2, x36_2, x37_2, mh2_2, lh4_2 =>
  cond (decide (x37_2 < x36_2)) (
   cond (inRow x37_2 lh4_2.length) (
    cond ((List.getD lh4_2 (Int.toNat x37_2) (bs [])).data.toList == [115, 104, 117, 116]) (
     f8_2 m fuel a_Deeds x23_1 x24_1 kh1_1 lh2_1 s6_2 x7_2 x8_2 x36_2 (w64 (x37_2 + 1)) [] lh4_2
    ) (
     cond (hasV (List.getD lh4_2 (Int.toNat x37_2) (bs [])) (bs [107, 101, 121, 32])) (
      f8_2 m fuel a_Deeds x23_1 x24_1 kh1_1 lh2_1 s6_2 x7_2 x8_2 x36_2 (w64 (x37_2 + 1)) (putS mh2_2 (List.getD lh4_2 (Int.toNat x37_2) (bs [])) true) lh4_2
     ) (
      f8_2 m fuel a_Deeds x23_1 x24_1 kh1_1 lh2_1 s6_2 x7_2 x8_2 x36_2 (w64 (x37_2 + 1)) mh2_2 lh4_2
     )
    )
   ) none
  ) (
   some (s6_2, x7_2, x8_2, mh2_2)
  )
abbrev aPj0 (lh2_1 : List ByteArray) : Nat × Value := (22, s0 3 lh2_1.length)
abbrev aPj3 : Nat × Value := (9, .map (some 2))
abbrev aPj4 (lh4_2 : List ByteArray) (x37_2 : Int) := (List.getD lh4_2 (Int.toNat x37_2) (bs []))
abbrev aPj8 (lh4_2 : List ByteArray) : Nat × Value := (35, s0 4 lh4_2.length)
abbrev aPj10 (a_Deeds : List (Int × Int × Int × Int)) (z0 : Nat) (y0 : Nat) : Nat × XObj := (0, rc encD a_Deeds z0 y0 4)
theorem f8_2_ok (m : Nat) : ∀ (fuel : Nat) (z0 : Nat) (y0 : Nat) (a_Deeds : List (Int × Int × Int × Int)) (x23_1 : Int) (x24_1 : Int) (kh1_1 : BkS) (lh2_1 : List ByteArray) (s6_2 : ByteArray) (x7_2 : Int) (x8_2 : Int) (x36_2 : Int) (x37_2 : Int) (mh2_2 : List (ByteArray × Bool)) (lh4_2 : List ByteArray) (o : (ByteArray × Int × Int × (List (ByteArray × Bool)))), f8_2 m fuel a_Deeds x23_1 x24_1 kh1_1 lh2_1 s6_2 x7_2 x8_2 x36_2 x37_2 mh2_2 lh4_2 = some o → ∀ Q : QP, Q (.exit 2) [(3, pp 1 0), (6, .string o.1), (7, ii o.2.1), (8, ii o.2.2.1), (9, .map (some 2)), (22, s0 3 lh2_1.length), (23, ii x23_1), (24, ii x24_1)] [(3, rc encS lh2_1 0 9 1), (2, .imap (imS Value.bool o.2.2.2)), (1, .ext (bookX kh1_1)), (0, rc encD a_Deeds z0 y0 4)] 4 → XL E0 151 1 fuel f8_L2 [(3, pp 1 0), (6, .string s6_2), (7, ii x7_2), (8, ii x8_2), (9, .map (some 2)), (22, s0 3 lh2_1.length), (23, ii x23_1), (24, ii x24_1), (35, s0 4 lh4_2.length), (36, ii x36_2), (37, ii x37_2)] [(4, rc encS lh4_2 0 9 1), (3, rc encS lh2_1 0 9 1), (2, .imap (imS Value.bool mh2_2)), (1, .ext (bookX kh1_1)), (0, rc encD a_Deeds z0 y0 4)] 5 Q
 | 0, z0, y0, a_Deeds, x23_1, x24_1, kh1_1, lh2_1, s6_2, x7_2, x8_2, x36_2, x37_2, mh2_2, lh4_2, o, h, Q, hQ => by cases h
 | fuel + 1, z0, y0, a_Deeds, x23_1, x24_1, kh1_1, lh2_1, s6_2, x7_2, x8_2, x36_2, x37_2, mh2_2, lh4_2, o, h, Q, hQ => by
  unfold f8_2 at h
  refine XL.succ E0_ok ?_
  refine qE 1 [(3, pp 1 0), (6, .string s6_2), (7, ii x7_2), (8, ii x8_2), aPj3, (aPj0 lh2_1), (23, ii x23_1), (24, ii x24_1), (aPj8 lh4_2), (36, ii x36_2), (37, ii x37_2), (38, .bool (decide (x37_2 < x36_2)))] id ?_
  refine sQ ?_
  cases b1 : (decide (x37_2 < x36_2) : Bool)
  case false =>
   have h := cF b1 h
   refine iF 38 ?_
   refine nR [(3, pp 1 0), (6, .string s6_2), (7, ii x7_2), (8, ii x8_2), aPj3, (aPj0 lh2_1), (23, ii x23_1), (24, ii x24_1)] [(3, rc encS lh2_1 0 9 1), (2, .imap (imS Value.bool mh2_2)), (1, .ext (bookX kh1_1)), (aPj10 a_Deeds z0 y0)] 4 [0, 1, 2, 3] ?_
   refine XQ.exit (i := 2) (by kernel_rfl) ?_
   cases h
   exact hQ
  have h := cT b1 h
  refine iT 38 ?_
  refine kQ ?_
  show XQ _ _ _ _ _ _ _ _
  refine sQ ?_
  refine XQ.block (id := 3) (by kernel_rfl) ?_
  refine qQ ?_
  obtain ⟨b2, h⟩ := oC h
  refine rR (pp 4 ((Int.toNat x37_2) * 1)) (iV 35 (.tmp 37) 39 1 0 b2) [(3, pp 1 0), (6, .string s6_2), (7, ii x7_2), (8, ii x8_2), aPj3, (aPj0 lh2_1), (23, ii x23_1), (24, ii x24_1), (aPj8 lh4_2), (36, ii x36_2), (37, ii x37_2), (39, pp 4 ((Int.toNat x37_2) * 1))] ?_
  refine rR _ (lV encS_ok 39 40 4 ((Int.toNat x37_2) * 1) lh4_2 0 9 1 (Int.toNat x37_2) 0 (bs []) (rl b2)) [(3, pp 1 0), (6, .string s6_2), (7, ii x7_2), (8, ii x8_2), aPj3, (aPj0 lh2_1), (23, ii x23_1), (24, ii x24_1), (aPj8 lh4_2), (36, ii x36_2), (37, ii x37_2), (40, .string (aPj4 lh4_2 x37_2))] ?_
  refine rE 1 [(3, pp 1 0), (6, .string s6_2), (7, ii x7_2), (8, ii x8_2), aPj3, (11, .string (aPj4 lh4_2 x37_2)), (aPj0 lh2_1), (23, ii x23_1), (24, ii x24_1), (aPj8 lh4_2), (36, ii x36_2), (37, ii x37_2)] id ?_
  refine XQ.block (id := 4) (by kernel_rfl) ?_
  refine qE 3 [(3, pp 1 0), (6, .string s6_2), (7, ii x7_2), (8, ii x8_2), aPj3, (11, .string (aPj4 lh4_2 x37_2)), (aPj0 lh2_1), (23, ii x23_1), (24, ii x24_1), (aPj8 lh4_2), (36, ii x36_2), (37, ii x37_2), (41, .bool ((aPj4 lh4_2 x37_2).data.toList == [115, 104, 117, 116]))] id ?_
  cases b3 : ((aPj4 lh4_2 x37_2).data.toList == [115, 104, 117, 116] : Bool)
  case true =>
   have h := cT b3 h
   refine iT 41 ?_
   refine rQ ?_
   refine rG 2 [(3, pp 1 0), (6, .string s6_2), (7, ii x7_2), (8, ii x8_2), (9, .map (some 5)), (aPj0 lh2_1), (23, ii x23_1), (24, ii x24_1), (aPj8 lh4_2), (36, ii x36_2), (37, ii x37_2)] (fun h => (5, .imap (imS Value.bool [])) :: h) 6 id ?_
   refine rQ ?_
   refine rS 2 [(3, pp 1 0), (6, .string s6_2), (7, ii x7_2), (8, ii x8_2), (9, .map (some 5)), (aPj0 lh2_1), (23, ii x23_1), (24, ii x24_1), (aPj8 lh4_2), (36, ii x36_2), (37, ii (w64 (x37_2 + 1)))] ?_
   refine dQ ?_
   show XL _ _ _ _ _ _ _ _ _
   refine nL [(3, pp 1 0), (6, .string s6_2), (7, ii x7_2), (8, ii x8_2), aPj3, (aPj0 lh2_1), (23, ii x23_1), (24, ii x24_1), (aPj8 lh4_2), (36, ii x36_2), (37, ii (w64 (x37_2 + 1)))] [(4, rc encS lh4_2 0 9 1), (3, rc encS lh2_1 0 9 1), (2, .imap (imS Value.bool [])), (1, .ext (bookX kh1_1)), (aPj10 a_Deeds z0 y0)] 5 [0, 1, 5, 3, 4] ?_
   refine XL.conv (f8_2_ok m fuel z0 y0 a_Deeds x23_1 x24_1 kh1_1 lh2_1 s6_2 x7_2 x8_2 x36_2 (w64 (x37_2 + 1)) [] lh4_2 o h Q hQ) (by first | with_reducible rfl | simp | rfl)
  have h := cF b3 h
  refine iF 41 ?_
  refine qQ ?_
  refine rS 1 [(3, pp 1 0), (6, .string s6_2), (7, ii x7_2), (8, ii x8_2), aPj3, (11, .string (aPj4 lh4_2 x37_2)), (aPj0 lh2_1), (23, ii x23_1), (24, ii x24_1), (aPj8 lh4_2), (36, ii x36_2), (37, ii x37_2), (46, .string (aPj4 lh4_2 x37_2))] ?_
  refine cQ [3, 6, 7, 8, 9, 11, 22, 23, 24, 35, 36, 37, 47] 47 (KC.of_calls E0_ok (F := Proofs.Tryz.f38) (v := .bool (hasV (aPj4 lh4_2 x37_2) (bs [107, 101, 121, 32]))) (by kernel_rfl) rfl rfl (has_ok _ _)) ?_
  refine rE 1 [(3, pp 1 0), (6, .string s6_2), (7, ii x7_2), (8, ii x8_2), aPj3, (11, .string (aPj4 lh4_2 x37_2)), (aPj0 lh2_1), (23, ii x23_1), (24, ii x24_1), (aPj8 lh4_2), (36, ii x36_2), (37, ii x37_2), (45, .bool (hasV (aPj4 lh4_2 x37_2) (bs [107, 101, 121, 32])))] id ?_
  cases b4 : (hasV (aPj4 lh4_2 x37_2) (bs [107, 101, 121, 32]) : Bool)
  case false =>
   have h := cF b4 h
   refine iK 45 id ?_
   refine rQ ?_
   refine rS 2 [(3, pp 1 0), (6, .string s6_2), (7, ii x7_2), (8, ii x8_2), aPj3, (aPj0 lh2_1), (23, ii x23_1), (24, ii x24_1), (aPj8 lh4_2), (36, ii x36_2), (37, ii (w64 (x37_2 + 1)))] ?_
   refine dQ ?_
   show XL _ _ _ _ _ _ _ _ _
   refine nL [(3, pp 1 0), (6, .string s6_2), (7, ii x7_2), (8, ii x8_2), aPj3, (aPj0 lh2_1), (23, ii x23_1), (24, ii x24_1), (aPj8 lh4_2), (36, ii x36_2), (37, ii (w64 (x37_2 + 1)))] [(4, rc encS lh4_2 0 9 1), (3, rc encS lh2_1 0 9 1), (2, .imap (imS Value.bool mh2_2)), (1, .ext (bookX kh1_1)), (aPj10 a_Deeds z0 y0)] 5 [0, 1, 2, 3, 4] ?_
   refine XL.conv (f8_2_ok m fuel z0 y0 a_Deeds x23_1 x24_1 kh1_1 lh2_1 s6_2 x7_2 x8_2 x36_2 (w64 (x37_2 + 1)) mh2_2 lh4_2 o h Q hQ) (by first | with_reducible rfl | simp | rfl)
  have h := cT b4 h
  refine iT 45 ?_
  refine rQ ?_
  refine rS 2 [(3, pp 1 0), (6, .string s6_2), (7, ii x7_2), (8, ii x8_2), aPj3, (aPj0 lh2_1), (23, ii x23_1), (24, ii x24_1), (aPj8 lh4_2), (36, ii x36_2), (37, ii x37_2), (48, .map (some 2)), (49, .string (aPj4 lh4_2 x37_2))] ?_
  refine eR (e_mputS Value.bool (m := (src 151 (.tmp 48))) (i := (src 151 (.tmp 49))) (x := (src 151 (.const (.bool true)))) (d := none) (b := 2) (k := List.getD lh4_2 (Int.toNat x37_2) (bs [])) (l := mh2_2) (a := true) (h' := [(4, rc encS lh4_2 0 9 1), (3, rc encS lh2_1 0 9 1), (2, .imap (imS Value.bool (putS mh2_2 (aPj4 lh4_2 x37_2) true))), (1, .ext (bookX kh1_1)), (aPj10 a_Deeds z0 y0)]) (by kernel_rfl) (by kernel_rfl) (by kernel_rfl) (by kernel_rfl) (by kernel_rfl) rfl rfl) [(3, pp 1 0), (6, .string s6_2), (7, ii x7_2), (8, ii x8_2), aPj3, (aPj0 lh2_1), (23, ii x23_1), (24, ii x24_1), (aPj8 lh4_2), (36, ii x36_2), (37, ii x37_2)] ?_
  refine eQ id ?_
  refine rQ ?_
  refine rS 2 [(3, pp 1 0), (6, .string s6_2), (7, ii x7_2), (8, ii x8_2), aPj3, (aPj0 lh2_1), (23, ii x23_1), (24, ii x24_1), (aPj8 lh4_2), (36, ii x36_2), (37, ii (w64 (x37_2 + 1)))] ?_
  refine dQ ?_
  show XL _ _ _ _ _ _ _ _ _
  refine nL [(3, pp 1 0), (6, .string s6_2), (7, ii x7_2), (8, ii x8_2), aPj3, (aPj0 lh2_1), (23, ii x23_1), (24, ii x24_1), (aPj8 lh4_2), (36, ii x36_2), (37, ii (w64 (x37_2 + 1)))] [(4, rc encS lh4_2 0 9 1), (3, rc encS lh2_1 0 9 1), (2, .imap (imS Value.bool (putS mh2_2 (aPj4 lh4_2 x37_2) true))), (1, .ext (bookX kh1_1)), (aPj10 a_Deeds z0 y0)] 5 [0, 1, 2, 3, 4] ?_
  refine XL.conv (f8_2_ok m fuel z0 y0 a_Deeds x23_1 x24_1 kh1_1 lh2_1 s6_2 x7_2 x8_2 x36_2 (w64 (x37_2 + 1)) (putS mh2_2 (aPj4 lh4_2 x37_2) true) lh4_2 o h Q hQ) (by first | with_reducible rfl | simp | rfl)
def f8_1 (m : Nat) : Nat → List (Int × Int × Int × Int) → Int → Int → BkS → List ByteArray → Option Unit
 | 0, _, _, _, _, _ => none
 | fuel + 1, a_Deeds, x23_1, x24_1, kh1_1, lh2_1 =>
  cond (decide (x24_1 < x23_1)) (
   cond (inRow x24_1 lh2_1.length) (
    (linesS m kh1_1).bind fun r9 =>
     (f8_2 m m a_Deeds x23_1 x24_1 kh1_1 lh2_1 (List.getD lh2_1 (Int.toNat x24_1) (bs [])) ((stampsS kh1_1).2.2.2) (yearS kh1_1) ((r9.length : Nat) : Int) 0 [] r9).bind fun o2 =>
      (keysS m kh1_1).bind fun r10 =>
       cond (((r10.length : Nat) : Int) != ((o2.2.2.2.length : Nat) : Int)) (
        none
       ) (
        (tellS m kh1_1 o2.1).bind fun r11 =>
         cond (o2.1.data.toList == [117, 110, 100, 111]) (
          f8_1 m fuel a_Deeds x23_1 (w64 (x24_1 + 1)) r11.2 lh2_1
         ) (
          cond (hasV o2.1 (bs [111, 117, 116, 32])) (
           cond (decide (((o2.2.2.2.length : Nat) : Int) < 2)) (
            cond (r11.1 != 20) (
             none
            ) (
             cond (((stampsS r11.2).2.2.2) != o2.2.1) (
              none
             ) (
              cond (decide (((o2.2.2.2.length : Nat) : Int) ≥ 2)) (
               cond (r11.1 != 0) (
                cond (r11.1 != 15) (
                 none
                ) (
                 cond (r11.1 == 0) (
                  cond (okS o2.1) (
                   cond (((stampsS r11.2).2.2.2) != (w64 (o2.2.1 + (lastV o2.1)))) (
                    none
                   ) (
                    f8_1 m fuel a_Deeds x23_1 (w64 (x24_1 + 1)) r11.2 lh2_1
                   )
                  ) none
                 ) (
                  f8_1 m fuel a_Deeds x23_1 (w64 (x24_1 + 1)) r11.2 lh2_1
                 )
                )
               ) (
                cond (r11.1 == 0) (
                 cond (okS o2.1) (
                  cond (((stampsS r11.2).2.2.2) != (w64 (o2.2.1 + (lastV o2.1)))) (
                   none
                  ) (
                   f8_1 m fuel a_Deeds x23_1 (w64 (x24_1 + 1)) r11.2 lh2_1
                  )
                 ) none
                ) (
                 f8_1 m fuel a_Deeds x23_1 (w64 (x24_1 + 1)) r11.2 lh2_1
                )
               )
              ) (
               cond (r11.1 == 0) (
                cond (okS o2.1) (
                 cond (((stampsS r11.2).2.2.2) != (w64 (o2.2.1 + (lastV o2.1)))) (
                  none
                 ) (
                  f8_1 m fuel a_Deeds x23_1 (w64 (x24_1 + 1)) r11.2 lh2_1
                 )
                ) none
               ) (
                f8_1 m fuel a_Deeds x23_1 (w64 (x24_1 + 1)) r11.2 lh2_1
               )
              )
             )
            )
           ) (
            cond (decide (((o2.2.2.2.length : Nat) : Int) ≥ 2)) (
             cond (r11.1 != 0) (
              cond (r11.1 != 15) (
               none
              ) (
               cond (r11.1 == 0) (
                cond (okS o2.1) (
                 cond (((stampsS r11.2).2.2.2) != (w64 (o2.2.1 + (lastV o2.1)))) (
                  none
                 ) (
                  f8_1 m fuel a_Deeds x23_1 (w64 (x24_1 + 1)) r11.2 lh2_1
                 )
                ) none
               ) (
                f8_1 m fuel a_Deeds x23_1 (w64 (x24_1 + 1)) r11.2 lh2_1
               )
              )
             ) (
              cond (r11.1 == 0) (
               cond (okS o2.1) (
                cond (((stampsS r11.2).2.2.2) != (w64 (o2.2.1 + (lastV o2.1)))) (
                 none
                ) (
                 f8_1 m fuel a_Deeds x23_1 (w64 (x24_1 + 1)) r11.2 lh2_1
                )
               ) none
              ) (
               f8_1 m fuel a_Deeds x23_1 (w64 (x24_1 + 1)) r11.2 lh2_1
              )
             )
            ) (
             cond (r11.1 == 0) (
              cond (okS o2.1) (
               cond (((stampsS r11.2).2.2.2) != (w64 (o2.2.1 + (lastV o2.1)))) (
                none
               ) (
                f8_1 m fuel a_Deeds x23_1 (w64 (x24_1 + 1)) r11.2 lh2_1
               )
              ) none
             ) (
              f8_1 m fuel a_Deeds x23_1 (w64 (x24_1 + 1)) r11.2 lh2_1
             )
            )
           )
          ) (
           cond (((stampsS r11.2).2.2.2) != o2.2.1) (
            none
           ) (
            cond (o2.1.data.toList == [99, 108, 111, 115, 101]) (
             cond (!((r11.1 == 0) == (((o2.2.2.2.length : Nat) : Int) == 0))) (
              none
             ) (
              cond (r11.1 == 0) (
               cond ((yearS r11.2) != (w64 (o2.2.2.1 + 1))) (
                none
               ) (
                cond (r11.1 != 0) (
                 cond (r11.1 != 21) (
                  none
                 ) (
                  cond ((yearS r11.2) != o2.2.2.1) (
                   none
                  ) (
                   f8_1 m fuel a_Deeds x23_1 (w64 (x24_1 + 1)) r11.2 lh2_1
                  )
                 )
                ) (
                 f8_1 m fuel a_Deeds x23_1 (w64 (x24_1 + 1)) r11.2 lh2_1
                )
               )
              ) (
               cond (r11.1 != 0) (
                cond (r11.1 != 21) (
                 none
                ) (
                 cond ((yearS r11.2) != o2.2.2.1) (
                  none
                 ) (
                  f8_1 m fuel a_Deeds x23_1 (w64 (x24_1 + 1)) r11.2 lh2_1
                 )
                )
               ) (
                f8_1 m fuel a_Deeds x23_1 (w64 (x24_1 + 1)) r11.2 lh2_1
               )
              )
             )
            ) (
             cond ((yearS r11.2) != o2.2.2.1) (
              none
             ) (
              f8_1 m fuel a_Deeds x23_1 (w64 (x24_1 + 1)) r11.2 lh2_1
             )
            )
           )
          )
         )
       )
   ) none
  ) (
   some (())
  )
abbrev aPj1 (lh2_1 : List ByteArray) (x23_1 : Int) (x24_1 : Int) : List (Nat × Value) := [(3, pp 1 0), (22, s0 2 lh2_1.length), (23, ii x23_1), (24, ii (w64 (x24_1 + 1)))]
abbrev aPj2 (lh2_1 : List ByteArray) (x23_1 : Int) (x24_1 : Int) : List (Nat × Value) := [(3, pp 1 0), (aPj0 lh2_1), (23, ii x23_1), (24, ii (w64 (x24_1 + 1)))]
abbrev aPj5 (lh2_1 : List ByteArray) (x24_1 : Int) : Nat × Value := (6, .string (List.getD lh2_1 (Int.toNat x24_1) (bs [])))
abbrev aPj6 (lh2_1 : List ByteArray) (x23_1 : Int) (x24_1 : Int) : List (Nat × Value) := [(3, pp 1 0), (aPj0 lh2_1), (23, ii x23_1), (24, ii x24_1), (105, .bool false)]
abbrev aPj7 (lh2_1 : List ByteArray) : Nat × XObj := (2, rc encS lh2_1 0 9 1)
abbrev aPj9 : Nat × Value := (94, .bool false)
theorem f8_1_ok (m : Nat) : ∀ (fuel : Nat) (z0 : Nat) (y0 : Nat) (a_Deeds : List (Int × Int × Int × Int)) (x23_1 : Int) (x24_1 : Int) (kh1_1 : BkS) (lh2_1 : List ByteArray) (o : Unit), f8_1 m fuel a_Deeds x23_1 x24_1 kh1_1 lh2_1 = some o → ∀ Q : QP, Q (.exit 0) [] [(0, rc encD a_Deeds z0 y0 4)] 1 → XL E0 151 1 fuel f8_L1 [(3, pp 1 0), (22, s0 2 lh2_1.length), (23, ii x23_1), (24, ii x24_1)] [(2, rc encS lh2_1 0 9 1), (1, .ext (bookX kh1_1)), (0, rc encD a_Deeds z0 y0 4)] 3 Q
 | 0, z0, y0, a_Deeds, x23_1, x24_1, kh1_1, lh2_1, o, h, Q, hQ => by cases h
 | fuel + 1, z0, y0, a_Deeds, x23_1, x24_1, kh1_1, lh2_1, o, h, Q, hQ => by
  unfold f8_1 at h
  refine XL.succ E0_ok ?_
  refine qE 1 [(3, pp 1 0), (22, s0 2 lh2_1.length), (23, ii x23_1), (24, ii x24_1), (25, .bool (decide (x24_1 < x23_1)))] id ?_
  refine sQ ?_
  cases b1 : (decide (x24_1 < x23_1) : Bool)
  case false =>
   have h := cF b1 h
   refine iF 25 ?_
   refine nR [] [(aPj10 a_Deeds z0 y0)] 1 [0] ?_
   refine XQ.exit (i := 0) (by kernel_rfl) ?_
   cases h
   exact hQ
  have h := cT b1 h
  refine iT 25 ?_
  refine kQ ?_
  show XQ _ _ _ _ _ _ _ _
  refine sQ ?_
  refine XQ.block (id := 1) (by kernel_rfl) ?_
  refine qQ ?_
  obtain ⟨b2, h⟩ := oC h
  refine rR (pp 2 ((Int.toNat x24_1) * 1)) (iV 22 (.tmp 24) 26 1 0 b2) [(3, pp 1 0), (22, s0 2 lh2_1.length), (23, ii x23_1), (24, ii x24_1), (26, pp 2 ((Int.toNat x24_1) * 1))] ?_
  refine rR _ (lV encS_ok 26 27 2 ((Int.toNat x24_1) * 1) lh2_1 0 9 1 (Int.toNat x24_1) 0 (bs []) (rl b2)) [(3, pp 1 0), (22, s0 2 lh2_1.length), (23, ii x23_1), (24, ii x24_1), (27, .string (List.getD lh2_1 (Int.toNat x24_1) (bs [])))] ?_
  refine rS 1 [(3, pp 1 0), (aPj5 lh2_1 x24_1), (22, s0 2 lh2_1.length), (23, ii x23_1), (24, ii x24_1)] ?_
  refine nQ id ?_
  refine rS 1 [(3, pp 1 0), (aPj5 lh2_1 x24_1), (22, s0 2 lh2_1.length), (23, ii x23_1), (24, ii x24_1), (28, pp 1 0)] ?_
  refine cQ [3, 6, 22, 23, 24, 29] 29 (KC.ofV rfl rfl (stamps_cx kh1_1) (i := 1) (by kernel_rfl)) ?_
  refine rS 2 [(3, pp 1 0), (aPj5 lh2_1 x24_1), (22, s0 2 lh2_1.length), (23, ii x23_1), (24, ii x24_1), (30, ii ((stampsS kh1_1).2.2.2)), (31, pp 1 0)] ?_
  refine cQ [3, 6, 22, 23, 24, 30, 32] 32 (KC.ofV rfl rfl (year_cx kh1_1) (i := 1) (by kernel_rfl)) ?_
  refine rS 2 [(3, pp 1 0), (aPj5 lh2_1 x24_1), (7, ii ((stampsS kh1_1).2.2.2)), (8, ii (yearS kh1_1)), (22, s0 2 lh2_1.length), (23, ii x23_1), (24, ii x24_1)] ?_
  refine nQ id ?_
  refine rG 2 [(3, pp 1 0), (aPj5 lh2_1 x24_1), (7, ii ((stampsS kh1_1).2.2.2)), (8, ii (yearS kh1_1)), (9, .map (some 3)), (22, s0 2 lh2_1.length), (23, ii x23_1), (24, ii x24_1)] (fun h => (3, .imap (imS Value.bool [])) :: h) 4 id ?_
  refine sQ ?_
  refine qQ ?_
  refine rS 1 [(3, pp 1 0), (aPj5 lh2_1 x24_1), (7, ii ((stampsS kh1_1).2.2.2)), (8, ii (yearS kh1_1)), (9, .map (some 3)), (22, s0 2 lh2_1.length), (23, ii x23_1), (24, ii x24_1), (34, pp 1 0)] ?_
  obtain ⟨r9, r9_h, h⟩ := bS h
  refine cQ [3, 6, 7, 8, 9, 22, 23, 24, 35] 35 (KC.ofRX (p := bookX kh1_1) (f := encS) (el := 9) (s := 1) (xs := r9) encS_ok rfl (lines_cr r9_h) (i := 1) (by kernel_rfl)) ?_
  refine rE 2 [(3, pp 1 0), (aPj5 lh2_1 x24_1), (7, ii ((stampsS kh1_1).2.2.2)), (8, ii (yearS kh1_1)), (9, .map (some 3)), (22, s0 2 lh2_1.length), (23, ii x23_1), (24, ii x24_1), (35, s0 4 r9.length), (36, ii ((r9.length : Nat) : Int)), (37, ii 0)] id ?_
  refine XQ.block (id := 2) (by kernel_rfl) ?_
  refine XQ.loop m (by kernel_rfl) ?_
  obtain ⟨o2, o2_h, h⟩ := bS h
  refine nL [(3, pp 1 0), (aPj5 lh2_1 x24_1), (7, ii ((stampsS kh1_1).2.2.2)), (8, ii (yearS kh1_1)), aPj3, (aPj0 lh2_1), (23, ii x23_1), (24, ii x24_1), (35, s0 4 r9.length), (36, ii ((r9.length : Nat) : Int)), (37, ii 0)] [(4, rc encS r9 0 9 1), (3, rc encS lh2_1 0 9 1), (2, .imap (imS Value.bool [])), (1, .ext (bookX kh1_1)), (aPj10 a_Deeds z0 y0)] 5 [0, 1, 3, 2, 4] ?_
  refine XL.conv (f8_2_ok m m z0 y0 a_Deeds x23_1 x24_1 kh1_1 lh2_1 (List.getD lh2_1 (Int.toNat x24_1) (bs [])) ((stampsS kh1_1).2.2.2) (yearS kh1_1) ((r9.length : Nat) : Int) 0 [] r9 o2 o2_h _ ?_) (by first | with_reducible rfl | simp | rfl)
  show XQ _ _ _ _ _ _ _ _
  refine sQ ?_
  refine qQ ?_
  refine rS 1 [(3, pp 1 0), (6, .string o2.1), (7, ii o2.2.1), (8, ii o2.2.2.1), aPj3, (aPj0 lh2_1), (23, ii x23_1), (24, ii x24_1), (51, pp 1 0)] ?_
  obtain ⟨r10, r10_h, h⟩ := bS h
  refine cQ [3, 6, 7, 8, 9, 22, 23, 24, 52] 52 (KC.ofRX (p := bookX kh1_1) (f := (encI .i64)) (el := 3) (s := 1) (xs := r10) (encI_ok .i64) rfl (keys_cr r10_h) (i := 1) (by kernel_rfl)) ?_
  refine rS 2 [(3, pp 1 0), (6, .string o2.1), (7, ii o2.2.1), (8, ii o2.2.2.1), aPj3, (aPj0 lh2_1), (23, ii x23_1), (24, ii x24_1), (53, ii ((r10.length : Nat) : Int)), (54, .map (some 2))] ?_
  refine rR (ii ((o2.2.2.2.length : Nat) : Int)) (v_mlen (x := (src 151 (.tmp 54))) (d := (some (path 12 55))) (b := 2) (es := imS Value.bool o2.2.2.2) (n := o2.2.2.2.length) (by kernel_rfl) (by kernel_rfl) (by kernel_rfl) (imS_len _ _)) [(3, pp 1 0), (6, .string o2.1), (7, ii o2.2.1), (8, ii o2.2.2.1), aPj3, (aPj0 lh2_1), (23, ii x23_1), (24, ii x24_1), (53, ii ((r10.length : Nat) : Int)), (55, ii ((o2.2.2.2.length : Nat) : Int))] ?_
  refine rE 1 [(3, pp 1 0), (6, .string o2.1), (7, ii o2.2.1), (8, ii o2.2.2.1), aPj3, (aPj0 lh2_1), (23, ii x23_1), (24, ii x24_1), (56, .bool (((r10.length : Nat) : Int) != ((o2.2.2.2.length : Nat) : Int)))] id ?_
  cases b4 : (((r10.length : Nat) : Int) != ((o2.2.2.2.length : Nat) : Int) : Bool)
  case true => cases (cT b4 h)
  have h := cF b4 h
  refine iK 56 id ?_
  refine qQ ?_
  refine rS 2 [(3, pp 1 0), (6, .string o2.1), (7, ii o2.2.1), (8, ii o2.2.2.1), aPj3, (aPj0 lh2_1), (23, ii x23_1), (24, ii x24_1), (57, pp 1 0), (58, .string o2.1)] ?_
  obtain ⟨r11, r11_h, h⟩ := bS h
  refine cQ [3, 6, 7, 8, 9, 22, 23, 24, 59] 59 (KC.ofX rfl rfl (tell_cx r11_h) (i := 1) (by kernel_rfl) rfl) ?_
  refine rS 1 [(3, pp 1 0), (6, .string o2.1), (7, ii o2.2.1), (8, ii o2.2.2.1), aPj3, (12, ii r11.1), (aPj0 lh2_1), (23, ii x23_1), (24, ii x24_1)] ?_
  refine nQ id ?_
  refine rS 1 [(3, pp 1 0), (6, .string o2.1), (7, ii o2.2.1), (8, ii o2.2.2.1), aPj3, (12, ii r11.1), (aPj0 lh2_1), (23, ii x23_1), (24, ii x24_1), (60, pp 1 0)] ?_
  refine cQ [3, 6, 7, 8, 9, 12, 22, 23, 24, 61] 61 (KC.ofV rfl rfl (stamps_cx r11.2) (i := 1) (by kernel_rfl)) ?_
  refine rE 2 [(3, pp 1 0), (6, .string o2.1), (7, ii o2.2.1), (8, ii o2.2.2.1), aPj3, (12, ii r11.1), (13, ii ((stampsS r11.2).2.2.2)), (aPj0 lh2_1), (23, ii x23_1), (24, ii x24_1)] id ?_
  refine XQ.block (id := 5) (by kernel_rfl) ?_
  refine qE 3 [(3, pp 1 0), (6, .string o2.1), (7, ii o2.2.1), (8, ii o2.2.2.1), aPj3, (12, ii r11.1), (13, ii ((stampsS r11.2).2.2.2)), (aPj0 lh2_1), (23, ii x23_1), (24, ii x24_1), (63, .bool (o2.1.data.toList == [117, 110, 100, 111]))] id ?_
  cases b5 : (o2.1.data.toList == [117, 110, 100, 111] : Bool)
  case true =>
   have h := cT b5 h
   refine iT 63 ?_
   refine kQ ?_
   show XQ _ _ _ _ _ _ _ _
   refine rQ ?_
   refine rS 2 (aPj2 lh2_1 x23_1 x24_1) ?_
   refine dQ ?_
   show XL _ _ _ _ _ _ _ _ _
   refine nL (aPj1 lh2_1 x23_1 x24_1) [(aPj7 lh2_1), (1, .ext (bookX r11.2)), (aPj10 a_Deeds z0 y0)] 3 [0, 1, 3] ?_
   refine XL.conv (f8_1_ok m fuel z0 y0 a_Deeds x23_1 (w64 (x24_1 + 1)) r11.2 lh2_1 o h Q hQ) (by first | with_reducible rfl | simp | rfl)
  have h := cF b5 h
  refine iF 63 ?_
  refine qQ ?_
  refine rS 1 [(3, pp 1 0), (6, .string o2.1), (7, ii o2.2.1), (8, ii o2.2.2.1), aPj3, (12, ii r11.1), (13, ii ((stampsS r11.2).2.2.2)), (aPj0 lh2_1), (23, ii x23_1), (24, ii x24_1), (67, .string o2.1)] ?_
  refine cQ [3, 6, 7, 8, 9, 12, 13, 22, 23, 24, 68] 68 (KC.of_calls E0_ok (F := Proofs.Tryz.f38) (v := .bool (hasV o2.1 (bs [111, 117, 116, 32]))) (by kernel_rfl) rfl rfl (has_ok _ _)) ?_
  refine rE 1 [(3, pp 1 0), (6, .string o2.1), (7, ii o2.2.1), (8, ii o2.2.2.1), aPj3, (12, ii r11.1), (13, ii ((stampsS r11.2).2.2.2)), (aPj0 lh2_1), (23, ii x23_1), (24, ii x24_1), (66, .bool (hasV o2.1 (bs [111, 117, 116, 32])))] id ?_
  cases b6 : (hasV o2.1 (bs [111, 117, 116, 32]) : Bool)
  case false =>
   have h := cF b6 h
   refine iF 66 ?_
   refine qE 4 [(3, pp 1 0), (6, .string o2.1), (8, ii o2.2.2.1), aPj3, (12, ii r11.1), (aPj0 lh2_1), (23, ii x23_1), (24, ii x24_1), (106, .bool (((stampsS r11.2).2.2.2) != o2.2.1))] id ?_
   cases b34 : (((stampsS r11.2).2.2.2) != o2.2.1 : Bool)
   case true => cases (cT b34 h)
   have h := cF b34 h
   refine iF 106 ?_
   refine qE 3 [(3, pp 1 0), (8, ii o2.2.2.1), aPj3, (12, ii r11.1), (aPj0 lh2_1), (23, ii x23_1), (24, ii x24_1), (110, .bool (o2.1.data.toList == [99, 108, 111, 115, 101]))] id ?_
   cases b35 : (o2.1.data.toList == [99, 108, 111, 115, 101] : Bool)
   case false =>
    have h := cF b35 h
    refine iF 110 ?_
    refine qQ ?_
    refine rS 1 [(3, pp 1 0), (8, ii o2.2.2.1), (aPj0 lh2_1), (23, ii x23_1), (24, ii x24_1), (145, pp 1 0)] ?_
    refine cQ [3, 8, 22, 23, 24, 146] 146 (KC.ofV rfl rfl (year_cx r11.2) (i := 1) (by kernel_rfl)) ?_
    refine rE 3 [(3, pp 1 0), (aPj0 lh2_1), (23, ii x23_1), (24, ii x24_1), (144, .bool ((yearS r11.2) != o2.2.2.1))] id ?_
    cases b45 : ((yearS r11.2) != o2.2.2.1 : Bool)
    case true => cases (cT b45 h)
    have h := cF b45 h
    refine iK 144 id ?_
    refine rQ ?_
    refine rS 2 (aPj2 lh2_1 x23_1 x24_1) ?_
    refine dQ ?_
    show XL _ _ _ _ _ _ _ _ _
    refine nL (aPj1 lh2_1 x23_1 x24_1) [(aPj7 lh2_1), (1, .ext (bookX r11.2)), (aPj10 a_Deeds z0 y0)] 3 [0, 1, 3] ?_
    refine XL.conv (f8_1_ok m fuel z0 y0 a_Deeds x23_1 (w64 (x24_1 + 1)) r11.2 lh2_1 o h Q hQ) (by first | with_reducible rfl | simp | rfl)
   have h := cT b35 h
   refine iT 110 ?_
   refine qQ ?_
   refine rS 3 [(3, pp 1 0), (8, ii o2.2.2.1), (12, ii r11.1), (aPj0 lh2_1), (23, ii x23_1), (24, ii x24_1), (114, .bool (r11.1 == 0)), (115, .map (some 2))] ?_
   refine rR (ii ((o2.2.2.2.length : Nat) : Int)) (v_mlen (x := (src 151 (.tmp 115))) (d := (some (path 12 116))) (b := 2) (es := imS Value.bool o2.2.2.2) (n := o2.2.2.2.length) (by kernel_rfl) (by kernel_rfl) (by kernel_rfl) (imS_len _ _)) [(3, pp 1 0), (8, ii o2.2.2.1), (12, ii r11.1), (aPj0 lh2_1), (23, ii x23_1), (24, ii x24_1), (114, .bool (r11.1 == 0)), (116, ii ((o2.2.2.2.length : Nat) : Int))] ?_
   refine rS 3 [(3, pp 1 0), (8, ii o2.2.2.1), (12, ii r11.1), (aPj0 lh2_1), (23, ii x23_1), (24, ii x24_1), (119, .bool (!((r11.1 == 0) == (((o2.2.2.2.length : Nat) : Int) == 0))))] ?_
   cases b36 : (!((r11.1 == 0) == (((o2.2.2.2.length : Nat) : Int) == 0)) : Bool)
   case true => cases (cT b36 h)
   have h := cF b36 h
   refine rS 3 [(3, pp 1 0), (8, ii o2.2.2.1), (12, ii r11.1), (aPj0 lh2_1), (23, ii x23_1), (24, ii x24_1), (119, .bool false), (122, .bool (r11.1 == 0))] ?_
   cases b37 : (r11.1 == 0 : Bool)
   case false =>
    have h := cF b37 h
    refine rS 11 [(3, pp 1 0), (8, ii o2.2.2.1), (12, ii r11.1), (aPj0 lh2_1), (23, ii x23_1), (24, ii x24_1), (130, .bool false), (133, .bool (r11.1 != 0))] ?_
    cases b42 : (r11.1 != 0 : Bool)
    case false =>
     have h := cF b42 h
     refine rE 10 [(3, pp 1 0), (aPj0 lh2_1), (23, ii x23_1), (24, ii x24_1), (143, .bool false)] id ?_
     refine iK 143 id ?_
     refine rQ ?_
     refine rS 2 (aPj2 lh2_1 x23_1 x24_1) ?_
     refine dQ ?_
     show XL _ _ _ _ _ _ _ _ _
     refine nL (aPj1 lh2_1 x23_1 x24_1) [(aPj7 lh2_1), (1, .ext (bookX r11.2)), (aPj10 a_Deeds z0 y0)] 3 [0, 1, 3] ?_
     refine XL.conv (f8_1_ok m fuel z0 y0 a_Deeds x23_1 (w64 (x24_1 + 1)) r11.2 lh2_1 o h Q hQ) (by first | with_reducible rfl | simp | rfl)
    have h := cT b42 h
    refine rS 3 [(3, pp 1 0), (8, ii o2.2.2.1), (aPj0 lh2_1), (23, ii x23_1), (24, ii x24_1), (130, .bool false), (133, .bool true), (136, .bool (r11.1 != 21))] ?_
    cases b43 : (r11.1 != 21 : Bool)
    case true => cases (cT b43 h)
    have h := cF b43 h
    refine rS 1 [(3, pp 1 0), (8, ii o2.2.2.1), (aPj0 lh2_1), (23, ii x23_1), (24, ii x24_1), (130, .bool false), (133, .bool true), (136, .bool false), (137, pp 1 0)] ?_
    refine cQ [3, 8, 22, 23, 24, 130, 133, 136, 138] 138 (KC.ofV rfl rfl (year_cx r11.2) (i := 1) (by kernel_rfl)) ?_
    refine rE 5 [(3, pp 1 0), (aPj0 lh2_1), (23, ii x23_1), (24, ii x24_1), (143, .bool ((yearS r11.2) != o2.2.2.1))] id ?_
    cases b44 : ((yearS r11.2) != o2.2.2.1 : Bool)
    case true => cases (cT b44 h)
    have h := cF b44 h
    refine iK 143 id ?_
    refine rQ ?_
    refine rS 2 (aPj2 lh2_1 x23_1 x24_1) ?_
    refine dQ ?_
    show XL _ _ _ _ _ _ _ _ _
    refine nL (aPj1 lh2_1 x23_1 x24_1) [(aPj7 lh2_1), (1, .ext (bookX r11.2)), (aPj10 a_Deeds z0 y0)] 3 [0, 1, 3] ?_
    refine XL.conv (f8_1_ok m fuel z0 y0 a_Deeds x23_1 (w64 (x24_1 + 1)) r11.2 lh2_1 o h Q hQ) (by first | with_reducible rfl | simp | rfl)
   have h := cT b37 h
   refine rS 1 [(3, pp 1 0), (8, ii o2.2.2.1), (12, ii r11.1), (aPj0 lh2_1), (23, ii x23_1), (24, ii x24_1), (119, .bool false), (122, .bool true), (123, pp 1 0)] ?_
   refine cQ [3, 8, 12, 22, 23, 24, 119, 122, 124] 124 (KC.ofV rfl rfl (year_cx r11.2) (i := 1) (by kernel_rfl)) ?_
   refine rS 6 [(3, pp 1 0), (8, ii o2.2.2.1), (12, ii r11.1), (aPj0 lh2_1), (23, ii x23_1), (24, ii x24_1), (130, .bool ((yearS r11.2) != (w64 (o2.2.2.1 + 1))))] ?_
   cases b38 : ((yearS r11.2) != (w64 (o2.2.2.1 + 1)) : Bool)
   case true => cases (cT b38 h)
   have h := cF b38 h
   refine rS 3 [(3, pp 1 0), (8, ii o2.2.2.1), (12, ii r11.1), (aPj0 lh2_1), (23, ii x23_1), (24, ii x24_1), (130, .bool false), (133, .bool (r11.1 != 0))] ?_
   cases b39 : (r11.1 != 0 : Bool)
   case false =>
    have h := cF b39 h
    refine rE 10 [(3, pp 1 0), (aPj0 lh2_1), (23, ii x23_1), (24, ii x24_1), (143, .bool false)] id ?_
    refine iK 143 id ?_
    refine rQ ?_
    refine rS 2 (aPj2 lh2_1 x23_1 x24_1) ?_
    refine dQ ?_
    show XL _ _ _ _ _ _ _ _ _
    refine nL (aPj1 lh2_1 x23_1 x24_1) [(aPj7 lh2_1), (1, .ext (bookX r11.2)), (aPj10 a_Deeds z0 y0)] 3 [0, 1, 3] ?_
    refine XL.conv (f8_1_ok m fuel z0 y0 a_Deeds x23_1 (w64 (x24_1 + 1)) r11.2 lh2_1 o h Q hQ) (by first | with_reducible rfl | simp | rfl)
   have h := cT b39 h
   refine rS 3 [(3, pp 1 0), (8, ii o2.2.2.1), (aPj0 lh2_1), (23, ii x23_1), (24, ii x24_1), (130, .bool false), (133, .bool true), (136, .bool (r11.1 != 21))] ?_
   cases b40 : (r11.1 != 21 : Bool)
   case true => cases (cT b40 h)
   have h := cF b40 h
   refine rS 1 [(3, pp 1 0), (8, ii o2.2.2.1), (aPj0 lh2_1), (23, ii x23_1), (24, ii x24_1), (130, .bool false), (133, .bool true), (136, .bool false), (137, pp 1 0)] ?_
   refine cQ [3, 8, 22, 23, 24, 130, 133, 136, 138] 138 (KC.ofV rfl rfl (year_cx r11.2) (i := 1) (by kernel_rfl)) ?_
   refine rE 5 [(3, pp 1 0), (aPj0 lh2_1), (23, ii x23_1), (24, ii x24_1), (143, .bool ((yearS r11.2) != o2.2.2.1))] id ?_
   cases b41 : ((yearS r11.2) != o2.2.2.1 : Bool)
   case true => cases (cT b41 h)
   have h := cF b41 h
   refine iK 143 id ?_
   refine rQ ?_
   refine rS 2 (aPj2 lh2_1 x23_1 x24_1) ?_
   refine dQ ?_
   show XL _ _ _ _ _ _ _ _ _
   refine nL (aPj1 lh2_1 x23_1 x24_1) [(aPj7 lh2_1), (1, .ext (bookX r11.2)), (aPj10 a_Deeds z0 y0)] 3 [0, 1, 3] ?_
   refine XL.conv (f8_1_ok m fuel z0 y0 a_Deeds x23_1 (w64 (x24_1 + 1)) r11.2 lh2_1 o h Q hQ) (by first | with_reducible rfl | simp | rfl)
  have h := cT b6 h
  refine iT 66 ?_
  refine qQ ?_
  refine rS 1 [(3, pp 1 0), (6, .string o2.1), (7, ii o2.2.1), aPj3, (12, ii r11.1), (13, ii ((stampsS r11.2).2.2.2)), (aPj0 lh2_1), (23, ii x23_1), (24, ii x24_1), (69, .map (some 2))] ?_
  refine rR (ii ((o2.2.2.2.length : Nat) : Int)) (v_mlen (x := (src 151 (.tmp 69))) (d := (some (path 12 70))) (b := 2) (es := imS Value.bool o2.2.2.2) (n := o2.2.2.2.length) (by kernel_rfl) (by kernel_rfl) (by kernel_rfl) (imS_len _ _)) [(3, pp 1 0), (6, .string o2.1), (7, ii o2.2.1), aPj3, (12, ii r11.1), (13, ii ((stampsS r11.2).2.2.2)), (aPj0 lh2_1), (23, ii x23_1), (24, ii x24_1), (70, ii ((o2.2.2.2.length : Nat) : Int))] ?_
  refine rS 2 [(3, pp 1 0), (6, .string o2.1), (7, ii o2.2.1), aPj3, (12, ii r11.1), (13, ii ((stampsS r11.2).2.2.2)), (aPj0 lh2_1), (23, ii x23_1), (24, ii x24_1), (72, .bool (decide (((o2.2.2.2.length : Nat) : Int) < 2)))] ?_
  cases b7 : (decide (((o2.2.2.2.length : Nat) : Int) < 2) : Bool)
  case false =>
   have h := cF b7 h
   refine rS 10 [(3, pp 1 0), (6, .string o2.1), (7, ii o2.2.1), (12, ii r11.1), (13, ii ((stampsS r11.2).2.2.2)), (aPj0 lh2_1), (23, ii x23_1), (24, ii x24_1), (81, .bool false), (82, .map (some 2))] ?_
   refine rR (ii ((o2.2.2.2.length : Nat) : Int)) (v_mlen (x := (src 151 (.tmp 82))) (d := (some (path 12 83))) (b := 2) (es := imS Value.bool o2.2.2.2) (n := o2.2.2.2.length) (by kernel_rfl) (by kernel_rfl) (by kernel_rfl) (imS_len _ _)) [(3, pp 1 0), (6, .string o2.1), (7, ii o2.2.1), (12, ii r11.1), (13, ii ((stampsS r11.2).2.2.2)), (aPj0 lh2_1), (23, ii x23_1), (24, ii x24_1), (81, .bool false), (83, ii ((o2.2.2.2.length : Nat) : Int))] ?_
   refine rS 2 [(3, pp 1 0), (6, .string o2.1), (7, ii o2.2.1), (12, ii r11.1), (13, ii ((stampsS r11.2).2.2.2)), (aPj0 lh2_1), (23, ii x23_1), (24, ii x24_1), (81, .bool false), (85, .bool (decide (((o2.2.2.2.length : Nat) : Int) ≥ 2)))] ?_
   cases b22 : (decide (((o2.2.2.2.length : Nat) : Int) ≥ 2) : Bool)
   case false =>
    have h := cF b22 h
    refine rS 12 [(3, pp 1 0), (6, .string o2.1), (7, ii o2.2.1), (13, ii ((stampsS r11.2).2.2.2)), (aPj0 lh2_1), (23, ii x23_1), (24, ii x24_1), aPj9, (97, .bool (r11.1 == 0))] ?_
    cases b31 : (r11.1 == 0 : Bool)
    case false =>
     have h := cF b31 h
     refine rE 8 (aPj6 lh2_1 x23_1 x24_1) id ?_
     refine iK 105 id ?_
     refine rQ ?_
     refine rS 2 (aPj2 lh2_1 x23_1 x24_1) ?_
     refine dQ ?_
     show XL _ _ _ _ _ _ _ _ _
     refine nL (aPj1 lh2_1 x23_1 x24_1) [(aPj7 lh2_1), (1, .ext (bookX r11.2)), (aPj10 a_Deeds z0 y0)] 3 [0, 1, 3] ?_
     refine XL.conv (f8_1_ok m fuel z0 y0 a_Deeds x23_1 (w64 (x24_1 + 1)) r11.2 lh2_1 o h Q hQ) (by first | with_reducible rfl | simp | rfl)
    have h := cT b31 h
    refine rS 3 [(3, pp 1 0), (aPj0 lh2_1), (23, ii x23_1), (24, ii x24_1), aPj9, (97, .bool true), (98, ii ((stampsS r11.2).2.2.2)), (99, ii o2.2.1), (100, .string o2.1)] ?_
    obtain ⟨b32, h⟩ := oC h
    refine cQ [3, 22, 23, 24, 94, 97, 98, 99, 101] 101 (KC.of_calls E0_ok (F := Proofs.Tryz.f39) (v := ii (lastV o2.1)) (by kernel_rfl) rfl rfl (lastV_ok b32)) ?_
    refine rE 4 [(3, pp 1 0), (aPj0 lh2_1), (23, ii x23_1), (24, ii x24_1), (105, .bool (((stampsS r11.2).2.2.2) != (w64 (o2.2.1 + (lastV o2.1)))))] id ?_
    cases b33 : (((stampsS r11.2).2.2.2) != (w64 (o2.2.1 + (lastV o2.1))) : Bool)
    case true => cases (cT b33 h)
    have h := cF b33 h
    refine iK 105 id ?_
    refine rQ ?_
    refine rS 2 (aPj2 lh2_1 x23_1 x24_1) ?_
    refine dQ ?_
    show XL _ _ _ _ _ _ _ _ _
    refine nL (aPj1 lh2_1 x23_1 x24_1) [(aPj7 lh2_1), (1, .ext (bookX r11.2)), (aPj10 a_Deeds z0 y0)] 3 [0, 1, 3] ?_
    refine XL.conv (f8_1_ok m fuel z0 y0 a_Deeds x23_1 (w64 (x24_1 + 1)) r11.2 lh2_1 o h Q hQ) (by first | with_reducible rfl | simp | rfl)
   have h := cT b22 h
   refine rS 4 [(3, pp 1 0), (6, .string o2.1), (7, ii o2.2.1), (12, ii r11.1), (13, ii ((stampsS r11.2).2.2.2)), (aPj0 lh2_1), (23, ii x23_1), (24, ii x24_1), (81, .bool false), (89, .bool (r11.1 != 0))] ?_
   cases b23 : (r11.1 != 0 : Bool)
   case false =>
    have h := cF b23 h
    refine rS 8 [(3, pp 1 0), (6, .string o2.1), (7, ii o2.2.1), (13, ii ((stampsS r11.2).2.2.2)), (aPj0 lh2_1), (23, ii x23_1), (24, ii x24_1), aPj9, (97, .bool (r11.1 == 0))] ?_
    cases b28 : (r11.1 == 0 : Bool)
    case false =>
     have h := cF b28 h
     refine rE 8 (aPj6 lh2_1 x23_1 x24_1) id ?_
     refine iK 105 id ?_
     refine rQ ?_
     refine rS 2 (aPj2 lh2_1 x23_1 x24_1) ?_
     refine dQ ?_
     show XL _ _ _ _ _ _ _ _ _
     refine nL (aPj1 lh2_1 x23_1 x24_1) [(aPj7 lh2_1), (1, .ext (bookX r11.2)), (aPj10 a_Deeds z0 y0)] 3 [0, 1, 3] ?_
     refine XL.conv (f8_1_ok m fuel z0 y0 a_Deeds x23_1 (w64 (x24_1 + 1)) r11.2 lh2_1 o h Q hQ) (by first | with_reducible rfl | simp | rfl)
    have h := cT b28 h
    refine rS 3 [(3, pp 1 0), (aPj0 lh2_1), (23, ii x23_1), (24, ii x24_1), aPj9, (97, .bool true), (98, ii ((stampsS r11.2).2.2.2)), (99, ii o2.2.1), (100, .string o2.1)] ?_
    obtain ⟨b29, h⟩ := oC h
    refine cQ [3, 22, 23, 24, 94, 97, 98, 99, 101] 101 (KC.of_calls E0_ok (F := Proofs.Tryz.f39) (v := ii (lastV o2.1)) (by kernel_rfl) rfl rfl (lastV_ok b29)) ?_
    refine rE 4 [(3, pp 1 0), (aPj0 lh2_1), (23, ii x23_1), (24, ii x24_1), (105, .bool (((stampsS r11.2).2.2.2) != (w64 (o2.2.1 + (lastV o2.1)))))] id ?_
    cases b30 : (((stampsS r11.2).2.2.2) != (w64 (o2.2.1 + (lastV o2.1))) : Bool)
    case true => cases (cT b30 h)
    have h := cF b30 h
    refine iK 105 id ?_
    refine rQ ?_
    refine rS 2 (aPj2 lh2_1 x23_1 x24_1) ?_
    refine dQ ?_
    show XL _ _ _ _ _ _ _ _ _
    refine nL (aPj1 lh2_1 x23_1 x24_1) [(aPj7 lh2_1), (1, .ext (bookX r11.2)), (aPj10 a_Deeds z0 y0)] 3 [0, 1, 3] ?_
    refine XL.conv (f8_1_ok m fuel z0 y0 a_Deeds x23_1 (w64 (x24_1 + 1)) r11.2 lh2_1 o h Q hQ) (by first | with_reducible rfl | simp | rfl)
   have h := cT b23 h
   refine rS 5 [(3, pp 1 0), (6, .string o2.1), (7, ii o2.2.1), (12, ii r11.1), (13, ii ((stampsS r11.2).2.2.2)), (aPj0 lh2_1), (23, ii x23_1), (24, ii x24_1), (94, .bool (r11.1 != 15))] ?_
   cases b24 : (r11.1 != 15 : Bool)
   case true => cases (cT b24 h)
   have h := cF b24 h
   refine rS 3 [(3, pp 1 0), (6, .string o2.1), (7, ii o2.2.1), (13, ii ((stampsS r11.2).2.2.2)), (aPj0 lh2_1), (23, ii x23_1), (24, ii x24_1), aPj9, (97, .bool (r11.1 == 0))] ?_
   cases b25 : (r11.1 == 0 : Bool)
   case false =>
    have h := cF b25 h
    refine rE 8 (aPj6 lh2_1 x23_1 x24_1) id ?_
    refine iK 105 id ?_
    refine rQ ?_
    refine rS 2 (aPj2 lh2_1 x23_1 x24_1) ?_
    refine dQ ?_
    show XL _ _ _ _ _ _ _ _ _
    refine nL (aPj1 lh2_1 x23_1 x24_1) [(aPj7 lh2_1), (1, .ext (bookX r11.2)), (aPj10 a_Deeds z0 y0)] 3 [0, 1, 3] ?_
    refine XL.conv (f8_1_ok m fuel z0 y0 a_Deeds x23_1 (w64 (x24_1 + 1)) r11.2 lh2_1 o h Q hQ) (by first | with_reducible rfl | simp | rfl)
   have h := cT b25 h
   refine rS 3 [(3, pp 1 0), (aPj0 lh2_1), (23, ii x23_1), (24, ii x24_1), aPj9, (97, .bool true), (98, ii ((stampsS r11.2).2.2.2)), (99, ii o2.2.1), (100, .string o2.1)] ?_
   obtain ⟨b26, h⟩ := oC h
   refine cQ [3, 22, 23, 24, 94, 97, 98, 99, 101] 101 (KC.of_calls E0_ok (F := Proofs.Tryz.f39) (v := ii (lastV o2.1)) (by kernel_rfl) rfl rfl (lastV_ok b26)) ?_
   refine rE 4 [(3, pp 1 0), (aPj0 lh2_1), (23, ii x23_1), (24, ii x24_1), (105, .bool (((stampsS r11.2).2.2.2) != (w64 (o2.2.1 + (lastV o2.1)))))] id ?_
   cases b27 : (((stampsS r11.2).2.2.2) != (w64 (o2.2.1 + (lastV o2.1))) : Bool)
   case true => cases (cT b27 h)
   have h := cF b27 h
   refine iK 105 id ?_
   refine rQ ?_
   refine rS 2 (aPj2 lh2_1 x23_1 x24_1) ?_
   refine dQ ?_
   show XL _ _ _ _ _ _ _ _ _
   refine nL (aPj1 lh2_1 x23_1 x24_1) [(aPj7 lh2_1), (1, .ext (bookX r11.2)), (aPj10 a_Deeds z0 y0)] 3 [0, 1, 3] ?_
   refine XL.conv (f8_1_ok m fuel z0 y0 a_Deeds x23_1 (w64 (x24_1 + 1)) r11.2 lh2_1 o h Q hQ) (by first | with_reducible rfl | simp | rfl)
  have h := cT b7 h
  refine rS 3 [(3, pp 1 0), (6, .string o2.1), (7, ii o2.2.1), aPj3, (12, ii r11.1), (13, ii ((stampsS r11.2).2.2.2)), (aPj0 lh2_1), (23, ii x23_1), (24, ii x24_1), (72, .bool true), (75, .bool (r11.1 != 20))] ?_
  cases b8 : (r11.1 != 20 : Bool)
  case true => cases (cT b8 h)
  have h := cF b8 h
  refine rS 6 [(3, pp 1 0), (6, .string o2.1), (7, ii o2.2.1), aPj3, (12, ii r11.1), (13, ii ((stampsS r11.2).2.2.2)), (aPj0 lh2_1), (23, ii x23_1), (24, ii x24_1), (81, .bool (((stampsS r11.2).2.2.2) != o2.2.1))] ?_
  cases b9 : (((stampsS r11.2).2.2.2) != o2.2.1 : Bool)
  case true => cases (cT b9 h)
  have h := cF b9 h
  refine rS 1 [(3, pp 1 0), (6, .string o2.1), (7, ii o2.2.1), (12, ii r11.1), (13, ii ((stampsS r11.2).2.2.2)), (aPj0 lh2_1), (23, ii x23_1), (24, ii x24_1), (81, .bool false), (82, .map (some 2))] ?_
  refine rR (ii ((o2.2.2.2.length : Nat) : Int)) (v_mlen (x := (src 151 (.tmp 82))) (d := (some (path 12 83))) (b := 2) (es := imS Value.bool o2.2.2.2) (n := o2.2.2.2.length) (by kernel_rfl) (by kernel_rfl) (by kernel_rfl) (imS_len _ _)) [(3, pp 1 0), (6, .string o2.1), (7, ii o2.2.1), (12, ii r11.1), (13, ii ((stampsS r11.2).2.2.2)), (aPj0 lh2_1), (23, ii x23_1), (24, ii x24_1), (81, .bool false), (83, ii ((o2.2.2.2.length : Nat) : Int))] ?_
  refine rS 2 [(3, pp 1 0), (6, .string o2.1), (7, ii o2.2.1), (12, ii r11.1), (13, ii ((stampsS r11.2).2.2.2)), (aPj0 lh2_1), (23, ii x23_1), (24, ii x24_1), (81, .bool false), (85, .bool (decide (((o2.2.2.2.length : Nat) : Int) ≥ 2)))] ?_
  cases b10 : (decide (((o2.2.2.2.length : Nat) : Int) ≥ 2) : Bool)
  case false =>
   have h := cF b10 h
   refine rS 12 [(3, pp 1 0), (6, .string o2.1), (7, ii o2.2.1), (13, ii ((stampsS r11.2).2.2.2)), (aPj0 lh2_1), (23, ii x23_1), (24, ii x24_1), aPj9, (97, .bool (r11.1 == 0))] ?_
   cases b19 : (r11.1 == 0 : Bool)
   case false =>
    have h := cF b19 h
    refine rE 8 (aPj6 lh2_1 x23_1 x24_1) id ?_
    refine iK 105 id ?_
    refine rQ ?_
    refine rS 2 (aPj2 lh2_1 x23_1 x24_1) ?_
    refine dQ ?_
    show XL _ _ _ _ _ _ _ _ _
    refine nL (aPj1 lh2_1 x23_1 x24_1) [(aPj7 lh2_1), (1, .ext (bookX r11.2)), (aPj10 a_Deeds z0 y0)] 3 [0, 1, 3] ?_
    refine XL.conv (f8_1_ok m fuel z0 y0 a_Deeds x23_1 (w64 (x24_1 + 1)) r11.2 lh2_1 o h Q hQ) (by first | with_reducible rfl | simp | rfl)
   have h := cT b19 h
   refine rS 3 [(3, pp 1 0), (aPj0 lh2_1), (23, ii x23_1), (24, ii x24_1), aPj9, (97, .bool true), (98, ii ((stampsS r11.2).2.2.2)), (99, ii o2.2.1), (100, .string o2.1)] ?_
   obtain ⟨b20, h⟩ := oC h
   refine cQ [3, 22, 23, 24, 94, 97, 98, 99, 101] 101 (KC.of_calls E0_ok (F := Proofs.Tryz.f39) (v := ii (lastV o2.1)) (by kernel_rfl) rfl rfl (lastV_ok b20)) ?_
   refine rE 4 [(3, pp 1 0), (aPj0 lh2_1), (23, ii x23_1), (24, ii x24_1), (105, .bool (((stampsS r11.2).2.2.2) != (w64 (o2.2.1 + (lastV o2.1)))))] id ?_
   cases b21 : (((stampsS r11.2).2.2.2) != (w64 (o2.2.1 + (lastV o2.1))) : Bool)
   case true => cases (cT b21 h)
   have h := cF b21 h
   refine iK 105 id ?_
   refine rQ ?_
   refine rS 2 (aPj2 lh2_1 x23_1 x24_1) ?_
   refine dQ ?_
   show XL _ _ _ _ _ _ _ _ _
   refine nL (aPj1 lh2_1 x23_1 x24_1) [(aPj7 lh2_1), (1, .ext (bookX r11.2)), (aPj10 a_Deeds z0 y0)] 3 [0, 1, 3] ?_
   refine XL.conv (f8_1_ok m fuel z0 y0 a_Deeds x23_1 (w64 (x24_1 + 1)) r11.2 lh2_1 o h Q hQ) (by first | with_reducible rfl | simp | rfl)
  have h := cT b10 h
  refine rS 4 [(3, pp 1 0), (6, .string o2.1), (7, ii o2.2.1), (12, ii r11.1), (13, ii ((stampsS r11.2).2.2.2)), (aPj0 lh2_1), (23, ii x23_1), (24, ii x24_1), (81, .bool false), (89, .bool (r11.1 != 0))] ?_
  cases b11 : (r11.1 != 0 : Bool)
  case false =>
   have h := cF b11 h
   refine rS 8 [(3, pp 1 0), (6, .string o2.1), (7, ii o2.2.1), (13, ii ((stampsS r11.2).2.2.2)), (aPj0 lh2_1), (23, ii x23_1), (24, ii x24_1), aPj9, (97, .bool (r11.1 == 0))] ?_
   cases b16 : (r11.1 == 0 : Bool)
   case false =>
    have h := cF b16 h
    refine rE 8 (aPj6 lh2_1 x23_1 x24_1) id ?_
    refine iK 105 id ?_
    refine rQ ?_
    refine rS 2 (aPj2 lh2_1 x23_1 x24_1) ?_
    refine dQ ?_
    show XL _ _ _ _ _ _ _ _ _
    refine nL (aPj1 lh2_1 x23_1 x24_1) [(aPj7 lh2_1), (1, .ext (bookX r11.2)), (aPj10 a_Deeds z0 y0)] 3 [0, 1, 3] ?_
    refine XL.conv (f8_1_ok m fuel z0 y0 a_Deeds x23_1 (w64 (x24_1 + 1)) r11.2 lh2_1 o h Q hQ) (by first | with_reducible rfl | simp | rfl)
   have h := cT b16 h
   refine rS 3 [(3, pp 1 0), (aPj0 lh2_1), (23, ii x23_1), (24, ii x24_1), aPj9, (97, .bool true), (98, ii ((stampsS r11.2).2.2.2)), (99, ii o2.2.1), (100, .string o2.1)] ?_
   obtain ⟨b17, h⟩ := oC h
   refine cQ [3, 22, 23, 24, 94, 97, 98, 99, 101] 101 (KC.of_calls E0_ok (F := Proofs.Tryz.f39) (v := ii (lastV o2.1)) (by kernel_rfl) rfl rfl (lastV_ok b17)) ?_
   refine rE 4 [(3, pp 1 0), (aPj0 lh2_1), (23, ii x23_1), (24, ii x24_1), (105, .bool (((stampsS r11.2).2.2.2) != (w64 (o2.2.1 + (lastV o2.1)))))] id ?_
   cases b18 : (((stampsS r11.2).2.2.2) != (w64 (o2.2.1 + (lastV o2.1))) : Bool)
   case true => cases (cT b18 h)
   have h := cF b18 h
   refine iK 105 id ?_
   refine rQ ?_
   refine rS 2 (aPj2 lh2_1 x23_1 x24_1) ?_
   refine dQ ?_
   show XL _ _ _ _ _ _ _ _ _
   refine nL (aPj1 lh2_1 x23_1 x24_1) [(aPj7 lh2_1), (1, .ext (bookX r11.2)), (aPj10 a_Deeds z0 y0)] 3 [0, 1, 3] ?_
   refine XL.conv (f8_1_ok m fuel z0 y0 a_Deeds x23_1 (w64 (x24_1 + 1)) r11.2 lh2_1 o h Q hQ) (by first | with_reducible rfl | simp | rfl)
  have h := cT b11 h
  refine rS 5 [(3, pp 1 0), (6, .string o2.1), (7, ii o2.2.1), (12, ii r11.1), (13, ii ((stampsS r11.2).2.2.2)), (aPj0 lh2_1), (23, ii x23_1), (24, ii x24_1), (94, .bool (r11.1 != 15))] ?_
  cases b12 : (r11.1 != 15 : Bool)
  case true => cases (cT b12 h)
  have h := cF b12 h
  refine rS 3 [(3, pp 1 0), (6, .string o2.1), (7, ii o2.2.1), (13, ii ((stampsS r11.2).2.2.2)), (aPj0 lh2_1), (23, ii x23_1), (24, ii x24_1), aPj9, (97, .bool (r11.1 == 0))] ?_
  cases b13 : (r11.1 == 0 : Bool)
  case false =>
   have h := cF b13 h
   refine rE 8 (aPj6 lh2_1 x23_1 x24_1) id ?_
   refine iK 105 id ?_
   refine rQ ?_
   refine rS 2 (aPj2 lh2_1 x23_1 x24_1) ?_
   refine dQ ?_
   show XL _ _ _ _ _ _ _ _ _
   refine nL (aPj1 lh2_1 x23_1 x24_1) [(aPj7 lh2_1), (1, .ext (bookX r11.2)), (aPj10 a_Deeds z0 y0)] 3 [0, 1, 3] ?_
   refine XL.conv (f8_1_ok m fuel z0 y0 a_Deeds x23_1 (w64 (x24_1 + 1)) r11.2 lh2_1 o h Q hQ) (by first | with_reducible rfl | simp | rfl)
  have h := cT b13 h
  refine rS 3 [(3, pp 1 0), (aPj0 lh2_1), (23, ii x23_1), (24, ii x24_1), aPj9, (97, .bool true), (98, ii ((stampsS r11.2).2.2.2)), (99, ii o2.2.1), (100, .string o2.1)] ?_
  obtain ⟨b14, h⟩ := oC h
  refine cQ [3, 22, 23, 24, 94, 97, 98, 99, 101] 101 (KC.of_calls E0_ok (F := Proofs.Tryz.f39) (v := ii (lastV o2.1)) (by kernel_rfl) rfl rfl (lastV_ok b14)) ?_
  refine rE 4 [(3, pp 1 0), (aPj0 lh2_1), (23, ii x23_1), (24, ii x24_1), (105, .bool (((stampsS r11.2).2.2.2) != (w64 (o2.2.1 + (lastV o2.1)))))] id ?_
  cases b15 : (((stampsS r11.2).2.2.2) != (w64 (o2.2.1 + (lastV o2.1))) : Bool)
  case true => cases (cT b15 h)
  have h := cF b15 h
  refine iK 105 id ?_
  refine rQ ?_
  refine rS 2 (aPj2 lh2_1 x23_1 x24_1) ?_
  refine dQ ?_
  show XL _ _ _ _ _ _ _ _ _
  refine nL (aPj1 lh2_1 x23_1 x24_1) [(aPj7 lh2_1), (1, .ext (bookX r11.2)), (aPj10 a_Deeds z0 y0)] 3 [0, 1, 3] ?_
  refine XL.conv (f8_1_ok m fuel z0 y0 a_Deeds x23_1 (w64 (x24_1 + 1)) r11.2 lh2_1 o h Q hQ) (by first | with_reducible rfl | simp | rfl)
def f8 (m : Nat) (a_Bays : Int) (a_Deeds : List (Int × Int × Int × Int)) : Option (Bool) :=
 (f41 m a_Bays a_Deeds).bind fun r1 =>
  cond (okN r1) (
   (f37 m a_Bays a_Deeds true).bind fun r2 =>
    (f8_1 m m a_Deeds ((r2.length : Nat) : Int) 0 (newS r1) r2).bind fun o1 =>
     some (true)
  ) none
theorem f8_ok (m : Nat) (z0 : Nat) (y0 : Nat) (a_Bays : Int) (a_Deeds : List (Int × Int × Int × Int)) (o : Bool) (h : f8 m a_Bays a_Deeds = some o) : KC E0 8 [.agg #[.int .u8 a_Bays, s0 0 a_Deeds.length]] [(0, rc encD a_Deeds z0 y0 4)] 1 (fun v _ _ => v = .bool o) := by
 refine kN Proofs.Tryz.f8 f8_C8 151 [.tmp 2] ?_
 unfold f8 at h
 refine qQ ?_
 refine rD 2 [(1, pp 1 0)] (fun h => (1, .cells [.int .u8 a_Bays, s0 0 a_Deeds.length] 0 66 0) :: h) 2 ?_
 refine nQ id ?_
 refine rS 1 [(1, pp 1 0), (15, .agg #[.int .u8 a_Bays, s0 0 a_Deeds.length])] ?_
 refine cK [1, 16] 36 [.agg #[.int .u8 a_Bays, s0 0 a_Deeds.length]] 16 ?_
 refine kN Proofs.Tryz.f36 f8_C36 19 [.tmp 2, .tmp 3] ?_
 refine qQ ?_
 refine rD 3 [(1, pp 2 0)] (fun h => (2, .cells [.int .u8 a_Bays, s0 0 a_Deeds.length] 0 66 0) :: h) 3 ?_
 refine nQ id ?_
 refine rS 1 [(7, .agg #[.int .u8 a_Bays, s0 0 a_Deeds.length])] ?_
 obtain ⟨r1, r1_h, h⟩ := bS h
 refine cA [8] 8 [.agg #[.int .u8 a_Bays, s0 0 a_Deeds.length]] (KQ.call (KC.quiet E0_ok (args0 := [.agg #[.int .u8 a_Bays, s0 0 a_Deeds.length]]) (h0 := [(0, rc encD a_Deeds (z0 + ((rowC encD a_Deeds).length + 1)) y0 4)]) (n := 1) (V := ii r1) [0] (f41_ok m (z0 + ((rowC encD a_Deeds).length + 1)) y0 a_Bays a_Deeds r1 r1_h) rfl (by rfl) (by decide) rfl (by kernel_rfl) ⟨⟨_, _, rfl, rfl, .inl ⟨rfl, rowC_scal encD_ok _⟩⟩, trivial⟩) rfl) ?_
 cases b1 : (okN r1 : Bool)
 case false => exact nomatch (cF b1 h)
 have h := cT b1 h
 refine cQ [9] 9 (KC.ofN (g := fun u => .tuple #[u, ii 0]) (q := bookX (newS r1)) rfl g_ok (new_cn b1)) ?_
 refine rS 5 [(4, pp 3 0), (5, ii 0)] ?_
 refine nQ id ?_
 refine rE 9 [(2, pp 3 0), (3, .bool true)] id ?_
 refine tV (.tuple #[pp 3 0, .bool true]) id ?_
 refine rE 5 [(1, pp 1 0), (3, pp 3 0), (4, .bool true)] id ?_
 refine sQ ?_
 refine qE 2 [(1, pp 1 0), (3, pp 3 0), (20, .bool false)] id ?_
 refine iK 20 id ?_
 refine sQ ?_
 refine qQ ?_
 refine rS 1 [(3, pp 3 0), (21, .agg #[.int .u8 a_Bays, s0 0 a_Deeds.length])] ?_
 obtain ⟨r2, r2_h, h⟩ := bS h
 refine cA [3, 22] 22 [.agg #[.int .u8 a_Bays, s0 0 a_Deeds.length], .bool true] (KC.liftH (n0 := 1) (m := 1) (args0 := [.agg #[.int .u8 a_Bays, s0 0 a_Deeds.length], .bool true]) (h0 := [(0, rc encD a_Deeds (z0 + ((rowC encD a_Deeds).length + 1)) y0 4)]) (V := s0 1 r2.length) (V2 := s0 4 r2.length) (H := [(1, rc encS r2 0 9 1)]) (H2 := [(4, rc encS r2 0 9 1)]) [0] [2, 3, 4, 5, 1] (f37_ok m (z0 + ((rowC encD a_Deeds).length + 1)) y0 a_Bays a_Deeds true r2 r2_h) (by rfl) (by decide) rfl (by kernel_rfl) ⟨⟨_, _, rfl, rfl, .inl ⟨rfl, rowC_scal encD_ok _⟩⟩, trivial⟩ (by decide) (by decide) (by kernel_rfl) ⟨⟨_, _, rfl, rfl, .inl ⟨rfl, rowC_scal encS_ok _⟩⟩, trivial⟩ (by rfl)) ?_
 refine rE 2 [(3, pp 3 0), (22, s0 4 r2.length), (23, ii ((r2.length : Nat) : Int)), (24, ii 0)] id ?_
 refine XQ.block (id := 0) (by kernel_rfl) ?_
 refine XQ.loop m (by kernel_rfl) ?_
 obtain ⟨o1, o1_h, h⟩ := bS h
 refine nL [(3, pp 1 0), (22, s0 2 r2.length), (23, ii ((r2.length : Nat) : Int)), (24, ii 0)] [(2, rc encS r2 0 9 1), (1, .ext (bookX (newS r1))), (aPj10 a_Deeds z0 y0)] 3 [0, 3, 4] ?_
 refine XL.conv (f8_1_ok m m z0 y0 a_Deeds ((r2.length : Nat) : Int) 0 (newS r1) r2 o1 o1_h _ ?_) (by first | with_reducible rfl | simp | rfl)
 show XQ _ _ _ _ _ _ _ _
 refine qQ ?_
 refine cQ [150] 150 (KC.of_calls E0_ok (F := Proofs.Tryz.f15) (v := .bool true) (by kernel_rfl) rfl rfl (works_ok)) ?_
 refine rE 1 [(2, .bool true)] id ?_
 obtain rfl := sI h
 exact tV (.bool true) id rfl
end Go.Xm
