/- What these functions of the program compute, as functions in Lean, and the proofs that they do: vitolalaw14.MasterKnown. Conditions: the library's variables hold what their texts lay. -/
import Derived.Test.YtglkjlafglpalaaGreatDoorWe
import Derived.Test.YtglkjlafglpalaaGreatDoorEz
namespace Go.Xm
open Go.RowKit
set_option linter.unusedVariables false
set_option linter.unusedSimpArgs false
set_option maxRecDepth 20000
set_option maxHeartbeats 4000000
noncomputable def f6_C6 : Code := Proofs.Tryz.f6.body.getD .skip
noncomputable def f6_C28 : Code := Proofs.Tryz.f28.body.getD .skip
noncomputable def f6_C29 : Code := Proofs.Tryz.f29.body.getD .skip
noncomputable def f6_C52 : Code := Proofs.Tryz.f52.body.getD .skip
noncomputable def f6_C19 : Code := Proofs.Tryz.f19.body.getD .skip
noncomputable def f6_C30 : Code := Proofs.Tryz.f30.body.getD .skip
noncomputable def f6_C31 : Code := Proofs.Tryz.f31.body.getD .skip
noncomputable def f6_C32 : Code := Proofs.Tryz.f32.body.getD .skip
noncomputable def f6_C33 : Code := Proofs.Tryz.f33.body.getD .skip
noncomputable def f6_C34 : Code := Proofs.Tryz.f34.body.getD .skip
noncomputable def f6_C35 : Code := Proofs.Tryz.f35.body.getD .skip
noncomputable def f6_C27 : Code := Proofs.Tryz.f27.body.getD .skip
noncomputable def f6_C25 : Code := Proofs.Tryz.f25.body.getD .skip
noncomputable def f6_L1 : Code := lft (lft (rgt (lft (rgt (rgt (rgt f6_C28))))))
noncomputable def f6_L2 : Code := lft (lft (rgt (lft (rgt (rgt (rgt f6_C28))))))
noncomputable def f6_L3 : Code := lft (lft (rgt (lft (rgt (rgt (rgt f6_C28))))))
noncomputable def f6_L4 : Code := lft (lft (rgt (lft (rgt (rgt (rgt (rgt (rgt (rgt f6_C6)))))))))
noncomputable def f6_L5 : Code := lft (lft (rgt (lft (rgt (rgt (rgt (rgt (rgt (rgt (rgt f6_C6))))))))))
inductive Of6_1 where
 | r (lh0_r1 : List ByteArray)
 | x0 (lh0_x01 : List ByteArray) (kh1_x01 : BkS)
def f6_1 (m : Nat) : Nat → Int → List ByteArray → BkS → Option Of6_1
 | 0, _, _, _ => none
 | fuel + 1, x8_1, lh0_1, kh1_1 =>
  cond (decide (x8_1 < ((lh0_1.length : Nat) : Int))) (
   cond (inRow x8_1 lh0_1.length) (
    (tellS m kh1_1 (List.getD lh0_1 (Int.toNat x8_1) (bs []))).bind fun r4 =>
     cond (r4.1 != 0) (
      some (.r lh0_1)
     ) (
      f6_1 m fuel (w64 (x8_1 + 1)) lh0_1 r4.2
     )
   ) none
  ) (
   some (.x0 lh0_1 kh1_1)
  )
theorem f6_1_ok (m : Nat) : ∀ (fuel : Nat) (x8_1 : Int) (lh0_1 : List ByteArray) (kh1_1 : BkS) (o : Of6_1), f6_1 m fuel x8_1 lh0_1 kh1_1 = some o → ∀ Q : QP, (match o with | .r lh0_r1 => Q .ret [(4, .pointer none), (5, .bool false)] [(0, rc encS lh0_r1 0 9 1)] 1 | .x0 lh0_x01 kh1_x01 => Q (.exit 0) [(6, pp 1 0)] [(1, .ext (bookX kh1_x01)), (0, rc encS lh0_x01 0 9 1)] 2) → XL E0 34 1 fuel f6_L1 [(1, s0 0 lh0_1.length), (6, pp 1 0), (8, ii x8_1)] [(1, .ext (bookX kh1_1)), (0, rc encS lh0_1 0 9 1)] 2 Q
 | 0, x8_1, lh0_1, kh1_1, o, h, Q, hQ => by cases h
 | fuel + 1, x8_1, lh0_1, kh1_1, o, h, Q, hQ => by
  unfold f6_1 at h
  refine XL.succ E0_ok ?_
  refine sQ ?_
  refine qE 4 [(1, s0 0 lh0_1.length), (6, pp 1 0), (8, ii x8_1), (23, .bool (decide (x8_1 < ((lh0_1.length : Nat) : Int))))] id ?_
  cases b1 : (decide (x8_1 < ((lh0_1.length : Nat) : Int)) : Bool)
  case false =>
   have h := cF b1 h
   refine iF 23 ?_
   refine nR [(6, pp 1 0)] [(1, .ext (bookX kh1_1)), (0, rc encS lh0_1 0 9 1)] 2 [0, 1] ?_
   refine XQ.exit (i := 0) (by kernel_rfl) ?_
   cases h
   exact hQ
  have h := cT b1 h
  refine iT 23 ?_
  refine kQ ?_
  show XQ _ _ _ _ _ _ _ _
  refine sQ ?_
  refine XQ.block (id := 1) (by kernel_rfl) ?_
  refine qQ ?_
  refine rS 3 [(1, s0 0 lh0_1.length), (6, pp 1 0), (8, ii x8_1), (26, pp 1 0), (27, s0 0 lh0_1.length), (28, ii x8_1)] ?_
  obtain ⟨b2, h⟩ := oC h
  refine rR (pp 0 ((Int.toNat x8_1) * 1)) (iV 27 (.tmp 28) 29 1 0 b2) [(1, s0 0 lh0_1.length), (6, pp 1 0), (8, ii x8_1), (26, pp 1 0), (29, pp 0 ((Int.toNat x8_1) * 1))] ?_
  refine rR _ (lV encS_ok 29 30 0 ((Int.toNat x8_1) * 1) lh0_1 0 9 1 (Int.toNat x8_1) 0 (bs []) (rl b2)) [(1, s0 0 lh0_1.length), (6, pp 1 0), (8, ii x8_1), (26, pp 1 0), (30, .string (List.getD lh0_1 (Int.toNat x8_1) (bs [])))] ?_
  obtain ⟨r4, r4_h, h⟩ := bS h
  refine cQ [1, 6, 8, 31] 31 (KC.ofX rfl rfl (tell_cx r4_h) (i := 1) (by kernel_rfl) rfl) ?_
  refine rE 1 [(1, s0 0 lh0_1.length), (6, pp 1 0), (8, ii x8_1), (32, .bool (r4.1 != 0))] id ?_
  cases b3 : (r4.1 != 0 : Bool)
  case true =>
   have h := cT b3 h
   refine iT 32 ?_
   refine qE 2 [(4, .pointer none), (5, .bool false)] id ?_
   refine nR [(4, .pointer none), (5, .bool false)] [(0, rc encS lh0_1 0 9 1)] 1 [0] ?_
   refine tQ ?_
   cases h
   exact hQ
  have h := cF b3 h
  refine iK 32 id ?_
  refine rQ ?_
  refine rS 3 [(1, s0 0 lh0_1.length), (6, pp 1 0), (8, ii (w64 (x8_1 + 1)))] ?_
  refine dQ ?_
  show XL _ _ _ _ _ _ _ _ _
  refine nL [(1, s0 0 lh0_1.length), (6, pp 1 0), (8, ii (w64 (x8_1 + 1)))] [(1, .ext (bookX r4.2)), (0, rc encS lh0_1 0 9 1)] 2 [0, 1] ?_
  refine XL.conv (f6_1_ok m fuel (w64 (x8_1 + 1)) lh0_1 r4.2 o h Q hQ) (by first | with_reducible rfl | simp | rfl)
def f6_2 (m : Nat) : Nat → List ByteArray → BkS → Option BkS
 | 0, _, _ => none
 | fuel + 1, lh0_r1, kh2_2 =>
  some (kh2_2)
theorem f6_2_ok (m : Nat) : ∀ (fuel : Nat) (lh0_r1 : List ByteArray) (kh2_2 : BkS) (o : BkS), f6_2 m fuel lh0_r1 kh2_2 = some o → ∀ Q : QP, Q (.exit 0) [(6, pp 1 0)] [(1, .ext (bookX o)), (0, rc encS lh0_r1 0 9 1)] 2 → XL E0 34 1 fuel f6_L2 [(1, s0 1 0), (6, pp 2 0), (8, ii 0)] [(2, .ext (bookX kh2_2)), (1, rc encS [] 0 9 1), (0, rc encS lh0_r1 0 9 1)] 3 Q
 | 0, lh0_r1, kh2_2, o, h, Q, hQ => by cases h
 | fuel + 1, lh0_r1, kh2_2, o, h, Q, hQ => by
  unfold f6_2 at h
  refine XL.succ E0_ok ?_
  refine sQ ?_
  refine qE 4 [(1, s0 1 0), (6, pp 2 0), (8, ii 0), (23, .bool false)] id ?_
  refine iF 23 ?_
  refine nR [(6, pp 1 0)] [(1, .ext (bookX kh2_2)), (0, rc encS lh0_r1 0 9 1)] 2 [0, 2] ?_
  refine XQ.exit (i := 0) (by kernel_rfl) ?_
  cases h
  exact hQ
def f6_3 (m : Nat) : Nat → List ByteArray → BkS → BkS → Option BkS
 | 0, _, _, _ => none
 | fuel + 1, lh0_x01, kh1_x01, kh3_3 =>
  some (kh3_3)
abbrev aPk20 (lh0_x01 : List ByteArray) : Nat × XObj := (0, rc encS lh0_x01 0 9 1)
theorem f6_3_ok (m : Nat) : ∀ (fuel : Nat) (lh0_x01 : List ByteArray) (kh1_x01 : BkS) (kh3_3 : BkS) (o : BkS), f6_3 m fuel lh0_x01 kh1_x01 kh3_3 = some o → ∀ Q : QP, Q (.exit 0) [(6, pp 2 0)] [(2, .ext (bookX o)), (1, .ext (bookX kh1_x01)), (0, rc encS lh0_x01 0 9 1)] 3 → XL E0 34 2 fuel f6_L3 [(1, s0 2 0), (6, pp 3 0), (8, ii 0)] [(3, .ext (bookX kh3_3)), (2, rc encS [] 0 9 1), (1, .ext (bookX kh1_x01)), (0, rc encS lh0_x01 0 9 1)] 4 Q
 | 0, lh0_x01, kh1_x01, kh3_3, o, h, Q, hQ => by cases h
 | fuel + 1, lh0_x01, kh1_x01, kh3_3, o, h, Q, hQ => by
  unfold f6_3 at h
  refine XL.succ E0_ok ?_
  refine sQ ?_
  refine qE 4 [(1, s0 2 0), (6, pp 3 0), (8, ii 0), (23, .bool false)] id ?_
  refine iF 23 ?_
  refine nR [(6, pp 2 0)] [(2, .ext (bookX kh3_3)), (1, .ext (bookX kh1_x01)), (aPk20 lh0_x01)] 3 [0, 1, 3] ?_
  refine XQ.exit (i := 0) (by kernel_rfl) ?_
  cases h
  exact hQ
def f6_4 (m : Nat) : Nat → BkS → Option BkS
 | 0, _ => none
 | fuel + 1, kh0_4 =>
  some (kh0_4)
theorem f6_4_ok (m : Nat) : ∀ (fuel : Nat) (kh0_4 : BkS) (o : BkS), f6_4 m fuel kh0_4 = some o → ∀ Q : QP, Q (.exit 0) [(3, pp 0 0)] [(0, .ext (bookX o))] 1 → XL E0 218 0 fuel f6_L4 [(3, pp 0 0), (74, s0 1 2), (75, ii 2), (76, ii 2)] [(4, rc encS [] 0 9 1), (3, rc encSt [] 0 50 10), (2, .cells [ii 0, .map none, ii 0, ii 0, ii 0, ii 0, ii 0, ii 0, .map none, ii 0, s0 3 0, s0 4 0] 0 53 0), (1, .cells [.pointer none, pp 2 0] 0 25 1), (0, .ext (bookX kh0_4))] 5 Q
 | 0, kh0_4, o, h, Q, hQ => by cases h
 | fuel + 1, kh0_4, o, h, Q, hQ => by
  unfold f6_4 at h
  refine XL.succ E0_ok ?_
  refine qE 1 [(3, pp 0 0), (74, s0 1 2), (75, ii 2), (76, ii 2), (77, .bool false)] id ?_
  refine sQ ?_
  refine iF 77 ?_
  refine nR [(3, pp 0 0)] [(0, .ext (bookX kh0_4))] 1 [0] ?_
  refine XQ.exit (i := 0) (by kernel_rfl) ?_
  cases h
  exact hQ
inductive Of6_5 where
 | r
 | x2 (kh0_x25 : BkS)
def f6_5 (m : Nat) : Nat → Int → BkS → Option Of6_5
 | 0, _, _ => none
 | fuel + 1, x141_5, kh0_5 =>
  cond (decide (x141_5 < 200)) (
   (tellS m kh0_5 (bs [115, 116, 97, 109, 112, 115, 32, 57, 57, 57, 57])).bind fun r15 =>
    cond (r15.1 != 0) (
     some (.r)
    ) (
     f6_5 m fuel (w64 (x141_5 + 1)) r15.2
    )
  ) (
   some (.x2 kh0_5)
  )
abbrev aPk3 : Nat × Value := (0, .bool false)
theorem f6_5_ok (m : Nat) : ∀ (fuel : Nat) (x141_5 : Int) (kh0_5 : BkS) (o : Of6_5), f6_5 m fuel x141_5 kh0_5 = some o → ∀ Q : QP, (match o with | .r => Q .ret [(0, .bool false)] [] 0 | .x2 kh0_x25 => Q (.exit 2) [(3, pp 0 0)] [(0, .ext (bookX kh0_x25))] 1) → XL E0 218 0 fuel f6_L5 [(3, pp 0 0), (141, ii x141_5)] [(0, .ext (bookX kh0_5))] 1 Q
 | 0, x141_5, kh0_5, o, h, Q, hQ => by cases h
 | fuel + 1, x141_5, kh0_5, o, h, Q, hQ => by
  unfold f6_5 at h
  refine XL.succ E0_ok ?_
  refine qE 1 [(3, pp 0 0), (141, ii x141_5), (142, .bool (decide (x141_5 < 200)))] id ?_
  refine sQ ?_
  cases b1 : (decide (x141_5 < 200) : Bool)
  case false =>
   have h := cF b1 h
   refine iF 142 ?_
   refine nR [(3, pp 0 0)] [(0, .ext (bookX kh0_5))] 1 [0] ?_
   refine XQ.exit (i := 2) (by kernel_rfl) ?_
   cases h
   exact hQ
  have h := cT b1 h
  refine iT 142 ?_
  refine kQ ?_
  show XQ _ _ _ _ _ _ _ _
  refine sQ ?_
  refine XQ.block (id := 3) (by kernel_rfl) ?_
  refine qQ ?_
  refine rS 1 [(3, pp 0 0), (141, ii x141_5), (143, pp 0 0)] ?_
  obtain ⟨r15, r15_h, h⟩ := bS h
  refine cQ [3, 141, 144] 144 (KC.ofX rfl rfl (tell_cx r15_h) (i := 0) (by kernel_rfl) rfl) ?_
  refine rE 1 [(3, pp 0 0), (141, ii x141_5), (145, .bool (r15.1 != 0))] id ?_
  cases b2 : (r15.1 != 0 : Bool)
  case true =>
   have h := cT b2 h
   refine iT 145 ?_
   refine qE 1 [aPk3] id ?_
   refine nR [aPk3] [] 0 [] ?_
   refine tQ ?_
   cases h
   exact hQ
  have h := cF b2 h
  refine iK 145 id ?_
  refine rQ ?_
  refine rS 2 [(3, pp 0 0), (141, ii (w64 (x141_5 + 1)))] ?_
  refine dQ ?_
  show XL _ _ _ _ _ _ _ _ _
  refine nL [(3, pp 0 0), (141, ii (w64 (x141_5 + 1)))] [(0, .ext (bookX r15.2))] 1 [0] ?_
  refine XL.conv (f6_5_ok m fuel (w64 (x141_5 + 1)) r15.2 o h Q hQ) (by first | with_reducible rfl | simp | rfl)
abbrev aPk6 := (bs [98, 97, 108, 101, 32, 97, 110, 97, 32, 52, 48])
abbrev aPk9 := (bs [98, 97, 108, 101, 32, 98, 101, 108, 32, 51, 48, 32, 49])
abbrev aPk10 := (bs [98, 97, 108, 101, 32, 99, 111, 114, 32, 53, 48, 32, 48])
abbrev aPk11 := (bs [98, 97, 108, 101, 32, 97, 110, 97, 32, 52, 48, 32, 49])
abbrev aPk13 := (bs [118, 105, 116, 111, 108, 97, 32, 57, 10, 101, 110, 100, 32, 57, 51, 51, 54, 10])
abbrev aPk14 := (bs [117, 110, 100, 111])
abbrev aPk16 := ((0 : Int) == 0 && ((0 : Int) == 0 && ((0 : Int) == 0 && ((0 : Int) == 0))))
abbrev aPk17 := (bs [115, 116, 97, 109, 112, 115, 32, 50, 48])
abbrev aPk18 := (bs [99, 108, 111, 115, 101, 32])
abbrev aPk24 := (bs [98, 97, 110, 100, 32, 49, 50])
abbrev aPk27 := (bs [99, 108, 111, 115, 101])
abbrev aPk28 := (bs [115, 116, 97, 109, 112, 115, 32, 49])
abbrev aPk31 := (bs [115, 116, 97, 109, 112, 115])
def f6 (m : Nat) : Option (Bool) :=
 (f6_1 m m 0 [aPk11, aPk9, aPk10, aPk17, aPk24] (newS 3)).bind fun o1 =>
  match o1 with
  | .r lh0_r1 =>
   (f6_2 m m lh0_r1 (newS 2)).bind fun o2 =>
    some (false)
  | .x0 lh0_x01 kh1_x01 =>
   (f6_3 m m lh0_x01 kh1_x01 (newS 2)).bind fun o3 =>
    (tellS m kh1_x01 (bs [109, 111, 118, 101, 32, 98, 101, 108, 32, 49])).bind fun r5 =>
     cond (r5.1 != 0) (
      some (false)
     ) (
      (tellS m r5.2 (bs [116, 97, 107, 101, 32, 98, 101, 108, 32, 51, 48])).bind fun r6 =>
       cond (r6.1 != 0) (
        some (false)
       ) (
        (tellS m r6.2 (bs [116, 97, 107, 101, 32, 98, 101, 108, 32, 49])).bind fun r7 =>
         cond (r7.1 != 8) (
          some (false)
         ) (
          (tellS m o3 aPk14).bind fun r8 =>
           cond (r8.1 != 4) (
            some (false)
           ) (
            (tellS m r8.2 (bs [107, 101, 121, 32, 51])).bind fun r9 =>
             cond (r9.1 != 2) (
              some (false)
             ) (
              (tellS m r9.2 (bs [115, 116, 97, 109, 112, 115, 32, 48])).bind fun r10 =>
               cond (r10.1 != 1) (
                some (false)
               ) (
                (tellS m r10.2 (bs [115, 112, 111, 105, 108, 32, 49])).bind fun r11 =>
                 cond (r11.1 != 15) (
                  some (false)
                 ) (
                  (tellS m r11.2 (bs [115, 104, 117, 116])).bind fun r12 =>
                   cond (r12.1 != 20) (
                    some (false)
                   ) (
                    cond (!aPk16) (
                     some (false)
                    ) (
                     (f6_4 m m r12.2).bind fun o4 =>
                      (f6_5 m m 0 o4).bind fun o5 =>
                       match o5 with
                       | .r =>
                        some (false)
                       | .x2 kh0_x25 =>
                        (getBk m (bs [])).bind fun r16 =>
                         match r16.2 with
                         | some r17 =>
                          (getBk m aPk13).bind fun r18 =>
                           match r18.2 with
                           | some r19 =>
                            (tellS m kh0_x25 aPk28).bind fun r20 =>
                             cond (r20.1 == 19) (
                              (tellS m r20.2 aPk31).bind fun r21 =>
                               cond (r21.1 == 10) (
                                (tellS m r21.2 aPk14).bind fun r22 =>
                                 cond (r22.1 == 0) (
                                  (tellS m r22.2 aPk27).bind fun r23 =>
                                   cond (r23.1 == 0) (
                                    cond (((stampsS r23.2).1) == 1989801) (
                                     cond (newE == 1) (
                                      cond (r16.1 == 9) (
                                       cond (r18.1 == 9) (
                                        (f20 m aPk14).bind fun r24 =>
                                         cond (r24 == 0) (
                                          (f20 m aPk6).bind fun r25 =>
                                           cond (r25 == 10) (
                                            (f20 m aPk18).bind fun r26 =>
                                             cond (r26 == 10) (
                                              some (true)
                                             ) (
                                              some (false)
                                             )
                                           ) (
                                            some (false)
                                           )
                                         ) (
                                          some (false)
                                         )
                                       ) (
                                        some (false)
                                       )
                                      ) (
                                       some (false)
                                      )
                                     ) (
                                      some (false)
                                     )
                                    ) (
                                     some (false)
                                    )
                                   ) (
                                    some (false)
                                   )
                                 ) (
                                  some (false)
                                 )
                               ) (
                                some (false)
                               )
                             ) (
                              some (false)
                             )
                           | none =>
                            (tellS m kh0_x25 aPk28).bind fun r27 =>
                             cond (r27.1 == 19) (
                              (tellS m r27.2 aPk31).bind fun r28 =>
                               cond (r28.1 == 10) (
                                (tellS m r28.2 aPk14).bind fun r29 =>
                                 cond (r29.1 == 0) (
                                  (tellS m r29.2 aPk27).bind fun r30 =>
                                   cond (r30.1 == 0) (
                                    cond (((stampsS r30.2).1) == 1989801) (
                                     cond (newE == 1) (
                                      cond (r16.1 == 9) (
                                       cond (r18.1 == 9) (
                                        (f20 m aPk14).bind fun r31 =>
                                         cond (r31 == 0) (
                                          (f20 m aPk6).bind fun r32 =>
                                           cond (r32 == 10) (
                                            (f20 m aPk18).bind fun r33 =>
                                             cond (r33 == 10) (
                                              some (true)
                                             ) (
                                              some (false)
                                             )
                                           ) (
                                            some (false)
                                           )
                                         ) (
                                          some (false)
                                         )
                                       ) (
                                        some (false)
                                       )
                                      ) (
                                       some (false)
                                      )
                                     ) (
                                      some (false)
                                     )
                                    ) (
                                     some (false)
                                    )
                                   ) (
                                    some (false)
                                   )
                                 ) (
                                  some (false)
                                 )
                               ) (
                                some (false)
                               )
                             ) (
                              some (false)
                             )
                         | none =>
                          (getBk m aPk13).bind fun r34 =>
                           match r34.2 with
                           | some r35 =>
                            (tellS m kh0_x25 aPk28).bind fun r36 =>
                             cond (r36.1 == 19) (
                              (tellS m r36.2 aPk31).bind fun r37 =>
                               cond (r37.1 == 10) (
                                (tellS m r37.2 aPk14).bind fun r38 =>
                                 cond (r38.1 == 0) (
                                  (tellS m r38.2 aPk27).bind fun r39 =>
                                   cond (r39.1 == 0) (
                                    cond (((stampsS r39.2).1) == 1989801) (
                                     cond (newE == 1) (
                                      cond (r16.1 == 9) (
                                       cond (r34.1 == 9) (
                                        (f20 m aPk14).bind fun r40 =>
                                         cond (r40 == 0) (
                                          (f20 m aPk6).bind fun r41 =>
                                           cond (r41 == 10) (
                                            (f20 m aPk18).bind fun r42 =>
                                             cond (r42 == 10) (
                                              some (true)
                                             ) (
                                              some (false)
                                             )
                                           ) (
                                            some (false)
                                           )
                                         ) (
                                          some (false)
                                         )
                                       ) (
                                        some (false)
                                       )
                                      ) (
                                       some (false)
                                      )
                                     ) (
                                      some (false)
                                     )
                                    ) (
                                     some (false)
                                    )
                                   ) (
                                    some (false)
                                   )
                                 ) (
                                  some (false)
                                 )
                               ) (
                                some (false)
                               )
                             ) (
                              some (false)
                             )
                           | none =>
                            (tellS m kh0_x25 aPk28).bind fun r43 =>
                             cond (r43.1 == 19) (
                              (tellS m r43.2 aPk31).bind fun r44 =>
                               cond (r44.1 == 10) (
                                (tellS m r44.2 aPk14).bind fun r45 =>
                                 cond (r45.1 == 0) (
                                  (tellS m r45.2 aPk27).bind fun r46 =>
                                   cond (r46.1 == 0) (
                                    cond (((stampsS r46.2).1) == 1989801) (
                                     cond (newE == 1) (
                                      cond (r16.1 == 9) (
                                       cond (r34.1 == 9) (
                                        (f20 m aPk14).bind fun r47 =>
                                         cond (r47 == 0) (
                                          (f20 m aPk6).bind fun r48 =>
                                           cond (r48 == 10) (
                                            (f20 m aPk18).bind fun r49 =>
                                             cond (r49 == 10) (
                                              some (true)
                                             ) (
                                              some (false)
                                             )
                                           ) (
                                            some (false)
                                           )
                                         ) (
                                          some (false)
                                         )
                                       ) (
                                        some (false)
                                       )
                                      ) (
                                       some (false)
                                      )
                                     ) (
                                      some (false)
                                     )
                                    ) (
                                     some (false)
                                    )
                                   ) (
                                    some (false)
                                   )
                                 ) (
                                  some (false)
                                 )
                               ) (
                                some (false)
                               )
                             ) (
                              some (false)
                             )
                    )
                   )
                 )
               )
             )
           )
         )
       )
     )
abbrev aPk0 : Nat × XObj := (3, .cells [ii 0, .map none, ii 0, ii 0, ii 0, ii 0, ii 0, ii 0, .map none, ii 0, s0 5 0, s0 6 0] 0 53 0)
abbrev aPk1 : Nat × XObj := (8, .cells [.string aPk27] 0 9 0)
abbrev aPk2 : Nat × XObj := (4, .cells [.pointer none, pp 3 0] 0 25 1)
abbrev aPk4 : Nat × XObj := (11, .cells [ii 0, ii 0, ii 0, ii 0] 0 47 0)
abbrev aPk5 : Nat × XObj := (7, .cells [.pointer none] 0 25 0)
abbrev aPk7 : Nat × XObj := (15, .cells [.string aPk27] 0 9 0)
abbrev aPk8 : Nat × Value := (0, .pointer none)
abbrev aPk12 : Nat × XObj := (5, rc encSt [] 0 50 10)
abbrev aPk15 : Nat × XObj := (9, .cells [ii 11] 0 26 0)
abbrev aPk19 : Nat × XObj := (12, rc (encI .i64) [] 0 3 1)
abbrev aPk21 : Nat × XObj := (6, rc encS [] 0 9 1)
abbrev aPk22 : Nat × XObj := (10, rc encL [] 0 74 3)
abbrev aPk23 : Nat × XObj := (18, .cells [ii 0, ii 0, ii 0, ii 0] 0 47 0)
abbrev aPk25 : Nat × Value := (7, .pointer none)
abbrev aPk26 : Nat × XObj := (14, .cells [pp 3 0] 0 25 0)
abbrev aPk29 : Nat × XObj := (16, .cells [ii 11] 0 26 0)
abbrev aPk30 : Nat × XObj := (13, rc encS [] 0 9 1)
set_option maxHeartbeats 8000000 in
theorem f6_ok (m : Nat) (o : Bool) (h : f6 m = some o) (w : World) (hI : maInv w) : Calls Proofs.Tryz.prog 6 #[] w fun e w' => e = .returned (.bool o) ∧ Below w.heap.size w w' := by
 refine KC.calls (E := E0) (args := []) (v := .bool o) rfl rfl (KC.bodyN E0_ok (F := Proofs.Tryz.f6) (by kernel_rfl) (code := f6_C6) (by kernel_rfl) (nt := 218) (by kernel_rfl) (rs := [.tmp 0]) (by kernel_rfl) (by kernel_rfl) (σ := []) (by kernel_rfl) ?_) w (maInv_size hI) hI
 unfold f6 at h
 refine qQ ?_
 refine rS 1 [] ?_
 refine nQ id ?_
 refine rD 1 [(19, s0 0 5)] (fun h => (0, .cells [.string aPk11, .string aPk9, .string aPk10, .string aPk17, .string aPk24] 0 9 1) :: h) 1 ?_
 refine cK [20] 28 [ii 3, s0 0 5] 20 ?_
 refine kN Proofs.Tryz.f28 f6_C28 34 [.tmp 4, .tmp 5] ?_
 refine qQ ?_
 refine rS 2 [(0, ii 3), (1, s0 0 5)] ?_
 refine nQ id ?_
 refine rS 1 [(1, s0 0 5), (10, ii 3)] ?_
 refine cQ [1, 11] 11 (KC.ofN (g := fun u => .tuple #[u, ii 0]) (q := bookX (newS 3)) rfl g_ok (new_cn (show okN 3 = true from rfl))) ?_
 refine rE 5 [(1, s0 0 5), (6, pp 1 0), (7, ii 0)] id ?_
 refine sQ ?_
 refine qE 6 [(1, s0 0 5), (6, pp 1 0), (19, .bool false)] id ?_
 refine iK 19 id ?_
 refine sQ ?_
 refine qE 1 [(1, s0 0 5), (6, pp 1 0), (8, ii 0)] id ?_
 refine XQ.block (id := 0) (by kernel_rfl) ?_
 refine XQ.loop m (by kernel_rfl) ?_
 obtain ⟨o1, o1_h, h⟩ := bS h
 refine nL [(1, s0 0 5), (6, pp 1 0), (8, ii 0)] [(1, .ext (bookX (newS 3))), (0, .cells [.string aPk11, .string aPk9, .string aPk10, .string aPk17, .string aPk24] 0 9 1)] 2 [0, 1] ?_
 refine XL.conv (σ' := [(1, s0 0 5), (6, pp 1 0), (8, ii 0)]) (h' := [(1, .ext (bookX (newS 3))), (0, rc encS [aPk11, aPk9, aPk10, aPk17, aPk24] 0 9 1)]) (c' := 2) ?_ (by kernel_rfl)
 cases o1 with
 | r lh0_r1 =>
  dsimp only at h
  refine XL.conv (f6_1_ok m m 0 [aPk11, aPk9, aPk10, aPk17, aPk24] (newS 3) (.r lh0_r1) o1_h _ ?_) (by first | with_reducible rfl | simp | rfl)
  refine ⟨fun i q => (by cases q), .tuple #[.pointer none, .bool false], (by kernel_rfl), ?_⟩
  refine rS 5 [(1, .pointer none), (2, .bool false)] ?_
  refine nQ id ?_
  refine cK [1, 2, 24] 28 [ii 2, .slice none 0 0] 24 ?_
  refine kN Proofs.Tryz.f28 f6_C28 34 [.tmp 4, .tmp 5] ?_
  refine XQ.ghost 9 1 rfl (σ' := [(0, ii 2), (1, s0 1 0)]) (h' := [(0, rc encS lh0_r1 0 9 1)]) ⟨by kernel_rfl, by kernel_rfl, trivial⟩ ⟨⟨_, rfl, .inl rfl⟩, trivial⟩ ?_
  refine XQ.conv (σ' := [(0, ii 2), (1, s0 1 0)]) (h' := [(1, rc encS [] 0 9 1), (0, rc encS lh0_r1 0 9 1)]) (c' := 2) ?_ (by kernel_rfl)
  refine qQ ?_
  refine rS 2 [(0, ii 2), (1, s0 1 0)] ?_
  refine nQ id ?_
  refine rS 1 [(1, s0 1 0), (10, ii 2)] ?_
  refine cQ [1, 11] 11 (KC.ofN (g := fun u => .tuple #[u, ii 0]) (q := bookX (newS 2)) rfl g_ok (new_cn (show okN 2 = true from rfl))) ?_
  refine rE 5 [(1, s0 1 0), (6, pp 2 0), (7, ii 0)] id ?_
  refine sQ ?_
  refine qE 6 [(1, s0 1 0), (6, pp 2 0), (19, .bool false)] id ?_
  refine iK 19 id ?_
  refine sQ ?_
  refine qE 1 [(1, s0 1 0), (6, pp 2 0), (8, ii 0)] id ?_
  refine XQ.block (id := 0) (by kernel_rfl) ?_
  refine XQ.loop m (by kernel_rfl) ?_
  obtain ⟨o2, o2_h, h⟩ := bS h
  refine nL [(1, s0 1 0), (6, pp 2 0), (8, ii 0)] [(2, .ext (bookX (newS 2))), (1, rc encS [] 0 9 1), (0, rc encS lh0_r1 0 9 1)] 3 [0, 1, 2] ?_
  refine XL.conv (f6_2_ok m m lh0_r1 (newS 2) o2 o2_h _ ?_) (by first | with_reducible rfl | simp | rfl)
  show XQ _ _ _ _ _ _ _ _
  refine qE 3 [(4, pp 1 0), (5, .bool true)] id ?_
  refine tV (.tuple #[pp 1 0, .bool true]) id ?_
  refine rE 5 [(1, .pointer none), (2, .bool false), (3, pp 1 0), (4, .bool true)] id ?_
  refine sQ ?_
  refine qE 6 [(1, .pointer none), (3, pp 1 0), (32, .bool true)] id ?_
  refine iT 32 ?_
  refine qE 1 [aPk3] id ?_
  obtain rfl := sI h
  exact tV (.bool false) id rfl
 | x0 lh0_x01 kh1_x01 =>
  dsimp only at h
  refine XL.conv (f6_1_ok m m 0 [aPk11, aPk9, aPk10, aPk17, aPk24] (newS 3) (.x0 lh0_x01 kh1_x01) o1_h _ ?_) (by first | with_reducible rfl | simp | rfl)
  show XQ _ _ _ _ _ _ _ _
  refine qE 3 [(4, pp 1 0), (5, .bool true)] id ?_
  refine tV (.tuple #[pp 1 0, .bool true]) id ?_
  refine rS 5 [(1, pp 1 0), (2, .bool true)] ?_
  refine nQ id ?_
  refine cK [1, 2, 24] 28 [ii 2, .slice none 0 0] 24 ?_
  refine kN Proofs.Tryz.f28 f6_C28 34 [.tmp 4, .tmp 5] ?_
  refine XQ.ghost 9 1 rfl (σ' := [(0, ii 2), (1, s0 2 0)]) (h' := [(1, .ext (bookX kh1_x01)), (0, rc encS lh0_x01 0 9 1)]) ⟨by kernel_rfl, by kernel_rfl, trivial⟩ ⟨⟨_, rfl, .inl rfl⟩, ⟨_, rfl, .inl rfl⟩, trivial⟩ ?_
  refine XQ.conv (σ' := [(0, ii 2), (1, s0 2 0)]) (h' := [(2, rc encS [] 0 9 1), (1, .ext (bookX kh1_x01)), (0, rc encS lh0_x01 0 9 1)]) (c' := 3) ?_ (by kernel_rfl)
  refine qQ ?_
  refine rS 2 [(0, ii 2), (1, s0 2 0)] ?_
  refine nQ id ?_
  refine rS 1 [(1, s0 2 0), (10, ii 2)] ?_
  refine cQ [1, 11] 11 (KC.ofN (g := fun u => .tuple #[u, ii 0]) (q := bookX (newS 2)) rfl g_ok (new_cn (show okN 2 = true from rfl))) ?_
  refine rE 5 [(1, s0 2 0), (6, pp 3 0), (7, ii 0)] id ?_
  refine sQ ?_
  refine qE 6 [(1, s0 2 0), (6, pp 3 0), (19, .bool false)] id ?_
  refine iK 19 id ?_
  refine sQ ?_
  refine qE 1 [(1, s0 2 0), (6, pp 3 0), (8, ii 0)] id ?_
  refine XQ.block (id := 0) (by kernel_rfl) ?_
  refine XQ.loop m (by kernel_rfl) ?_
  obtain ⟨o3, o3_h, h⟩ := bS h
  refine nL [(1, s0 2 0), (6, pp 3 0), (8, ii 0)] [(3, .ext (bookX (newS 2))), (2, rc encS [] 0 9 1), (1, .ext (bookX kh1_x01)), (0, rc encS lh0_x01 0 9 1)] 4 [0, 1, 2, 3] ?_
  refine XL.conv (f6_3_ok m m lh0_x01 kh1_x01 (newS 2) o3 o3_h _ ?_) (by first | with_reducible rfl | simp | rfl)
  show XQ _ _ _ _ _ _ _ _
  refine qE 3 [(4, pp 2 0), (5, .bool true)] id ?_
  refine tV (.tuple #[pp 2 0, .bool true]) id ?_
  refine rE 5 [(1, pp 1 0), (2, .bool true), (3, pp 2 0), (4, .bool true)] id ?_
  refine sQ ?_
  refine qE 6 [(1, pp 1 0), (3, pp 2 0), (32, .bool false)] id ?_
  refine iK 32 id ?_
  refine sQ ?_
  refine qQ ?_
  refine rS 1 [(1, pp 1 0), (3, pp 2 0), (33, pp 1 0)] ?_
  obtain ⟨r5, r5_h, h⟩ := bS h
  refine cQ [1, 3, 34] 34 (KC.ofX rfl rfl (tell_cx r5_h) (i := 1) (by kernel_rfl) rfl) ?_
  refine rS 2 [(1, pp 1 0), (3, pp 2 0), (36, .bool (r5.1 != 0))] ?_
  cases b4 : (r5.1 != 0 : Bool)
  case true =>
   have h := cT b4 h
   refine rE 34 [(3, pp 2 0), (70, .bool true)] id ?_
   refine iT 70 ?_
   refine qE 1 [aPk3] id ?_
   obtain rfl := sI h
   exact tV (.bool false) id rfl
  have h := cF b4 h
  refine rS 1 [(1, pp 1 0), (3, pp 2 0), (36, .bool false), (37, pp 1 0)] ?_
  obtain ⟨r6, r6_h, h⟩ := bS h
  refine cQ [1, 3, 36, 38] 38 (KC.ofX rfl rfl (tell_cx r6_h) (i := 1) (by kernel_rfl) rfl) ?_
  refine rS 3 [(1, pp 1 0), (3, pp 2 0), (41, .bool (r6.1 != 0))] ?_
  cases b5 : (r6.1 != 0 : Bool)
  case true =>
   have h := cT b5 h
   refine rE 29 [(3, pp 2 0), (70, .bool true)] id ?_
   refine iT 70 ?_
   refine qE 1 [aPk3] id ?_
   obtain rfl := sI h
   exact tV (.bool false) id rfl
  have h := cF b5 h
  refine rS 1 [(3, pp 2 0), (41, .bool false), (42, pp 1 0)] ?_
  obtain ⟨r7, r7_h, h⟩ := bS h
  refine cQ [3, 41, 43] 43 (KC.ofX rfl rfl (tell_cx r7_h) (i := 1) (by kernel_rfl) rfl) ?_
  refine rS 3 [(3, pp 2 0), (46, .bool (r7.1 != 8))] ?_
  cases b6 : (r7.1 != 8 : Bool)
  case true =>
   have h := cT b6 h
   refine rE 24 [(3, pp 2 0), (70, .bool true)] id ?_
   refine iT 70 ?_
   refine qE 1 [aPk3] id ?_
   obtain rfl := sI h
   exact tV (.bool false) id rfl
  have h := cF b6 h
  refine rS 1 [(3, pp 2 0), (46, .bool false), (47, pp 2 0)] ?_
  obtain ⟨r8, r8_h, h⟩ := bS h
  refine cQ [3, 46, 48] 48 (KC.ofX rfl rfl (tell_cx r8_h) (i := 2) (by kernel_rfl) rfl) ?_
  refine rS 3 [(3, pp 2 0), (51, .bool (r8.1 != 4))] ?_
  cases b7 : (r8.1 != 4 : Bool)
  case true =>
   have h := cT b7 h
   refine rE 19 [(3, pp 2 0), (70, .bool true)] id ?_
   refine iT 70 ?_
   refine qE 1 [aPk3] id ?_
   obtain rfl := sI h
   exact tV (.bool false) id rfl
  have h := cF b7 h
  refine rS 1 [(3, pp 2 0), (51, .bool false), (52, pp 2 0)] ?_
  obtain ⟨r9, r9_h, h⟩ := bS h
  refine cQ [3, 51, 53] 53 (KC.ofX rfl rfl (tell_cx r9_h) (i := 2) (by kernel_rfl) rfl) ?_
  refine rS 3 [(3, pp 2 0), (56, .bool (r9.1 != 2))] ?_
  cases b8 : (r9.1 != 2 : Bool)
  case true =>
   have h := cT b8 h
   refine rE 14 [(3, pp 2 0), (70, .bool true)] id ?_
   refine iT 70 ?_
   refine qE 1 [aPk3] id ?_
   obtain rfl := sI h
   exact tV (.bool false) id rfl
  have h := cF b8 h
  refine rS 1 [(3, pp 2 0), (56, .bool false), (57, pp 2 0)] ?_
  obtain ⟨r10, r10_h, h⟩ := bS h
  refine cQ [3, 56, 58] 58 (KC.ofX rfl rfl (tell_cx r10_h) (i := 2) (by kernel_rfl) rfl) ?_
  refine rS 3 [(3, pp 2 0), (61, .bool (r10.1 != 1))] ?_
  cases b9 : (r10.1 != 1 : Bool)
  case true =>
   have h := cT b9 h
   refine rE 9 [(3, pp 2 0), (70, .bool true)] id ?_
   refine iT 70 ?_
   refine qE 1 [aPk3] id ?_
   obtain rfl := sI h
   exact tV (.bool false) id rfl
  have h := cF b9 h
  refine rS 1 [(3, pp 2 0), (61, .bool false), (62, pp 2 0)] ?_
  obtain ⟨r11, r11_h, h⟩ := bS h
  refine cQ [3, 61, 63] 63 (KC.ofX rfl rfl (tell_cx r11_h) (i := 2) (by kernel_rfl) rfl) ?_
  refine rS 3 [(3, pp 2 0), (66, .bool (r11.1 != 15))] ?_
  cases b10 : (r11.1 != 15 : Bool)
  case true =>
   have h := cT b10 h
   refine rE 4 [(3, pp 2 0), (70, .bool true)] id ?_
   refine iT 70 ?_
   refine qE 1 [aPk3] id ?_
   obtain rfl := sI h
   exact tV (.bool false) id rfl
  have h := cF b10 h
  refine rS 1 [(3, pp 2 0), (66, .bool false), (67, pp 2 0)] ?_
  obtain ⟨r12, r12_h, h⟩ := bS h
  refine cQ [3, 66, 68] 68 (KC.ofX rfl rfl (tell_cx r12_h) (i := 2) (by kernel_rfl) rfl) ?_
  refine rE 2 [(3, pp 2 0), (70, .bool (r12.1 != 20))] id ?_
  cases b11 : (r12.1 != 20 : Bool)
  case true =>
   have h := cT b11 h
   refine iT 70 ?_
   refine qE 1 [aPk3] id ?_
   obtain rfl := sI h
   exact tV (.bool false) id rfl
  have h := cF b11 h
  refine iK 70 id ?_
  refine qE 1 [(3, pp 2 0), (5, .pointer none)] id ?_
  refine sQ ?_
  refine qG 6 [(3, pp 2 0), (74, s0 4 2), (75, ii 2), (76, ii 0)] (fun h => aPk2 :: (3, .cells [ii 0, .map none, ii 0, ii 0, ii 0, ii 0, ii 0, ii 0, .map none, ii 0, .slice none 0 0, .slice none 0 0] 0 53 0) :: h) 5 id ?_
  refine XQ.ghost 50 10 rfl (σ' := [(3, pp 2 0), (74, s0 4 2), (75, ii 2), (76, ii 0)]) (h' := [aPk2, (3, .cells [ii 0, .map none, ii 0, ii 0, ii 0, ii 0, ii 0, ii 0, .map none, ii 0, s0 5 0, .slice none 0 0] 0 53 0), (2, .ext (bookX r12.2)), (1, .ext (bookX r7.2)), (0, rc encS lh0_x01 0 9 1)]) ⟨by kernel_rfl, by kernel_rfl, by kernel_rfl, by kernel_rfl, trivial⟩ ⟨⟨_, rfl, .inl rfl⟩, ⟨_, rfl, .inr ⟨_, _, _, _, rfl, rfl⟩⟩, ⟨_, rfl, .inl rfl⟩, ⟨_, rfl, .inl rfl⟩, ⟨_, rfl, .inl rfl⟩, trivial⟩ ?_
  refine XQ.conv (σ' := [(3, pp 2 0), (74, s0 4 2), (75, ii 2), (76, ii 0)]) (h' := [aPk12, aPk2, (3, .cells [ii 0, .map none, ii 0, ii 0, ii 0, ii 0, ii 0, ii 0, .map none, ii 0, s0 5 0, .slice none 0 0] 0 53 0), (2, .ext (bookX r12.2)), (1, .ext (bookX r7.2)), (0, rc encS lh0_x01 0 9 1)]) (c' := 6) ?_ (by kernel_rfl)
  refine XQ.ghost 9 1 rfl (σ' := [(3, pp 2 0), (74, s0 4 2), (75, ii 2), (76, ii 0)]) (h' := [aPk12, aPk2, aPk0, (2, .ext (bookX r12.2)), (1, .ext (bookX r7.2)), (0, rc encS lh0_x01 0 9 1)]) ⟨by kernel_rfl, by kernel_rfl, by kernel_rfl, by kernel_rfl, trivial⟩ ⟨⟨_, rfl, .inl rfl⟩, ⟨_, rfl, .inl rfl⟩, ⟨_, rfl, .inr ⟨_, _, _, _, rfl, rfl⟩⟩, ⟨_, rfl, .inl rfl⟩, ⟨_, rfl, .inl rfl⟩, ⟨_, rfl, .inl rfl⟩, trivial⟩ ?_
  refine XQ.conv (σ' := [(3, pp 2 0), (74, s0 4 2), (75, ii 2), (76, ii 0)]) (h' := [aPk21, aPk12, aPk2, aPk0, (2, .ext (bookX r12.2)), (1, .ext (bookX r7.2)), (0, rc encS lh0_x01 0 9 1)]) (c' := 7) ?_ (by kernel_rfl)
  refine XQ.block (id := 0) (by kernel_rfl) ?_
  refine XQ.loop (m + 2) (by kernel_rfl) ?_
  refine XL.succ E0_ok ?_
  refine qE 1 [(3, pp 2 0), (74, s0 4 2), (75, ii 2), (76, ii 0), (77, .bool true)] id ?_
  refine sQ ?_
  refine iT 77 ?_
  refine kQ ?_
  show XQ _ _ _ _ _ _ _ _
  refine sQ ?_
  refine XQ.block (id := 1) (by kernel_rfl) ?_
  refine qQ ?_
  refine rS 3 [(3, pp 2 0), aPk25, (74, s0 4 2), (75, ii 2), (76, ii 0)] ?_
  refine nQ id ?_
  refine rS 1 [(3, pp 2 0), aPk25, (74, s0 4 2), (75, ii 2), (76, ii 0), (81, .pointer none)] ?_
  refine cK [3, 7, 74, 75, 76, 82] 29 [.pointer none] 82 ?_
  refine kN Proofs.Tryz.f29 f6_C29 16 [.tmp 2, .tmp 3] ?_
  refine qE 2 [aPk8] id ?_
  refine sQ ?_
  refine qQ ?_
  refine rS 1 [aPk8, (4, .pointer none)] ?_
  refine cK [0, 5] 52 [.pointer none] 5 ?_
  refine kN Proofs.Tryz.f52 f6_C52 13 [.tmp 2] ?_
  refine qQ ?_
  refine rS 1 [aPk8] ?_
  refine nQ id ?_
  refine rE 11 [(2, .bool true)] id ?_
  refine tV (.bool true) id ?_
  refine eQ id ?_
  refine iT 5 ?_
  refine qE 2 [(2, ii 0), (3, ii 0)] id ?_
  refine tV (.tuple #[ii 0, ii 0]) id ?_
  refine rS 5 [(3, pp 2 0), aPk25, (8, ii 0), (9, ii 0), (74, s0 4 2), (75, ii 2), (76, ii 0)] ?_
  refine nQ id ?_
  refine rS 1 [(3, pp 2 0), aPk25, (8, ii 0), (9, ii 0), (74, s0 4 2), (75, ii 2), (76, ii 0), (85, .pointer none)] ?_
  refine cK [3, 7, 8, 9, 74, 75, 76, 86] 19 [.pointer none, .string aPk27] 86 ?_
  refine kN Proofs.Tryz.f19 f6_C19 38 [.cell 4 26] ?_
  refine qG 3 [(2, pp 7 0), (3, pp 8 0), (4, pp 9 0)] (fun h => (9, .cells [ii 0] 0 26 0) :: aPk1 :: aPk5 :: h) 10 id ?_
  refine sQ ?_
  refine qQ ?_
  refine rS 1 [(2, pp 7 0), (3, pp 8 0), (4, pp 9 0), aPk25] ?_
  refine cK [2, 3, 4, 8] 52 [.pointer none] 8 ?_
  refine kN Proofs.Tryz.f52 f6_C52 13 [.tmp 2] ?_
  refine qQ ?_
  refine rS 1 [aPk8] ?_
  refine nQ id ?_
  refine rE 11 [(2, .bool true)] id ?_
  refine tV (.bool true) id ?_
  refine eQ id ?_
  refine iT 8 ?_
  refine qG 1 [(4, pp 9 0)] (fun h => hset h 9 (.cells [ii 11] 0 26 0)) 10 id ?_
  refine tV (ii 11) id ?_
  refine rS 3 [(3, pp 2 0), aPk25, (8, ii 0), (9, ii 0), (74, s0 4 2), (75, ii 2), (76, ii 0), (88, .bool false), (89, .pointer none)] ?_
  refine cK [3, 7, 8, 9, 74, 75, 76, 88, 90] 30 [.pointer none] 90 ?_
  refine kN Proofs.Tryz.f30 f6_C30 10 [.tmp 2] ?_
  refine qE 1 [aPk8] id ?_
  refine sQ ?_
  refine qQ ?_
  refine rS 1 [aPk8, (3, .pointer none)] ?_
  refine cK [0, 4] 52 [.pointer none] 4 ?_
  refine kN Proofs.Tryz.f52 f6_C52 13 [.tmp 2] ?_
  refine qQ ?_
  refine rS 1 [aPk8] ?_
  refine nQ id ?_
  refine rE 11 [(2, .bool true)] id ?_
  refine tV (.bool true) id ?_
  refine eQ id ?_
  refine iT 4 ?_
  refine qE 1 [(2, ii 0)] id ?_
  refine tV (ii 0) id ?_
  refine rS 4 [(3, pp 2 0), aPk25, (8, ii 0), (9, ii 0), (74, s0 4 2), (75, ii 2), (76, ii 0), (93, .bool false), (94, .pointer none)] ?_
  refine cK [3, 7, 8, 9, 74, 75, 76, 93, 95] 31 [.pointer none] 95 ?_
  refine kN Proofs.Tryz.f31 f6_C31 12 [.tmp 2] ?_
  refine qE 1 [aPk8] id ?_
  refine sQ ?_
  refine qQ ?_
  refine rS 1 [aPk8, (3, .pointer none)] ?_
  refine cK [0, 4] 52 [.pointer none] 4 ?_
  refine kN Proofs.Tryz.f52 f6_C52 13 [.tmp 2] ?_
  refine qQ ?_
  refine rS 1 [aPk8] ?_
  refine nQ id ?_
  refine rE 11 [(2, .bool true)] id ?_
  refine tV (.bool true) id ?_
  refine eQ id ?_
  refine iT 4 ?_
  refine qE 1 [(2, .slice none 0 0)] id ?_
  refine XQ.ghost 74 3 rfl (σ' := [(2, s0 10 0)]) (h' := [aPk15, aPk1, aPk5, aPk21, aPk12, aPk2, aPk0, (2, .ext (bookX r12.2)), (1, .ext (bookX r7.2)), (0, rc encS lh0_x01 0 9 1)]) ⟨by kernel_rfl, trivial⟩ ⟨⟨_, rfl, .inl rfl⟩, ⟨_, rfl, .inl rfl⟩, ⟨_, rfl, .inl rfl⟩, ⟨_, rfl, .inl rfl⟩, ⟨_, rfl, .inl rfl⟩, ⟨_, rfl, .inl rfl⟩, ⟨_, rfl, .inl rfl⟩, ⟨_, rfl, .inl rfl⟩, ⟨_, rfl, .inl rfl⟩, ⟨_, rfl, .inl rfl⟩, trivial⟩ ?_
  refine XQ.conv (σ' := [(2, s0 10 0)]) (h' := [aPk22, aPk15, aPk1, aPk5, aPk21, aPk12, aPk2, aPk0, (2, .ext (bookX r12.2)), (1, .ext (bookX r7.2)), (0, rc encS lh0_x01 0 9 1)]) (c' := 11) ?_ (by kernel_rfl)
  refine tV (s0 10 0) id ?_
  refine rS 13 [(3, pp 2 0), aPk25, (74, s0 4 2), (75, ii 2), (76, ii 0), (107, .bool false), (108, .pointer none)] ?_
  refine cK [3, 7, 74, 75, 76, 107, 109] 32 [.pointer none] 109 ?_
  refine kN Proofs.Tryz.f32 f6_C32 11 [.cell 2 47] ?_
  refine qG 1 [aPk8, (2, pp 11 0)] (fun h => aPk4 :: h) 12 id ?_
  refine sQ ?_
  refine qQ ?_
  refine rS 1 [aPk8, (2, pp 11 0), (3, .pointer none)] ?_
  refine cK [0, 2, 4] 52 [.pointer none] 4 ?_
  refine kN Proofs.Tryz.f52 f6_C52 13 [.tmp 2] ?_
  refine qQ ?_
  refine rS 1 [aPk8] ?_
  refine nQ id ?_
  refine rE 11 [(2, .bool true)] id ?_
  refine tV (.bool true) id ?_
  refine eQ id ?_
  refine iT 4 ?_
  refine qE 2 [(2, pp 11 0)] id ?_
  refine tV (.agg #[ii 0, ii 0, ii 0, ii 0]) id ?_
  refine rS 4 [(3, pp 2 0), aPk25, (74, s0 4 2), (75, ii 2), (76, ii 0), (113, .bool (!aPk16))] ?_
  cases b12 : (!aPk16 : Bool)
  case true =>
   have h := cT b12 h
   refine rE 26 [(3, pp 2 0), (74, s0 4 2), (75, ii 2), (76, ii 0), (139, .bool true)] id ?_
   refine iT 139 ?_
   refine qE 1 [aPk3] id ?_
   obtain rfl := sI h
   exact tV (.bool false) id rfl
  have h := cF b12 h
  refine rS 1 [(3, pp 2 0), aPk25, (74, s0 4 2), (75, ii 2), (76, ii 0), (113, .bool false), (114, .pointer none)] ?_
  refine cK [3, 7, 74, 75, 76, 113, 115] 33 [.pointer none] 115 ?_
  refine kN Proofs.Tryz.f33 f6_C33 12 [.tmp 2] ?_
  refine qE 1 [aPk8] id ?_
  refine sQ ?_
  refine qQ ?_
  refine rS 1 [aPk8, (3, .pointer none)] ?_
  refine cK [0, 4] 52 [.pointer none] 4 ?_
  refine kN Proofs.Tryz.f52 f6_C52 13 [.tmp 2] ?_
  refine qQ ?_
  refine rS 1 [aPk8] ?_
  refine nQ id ?_
  refine rE 11 [(2, .bool true)] id ?_
  refine tV (.bool true) id ?_
  refine eQ id ?_
  refine iT 4 ?_
  refine qE 1 [(2, .slice none 0 0)] id ?_
  refine XQ.ghost 3 1 rfl (σ' := [(2, s0 12 0)]) (h' := [aPk4, aPk22, aPk15, aPk1, aPk5, aPk21, aPk12, aPk2, aPk0, (2, .ext (bookX r12.2)), (1, .ext (bookX r7.2)), (0, rc encS lh0_x01 0 9 1)]) ⟨by kernel_rfl, trivial⟩ ⟨⟨_, rfl, .inl rfl⟩, ⟨_, rfl, .inl rfl⟩, ⟨_, rfl, .inl rfl⟩, ⟨_, rfl, .inl rfl⟩, ⟨_, rfl, .inl rfl⟩, ⟨_, rfl, .inl rfl⟩, ⟨_, rfl, .inl rfl⟩, ⟨_, rfl, .inl rfl⟩, ⟨_, rfl, .inl rfl⟩, ⟨_, rfl, .inl rfl⟩, ⟨_, rfl, .inl rfl⟩, ⟨_, rfl, .inl rfl⟩, trivial⟩ ?_
  refine XQ.conv (σ' := [(2, s0 12 0)]) (h' := [aPk19, aPk4, aPk22, aPk15, aPk1, aPk5, aPk21, aPk12, aPk2, aPk0, (2, .ext (bookX r12.2)), (1, .ext (bookX r7.2)), (0, rc encS lh0_x01 0 9 1)]) (c' := 13) ?_ (by kernel_rfl)
  refine tV (s0 12 0) id ?_
  refine rS 5 [(3, pp 2 0), aPk25, (74, s0 4 2), (75, ii 2), (76, ii 0), (119, .bool false), (120, .pointer none)] ?_
  refine cK [3, 7, 74, 75, 76, 119, 121] 34 [.pointer none] 121 ?_
  refine kN Proofs.Tryz.f34 f6_C34 10 [.tmp 2] ?_
  refine qE 1 [aPk8] id ?_
  refine sQ ?_
  refine qQ ?_
  refine rS 1 [aPk8, (3, .pointer none)] ?_
  refine cK [0, 4] 52 [.pointer none] 4 ?_
  refine kN Proofs.Tryz.f52 f6_C52 13 [.tmp 2] ?_
  refine qQ ?_
  refine rS 1 [aPk8] ?_
  refine nQ id ?_
  refine rE 11 [(2, .bool true)] id ?_
  refine tV (.bool true) id ?_
  refine eQ id ?_
  refine iT 4 ?_
  refine qE 1 [(2, ii 0)] id ?_
  refine tV (ii 0) id ?_
  refine rS 4 [(3, pp 2 0), aPk25, (74, s0 4 2), (75, ii 2), (76, ii 0), (124, .bool false), (125, .pointer none)] ?_
  refine cK [3, 7, 74, 75, 76, 124, 126] 35 [.pointer none] 126 ?_
  refine kN Proofs.Tryz.f35 f6_C35 10 [.tmp 2] ?_
  refine qE 1 [aPk8] id ?_
  refine sQ ?_
  refine qQ ?_
  refine rS 1 [aPk8, (3, .pointer none)] ?_
  refine cK [0, 4] 52 [.pointer none] 4 ?_
  refine kN Proofs.Tryz.f52 f6_C52 13 [.tmp 2] ?_
  refine qQ ?_
  refine rS 1 [aPk8] ?_
  refine nQ id ?_
  refine rE 11 [(2, .bool true)] id ?_
  refine tV (.bool true) id ?_
  refine eQ id ?_
  refine iT 4 ?_
  refine qE 1 [(2, .slice none 0 0)] id ?_
  refine XQ.ghost 9 1 rfl (σ' := [(2, s0 13 0)]) (h' := [aPk19, aPk4, aPk22, aPk15, aPk1, aPk5, aPk21, aPk12, aPk2, aPk0, (2, .ext (bookX r12.2)), (1, .ext (bookX r7.2)), (0, rc encS lh0_x01 0 9 1)]) ⟨by kernel_rfl, trivial⟩ ⟨⟨_, rfl, .inl rfl⟩, ⟨_, rfl, .inl rfl⟩, ⟨_, rfl, .inl rfl⟩, ⟨_, rfl, .inl rfl⟩, ⟨_, rfl, .inl rfl⟩, ⟨_, rfl, .inl rfl⟩, ⟨_, rfl, .inl rfl⟩, ⟨_, rfl, .inl rfl⟩, ⟨_, rfl, .inl rfl⟩, ⟨_, rfl, .inl rfl⟩, ⟨_, rfl, .inl rfl⟩, ⟨_, rfl, .inl rfl⟩, ⟨_, rfl, .inl rfl⟩, trivial⟩ ?_
  refine XQ.conv (σ' := [(2, s0 13 0)]) (h' := [aPk30, aPk19, aPk4, aPk22, aPk15, aPk1, aPk5, aPk21, aPk12, aPk2, aPk0, (2, .ext (bookX r12.2)), (1, .ext (bookX r7.2)), (0, rc encS lh0_x01 0 9 1)]) (c' := 14) ?_ (by kernel_rfl)
  refine tV (s0 13 0) id ?_
  refine rS 5 [(3, pp 2 0), aPk25, (74, s0 4 2), (75, ii 2), (76, ii 0), (130, .bool false), (131, .pointer none)] ?_
  refine cK [3, 7, 74, 75, 76, 130, 132] 27 [.pointer none] 132 ?_
  refine kN Proofs.Tryz.f27 f6_C27 42 [.tmp 2] ?_
  refine qE 1 [aPk8] id ?_
  refine sQ ?_
  refine qQ ?_
  refine rS 1 [aPk8, (6, .pointer none)] ?_
  refine cK [0, 7] 52 [.pointer none] 7 ?_
  refine kN Proofs.Tryz.f52 f6_C52 13 [.tmp 2] ?_
  refine qQ ?_
  refine rS 1 [aPk8] ?_
  refine nQ id ?_
  refine rE 11 [(2, .bool true)] id ?_
  refine tV (.bool true) id ?_
  refine eQ id ?_
  refine iT 7 ?_
  refine qE 1 [(2, .pointer none)] id ?_
  refine tV (.pointer none) id ?_
  refine rS 4 [(3, pp 2 0), (74, s0 4 2), (75, ii 2), (76, ii 0), (135, .bool false), (136, .pointer none)] ?_
  refine cK [3, 74, 75, 76, 135, 137] 25 [.pointer none] 137 ?_
  refine kN Proofs.Tryz.f25 f6_C25 37 [.tmp 2] ?_
  refine qE 1 [aPk8] id ?_
  refine sQ ?_
  refine qQ ?_
  refine rS 1 [aPk8, (6, .pointer none)] ?_
  refine cK [0, 7] 52 [.pointer none] 7 ?_
  refine kN Proofs.Tryz.f52 f6_C52 13 [.tmp 2] ?_
  refine qQ ?_
  refine rS 1 [aPk8] ?_
  refine nQ id ?_
  refine rE 11 [(2, .bool true)] id ?_
  refine tV (.bool true) id ?_
  refine eQ id ?_
  refine iT 7 ?_
  refine qE 1 [(2, .string (bs []))] id ?_
  refine tV (.string (bs [])) id ?_
  refine rE 2 [(3, pp 2 0), (74, s0 4 2), (75, ii 2), (76, ii 0), (139, .bool false)] id ?_
  refine iK 139 id ?_
  refine rQ ?_
  refine rS 2 [(3, pp 2 0), (74, s0 4 2), (75, ii 2), (76, ii 1)] ?_
  refine dQ ?_
  show XL _ _ _ _ _ _ _ _ _
  refine XL.succ E0_ok ?_
  refine qE 1 [(3, pp 2 0), (74, s0 4 2), (75, ii 2), (76, ii 1), (77, .bool true)] id ?_
  refine sQ ?_
  refine iT 77 ?_
  refine kQ ?_
  show XQ _ _ _ _ _ _ _ _
  refine sQ ?_
  refine XQ.block (id := 1) (by kernel_rfl) ?_
  refine qQ ?_
  refine rS 3 [(3, pp 2 0), (7, pp 3 0), (74, s0 4 2), (75, ii 2), (76, ii 1)] ?_
  refine nQ id ?_
  refine rS 1 [(3, pp 2 0), (7, pp 3 0), (74, s0 4 2), (75, ii 2), (76, ii 1), (81, pp 3 0)] ?_
  refine cK [3, 7, 74, 75, 76, 82] 29 [pp 3 0] 82 ?_
  refine kN Proofs.Tryz.f29 f6_C29 16 [.tmp 2, .tmp 3] ?_
  refine qE 2 [(0, pp 3 0)] id ?_
  refine sQ ?_
  refine qQ ?_
  refine rS 1 [(0, pp 3 0), (4, pp 3 0)] ?_
  refine cK [0, 5] 52 [pp 3 0] 5 ?_
  refine kN Proofs.Tryz.f52 f6_C52 13 [.tmp 2] ?_
  refine qQ ?_
  refine rS 1 [(0, pp 3 0)] ?_
  refine nQ id ?_
  refine rE 11 [(2, .bool true)] id ?_
  refine tV (.bool true) id ?_
  refine eQ id ?_
  refine iT 5 ?_
  refine qE 2 [(2, ii 0), (3, ii 0)] id ?_
  refine tV (.tuple #[ii 0, ii 0]) id ?_
  refine rS 5 [(3, pp 2 0), (7, pp 3 0), (8, ii 0), (9, ii 0), (74, s0 4 2), (75, ii 2), (76, ii 1)] ?_
  refine nQ id ?_
  refine rS 1 [(3, pp 2 0), (7, pp 3 0), (8, ii 0), (9, ii 0), (74, s0 4 2), (75, ii 2), (76, ii 1), (85, pp 3 0)] ?_
  refine cK [3, 7, 8, 9, 74, 75, 76, 86] 19 [pp 3 0, .string aPk27] 86 ?_
  refine kN Proofs.Tryz.f19 f6_C19 38 [.cell 4 26] ?_
  refine qG 3 [(2, pp 14 0), (3, pp 15 0), (4, pp 16 0)] (fun h => (16, .cells [ii 0] 0 26 0) :: aPk7 :: aPk26 :: h) 17 id ?_
  refine sQ ?_
  refine qQ ?_
  refine rS 1 [(2, pp 14 0), (3, pp 15 0), (4, pp 16 0), (7, pp 3 0)] ?_
  refine cK [2, 3, 4, 8] 52 [pp 3 0] 8 ?_
  refine kN Proofs.Tryz.f52 f6_C52 13 [.tmp 2] ?_
  refine qQ ?_
  refine rS 1 [(0, pp 3 0)] ?_
  refine nQ id ?_
  refine rE 11 [(2, .bool true)] id ?_
  refine tV (.bool true) id ?_
  refine eQ id ?_
  refine iT 8 ?_
  refine qG 1 [(4, pp 16 0)] (fun h => hset h 16 (.cells [ii 11] 0 26 0)) 17 id ?_
  refine tV (ii 11) id ?_
  refine rS 3 [(3, pp 2 0), (7, pp 3 0), (8, ii 0), (9, ii 0), (74, s0 4 2), (75, ii 2), (76, ii 1), (88, .bool false), (89, pp 3 0)] ?_
  refine cK [3, 7, 8, 9, 74, 75, 76, 88, 90] 30 [pp 3 0] 90 ?_
  refine kN Proofs.Tryz.f30 f6_C30 10 [.tmp 2] ?_
  refine qE 1 [(0, pp 3 0)] id ?_
  refine sQ ?_
  refine qQ ?_
  refine rS 1 [(0, pp 3 0), (3, pp 3 0)] ?_
  refine cK [0, 4] 52 [pp 3 0] 4 ?_
  refine kN Proofs.Tryz.f52 f6_C52 13 [.tmp 2] ?_
  refine qQ ?_
  refine rS 1 [(0, pp 3 0)] ?_
  refine nQ id ?_
  refine rE 11 [(2, .bool true)] id ?_
  refine tV (.bool true) id ?_
  refine eQ id ?_
  refine iT 4 ?_
  refine qE 1 [(2, ii 0)] id ?_
  refine tV (ii 0) id ?_
  refine rS 4 [(3, pp 2 0), (7, pp 3 0), (8, ii 0), (9, ii 0), (74, s0 4 2), (75, ii 2), (76, ii 1), (93, .bool false), (94, pp 3 0)] ?_
  refine cK [3, 7, 8, 9, 74, 75, 76, 93, 95] 31 [pp 3 0] 95 ?_
  refine kN Proofs.Tryz.f31 f6_C31 12 [.tmp 2] ?_
  refine qE 1 [(0, pp 3 0)] id ?_
  refine sQ ?_
  refine qQ ?_
  refine rS 1 [(0, pp 3 0), (3, pp 3 0)] ?_
  refine cK [0, 4] 52 [pp 3 0] 4 ?_
  refine kN Proofs.Tryz.f52 f6_C52 13 [.tmp 2] ?_
  refine qQ ?_
  refine rS 1 [(0, pp 3 0)] ?_
  refine nQ id ?_
  refine rE 11 [(2, .bool true)] id ?_
  refine tV (.bool true) id ?_
  refine eQ id ?_
  refine iT 4 ?_
  refine qE 1 [(2, .slice none 0 0)] id ?_
  refine XQ.ghost 74 3 rfl (σ' := [(2, s0 17 0)]) (h' := [aPk29, aPk7, aPk26, aPk30, aPk19, aPk4, aPk22, aPk15, aPk1, aPk5, aPk21, aPk12, aPk2, aPk0, (2, .ext (bookX r12.2)), (1, .ext (bookX r7.2)), (0, rc encS lh0_x01 0 9 1)]) ⟨by kernel_rfl, trivial⟩ ⟨⟨_, rfl, .inl rfl⟩, ⟨_, rfl, .inl rfl⟩, ⟨_, rfl, .inl rfl⟩, ⟨_, rfl, .inl rfl⟩, ⟨_, rfl, .inl rfl⟩, ⟨_, rfl, .inl rfl⟩, ⟨_, rfl, .inl rfl⟩, ⟨_, rfl, .inl rfl⟩, ⟨_, rfl, .inl rfl⟩, ⟨_, rfl, .inl rfl⟩, ⟨_, rfl, .inl rfl⟩, ⟨_, rfl, .inl rfl⟩, ⟨_, rfl, .inl rfl⟩, ⟨_, rfl, .inl rfl⟩, ⟨_, rfl, .inl rfl⟩, ⟨_, rfl, .inl rfl⟩, ⟨_, rfl, .inl rfl⟩, trivial⟩ ?_
  refine XQ.conv (σ' := [(2, s0 17 0)]) (h' := [(17, rc encL [] 0 74 3), aPk29, aPk7, aPk26, aPk30, aPk19, aPk4, aPk22, aPk15, aPk1, aPk5, aPk21, aPk12, aPk2, aPk0, (2, .ext (bookX r12.2)), (1, .ext (bookX r7.2)), (0, rc encS lh0_x01 0 9 1)]) (c' := 18) ?_ (by kernel_rfl)
  refine tV (s0 17 0) id ?_
  refine rS 13 [(3, pp 2 0), (7, pp 3 0), (74, s0 4 2), (75, ii 2), (76, ii 1), (107, .bool false), (108, pp 3 0)] ?_
  refine cK [3, 7, 74, 75, 76, 107, 109] 32 [pp 3 0] 109 ?_
  refine kN Proofs.Tryz.f32 f6_C32 11 [.cell 2 47] ?_
  refine qG 1 [(0, pp 3 0), (2, pp 18 0)] (fun h => aPk23 :: h) 19 id ?_
  refine sQ ?_
  refine qQ ?_
  refine rS 1 [(0, pp 3 0), (2, pp 18 0), (3, pp 3 0)] ?_
  refine cK [0, 2, 4] 52 [pp 3 0] 4 ?_
  refine kN Proofs.Tryz.f52 f6_C52 13 [.tmp 2] ?_
  refine qQ ?_
  refine rS 1 [(0, pp 3 0)] ?_
  refine nQ id ?_
  refine rE 11 [(2, .bool true)] id ?_
  refine tV (.bool true) id ?_
  refine eQ id ?_
  refine iT 4 ?_
  refine qE 2 [(2, pp 18 0)] id ?_
  refine tV (.agg #[ii 0, ii 0, ii 0, ii 0]) id ?_
  refine rS 4 [(3, pp 2 0), (7, pp 3 0), (74, s0 4 2), (75, ii 2), (76, ii 1), (113, .bool (!aPk16))] ?_
  rw [b12]
  refine rS 1 [(3, pp 2 0), (7, pp 3 0), (74, s0 4 2), (75, ii 2), (76, ii 1), (113, .bool false), (114, pp 3 0)] ?_
  refine cK [3, 7, 74, 75, 76, 113, 115] 33 [pp 3 0] 115 ?_
  refine kN Proofs.Tryz.f33 f6_C33 12 [.tmp 2] ?_
  refine qE 1 [(0, pp 3 0)] id ?_
  refine sQ ?_
  refine qQ ?_
  refine rS 1 [(0, pp 3 0), (3, pp 3 0)] ?_
  refine cK [0, 4] 52 [pp 3 0] 4 ?_
  refine kN Proofs.Tryz.f52 f6_C52 13 [.tmp 2] ?_
  refine qQ ?_
  refine rS 1 [(0, pp 3 0)] ?_
  refine nQ id ?_
  refine rE 11 [(2, .bool true)] id ?_
  refine tV (.bool true) id ?_
  refine eQ id ?_
  refine iT 4 ?_
  refine qE 1 [(2, .slice none 0 0)] id ?_
  refine XQ.ghost 3 1 rfl (σ' := [(2, s0 19 0)]) (h' := [aPk23, (17, rc encL [] 0 74 3), aPk29, aPk7, aPk26, aPk30, aPk19, aPk4, aPk22, aPk15, aPk1, aPk5, aPk21, aPk12, aPk2, aPk0, (2, .ext (bookX r12.2)), (1, .ext (bookX r7.2)), (0, rc encS lh0_x01 0 9 1)]) ⟨by kernel_rfl, trivial⟩ ⟨⟨_, rfl, .inl rfl⟩, ⟨_, rfl, .inl rfl⟩, ⟨_, rfl, .inl rfl⟩, ⟨_, rfl, .inl rfl⟩, ⟨_, rfl, .inl rfl⟩, ⟨_, rfl, .inl rfl⟩, ⟨_, rfl, .inl rfl⟩, ⟨_, rfl, .inl rfl⟩, ⟨_, rfl, .inl rfl⟩, ⟨_, rfl, .inl rfl⟩, ⟨_, rfl, .inl rfl⟩, ⟨_, rfl, .inl rfl⟩, ⟨_, rfl, .inl rfl⟩, ⟨_, rfl, .inl rfl⟩, ⟨_, rfl, .inl rfl⟩, ⟨_, rfl, .inl rfl⟩, ⟨_, rfl, .inl rfl⟩, ⟨_, rfl, .inl rfl⟩, ⟨_, rfl, .inl rfl⟩, trivial⟩ ?_
  refine XQ.conv (σ' := [(2, s0 19 0)]) (h' := [(19, rc (encI .i64) [] 0 3 1), aPk23, (17, rc encL [] 0 74 3), aPk29, aPk7, aPk26, aPk30, aPk19, aPk4, aPk22, aPk15, aPk1, aPk5, aPk21, aPk12, aPk2, aPk0, (2, .ext (bookX r12.2)), (1, .ext (bookX r7.2)), (0, rc encS lh0_x01 0 9 1)]) (c' := 20) ?_ (by kernel_rfl)
  refine tV (s0 19 0) id ?_
  refine rS 5 [(3, pp 2 0), (7, pp 3 0), (74, s0 4 2), (75, ii 2), (76, ii 1), (119, .bool false), (120, pp 3 0)] ?_
  refine cK [3, 7, 74, 75, 76, 119, 121] 34 [pp 3 0] 121 ?_
  refine kN Proofs.Tryz.f34 f6_C34 10 [.tmp 2] ?_
  refine qE 1 [(0, pp 3 0)] id ?_
  refine sQ ?_
  refine qQ ?_
  refine rS 1 [(0, pp 3 0), (3, pp 3 0)] ?_
  refine cK [0, 4] 52 [pp 3 0] 4 ?_
  refine kN Proofs.Tryz.f52 f6_C52 13 [.tmp 2] ?_
  refine qQ ?_
  refine rS 1 [(0, pp 3 0)] ?_
  refine nQ id ?_
  refine rE 11 [(2, .bool true)] id ?_
  refine tV (.bool true) id ?_
  refine eQ id ?_
  refine iT 4 ?_
  refine qE 1 [(2, ii 0)] id ?_
  refine tV (ii 0) id ?_
  refine rS 4 [(3, pp 2 0), (7, pp 3 0), (74, s0 4 2), (75, ii 2), (76, ii 1), (124, .bool false), (125, pp 3 0)] ?_
  refine cK [3, 7, 74, 75, 76, 124, 126] 35 [pp 3 0] 126 ?_
  refine kN Proofs.Tryz.f35 f6_C35 10 [.tmp 2] ?_
  refine qE 1 [(0, pp 3 0)] id ?_
  refine sQ ?_
  refine qQ ?_
  refine rS 1 [(0, pp 3 0), (3, pp 3 0)] ?_
  refine cK [0, 4] 52 [pp 3 0] 4 ?_
  refine kN Proofs.Tryz.f52 f6_C52 13 [.tmp 2] ?_
  refine qQ ?_
  refine rS 1 [(0, pp 3 0)] ?_
  refine nQ id ?_
  refine rE 11 [(2, .bool true)] id ?_
  refine tV (.bool true) id ?_
  refine eQ id ?_
  refine iT 4 ?_
  refine qE 1 [(2, .slice none 0 0)] id ?_
  refine XQ.ghost 9 1 rfl (σ' := [(2, s0 20 0)]) (h' := [(19, rc (encI .i64) [] 0 3 1), aPk23, (17, rc encL [] 0 74 3), aPk29, aPk7, aPk26, aPk30, aPk19, aPk4, aPk22, aPk15, aPk1, aPk5, aPk21, aPk12, aPk2, aPk0, (2, .ext (bookX r12.2)), (1, .ext (bookX r7.2)), (0, rc encS lh0_x01 0 9 1)]) ⟨by kernel_rfl, trivial⟩ ⟨⟨_, rfl, .inl rfl⟩, ⟨_, rfl, .inl rfl⟩, ⟨_, rfl, .inl rfl⟩, ⟨_, rfl, .inl rfl⟩, ⟨_, rfl, .inl rfl⟩, ⟨_, rfl, .inl rfl⟩, ⟨_, rfl, .inl rfl⟩, ⟨_, rfl, .inl rfl⟩, ⟨_, rfl, .inl rfl⟩, ⟨_, rfl, .inl rfl⟩, ⟨_, rfl, .inl rfl⟩, ⟨_, rfl, .inl rfl⟩, ⟨_, rfl, .inl rfl⟩, ⟨_, rfl, .inl rfl⟩, ⟨_, rfl, .inl rfl⟩, ⟨_, rfl, .inl rfl⟩, ⟨_, rfl, .inl rfl⟩, ⟨_, rfl, .inl rfl⟩, ⟨_, rfl, .inl rfl⟩, ⟨_, rfl, .inl rfl⟩, trivial⟩ ?_
  refine XQ.conv (σ' := [(2, s0 20 0)]) (h' := [(20, rc encS [] 0 9 1), (19, rc (encI .i64) [] 0 3 1), aPk23, (17, rc encL [] 0 74 3), aPk29, aPk7, aPk26, aPk30, aPk19, aPk4, aPk22, aPk15, aPk1, aPk5, aPk21, aPk12, aPk2, aPk0, (2, .ext (bookX r12.2)), (1, .ext (bookX r7.2)), (0, rc encS lh0_x01 0 9 1)]) (c' := 21) ?_ (by kernel_rfl)
  refine tV (s0 20 0) id ?_
  refine rS 5 [(3, pp 2 0), (7, pp 3 0), (74, s0 4 2), (75, ii 2), (76, ii 1), (130, .bool false), (131, pp 3 0)] ?_
  refine cK [3, 7, 74, 75, 76, 130, 132] 27 [pp 3 0] 132 ?_
  refine kN Proofs.Tryz.f27 f6_C27 42 [.tmp 2] ?_
  refine qE 1 [(0, pp 3 0)] id ?_
  refine sQ ?_
  refine qQ ?_
  refine rS 1 [(0, pp 3 0), (6, pp 3 0)] ?_
  refine cK [0, 7] 52 [pp 3 0] 7 ?_
  refine kN Proofs.Tryz.f52 f6_C52 13 [.tmp 2] ?_
  refine qQ ?_
  refine rS 1 [(0, pp 3 0)] ?_
  refine nQ id ?_
  refine rE 11 [(2, .bool true)] id ?_
  refine tV (.bool true) id ?_
  refine eQ id ?_
  refine iT 7 ?_
  refine qE 1 [(2, .pointer none)] id ?_
  refine tV (.pointer none) id ?_
  refine rS 4 [(3, pp 2 0), (74, s0 4 2), (75, ii 2), (76, ii 1), (135, .bool false), (136, pp 3 0)] ?_
  refine cK [3, 74, 75, 76, 135, 137] 25 [pp 3 0] 137 ?_
  refine kN Proofs.Tryz.f25 f6_C25 37 [.tmp 2] ?_
  refine qE 1 [(0, pp 3 0)] id ?_
  refine sQ ?_
  refine qQ ?_
  refine rS 1 [(0, pp 3 0), (6, pp 3 0)] ?_
  refine cK [0, 7] 52 [pp 3 0] 7 ?_
  refine kN Proofs.Tryz.f52 f6_C52 13 [.tmp 2] ?_
  refine qQ ?_
  refine rS 1 [(0, pp 3 0)] ?_
  refine nQ id ?_
  refine rE 11 [(2, .bool true)] id ?_
  refine tV (.bool true) id ?_
  refine eQ id ?_
  refine iT 7 ?_
  refine qE 1 [(2, .string (bs []))] id ?_
  refine tV (.string (bs [])) id ?_
  refine rE 2 [(3, pp 2 0), (74, s0 4 2), (75, ii 2), (76, ii 1), (139, .bool false)] id ?_
  refine iK 139 id ?_
  refine rQ ?_
  refine rS 2 [(3, pp 2 0), (74, s0 4 2), (75, ii 2), (76, ii 2)] ?_
  refine dQ ?_
  show XL _ _ _ _ _ _ _ _ _
  obtain ⟨o4, o4_h, h⟩ := bS h
  refine nL [(3, pp 0 0), (74, s0 1 2), (75, ii 2), (76, ii 2)] [(4, rc encS [] 0 9 1), (3, rc encSt [] 0 50 10), (2, .cells [ii 0, .map none, ii 0, ii 0, ii 0, ii 0, ii 0, ii 0, .map none, ii 0, s0 3 0, s0 4 0] 0 53 0), (1, .cells [.pointer none, pp 2 0] 0 25 1), (0, .ext (bookX r12.2))] 5 [2, 4, 3, 5, 6] ?_
  refine XL.conv (f6_4_ok m m r12.2 o4 o4_h _ ?_) (by first | with_reducible rfl | simp | rfl)
  show XQ _ _ _ _ _ _ _ _
  refine sQ ?_
  refine qE 1 [(3, pp 0 0), (141, ii 0)] id ?_
  refine XQ.block (id := 2) (by kernel_rfl) ?_
  refine XQ.loop m (by kernel_rfl) ?_
  obtain ⟨o5, o5_h, h⟩ := bS h
  refine nL [(3, pp 0 0), (141, ii 0)] [(0, .ext (bookX o4))] 1 [0] ?_
  cases o5 with
  | r =>
   dsimp only at h
   refine XL.conv (f6_5_ok m m 0 o4 (.r) o5_h _ ?_) (by first | with_reducible rfl | simp | rfl)
   obtain rfl := sI h
   exact ⟨fun i q => (by cases q), .bool false, (by kernel_rfl), rfl⟩
  | x2 kh0_x25 =>
   dsimp only at h
   refine XL.conv (f6_5_ok m m 0 o4 (.x2 kh0_x25) o5_h _ ?_) (by first | with_reducible rfl | simp | rfl)
   show XQ _ _ _ _ _ _ _ _
   refine qQ ?_
   refine cA [3, 148] 148 [ii 0] (new_no (show okN 0 = false from rfl)) ?_
   refine rS 5 [(3, pp 0 0), (11, ii newE)] ?_
   refine nQ id ?_
   refine cA [3, 11, 152] 152 [ii 9] (new_no (show okN 9 = false from rfl)) ?_
   refine rS 5 [(3, pp 0 0), (11, ii newE), (13, ii newE)] ?_
   refine nQ id ?_
   obtain ⟨r16, r16_h, h⟩ := bS h
   cases r16_e : r16.2 with
   | some r17 =>
    rw [r16_e] at h
    refine cQ [3, 11, 13, 156] 156 (KC.ofN (g := fun u => .tuple #[u, ii r16.1]) (q := bookX r17) rfl g_ok (read_cn r16_h r16_e)) ?_
    refine rS 5 [(3, pp 0 0), (11, ii newE), (13, ii newE), (15, ii r16.1)] ?_
    refine nQ id ?_
    obtain ⟨r18, r18_h, h⟩ := bS h
    cases r18_e : r18.2 with
    | some r19 =>
     rw [r18_e] at h
     refine cQ [3, 11, 13, 15, 160] 160 (KC.ofN (g := fun u => .tuple #[u, ii r18.1]) (q := bookX r19) rfl g_ok (read_cn r18_h r18_e)) ?_
     refine rS 5 [(3, pp 0 0), (11, ii newE), (13, ii newE), (15, ii r16.1), (17, ii r18.1)] ?_
     refine nQ id ?_
     refine rS 1 [(3, pp 0 0), (11, ii newE), (13, ii newE), (15, ii r16.1), (17, ii r18.1), (163, pp 0 0)] ?_
     obtain ⟨r20, r20_h, h⟩ := bS h
     refine cQ [3, 11, 13, 15, 17, 164] 164 (KC.ofX rfl rfl (tell_cx r20_h) (i := 0) (by kernel_rfl) rfl) ?_
     refine rS 2 [(3, pp 0 0), (11, ii newE), (13, ii newE), (15, ii r16.1), (17, ii r18.1), (166, .bool (r20.1 == 19))] ?_
     cases b15 : (r20.1 == 19 : Bool)
     case false =>
      have h := cF b15 h
      refine rE 52 [aPk3] id ?_
      obtain rfl := sI h
      exact tV (.bool false) id rfl
     have h := cT b15 h
     refine rS 1 [(3, pp 0 0), (11, ii newE), (13, ii newE), (15, ii r16.1), (17, ii r18.1), (166, .bool true), (167, pp 0 0)] ?_
     obtain ⟨r21, r21_h, h⟩ := bS h
     refine cQ [3, 11, 13, 15, 17, 166, 168] 168 (KC.ofX rfl rfl (tell_cx r21_h) (i := 0) (by kernel_rfl) rfl) ?_
     refine rS 3 [(3, pp 0 0), (11, ii newE), (13, ii newE), (15, ii r16.1), (17, ii r18.1), (171, .bool (r21.1 == 10))] ?_
     cases b16 : (r21.1 == 10 : Bool)
     case false =>
      have h := cF b16 h
      refine rE 47 [aPk3] id ?_
      obtain rfl := sI h
      exact tV (.bool false) id rfl
     have h := cT b16 h
     refine rS 1 [(3, pp 0 0), (11, ii newE), (13, ii newE), (15, ii r16.1), (17, ii r18.1), (171, .bool true), (172, pp 0 0)] ?_
     obtain ⟨r22, r22_h, h⟩ := bS h
     refine cQ [3, 11, 13, 15, 17, 171, 173] 173 (KC.ofX rfl rfl (tell_cx r22_h) (i := 0) (by kernel_rfl) rfl) ?_
     refine rS 3 [(3, pp 0 0), (11, ii newE), (13, ii newE), (15, ii r16.1), (17, ii r18.1), (176, .bool (r22.1 == 0))] ?_
     cases b17 : (r22.1 == 0 : Bool)
     case false =>
      have h := cF b17 h
      refine rE 42 [aPk3] id ?_
      obtain rfl := sI h
      exact tV (.bool false) id rfl
     have h := cT b17 h
     refine rS 1 [(3, pp 0 0), (11, ii newE), (13, ii newE), (15, ii r16.1), (17, ii r18.1), (176, .bool true), (177, pp 0 0)] ?_
     obtain ⟨r23, r23_h, h⟩ := bS h
     refine cQ [3, 11, 13, 15, 17, 176, 178] 178 (KC.ofX rfl rfl (tell_cx r23_h) (i := 0) (by kernel_rfl) rfl) ?_
     refine rS 3 [(3, pp 0 0), (11, ii newE), (13, ii newE), (15, ii r16.1), (17, ii r18.1), (181, .bool (r23.1 == 0))] ?_
     cases b18 : (r23.1 == 0 : Bool)
     case false =>
      have h := cF b18 h
      refine rE 37 [aPk3] id ?_
      obtain rfl := sI h
      exact tV (.bool false) id rfl
     have h := cT b18 h
     refine rS 1 [(11, ii newE), (13, ii newE), (15, ii r16.1), (17, ii r18.1), (181, .bool true), (182, pp 0 0)] ?_
     refine cQ [11, 13, 15, 17, 181, 183] 183 (KC.ofV rfl rfl (stamps_cx r23.2) (i := 0) (by kernel_rfl)) ?_
     refine rS 4 [(11, ii newE), (13, ii newE), (15, ii r16.1), (17, ii r18.1), (187, .bool (((stampsS r23.2).1) == 1989801))] ?_
     cases b19 : (((stampsS r23.2).1) == 1989801 : Bool)
     case false =>
      have h := cF b19 h
      refine rE 31 [aPk3] id ?_
      obtain rfl := sI h
      exact tV (.bool false) id rfl
     have h := cT b19 h
     refine rS 4 [(13, ii newE), (15, ii r16.1), (17, ii r18.1), (191, .bool (newE == 1))] ?_
     cases b20 : (newE == 1 : Bool)
     case false =>
      have h := cF b20 h
      refine rE 27 [aPk3] id ?_
      obtain rfl := sI h
      exact tV (.bool false) id rfl
     have h := cT b20 h
     refine rS 4 [(15, ii r16.1), (17, ii r18.1), (195, .bool (newE == 1))] ?_
     rw [b20]
     refine rS 4 [(17, ii r18.1), (199, .bool (r16.1 == 9))] ?_
     cases b21 : (r16.1 == 9 : Bool)
     case false =>
      have h := cF b21 h
      refine rE 19 [aPk3] id ?_
      obtain rfl := sI h
      exact tV (.bool false) id rfl
     have h := cT b21 h
     refine rS 4 [(203, .bool (r18.1 == 9))] ?_
     cases b22 : (r18.1 == 9 : Bool)
     case false =>
      have h := cF b22 h
      refine rE 15 [aPk3] id ?_
      obtain rfl := sI h
      exact tV (.bool false) id rfl
     have h := cT b22 h
     obtain ⟨r24, r24_h, h⟩ := bS h
     refine cQ [203, 204] 204 (KC.of_calls E0_ok (F := Proofs.Tryz.f20) (v := ii r24) (by kernel_rfl) rfl rfl (fun w hI => f20_ok m aPk14 r24 r24_h w hI)) ?_
     refine rS 3 [(207, .bool (r24 == 0))] ?_
     cases b23 : (r24 == 0 : Bool)
     case false =>
      have h := cF b23 h
      refine rE 11 [aPk3] id ?_
      obtain rfl := sI h
      exact tV (.bool false) id rfl
     have h := cT b23 h
     obtain ⟨r25, r25_h, h⟩ := bS h
     refine cQ [207, 208] 208 (KC.of_calls E0_ok (F := Proofs.Tryz.f20) (v := ii r25) (by kernel_rfl) rfl rfl (fun w hI => f20_ok m aPk6 r25 r25_h w hI)) ?_
     refine rS 3 [(211, .bool (r25 == 10))] ?_
     cases b24 : (r25 == 10 : Bool)
     case false =>
      have h := cF b24 h
      refine rE 7 [aPk3] id ?_
      obtain rfl := sI h
      exact tV (.bool false) id rfl
     have h := cT b24 h
     obtain ⟨r26, r26_h, h⟩ := bS h
     refine cQ [211, 212] 212 (KC.of_calls E0_ok (F := Proofs.Tryz.f20) (v := ii r26) (by kernel_rfl) rfl rfl (fun w hI => f20_ok m aPk18 r26 r26_h w hI)) ?_
     refine rS 3 [(215, .bool (r26 == 10))] ?_
     cases b25 : (r26 == 10 : Bool)
     case false =>
      have h := cF b25 h
      refine rE 3 [aPk3] id ?_
      obtain rfl := sI h
      exact tV (.bool false) id rfl
     have h := cT b25 h
     refine cQ [215, 216] 216 (KC.of_calls E0_ok (F := Proofs.Tryz.f15) (v := .bool true) (by kernel_rfl) rfl rfl (works_ok)) ?_
     refine rE 2 [(0, .bool true)] id ?_
     obtain rfl := sI h
     exact tV (.bool true) id rfl
    | none =>
     rw [r18_e] at h
     refine cA [3, 11, 13, 15, 160] 160 [.string aPk13] (read_no r18_h r18_e) ?_
     refine rS 5 [(3, pp 0 0), (11, ii newE), (13, ii newE), (15, ii r16.1), (17, ii r18.1)] ?_
     refine nQ id ?_
     refine rS 1 [(3, pp 0 0), (11, ii newE), (13, ii newE), (15, ii r16.1), (17, ii r18.1), (163, pp 0 0)] ?_
     obtain ⟨r27, r27_h, h⟩ := bS h
     refine cQ [3, 11, 13, 15, 17, 164] 164 (KC.ofX rfl rfl (tell_cx r27_h) (i := 0) (by kernel_rfl) rfl) ?_
     refine rS 2 [(3, pp 0 0), (11, ii newE), (13, ii newE), (15, ii r16.1), (17, ii r18.1), (166, .bool (r27.1 == 19))] ?_
     cases b26 : (r27.1 == 19 : Bool)
     case false =>
      have h := cF b26 h
      refine rE 52 [aPk3] id ?_
      obtain rfl := sI h
      exact tV (.bool false) id rfl
     have h := cT b26 h
     refine rS 1 [(3, pp 0 0), (11, ii newE), (13, ii newE), (15, ii r16.1), (17, ii r18.1), (166, .bool true), (167, pp 0 0)] ?_
     obtain ⟨r28, r28_h, h⟩ := bS h
     refine cQ [3, 11, 13, 15, 17, 166, 168] 168 (KC.ofX rfl rfl (tell_cx r28_h) (i := 0) (by kernel_rfl) rfl) ?_
     refine rS 3 [(3, pp 0 0), (11, ii newE), (13, ii newE), (15, ii r16.1), (17, ii r18.1), (171, .bool (r28.1 == 10))] ?_
     cases b27 : (r28.1 == 10 : Bool)
     case false =>
      have h := cF b27 h
      refine rE 47 [aPk3] id ?_
      obtain rfl := sI h
      exact tV (.bool false) id rfl
     have h := cT b27 h
     refine rS 1 [(3, pp 0 0), (11, ii newE), (13, ii newE), (15, ii r16.1), (17, ii r18.1), (171, .bool true), (172, pp 0 0)] ?_
     obtain ⟨r29, r29_h, h⟩ := bS h
     refine cQ [3, 11, 13, 15, 17, 171, 173] 173 (KC.ofX rfl rfl (tell_cx r29_h) (i := 0) (by kernel_rfl) rfl) ?_
     refine rS 3 [(3, pp 0 0), (11, ii newE), (13, ii newE), (15, ii r16.1), (17, ii r18.1), (176, .bool (r29.1 == 0))] ?_
     cases b28 : (r29.1 == 0 : Bool)
     case false =>
      have h := cF b28 h
      refine rE 42 [aPk3] id ?_
      obtain rfl := sI h
      exact tV (.bool false) id rfl
     have h := cT b28 h
     refine rS 1 [(3, pp 0 0), (11, ii newE), (13, ii newE), (15, ii r16.1), (17, ii r18.1), (176, .bool true), (177, pp 0 0)] ?_
     obtain ⟨r30, r30_h, h⟩ := bS h
     refine cQ [3, 11, 13, 15, 17, 176, 178] 178 (KC.ofX rfl rfl (tell_cx r30_h) (i := 0) (by kernel_rfl) rfl) ?_
     refine rS 3 [(3, pp 0 0), (11, ii newE), (13, ii newE), (15, ii r16.1), (17, ii r18.1), (181, .bool (r30.1 == 0))] ?_
     cases b29 : (r30.1 == 0 : Bool)
     case false =>
      have h := cF b29 h
      refine rE 37 [aPk3] id ?_
      obtain rfl := sI h
      exact tV (.bool false) id rfl
     have h := cT b29 h
     refine rS 1 [(11, ii newE), (13, ii newE), (15, ii r16.1), (17, ii r18.1), (181, .bool true), (182, pp 0 0)] ?_
     refine cQ [11, 13, 15, 17, 181, 183] 183 (KC.ofV rfl rfl (stamps_cx r30.2) (i := 0) (by kernel_rfl)) ?_
     refine rS 4 [(11, ii newE), (13, ii newE), (15, ii r16.1), (17, ii r18.1), (187, .bool (((stampsS r30.2).1) == 1989801))] ?_
     cases b30 : (((stampsS r30.2).1) == 1989801 : Bool)
     case false =>
      have h := cF b30 h
      refine rE 31 [aPk3] id ?_
      obtain rfl := sI h
      exact tV (.bool false) id rfl
     have h := cT b30 h
     refine rS 4 [(13, ii newE), (15, ii r16.1), (17, ii r18.1), (191, .bool (newE == 1))] ?_
     cases b31 : (newE == 1 : Bool)
     case false =>
      have h := cF b31 h
      refine rE 27 [aPk3] id ?_
      obtain rfl := sI h
      exact tV (.bool false) id rfl
     have h := cT b31 h
     refine rS 4 [(15, ii r16.1), (17, ii r18.1), (195, .bool (newE == 1))] ?_
     rw [b31]
     refine rS 4 [(17, ii r18.1), (199, .bool (r16.1 == 9))] ?_
     cases b32 : (r16.1 == 9 : Bool)
     case false =>
      have h := cF b32 h
      refine rE 19 [aPk3] id ?_
      obtain rfl := sI h
      exact tV (.bool false) id rfl
     have h := cT b32 h
     refine rS 4 [(203, .bool (r18.1 == 9))] ?_
     cases b33 : (r18.1 == 9 : Bool)
     case false =>
      have h := cF b33 h
      refine rE 15 [aPk3] id ?_
      obtain rfl := sI h
      exact tV (.bool false) id rfl
     have h := cT b33 h
     obtain ⟨r31, r31_h, h⟩ := bS h
     refine cQ [203, 204] 204 (KC.of_calls E0_ok (F := Proofs.Tryz.f20) (v := ii r31) (by kernel_rfl) rfl rfl (fun w hI => f20_ok m aPk14 r31 r31_h w hI)) ?_
     refine rS 3 [(207, .bool (r31 == 0))] ?_
     cases b34 : (r31 == 0 : Bool)
     case false =>
      have h := cF b34 h
      refine rE 11 [aPk3] id ?_
      obtain rfl := sI h
      exact tV (.bool false) id rfl
     have h := cT b34 h
     obtain ⟨r32, r32_h, h⟩ := bS h
     refine cQ [207, 208] 208 (KC.of_calls E0_ok (F := Proofs.Tryz.f20) (v := ii r32) (by kernel_rfl) rfl rfl (fun w hI => f20_ok m aPk6 r32 r32_h w hI)) ?_
     refine rS 3 [(211, .bool (r32 == 10))] ?_
     cases b35 : (r32 == 10 : Bool)
     case false =>
      have h := cF b35 h
      refine rE 7 [aPk3] id ?_
      obtain rfl := sI h
      exact tV (.bool false) id rfl
     have h := cT b35 h
     obtain ⟨r33, r33_h, h⟩ := bS h
     refine cQ [211, 212] 212 (KC.of_calls E0_ok (F := Proofs.Tryz.f20) (v := ii r33) (by kernel_rfl) rfl rfl (fun w hI => f20_ok m aPk18 r33 r33_h w hI)) ?_
     refine rS 3 [(215, .bool (r33 == 10))] ?_
     cases b36 : (r33 == 10 : Bool)
     case false =>
      have h := cF b36 h
      refine rE 3 [aPk3] id ?_
      obtain rfl := sI h
      exact tV (.bool false) id rfl
     have h := cT b36 h
     refine cQ [215, 216] 216 (KC.of_calls E0_ok (F := Proofs.Tryz.f15) (v := .bool true) (by kernel_rfl) rfl rfl (works_ok)) ?_
     refine rE 2 [(0, .bool true)] id ?_
     obtain rfl := sI h
     exact tV (.bool true) id rfl
   | none =>
    rw [r16_e] at h
    refine cA [3, 11, 13, 156] 156 [.string (bs [])] (read_no r16_h r16_e) ?_
    refine rS 5 [(3, pp 0 0), (11, ii newE), (13, ii newE), (15, ii r16.1)] ?_
    refine nQ id ?_
    obtain ⟨r34, r34_h, h⟩ := bS h
    cases r34_e : r34.2 with
    | some r35 =>
     rw [r34_e] at h
     refine cQ [3, 11, 13, 15, 160] 160 (KC.ofN (g := fun u => .tuple #[u, ii r34.1]) (q := bookX r35) rfl g_ok (read_cn r34_h r34_e)) ?_
     refine rS 5 [(3, pp 0 0), (11, ii newE), (13, ii newE), (15, ii r16.1), (17, ii r34.1)] ?_
     refine nQ id ?_
     refine rS 1 [(3, pp 0 0), (11, ii newE), (13, ii newE), (15, ii r16.1), (17, ii r34.1), (163, pp 0 0)] ?_
     obtain ⟨r36, r36_h, h⟩ := bS h
     refine cQ [3, 11, 13, 15, 17, 164] 164 (KC.ofX rfl rfl (tell_cx r36_h) (i := 0) (by kernel_rfl) rfl) ?_
     refine rS 2 [(3, pp 0 0), (11, ii newE), (13, ii newE), (15, ii r16.1), (17, ii r34.1), (166, .bool (r36.1 == 19))] ?_
     cases b37 : (r36.1 == 19 : Bool)
     case false =>
      have h := cF b37 h
      refine rE 52 [aPk3] id ?_
      obtain rfl := sI h
      exact tV (.bool false) id rfl
     have h := cT b37 h
     refine rS 1 [(3, pp 0 0), (11, ii newE), (13, ii newE), (15, ii r16.1), (17, ii r34.1), (166, .bool true), (167, pp 0 0)] ?_
     obtain ⟨r37, r37_h, h⟩ := bS h
     refine cQ [3, 11, 13, 15, 17, 166, 168] 168 (KC.ofX rfl rfl (tell_cx r37_h) (i := 0) (by kernel_rfl) rfl) ?_
     refine rS 3 [(3, pp 0 0), (11, ii newE), (13, ii newE), (15, ii r16.1), (17, ii r34.1), (171, .bool (r37.1 == 10))] ?_
     cases b38 : (r37.1 == 10 : Bool)
     case false =>
      have h := cF b38 h
      refine rE 47 [aPk3] id ?_
      obtain rfl := sI h
      exact tV (.bool false) id rfl
     have h := cT b38 h
     refine rS 1 [(3, pp 0 0), (11, ii newE), (13, ii newE), (15, ii r16.1), (17, ii r34.1), (171, .bool true), (172, pp 0 0)] ?_
     obtain ⟨r38, r38_h, h⟩ := bS h
     refine cQ [3, 11, 13, 15, 17, 171, 173] 173 (KC.ofX rfl rfl (tell_cx r38_h) (i := 0) (by kernel_rfl) rfl) ?_
     refine rS 3 [(3, pp 0 0), (11, ii newE), (13, ii newE), (15, ii r16.1), (17, ii r34.1), (176, .bool (r38.1 == 0))] ?_
     cases b39 : (r38.1 == 0 : Bool)
     case false =>
      have h := cF b39 h
      refine rE 42 [aPk3] id ?_
      obtain rfl := sI h
      exact tV (.bool false) id rfl
     have h := cT b39 h
     refine rS 1 [(3, pp 0 0), (11, ii newE), (13, ii newE), (15, ii r16.1), (17, ii r34.1), (176, .bool true), (177, pp 0 0)] ?_
     obtain ⟨r39, r39_h, h⟩ := bS h
     refine cQ [3, 11, 13, 15, 17, 176, 178] 178 (KC.ofX rfl rfl (tell_cx r39_h) (i := 0) (by kernel_rfl) rfl) ?_
     refine rS 3 [(3, pp 0 0), (11, ii newE), (13, ii newE), (15, ii r16.1), (17, ii r34.1), (181, .bool (r39.1 == 0))] ?_
     cases b40 : (r39.1 == 0 : Bool)
     case false =>
      have h := cF b40 h
      refine rE 37 [aPk3] id ?_
      obtain rfl := sI h
      exact tV (.bool false) id rfl
     have h := cT b40 h
     refine rS 1 [(11, ii newE), (13, ii newE), (15, ii r16.1), (17, ii r34.1), (181, .bool true), (182, pp 0 0)] ?_
     refine cQ [11, 13, 15, 17, 181, 183] 183 (KC.ofV rfl rfl (stamps_cx r39.2) (i := 0) (by kernel_rfl)) ?_
     refine rS 4 [(11, ii newE), (13, ii newE), (15, ii r16.1), (17, ii r34.1), (187, .bool (((stampsS r39.2).1) == 1989801))] ?_
     cases b41 : (((stampsS r39.2).1) == 1989801 : Bool)
     case false =>
      have h := cF b41 h
      refine rE 31 [aPk3] id ?_
      obtain rfl := sI h
      exact tV (.bool false) id rfl
     have h := cT b41 h
     refine rS 4 [(13, ii newE), (15, ii r16.1), (17, ii r34.1), (191, .bool (newE == 1))] ?_
     cases b42 : (newE == 1 : Bool)
     case false =>
      have h := cF b42 h
      refine rE 27 [aPk3] id ?_
      obtain rfl := sI h
      exact tV (.bool false) id rfl
     have h := cT b42 h
     refine rS 4 [(15, ii r16.1), (17, ii r34.1), (195, .bool (newE == 1))] ?_
     rw [b42]
     refine rS 4 [(17, ii r34.1), (199, .bool (r16.1 == 9))] ?_
     cases b43 : (r16.1 == 9 : Bool)
     case false =>
      have h := cF b43 h
      refine rE 19 [aPk3] id ?_
      obtain rfl := sI h
      exact tV (.bool false) id rfl
     have h := cT b43 h
     refine rS 4 [(203, .bool (r34.1 == 9))] ?_
     cases b44 : (r34.1 == 9 : Bool)
     case false =>
      have h := cF b44 h
      refine rE 15 [aPk3] id ?_
      obtain rfl := sI h
      exact tV (.bool false) id rfl
     have h := cT b44 h
     obtain ⟨r40, r40_h, h⟩ := bS h
     refine cQ [203, 204] 204 (KC.of_calls E0_ok (F := Proofs.Tryz.f20) (v := ii r40) (by kernel_rfl) rfl rfl (fun w hI => f20_ok m aPk14 r40 r40_h w hI)) ?_
     refine rS 3 [(207, .bool (r40 == 0))] ?_
     cases b45 : (r40 == 0 : Bool)
     case false =>
      have h := cF b45 h
      refine rE 11 [aPk3] id ?_
      obtain rfl := sI h
      exact tV (.bool false) id rfl
     have h := cT b45 h
     obtain ⟨r41, r41_h, h⟩ := bS h
     refine cQ [207, 208] 208 (KC.of_calls E0_ok (F := Proofs.Tryz.f20) (v := ii r41) (by kernel_rfl) rfl rfl (fun w hI => f20_ok m aPk6 r41 r41_h w hI)) ?_
     refine rS 3 [(211, .bool (r41 == 10))] ?_
     cases b46 : (r41 == 10 : Bool)
     case false =>
      have h := cF b46 h
      refine rE 7 [aPk3] id ?_
      obtain rfl := sI h
      exact tV (.bool false) id rfl
     have h := cT b46 h
     obtain ⟨r42, r42_h, h⟩ := bS h
     refine cQ [211, 212] 212 (KC.of_calls E0_ok (F := Proofs.Tryz.f20) (v := ii r42) (by kernel_rfl) rfl rfl (fun w hI => f20_ok m aPk18 r42 r42_h w hI)) ?_
     refine rS 3 [(215, .bool (r42 == 10))] ?_
     cases b47 : (r42 == 10 : Bool)
     case false =>
      have h := cF b47 h
      refine rE 3 [aPk3] id ?_
      obtain rfl := sI h
      exact tV (.bool false) id rfl
     have h := cT b47 h
     refine cQ [215, 216] 216 (KC.of_calls E0_ok (F := Proofs.Tryz.f15) (v := .bool true) (by kernel_rfl) rfl rfl (works_ok)) ?_
     refine rE 2 [(0, .bool true)] id ?_
     obtain rfl := sI h
     exact tV (.bool true) id rfl
    | none =>
     rw [r34_e] at h
     refine cA [3, 11, 13, 15, 160] 160 [.string aPk13] (read_no r34_h r34_e) ?_
     refine rS 5 [(3, pp 0 0), (11, ii newE), (13, ii newE), (15, ii r16.1), (17, ii r34.1)] ?_
     refine nQ id ?_
     refine rS 1 [(3, pp 0 0), (11, ii newE), (13, ii newE), (15, ii r16.1), (17, ii r34.1), (163, pp 0 0)] ?_
     obtain ⟨r43, r43_h, h⟩ := bS h
     refine cQ [3, 11, 13, 15, 17, 164] 164 (KC.ofX rfl rfl (tell_cx r43_h) (i := 0) (by kernel_rfl) rfl) ?_
     refine rS 2 [(3, pp 0 0), (11, ii newE), (13, ii newE), (15, ii r16.1), (17, ii r34.1), (166, .bool (r43.1 == 19))] ?_
     cases b48 : (r43.1 == 19 : Bool)
     case false =>
      have h := cF b48 h
      refine rE 52 [aPk3] id ?_
      obtain rfl := sI h
      exact tV (.bool false) id rfl
     have h := cT b48 h
     refine rS 1 [(3, pp 0 0), (11, ii newE), (13, ii newE), (15, ii r16.1), (17, ii r34.1), (166, .bool true), (167, pp 0 0)] ?_
     obtain ⟨r44, r44_h, h⟩ := bS h
     refine cQ [3, 11, 13, 15, 17, 166, 168] 168 (KC.ofX rfl rfl (tell_cx r44_h) (i := 0) (by kernel_rfl) rfl) ?_
     refine rS 3 [(3, pp 0 0), (11, ii newE), (13, ii newE), (15, ii r16.1), (17, ii r34.1), (171, .bool (r44.1 == 10))] ?_
     cases b49 : (r44.1 == 10 : Bool)
     case false =>
      have h := cF b49 h
      refine rE 47 [aPk3] id ?_
      obtain rfl := sI h
      exact tV (.bool false) id rfl
     have h := cT b49 h
     refine rS 1 [(3, pp 0 0), (11, ii newE), (13, ii newE), (15, ii r16.1), (17, ii r34.1), (171, .bool true), (172, pp 0 0)] ?_
     obtain ⟨r45, r45_h, h⟩ := bS h
     refine cQ [3, 11, 13, 15, 17, 171, 173] 173 (KC.ofX rfl rfl (tell_cx r45_h) (i := 0) (by kernel_rfl) rfl) ?_
     refine rS 3 [(3, pp 0 0), (11, ii newE), (13, ii newE), (15, ii r16.1), (17, ii r34.1), (176, .bool (r45.1 == 0))] ?_
     cases b50 : (r45.1 == 0 : Bool)
     case false =>
      have h := cF b50 h
      refine rE 42 [aPk3] id ?_
      obtain rfl := sI h
      exact tV (.bool false) id rfl
     have h := cT b50 h
     refine rS 1 [(3, pp 0 0), (11, ii newE), (13, ii newE), (15, ii r16.1), (17, ii r34.1), (176, .bool true), (177, pp 0 0)] ?_
     obtain ⟨r46, r46_h, h⟩ := bS h
     refine cQ [3, 11, 13, 15, 17, 176, 178] 178 (KC.ofX rfl rfl (tell_cx r46_h) (i := 0) (by kernel_rfl) rfl) ?_
     refine rS 3 [(3, pp 0 0), (11, ii newE), (13, ii newE), (15, ii r16.1), (17, ii r34.1), (181, .bool (r46.1 == 0))] ?_
     cases b51 : (r46.1 == 0 : Bool)
     case false =>
      have h := cF b51 h
      refine rE 37 [aPk3] id ?_
      obtain rfl := sI h
      exact tV (.bool false) id rfl
     have h := cT b51 h
     refine rS 1 [(11, ii newE), (13, ii newE), (15, ii r16.1), (17, ii r34.1), (181, .bool true), (182, pp 0 0)] ?_
     refine cQ [11, 13, 15, 17, 181, 183] 183 (KC.ofV rfl rfl (stamps_cx r46.2) (i := 0) (by kernel_rfl)) ?_
     refine rS 4 [(11, ii newE), (13, ii newE), (15, ii r16.1), (17, ii r34.1), (187, .bool (((stampsS r46.2).1) == 1989801))] ?_
     cases b52 : (((stampsS r46.2).1) == 1989801 : Bool)
     case false =>
      have h := cF b52 h
      refine rE 31 [aPk3] id ?_
      obtain rfl := sI h
      exact tV (.bool false) id rfl
     have h := cT b52 h
     refine rS 4 [(13, ii newE), (15, ii r16.1), (17, ii r34.1), (191, .bool (newE == 1))] ?_
     cases b53 : (newE == 1 : Bool)
     case false =>
      have h := cF b53 h
      refine rE 27 [aPk3] id ?_
      obtain rfl := sI h
      exact tV (.bool false) id rfl
     have h := cT b53 h
     refine rS 4 [(15, ii r16.1), (17, ii r34.1), (195, .bool (newE == 1))] ?_
     rw [b53]
     refine rS 4 [(17, ii r34.1), (199, .bool (r16.1 == 9))] ?_
     cases b54 : (r16.1 == 9 : Bool)
     case false =>
      have h := cF b54 h
      refine rE 19 [aPk3] id ?_
      obtain rfl := sI h
      exact tV (.bool false) id rfl
     have h := cT b54 h
     refine rS 4 [(203, .bool (r34.1 == 9))] ?_
     cases b55 : (r34.1 == 9 : Bool)
     case false =>
      have h := cF b55 h
      refine rE 15 [aPk3] id ?_
      obtain rfl := sI h
      exact tV (.bool false) id rfl
     have h := cT b55 h
     obtain ⟨r47, r47_h, h⟩ := bS h
     refine cQ [203, 204] 204 (KC.of_calls E0_ok (F := Proofs.Tryz.f20) (v := ii r47) (by kernel_rfl) rfl rfl (fun w hI => f20_ok m aPk14 r47 r47_h w hI)) ?_
     refine rS 3 [(207, .bool (r47 == 0))] ?_
     cases b56 : (r47 == 0 : Bool)
     case false =>
      have h := cF b56 h
      refine rE 11 [aPk3] id ?_
      obtain rfl := sI h
      exact tV (.bool false) id rfl
     have h := cT b56 h
     obtain ⟨r48, r48_h, h⟩ := bS h
     refine cQ [207, 208] 208 (KC.of_calls E0_ok (F := Proofs.Tryz.f20) (v := ii r48) (by kernel_rfl) rfl rfl (fun w hI => f20_ok m aPk6 r48 r48_h w hI)) ?_
     refine rS 3 [(211, .bool (r48 == 10))] ?_
     cases b57 : (r48 == 10 : Bool)
     case false =>
      have h := cF b57 h
      refine rE 7 [aPk3] id ?_
      obtain rfl := sI h
      exact tV (.bool false) id rfl
     have h := cT b57 h
     obtain ⟨r49, r49_h, h⟩ := bS h
     refine cQ [211, 212] 212 (KC.of_calls E0_ok (F := Proofs.Tryz.f20) (v := ii r49) (by kernel_rfl) rfl rfl (fun w hI => f20_ok m aPk18 r49 r49_h w hI)) ?_
     refine rS 3 [(215, .bool (r49 == 10))] ?_
     cases b58 : (r49 == 10 : Bool)
     case false =>
      have h := cF b58 h
      refine rE 3 [aPk3] id ?_
      obtain rfl := sI h
      exact tV (.bool false) id rfl
     have h := cT b58 h
     refine cQ [215, 216] 216 (KC.of_calls E0_ok (F := Proofs.Tryz.f15) (v := .bool true) (by kernel_rfl) rfl rfl (works_ok)) ?_
     refine rE 2 [(0, .bool true)] id ?_
     obtain rfl := sI h
     exact tV (.bool true) id rfl
end Go.Xm
