/- What functions of the program compute, and the proofs. Conditions: the library's variables hold what their texts lay. -/
import Derived.Test.YtglkjlafglpalaaGreatDoorWe
import Derived.Test.YtglkjlafglpalaaGreatDoorEw
namespace Go.Xm
open Go.RowKit
set_option linter.unusedVariables false
set_option linter.unusedSimpArgs false
set_option maxRecDepth 20000
set_option maxHeartbeats 4000000
noncomputable def f15_C15 : Code := Proofs.Tryz.f15.body.getD .skip
noncomputable def f15_C28 : Code := Proofs.Tryz.f28.body.getD .skip
noncomputable def f15_L1 : Code := lft (lft (rgt (lft (rgt (rgt (rgt f15_C28))))))
inductive Of15_1 where
 | r (lh0_r1 : List ByteArray)
 | x0 (Ti : List ByteArray) (U : BkS)
def f15_1 (m : Nat) : Nat → Int → List ByteArray → BkS → Option Of15_1
 | 0, _, _, _ => none
 | fuel + 1, Tj, Tk, kh1_1 =>
  cond (decide (Tj < ((Tk.length : Nat) : Int))) (
   cond (inRow Tj Tk.length) (
    (tellS m kh1_1 (List.getD Tk (Int.toNat Tj) (bs []))).bind fun r4 =>
     cond (r4.1 != 0) (
      some (.r Tk)
     ) (
      f15_1 m fuel (w64 (Tj + 1)) Tk r4.2
     )
   ) none
  ) (
   some (.x0 Tk kh1_1)
  )
theorem f15_1_ok (m : Nat) : ∀ (fuel : Nat) (Tj : Int) (Tk : List ByteArray) (kh1_1 : BkS) (o : Of15_1), f15_1 m fuel Tj Tk kh1_1 = some o → ∀ Q : QP, (match o with | .r lh0_r1 => Q .ret [(4, .pointer none), (5, .bool false)] [(0, rc encS lh0_r1 0 9 1)] 1 | .x0 Ti U => Q (.exit 0) [(6, pp 1 0)] [(1, .ext (bookX U)), (0, rc encS Ti 0 9 1)] 2) → XL E0 34 1 fuel f15_L1 [(1, s0 0 Tk.length), (6, pp 1 0), (8, ii Tj)] [(1, .ext (bookX kh1_1)), (0, rc encS Tk 0 9 1)] 2 Q
 | 0, Tj, Tk, kh1_1, o, h, Q, hQ => by cases h
 | fuel + 1, Tj, Tk, kh1_1, o, h, Q, hQ => by
  unfold f15_1 at h
  refine XL.succ E0_ok ?_
  refine sQ ?_
  refine qE 4 [(1, s0 0 Tk.length), (6, pp 1 0), (8, ii Tj), (23, .bool (decide (Tj < ((Tk.length : Nat) : Int))))] id ?_
  cases b1 : (decide (Tj < ((Tk.length : Nat) : Int)) : Bool)
  case false =>
   have h := cF b1 h
   refine iF 23 ?_
   refine nR [(6, pp 1 0)] [(1, .ext (bookX kh1_1)), (0, rc encS Tk 0 9 1)] 2 [0, 1] ?_
   refine XQ.exit (i := 0) (by kernel_rfl) ?_
   cases h
   exact hQ
  have h := cT b1 h
  refine iT 23 ?_
  refine kQ ?_
  show XQ _ _ _ _ _ _ _ _
  refine sQ ?_
  refine XQ.block (id := 1) (by kernel_rfl) ?_
  refine qQ ?_
  refine rS 3 [(1, s0 0 Tk.length), (6, pp 1 0), (8, ii Tj), (26, pp 1 0), (27, s0 0 Tk.length), (28, ii Tj)] ?_
  obtain ⟨b2, h⟩ := oC h
  refine rR (pp 0 ((Int.toNat Tj) * 1)) (iV 27 (.tmp 28) 29 1 0 b2) [(1, s0 0 Tk.length), (6, pp 1 0), (8, ii Tj), (26, pp 1 0), (29, pp 0 ((Int.toNat Tj) * 1))] ?_
  refine rR _ (lV encS_ok 29 30 0 ((Int.toNat Tj) * 1) Tk 0 9 1 (Int.toNat Tj) 0 (bs []) (rl b2)) [(1, s0 0 Tk.length), (6, pp 1 0), (8, ii Tj), (26, pp 1 0), (30, .string (List.getD Tk (Int.toNat Tj) (bs [])))] ?_
  obtain ⟨r4, r4_h, h⟩ := bS h
  refine cQ [1, 6, 8, 31] 31 (KC.ofX rfl rfl (tell_cx r4_h) (i := 1) (by kernel_rfl) rfl) ?_
  refine rE 1 [(1, s0 0 Tk.length), (6, pp 1 0), (8, ii Tj), (32, .bool (r4.1 != 0))] id ?_
  cases b3 : (r4.1 != 0 : Bool)
  case true =>
   have h := cT b3 h
   refine iT 32 ?_
   refine qE 2 [(4, .pointer none), (5, .bool false)] id ?_
   refine nR [(4, .pointer none), (5, .bool false)] [(0, rc encS Tk 0 9 1)] 1 [0] ?_
   refine tQ ?_
   cases h
   exact hQ
  have h := cF b3 h
  refine iK 32 id ?_
  refine rQ ?_
  refine rS 3 [(1, s0 0 Tk.length), (6, pp 1 0), (8, ii (w64 (Tj + 1)))] ?_
  refine dQ ?_
  show XL _ _ _ _ _ _ _ _ _
  refine nL [(1, s0 0 Tk.length), (6, pp 1 0), (8, ii (w64 (Tj + 1)))] [(1, .ext (bookX r4.2)), (0, rc encS Tk 0 9 1)] 2 [0, 1] ?_
  refine XL.conv (f15_1_ok m fuel (w64 (Tj + 1)) Tk r4.2 o h Q hQ) (by first | with_reducible rfl | simp | rfl)
abbrev aPg0 := (bs [98, 97, 108, 101, 32, 97, 110, 97, 32, 52, 48, 32, 49])
abbrev aPg1 := (bs [98, 97, 108, 101, 32, 98, 101, 108, 32, 51, 48, 32, 49])
abbrev aPg2 := (bs [98, 97, 108, 101, 32, 99, 111, 114, 32, 53, 48, 32, 48])
abbrev aPg3 := (bs [115, 116, 97, 109, 112, 115, 32, 50, 48])
abbrev aPg4 := (bs [98, 97, 108, 101, 32, 65, 110, 97, 32, 52, 48, 32, 49])
abbrev aPg5 := (bs [118, 105, 116, 111, 108, 97, 32, 51, 10, 101, 110, 100, 32, 57, 51, 51, 55, 10])
abbrev aPg6 := (bs [98, 97, 110, 100, 32, 49, 50])
def f15 (m : Nat) : Option (Bool) :=
 (f15_1 m m 0 [aPg0, aPg1, aPg2, aPg3, aPg6] (newS 3)).bind fun o1 =>
  match o1 with
  | .r lh0_r1 =>
   none
  | .x0 Ti U =>
   (balesS m U).bind fun r5 =>
    cond (((r5.length : Nat) : Int) != 3) (
     none
    ) (
     cond (inRow 0 r5.length) (
      cond (!(((List.getD r5 0 ((bs []), 0, 0)).1).data.toList == [99, 111, 114] && (((List.getD r5 0 ((bs []), 0, 0)).2.1) == 0 && (((List.getD r5 0 ((bs []), 0, 0)).2.2) == 50)))) (
       none
      ) (
       cond (inRow 1 r5.length) (
        cond (!(((List.getD r5 1 ((bs []), 0, 0)).1).data.toList == [97, 110, 97] && (((List.getD r5 1 ((bs []), 0, 0)).2.1) == 1 && (((List.getD r5 1 ((bs []), 0, 0)).2.2) == 40)))) (
         none
        ) (
         cond (inRow 2 r5.length) (
          cond (!(((List.getD r5 2 ((bs []), 0, 0)).1).data.toList == [98, 101, 108] && (((List.getD r5 2 ((bs []), 0, 0)).2.1) == 2 && (((List.getD r5 2 ((bs []), 0, 0)).2.2) == 30)))) (
           none
          ) (
           cond (((kilosS U).1) != 120) (
            none
           ) (
            cond (((kilosS U).2) != 0) (
             none
            ) (
             cond (!(((stampsS U).1) == 8 && (((stampsS U).2.1) == 12 && (((stampsS U).2.2.1) == 0 && (((stampsS U).2.2.2) == 0))))) (
              none
             ) (
              (keysS m U).bind fun r6 =>
               cond (decide (((r6.length : Nat) : Int) > 0)) (
                none
               ) (
                cond ((yearS U) != 0) (
                 none
                ) (
                 cond ((baysS U) != 3) (
                  none
                 ) (
                  (linesS m U).bind fun r7 =>
                   cond (((r7.length : Nat) : Int) != 5) (
                    none
                   ) (
                    (tellS m U (bs [98, 97, 108, 101, 32, 100, 111, 118, 32, 49, 48, 32, 48])).bind fun r8 =>
                     cond (r8.1 != 12) (
                      none
                     ) (
                      (tellS m r8.2 (bs [109, 111, 118, 101, 32, 97, 110, 97, 32, 48])).bind fun r9 =>
                       cond (r9.1 != 0) (
                        none
                       ) (
                        (tellS m r9.2 (bs [109, 111, 118, 101, 32, 97, 110, 97, 32, 51])).bind fun r10 =>
                         cond (r10.1 != 2) (
                          none
                         ) (
                          (tellS m r10.2 (bs [116, 97, 107, 101, 32, 99, 111, 114, 32, 54, 48])).bind fun r11 =>
                           cond (r11.1 != 15) (
                            none
                           ) (
                            (tellS m r11.2 (bs [99, 111, 117, 110, 116, 32, 97, 110, 97, 32, 52, 49])).bind fun r12 =>
                             cond (r12.1 != 17) (
                              none
                             ) (
                              (tellS m r12.2 (bs [111, 117, 116, 32, 53])).bind fun r13 =>
                               cond (r13.1 != 20) (
                                none
                               ) (
                                (tellS m r13.2 (bs [107, 101, 121, 32, 50])).bind fun r14 =>
                                 cond (r14.1 != 0) (
                                  none
                                 ) (
                                  (tellS m r14.2 (bs [107, 101, 121, 32, 50])).bind fun r15 =>
                                   cond (r15.1 != 6) (
                                    none
                                   ) (
                                    (tellS m r15.2 (bs [107, 101, 121, 32, 48])).bind fun r16 =>
                                     cond (r16.1 != 0) (
                                      none
                                     ) (
                                      (tellS m r16.2 (bs [111, 117, 116, 32, 53])).bind fun r17 =>
                                       cond (r17.1 != 0) (
                                        none
                                       ) (
                                        (tellS m r17.2 (bs [99, 108, 111, 115, 101])).bind fun r18 =>
                                         cond (r18.1 != 21) (
                                          none
                                         ) (
                                          (tellS m r18.2 (bs [115, 104, 117, 116])).bind fun r19 =>
                                           cond (r19.1 != 0) (
                                            none
                                           ) (
                                            (tellS m r19.2 (bs [99, 108, 111, 115, 101])).bind fun r20 =>
                                             cond (r20.1 != 0) (
                                              none
                                             ) (
                                              (tellS m r20.2 (bs [117, 110, 100, 111])).bind fun r21 =>
                                               cond (r21.1 != 0) (
                                                none
                                               ) (
                                                cond ((yearS r21.2) != 0) (
                                                 none
                                                ) (
                                                 (tellS m r21.2 (bs [107, 101, 121, 32, 48, 51])).bind fun r22 =>
                                                  cond (r22.1 != 10) (
                                                   none
                                                  ) (
                                                   (getBk m (bs [118, 105, 116, 111, 108, 97, 32, 51, 10, 101, 110, 100, 32, 57, 51, 51, 54, 10])).bind fun r23 =>
                                                    match r23.2 with
                                                    | some r24 =>
                                                     (getBk m aPg5).bind fun r25 =>
                                                      match r25.2 with
                                                      | some r26 =>
                                                       cond (r23.1 == 0) (
                                                        (textS m r24).bind fun r27 =>
                                                         cond (r27.data.toList == [118, 105, 116, 111, 108, 97, 32, 51, 10, 101, 110, 100, 32, 57, 51, 51, 54, 10]) (
                                                          cond (r25.1 == 18) (
                                                           (f20 m aPg0).bind fun r28 =>
                                                            cond (r28 == 0) (
                                                             (f20 m aPg4).bind fun r29 =>
                                                              some (r29 == 10)
                                                            ) none
                                                          ) none
                                                         ) none
                                                       ) none
                                                      | none =>
                                                       cond (r23.1 == 0) (
                                                        (textS m r24).bind fun r30 =>
                                                         cond (r30.data.toList == [118, 105, 116, 111, 108, 97, 32, 51, 10, 101, 110, 100, 32, 57, 51, 51, 54, 10]) (
                                                          cond (r25.1 == 18) (
                                                           (f20 m aPg0).bind fun r31 =>
                                                            cond (r31 == 0) (
                                                             (f20 m aPg4).bind fun r32 =>
                                                              some (r32 == 10)
                                                            ) none
                                                          ) none
                                                         ) none
                                                       ) none
                                                    | none =>
                                                     (getBk m aPg5).bind fun r33 =>
                                                      match r33.2 with
                                                      | some r34 =>
                                                       none
                                                      | none =>
                                                       none
                                                  )
                                                )
                                               )
                                             )
                                           )
                                         )
                                       )
                                     )
                                   )
                                 )
                               )
                             )
                           )
                         )
                       )
                     )
                   )
                 )
                )
               )
             )
            )
           )
          )
         ) none
        )
       ) none
      )
     ) none
    )
theorem f15_ok (m : Nat) (o : Bool) (h : f15 m = some o) (w : World) (hI : maInv w) : Calls Proofs.Tryz.prog 15 #[] w fun e w' => e = .returned (.bool o) ∧ Below w.heap.size w w' := by
 refine KC.calls (E := E0) (args := []) (v := .bool o) rfl rfl (KC.bodyN E0_ok (F := Proofs.Tryz.f15) (by kernel_rfl) (code := f15_C15) (by kernel_rfl) (nt := 195) (by kernel_rfl) (rs := [.tmp 0]) (by kernel_rfl) (by kernel_rfl) (σ := []) (by kernel_rfl) ?_) w (maInv_size hI) hI
 unfold f15 at h
 refine qQ ?_
 refine rS 1 [] ?_
 refine nQ id ?_
 refine rD 1 [(12, s0 0 5)] (fun h => (0, .cells [.string aPg0, .string aPg1, .string aPg2, .string aPg3, .string aPg6] 0 9 1) :: h) 1 ?_
 refine cK [13] 28 [ii 3, s0 0 5] 13 ?_
 refine kN Proofs.Tryz.f28 f15_C28 34 [.tmp 4, .tmp 5] ?_
 refine qQ ?_
 refine rS 2 [(0, ii 3), (1, s0 0 5)] ?_
 refine nQ id ?_
 refine rS 1 [(1, s0 0 5), (10, ii 3)] ?_
 refine cQ [1, 11] 11 (KC.ofN (g := fun u => .tuple #[u, ii 0]) (q := bookX (newS 3)) rfl g_ok (new_cn (show okN 3 = true from rfl))) ?_
 refine rE 5 [(1, s0 0 5), (6, pp 1 0), (7, ii 0)] id ?_
 refine sQ ?_
 refine qE 6 [(1, s0 0 5), (6, pp 1 0), (19, .bool false)] id ?_
 refine iK 19 id ?_
 refine sQ ?_
 refine qE 1 [(1, s0 0 5), (6, pp 1 0), (8, ii 0)] id ?_
 refine XQ.block (id := 0) (by kernel_rfl) ?_
 refine XQ.loop m (by kernel_rfl) ?_
 obtain ⟨o1, o1_h, h⟩ := bS h
 refine nL [(1, s0 0 5), (6, pp 1 0), (8, ii 0)] [(1, .ext (bookX (newS 3))), (0, .cells [.string aPg0, .string aPg1, .string aPg2, .string aPg3, .string aPg6] 0 9 1)] 2 [0, 1] ?_
 refine XL.conv (σ' := [(1, s0 0 5), (6, pp 1 0), (8, ii 0)]) (h' := [(1, .ext (bookX (newS 3))), (0, rc encS [aPg0, aPg1, aPg2, aPg3, aPg6] 0 9 1)]) (c' := 2) ?_ (by kernel_rfl)
 cases o1 with
 | r lh0_r1 =>
  dsimp only at h
  refine XL.conv (f15_1_ok m m 0 [aPg0, aPg1, aPg2, aPg3, aPg6] (newS 3) (.r lh0_r1) o1_h _ ?_) (by first | with_reducible rfl | simp | rfl)
  cases h
 | x0 Ti U =>
  dsimp only at h
  refine XL.conv (f15_1_ok m m 0 [aPg0, aPg1, aPg2, aPg3, aPg6] (newS 3) (.x0 Ti U) o1_h _ ?_) (by first | with_reducible rfl | simp | rfl)
  show XQ _ _ _ _ _ _ _ _
  refine qE 3 [(4, pp 1 0), (5, .bool true)] id ?_
  refine tV (.tuple #[pp 1 0, .bool true]) id ?_
  refine rE 5 [(1, pp 1 0), (2, .bool true)] id ?_
  refine sQ ?_
  refine qE 2 [(1, pp 1 0), (17, .bool false)] id ?_
  refine iK 17 id ?_
  refine qQ ?_
  refine rS 1 [(1, pp 1 0), (18, pp 1 0)] ?_
  obtain ⟨r5, r5_h, h⟩ := bS h
  refine cQ [1, 19] 19 (KC.ofRX (p := bookX U) (f := encL) (el := 74) (s := 3) (xs := r5) encL_ok rfl (bales_cr r5_h) (i := 1) (by kernel_rfl)) ?_
  refine rS 1 [(1, pp 1 0), (3, s0 2 r5.length)] ?_
  refine nQ id ?_
  refine rS 1 [(1, pp 1 0), (3, s0 2 r5.length), (21, pp 1 0)] ?_
  refine cQ [1, 3, 22] 22 (KC.ofV rfl rfl (kilos_cx U) (i := 1) (by kernel_rfl)) ?_
  refine rS 5 [(1, pp 1 0), (3, s0 2 r5.length), (4, ii ((kilosS U).1)), (5, ii ((kilosS U).2))] ?_
  refine nQ id ?_
  refine rS 1 [(1, pp 1 0), (3, s0 2 r5.length), (4, ii ((kilosS U).1)), (5, ii ((kilosS U).2)), (25, pp 1 0)] ?_
  refine cQ [1, 3, 4, 5, 26] 26 (KC.ofV rfl rfl (stamps_cx U) (i := 1) (by kernel_rfl)) ?_
  refine rG 2 [(1, pp 1 0), (3, s0 2 r5.length), (4, ii ((kilosS U).1)), (5, ii ((kilosS U).2)), (6, pp 3 0)] (fun h => (3, .cells [ii ((stampsS U).1), ii ((stampsS U).2.1), ii ((stampsS U).2.2.1), ii ((stampsS U).2.2.2)] 0 47 0) :: h) 4 id ?_
  refine sQ ?_
  refine qQ ?_
  refine rS 4 [(1, pp 1 0), (3, s0 2 r5.length), (4, ii ((kilosS U).1)), (5, ii ((kilosS U).2)), (6, pp 3 0), (30, .bool (((r5.length : Nat) : Int) != 3))] ?_
  cases b2 : (((r5.length : Nat) : Int) != 3 : Bool)
  case true => cases (cT b2 h)
  have h := cF b2 h
  refine rS 1 [(1, pp 1 0), (3, s0 2 r5.length), (4, ii ((kilosS U).1)), (5, ii ((kilosS U).2)), (6, pp 3 0), (30, .bool false), (31, s0 2 r5.length)] ?_
  obtain ⟨b3, h⟩ := oC h
  refine rR (pp 2 (0 * 3)) (iV 31 (.const (ii 0)) 32 3 0 b3) [(1, pp 1 0), (3, s0 2 r5.length), (4, ii ((kilosS U).1)), (5, ii ((kilosS U).2)), (6, pp 3 0), (30, .bool false), (32, pp 2 (0 * 3))] ?_
  refine rR _ (LV encL_ok 32 33 2 (0 * 3) r5 0 74 3 0 ((bs []), 0, 0) (rl b3)) [(1, pp 1 0), (3, s0 2 r5.length), (4, ii ((kilosS U).1)), (5, ii ((kilosS U).2)), (6, pp 3 0), (30, .bool false), (33, .agg #[.string ((List.getD r5 0 ((bs []), 0, 0)).1), ii ((List.getD r5 0 ((bs []), 0, 0)).2.1), ii ((List.getD r5 0 ((bs []), 0, 0)).2.2)])] ?_
  refine rS 4 [(1, pp 1 0), (3, s0 2 r5.length), (4, ii ((kilosS U).1)), (5, ii ((kilosS U).2)), (6, pp 3 0), (37, .bool (!(((List.getD r5 0 ((bs []), 0, 0)).1).data.toList == [99, 111, 114] && (((List.getD r5 0 ((bs []), 0, 0)).2.1) == 0 && (((List.getD r5 0 ((bs []), 0, 0)).2.2) == 50)))))] ?_
  cases b4 : (!(((List.getD r5 0 ((bs []), 0, 0)).1).data.toList == [99, 111, 114] && (((List.getD r5 0 ((bs []), 0, 0)).2.1) == 0 && (((List.getD r5 0 ((bs []), 0, 0)).2.2) == 50))) : Bool)
  case true => cases (cT b4 h)
  have h := cF b4 h
  refine rS 1 [(1, pp 1 0), (3, s0 2 r5.length), (4, ii ((kilosS U).1)), (5, ii ((kilosS U).2)), (6, pp 3 0), (37, .bool false), (38, s0 2 r5.length)] ?_
  obtain ⟨b5, h⟩ := oC h
  refine rR (pp 2 (1 * 3)) (iV 38 (.const (ii 1)) 39 3 0 b5) [(1, pp 1 0), (3, s0 2 r5.length), (4, ii ((kilosS U).1)), (5, ii ((kilosS U).2)), (6, pp 3 0), (37, .bool false), (39, pp 2 (1 * 3))] ?_
  refine rR _ (LV encL_ok 39 40 2 (1 * 3) r5 0 74 3 1 ((bs []), 0, 0) (rl b5)) [(1, pp 1 0), (3, s0 2 r5.length), (4, ii ((kilosS U).1)), (5, ii ((kilosS U).2)), (6, pp 3 0), (37, .bool false), (40, .agg #[.string ((List.getD r5 1 ((bs []), 0, 0)).1), ii ((List.getD r5 1 ((bs []), 0, 0)).2.1), ii ((List.getD r5 1 ((bs []), 0, 0)).2.2)])] ?_
  refine rS 4 [(1, pp 1 0), (3, s0 2 r5.length), (4, ii ((kilosS U).1)), (5, ii ((kilosS U).2)), (6, pp 3 0), (44, .bool (!(((List.getD r5 1 ((bs []), 0, 0)).1).data.toList == [97, 110, 97] && (((List.getD r5 1 ((bs []), 0, 0)).2.1) == 1 && (((List.getD r5 1 ((bs []), 0, 0)).2.2) == 40)))))] ?_
  cases b6 : (!(((List.getD r5 1 ((bs []), 0, 0)).1).data.toList == [97, 110, 97] && (((List.getD r5 1 ((bs []), 0, 0)).2.1) == 1 && (((List.getD r5 1 ((bs []), 0, 0)).2.2) == 40))) : Bool)
  case true => cases (cT b6 h)
  have h := cF b6 h
  refine rS 1 [(1, pp 1 0), (4, ii ((kilosS U).1)), (5, ii ((kilosS U).2)), (6, pp 3 0), (44, .bool false), (45, s0 2 r5.length)] ?_
  obtain ⟨b7, h⟩ := oC h
  refine rR (pp 2 (2 * 3)) (iV 45 (.const (ii 2)) 46 3 0 b7) [(1, pp 1 0), (4, ii ((kilosS U).1)), (5, ii ((kilosS U).2)), (6, pp 3 0), (44, .bool false), (46, pp 2 (2 * 3))] ?_
  refine rR _ (LV encL_ok 46 47 2 (2 * 3) r5 0 74 3 2 ((bs []), 0, 0) (rl b7)) [(1, pp 1 0), (4, ii ((kilosS U).1)), (5, ii ((kilosS U).2)), (6, pp 3 0), (44, .bool false), (47, .agg #[.string ((List.getD r5 2 ((bs []), 0, 0)).1), ii ((List.getD r5 2 ((bs []), 0, 0)).2.1), ii ((List.getD r5 2 ((bs []), 0, 0)).2.2)])] ?_
  refine rS 4 [(1, pp 1 0), (4, ii ((kilosS U).1)), (5, ii ((kilosS U).2)), (6, pp 3 0), (51, .bool (!(((List.getD r5 2 ((bs []), 0, 0)).1).data.toList == [98, 101, 108] && (((List.getD r5 2 ((bs []), 0, 0)).2.1) == 2 && (((List.getD r5 2 ((bs []), 0, 0)).2.2) == 30)))))] ?_
  cases b8 : (!(((List.getD r5 2 ((bs []), 0, 0)).1).data.toList == [98, 101, 108] && (((List.getD r5 2 ((bs []), 0, 0)).2.1) == 2 && (((List.getD r5 2 ((bs []), 0, 0)).2.2) == 30))) : Bool)
  case true => cases (cT b8 h)
  have h := cF b8 h
  refine rS 4 [(1, pp 1 0), (5, ii ((kilosS U).2)), (6, pp 3 0), (55, .bool (((kilosS U).1) != 120))] ?_
  cases b9 : (((kilosS U).1) != 120 : Bool)
  case true => cases (cT b9 h)
  have h := cF b9 h
  refine rS 4 [(1, pp 1 0), (6, pp 3 0), (59, .bool (((kilosS U).2) != 0))] ?_
  cases b10 : (((kilosS U).2) != 0 : Bool)
  case true => cases (cT b10 h)
  have h := cF b10 h
  refine rS 5 [(1, pp 1 0), (64, .bool (!(((stampsS U).1) == 8 && (((stampsS U).2.1) == 12 && (((stampsS U).2.2.1) == 0 && (((stampsS U).2.2.2) == 0))))))] ?_
  cases b11 : (!(((stampsS U).1) == 8 && (((stampsS U).2.1) == 12 && (((stampsS U).2.2.1) == 0 && (((stampsS U).2.2.2) == 0)))) : Bool)
  case true => cases (cT b11 h)
  have h := cF b11 h
  refine rS 1 [(1, pp 1 0), (64, .bool false), (65, pp 1 0)] ?_
  obtain ⟨r6, r6_h, h⟩ := bS h
  refine cQ [1, 64, 66] 66 (KC.ofRX (p := bookX U) (f := (encI .i64)) (el := 3) (s := 1) (xs := r6) (encI_ok .i64) rfl (keys_cr r6_h) (i := 1) (by kernel_rfl)) ?_
  refine rS 4 [(1, pp 1 0), (70, .bool (decide (((r6.length : Nat) : Int) > 0)))] ?_
  cases b12 : (decide (((r6.length : Nat) : Int) > 0) : Bool)
  case true => cases (cT b12 h)
  have h := cF b12 h
  refine rS 1 [(1, pp 1 0), (70, .bool false), (71, pp 1 0)] ?_
  refine cQ [1, 70, 72] 72 (KC.ofV rfl rfl (year_cx U) (i := 1) (by kernel_rfl)) ?_
  refine rS 3 [(1, pp 1 0), (75, .bool ((yearS U) != 0))] ?_
  cases b13 : ((yearS U) != 0 : Bool)
  case true => cases (cT b13 h)
  have h := cF b13 h
  refine rS 1 [(1, pp 1 0), (75, .bool false), (76, pp 1 0)] ?_
  refine cQ [1, 75, 77] 77 (KC.ofV rfl rfl (bays_cx U) (i := 1) (by kernel_rfl)) ?_
  refine rS 3 [(1, pp 1 0), (80, .bool ((baysS U) != 3))] ?_
  cases b14 : ((baysS U) != 3 : Bool)
  case true => cases (cT b14 h)
  have h := cF b14 h
  refine rS 1 [(1, pp 1 0), (80, .bool false), (81, pp 1 0)] ?_
  obtain ⟨r7, r7_h, h⟩ := bS h
  refine cQ [1, 80, 82] 82 (KC.ofRX (p := bookX U) (f := encS) (el := 9) (s := 1) (xs := r7) encS_ok rfl (lines_cr r7_h) (i := 1) (by kernel_rfl)) ?_
  refine rE 3 [(1, pp 1 0), (85, .bool (((r7.length : Nat) : Int) != 5))] id ?_
  cases b15 : (((r7.length : Nat) : Int) != 5 : Bool)
  case true => cases (cT b15 h)
  have h := cF b15 h
  refine iK 85 id ?_
  refine sQ ?_
  refine qQ ?_
  refine rS 1 [(1, pp 1 0), (86, pp 1 0)] ?_
  obtain ⟨r8, r8_h, h⟩ := bS h
  refine cQ [1, 87] 87 (KC.ofX rfl rfl (tell_cx r8_h) (i := 1) (by kernel_rfl) rfl) ?_
  refine rS 2 [(1, pp 1 0), (89, .bool (r8.1 != 12))] ?_
  cases b16 : (r8.1 != 12 : Bool)
  case true => cases (cT b16 h)
  have h := cF b16 h
  refine rS 1 [(1, pp 1 0), (89, .bool false), (90, pp 1 0)] ?_
  obtain ⟨r9, r9_h, h⟩ := bS h
  refine cQ [1, 89, 91] 91 (KC.ofX rfl rfl (tell_cx r9_h) (i := 1) (by kernel_rfl) rfl) ?_
  refine rS 3 [(1, pp 1 0), (94, .bool (r9.1 != 0))] ?_
  cases b17 : (r9.1 != 0 : Bool)
  case true => cases (cT b17 h)
  have h := cF b17 h
  refine rS 1 [(1, pp 1 0), (94, .bool false), (95, pp 1 0)] ?_
  obtain ⟨r10, r10_h, h⟩ := bS h
  refine cQ [1, 94, 96] 96 (KC.ofX rfl rfl (tell_cx r10_h) (i := 1) (by kernel_rfl) rfl) ?_
  refine rS 3 [(1, pp 1 0), (99, .bool (r10.1 != 2))] ?_
  cases b18 : (r10.1 != 2 : Bool)
  case true => cases (cT b18 h)
  have h := cF b18 h
  refine rS 1 [(1, pp 1 0), (99, .bool false), (100, pp 1 0)] ?_
  obtain ⟨r11, r11_h, h⟩ := bS h
  refine cQ [1, 99, 101] 101 (KC.ofX rfl rfl (tell_cx r11_h) (i := 1) (by kernel_rfl) rfl) ?_
  refine rS 3 [(1, pp 1 0), (104, .bool (r11.1 != 15))] ?_
  cases b19 : (r11.1 != 15 : Bool)
  case true => cases (cT b19 h)
  have h := cF b19 h
  refine rS 1 [(1, pp 1 0), (104, .bool false), (105, pp 1 0)] ?_
  obtain ⟨r12, r12_h, h⟩ := bS h
  refine cQ [1, 104, 106] 106 (KC.ofX rfl rfl (tell_cx r12_h) (i := 1) (by kernel_rfl) rfl) ?_
  refine rS 3 [(1, pp 1 0), (109, .bool (r12.1 != 17))] ?_
  cases b20 : (r12.1 != 17 : Bool)
  case true => cases (cT b20 h)
  have h := cF b20 h
  refine rS 1 [(1, pp 1 0), (109, .bool false), (110, pp 1 0)] ?_
  obtain ⟨r13, r13_h, h⟩ := bS h
  refine cQ [1, 109, 111] 111 (KC.ofX rfl rfl (tell_cx r13_h) (i := 1) (by kernel_rfl) rfl) ?_
  refine rS 3 [(1, pp 1 0), (114, .bool (r13.1 != 20))] ?_
  cases b21 : (r13.1 != 20 : Bool)
  case true => cases (cT b21 h)
  have h := cF b21 h
  refine rS 1 [(1, pp 1 0), (114, .bool false), (115, pp 1 0)] ?_
  obtain ⟨r14, r14_h, h⟩ := bS h
  refine cQ [1, 114, 116] 116 (KC.ofX rfl rfl (tell_cx r14_h) (i := 1) (by kernel_rfl) rfl) ?_
  refine rS 3 [(1, pp 1 0), (119, .bool (r14.1 != 0))] ?_
  cases b22 : (r14.1 != 0 : Bool)
  case true => cases (cT b22 h)
  have h := cF b22 h
  refine rS 1 [(1, pp 1 0), (119, .bool false), (120, pp 1 0)] ?_
  obtain ⟨r15, r15_h, h⟩ := bS h
  refine cQ [1, 119, 121] 121 (KC.ofX rfl rfl (tell_cx r15_h) (i := 1) (by kernel_rfl) rfl) ?_
  refine rS 3 [(1, pp 1 0), (124, .bool (r15.1 != 6))] ?_
  cases b23 : (r15.1 != 6 : Bool)
  case true => cases (cT b23 h)
  have h := cF b23 h
  refine rS 1 [(1, pp 1 0), (124, .bool false), (125, pp 1 0)] ?_
  obtain ⟨r16, r16_h, h⟩ := bS h
  refine cQ [1, 124, 126] 126 (KC.ofX rfl rfl (tell_cx r16_h) (i := 1) (by kernel_rfl) rfl) ?_
  refine rS 3 [(1, pp 1 0), (129, .bool (r16.1 != 0))] ?_
  cases b24 : (r16.1 != 0 : Bool)
  case true => cases (cT b24 h)
  have h := cF b24 h
  refine rS 1 [(1, pp 1 0), (129, .bool false), (130, pp 1 0)] ?_
  obtain ⟨r17, r17_h, h⟩ := bS h
  refine cQ [1, 129, 131] 131 (KC.ofX rfl rfl (tell_cx r17_h) (i := 1) (by kernel_rfl) rfl) ?_
  refine rS 3 [(1, pp 1 0), (134, .bool (r17.1 != 0))] ?_
  cases b25 : (r17.1 != 0 : Bool)
  case true => cases (cT b25 h)
  have h := cF b25 h
  refine rS 1 [(1, pp 1 0), (134, .bool false), (135, pp 1 0)] ?_
  obtain ⟨r18, r18_h, h⟩ := bS h
  refine cQ [1, 134, 136] 136 (KC.ofX rfl rfl (tell_cx r18_h) (i := 1) (by kernel_rfl) rfl) ?_
  refine rS 3 [(1, pp 1 0), (139, .bool (r18.1 != 21))] ?_
  cases b26 : (r18.1 != 21 : Bool)
  case true => cases (cT b26 h)
  have h := cF b26 h
  refine rS 1 [(1, pp 1 0), (139, .bool false), (140, pp 1 0)] ?_
  obtain ⟨r19, r19_h, h⟩ := bS h
  refine cQ [1, 139, 141] 141 (KC.ofX rfl rfl (tell_cx r19_h) (i := 1) (by kernel_rfl) rfl) ?_
  refine rS 3 [(1, pp 1 0), (144, .bool (r19.1 != 0))] ?_
  cases b27 : (r19.1 != 0 : Bool)
  case true => cases (cT b27 h)
  have h := cF b27 h
  refine rS 1 [(1, pp 1 0), (144, .bool false), (145, pp 1 0)] ?_
  obtain ⟨r20, r20_h, h⟩ := bS h
  refine cQ [1, 144, 146] 146 (KC.ofX rfl rfl (tell_cx r20_h) (i := 1) (by kernel_rfl) rfl) ?_
  refine rS 3 [(1, pp 1 0), (149, .bool (r20.1 != 0))] ?_
  cases b28 : (r20.1 != 0 : Bool)
  case true => cases (cT b28 h)
  have h := cF b28 h
  refine rS 1 [(1, pp 1 0), (149, .bool false), (150, pp 1 0)] ?_
  obtain ⟨r21, r21_h, h⟩ := bS h
  refine cQ [1, 149, 151] 151 (KC.ofX rfl rfl (tell_cx r21_h) (i := 1) (by kernel_rfl) rfl) ?_
  refine rS 3 [(1, pp 1 0), (154, .bool (r21.1 != 0))] ?_
  cases b29 : (r21.1 != 0 : Bool)
  case true => cases (cT b29 h)
  have h := cF b29 h
  refine rS 1 [(1, pp 1 0), (154, .bool false), (155, pp 1 0)] ?_
  refine cQ [1, 154, 156] 156 (KC.ofV rfl rfl (year_cx r21.2) (i := 1) (by kernel_rfl)) ?_
  refine rS 3 [(1, pp 1 0), (159, .bool ((yearS r21.2) != 0))] ?_
  cases b30 : ((yearS r21.2) != 0 : Bool)
  case true => cases (cT b30 h)
  have h := cF b30 h
  refine rS 1 [(159, .bool false), (160, pp 1 0)] ?_
  obtain ⟨r22, r22_h, h⟩ := bS h
  refine cQ [159, 161] 161 (KC.ofX rfl rfl (tell_cx r22_h) (i := 1) (by kernel_rfl) rfl) ?_
  refine rE 2 [(163, .bool (r22.1 != 10))] id ?_
  cases b31 : (r22.1 != 10 : Bool)
  case true => cases (cT b31 h)
  have h := cF b31 h
  refine iK 163 id ?_
  refine qQ ?_
  obtain ⟨r23, r23_h, h⟩ := bS h
  cases r23_e : r23.2 with
  | some r24 =>
   rw [r23_e] at h
   refine cQ [165] 165 (KC.ofN (g := fun u => .tuple #[u, ii r23.1]) (q := bookX r24) rfl g_ok (read_cn r23_h r23_e)) ?_
   refine rS 5 [(7, pp 6 0), (8, ii r23.1)] ?_
   refine nQ id ?_
   obtain ⟨r25, r25_h, h⟩ := bS h
   cases r25_e : r25.2 with
   | some r26 =>
    rw [r25_e] at h
    refine cQ [7, 8, 169] 169 (KC.ofN (g := fun u => .tuple #[u, ii r25.1]) (q := bookX r26) rfl g_ok (read_cn r25_h r25_e)) ?_
    refine rS 5 [(7, pp 6 0), (8, ii r23.1), (10, ii r25.1)] ?_
    refine nQ id ?_
    refine rS 3 [(7, pp 6 0), (10, ii r25.1), (174, .bool (r23.1 == 0))] ?_
    cases b32 : (r23.1 == 0 : Bool)
    case false => exact nomatch (cF b32 h)
    have h := cT b32 h
    refine rS 5 [(10, ii r25.1), (178, .bool true), (179, pp 6 0)] ?_
    obtain ⟨r27, r27_h, h⟩ := bS h
    refine cQ [10, 178, 180] 180 (KC.ofV rfl rfl (text_cx r27_h) (i := 6) (by kernel_rfl)) ?_
    refine rS 3 [(10, ii r25.1), (183, .bool (r27.data.toList == [118, 105, 116, 111, 108, 97, 32, 51, 10, 101, 110, 100, 32, 57, 51, 51, 54, 10]))] ?_
    cases b33 : (r27.data.toList == [118, 105, 116, 111, 108, 97, 32, 51, 10, 101, 110, 100, 32, 57, 51, 51, 54, 10] : Bool)
    case false => exact nomatch (cF b33 h)
    have h := cT b33 h
    refine rS 4 [(187, .bool (r25.1 == 18))] ?_
    cases b34 : (r25.1 == 18 : Bool)
    case false => exact nomatch (cF b34 h)
    have h := cT b34 h
    obtain ⟨r28, r28_h, h⟩ := bS h
    refine cQ [187, 188] 188 (KC.of_calls E0_ok (F := Proofs.Tryz.f20) (v := ii r28) (by kernel_rfl) rfl rfl (fun w hI => f20_ok m aPg0 r28 r28_h w hI)) ?_
    refine rS 3 [(191, .bool (r28 == 0))] ?_
    cases b35 : (r28 == 0 : Bool)
    case false => exact nomatch (cF b35 h)
    have h := cT b35 h
    obtain ⟨r29, r29_h, h⟩ := bS h
    refine cQ [191, 192] 192 (KC.of_calls E0_ok (F := Proofs.Tryz.f20) (v := ii r29) (by kernel_rfl) rfl rfl (fun w hI => f20_ok m aPg4 r29 r29_h w hI)) ?_
    refine rE 3 [(0, .bool (r29 == 10))] id ?_
    obtain rfl := sI h
    exact tV (.bool (r29 == 10)) id rfl
   | none =>
    rw [r25_e] at h
    refine cA [7, 8, 169] 169 [.string aPg5] (read_no r25_h r25_e) ?_
    refine rS 5 [(7, pp 6 0), (8, ii r23.1), (10, ii r25.1)] ?_
    refine nQ id ?_
    refine rS 3 [(7, pp 6 0), (10, ii r25.1), (174, .bool (r23.1 == 0))] ?_
    cases b36 : (r23.1 == 0 : Bool)
    case false => exact nomatch (cF b36 h)
    have h := cT b36 h
    refine rS 5 [(10, ii r25.1), (178, .bool true), (179, pp 6 0)] ?_
    obtain ⟨r30, r30_h, h⟩ := bS h
    refine cQ [10, 178, 180] 180 (KC.ofV rfl rfl (text_cx r30_h) (i := 6) (by kernel_rfl)) ?_
    refine rS 3 [(10, ii r25.1), (183, .bool (r30.data.toList == [118, 105, 116, 111, 108, 97, 32, 51, 10, 101, 110, 100, 32, 57, 51, 51, 54, 10]))] ?_
    cases b37 : (r30.data.toList == [118, 105, 116, 111, 108, 97, 32, 51, 10, 101, 110, 100, 32, 57, 51, 51, 54, 10] : Bool)
    case false => exact nomatch (cF b37 h)
    have h := cT b37 h
    refine rS 4 [(187, .bool (r25.1 == 18))] ?_
    cases b38 : (r25.1 == 18 : Bool)
    case false => exact nomatch (cF b38 h)
    have h := cT b38 h
    obtain ⟨r31, r31_h, h⟩ := bS h
    refine cQ [187, 188] 188 (KC.of_calls E0_ok (F := Proofs.Tryz.f20) (v := ii r31) (by kernel_rfl) rfl rfl (fun w hI => f20_ok m aPg0 r31 r31_h w hI)) ?_
    refine rS 3 [(191, .bool (r31 == 0))] ?_
    cases b39 : (r31 == 0 : Bool)
    case false => exact nomatch (cF b39 h)
    have h := cT b39 h
    obtain ⟨r32, r32_h, h⟩ := bS h
    refine cQ [191, 192] 192 (KC.of_calls E0_ok (F := Proofs.Tryz.f20) (v := ii r32) (by kernel_rfl) rfl rfl (fun w hI => f20_ok m aPg4 r32 r32_h w hI)) ?_
    refine rE 3 [(0, .bool (r32 == 10))] id ?_
    obtain rfl := sI h
    exact tV (.bool (r32 == 10)) id rfl
  | none =>
   rw [r23_e] at h
   refine cA [165] 165 [.string (bs [118, 105, 116, 111, 108, 97, 32, 51, 10, 101, 110, 100, 32, 57, 51, 51, 54, 10])] (read_no r23_h r23_e) ?_
   refine rS 5 [(7, .pointer none), (8, ii r23.1)] ?_
   refine nQ id ?_
   obtain ⟨r33, r33_h, h⟩ := bS h
   cases r33_e : r33.2 with
   | some r34 =>
    rw [r33_e] at h
    cases h
   | none =>
    rw [r33_e] at h
    cases h
end Go.Xm
