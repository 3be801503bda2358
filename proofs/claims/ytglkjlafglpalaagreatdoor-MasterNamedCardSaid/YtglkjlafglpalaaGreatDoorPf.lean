/- What functions of the program compute, and the proofs. Conditions: the library's variables hold what their texts lay. -/
import Derived.Test.YtglkjlafglpalaaGreatDoorWe
import Derived.Test.YtglkjlafglpalaaGreatDoorEv
namespace Go.Xm
open Go.RowKit
set_option linter.unusedVariables false
set_option linter.unusedSimpArgs false
set_option maxRecDepth 20000
set_option maxHeartbeats 4000000
noncomputable def f63_C63 : Code := Proofs.Tryz.f63.body.getD .skip
def f63 (m : Nat) (a : ByteArray) (b : ByteArray) : Option (Int × Bool) :=
 cond (okS (cutV1 a b)) (
  cond (hasV a b) (
   some ((numV (cutV1 a b)).1, (numV (cutV1 a b)).2)
  ) (
   some ((numV (cutV1 a b)).1, false)
  )
 ) none
theorem f63_ok (m : Nat) (a : ByteArray) (b : ByteArray) (o : Int × Bool) (h : f63 m a b = some o) (w : World) (hI : maInv w) : Calls Proofs.Tryz.prog 63 #[.string a, .string b] w fun e w' => e = .returned (.tuple #[ii o.1, .bool o.2]) ∧ Below w.heap.size w w' := by
 refine KC.calls (E := E0) (args := [.string a, .string b]) (v := .tuple #[ii o.1, .bool o.2]) rfl rfl (KC.bodyN E0_ok (F := Proofs.Tryz.f63) (by kernel_rfl) (code := f63_C63) (by kernel_rfl) (nt := 26) (by kernel_rfl) (rs := [.tmp 4, .tmp 5]) (by kernel_rfl) (by kernel_rfl) (σ := [(0, .string a), (1, .string b)]) (by kernel_rfl) ?_) w (maInv_size hI) hI
 unfold f63 at h
 refine qQ ?_
 refine rS 2 [(0, .string a), (1, .string b)] ?_
 refine nQ id ?_
 refine rS 2 [(11, .string a), (12, .string b)] ?_
 refine cQ [13] 13 (KC.of_calls E0_ok (F := Proofs.Tryz.f96) (v := .tuple #[.string (cutV1 a b), .bool (hasV a b)]) (by kernel_rfl) rfl rfl (cutP_ok _ _)) ?_
 refine rS 5 [(6, .string (cutV1 a b)), (7, .bool (hasV a b))] ?_
 refine nQ id ?_
 refine rS 1 [(7, .bool (hasV a b)), (17, .string (cutV1 a b))] ?_
 obtain ⟨b1, h⟩ := oC h
 refine cQ [7, 18] 18 (KC.of_calls E0_ok (F := Proofs.Tryz.f92) (v := .tuple #[ii ((numV (cutV1 a b)).1), .bool ((numV (cutV1 a b)).2)]) (by kernel_rfl) rfl rfl (num_ok b1)) ?_
 refine rS 5 [(7, .bool (hasV a b)), (8, ii ((numV (cutV1 a b)).1)), (9, .bool ((numV (cutV1 a b)).2))] ?_
 refine nQ id ?_
 refine rS 3 [(9, .bool ((numV (cutV1 a b)).2)), (21, ii ((numV (cutV1 a b)).1)), (23, .bool (hasV a b))] ?_
 cases b2 : (hasV a b : Bool)
 case false =>
  have h := cF b2 h
  refine rE 4 [(4, ii ((numV (cutV1 a b)).1)), (5, .bool false)] id ?_
  obtain rfl := sI h
  exact tV (.tuple #[ii ((numV (cutV1 a b)).1), .bool false]) id rfl
 have h := cT b2 h
 refine rE 4 [(4, ii ((numV (cutV1 a b)).1)), (5, .bool ((numV (cutV1 a b)).2))] id ?_
 obtain rfl := sI h
 exact tV (.tuple #[ii ((numV (cutV1 a b)).1), .bool ((numV (cutV1 a b)).2)]) id rfl
noncomputable def f23_C23 : Code := Proofs.Tryz.f23.body.getD .skip
noncomputable def f23_C19 : Code := Proofs.Tryz.f19.body.getD .skip
noncomputable def f23_C52 : Code := Proofs.Tryz.f52.body.getD .skip
noncomputable def f23_L1 : Code := lft (lft (rgt (lft (rgt (rgt (rgt (rgt (rgt (rgt (rgt (rgt (rgt f23_C23))))))))))))
noncomputable def f23_L2 : Code := lft (lft (rgt (lft (rgt (rgt (rgt (rgt (rgt (rgt (rgt (rgt (rgt f23_C23))))))))))))
inductive Of23_1 where
 | r
 | x1 (Tb : BkS)
def f23_1 (m : Nat) : Nat → Nat → Nat → Int → Int → BkS → List ByteArray → Option Of23_1
 | 0, _, _, _, _, _, _ => none
 | fuel + 1, Th, Tg, Tj, Tk, kh0_1, Ti =>
  cond (decide (Tk < Tj)) (
   cond (inRow Tk Th) (
    cond (decide (1 + (Int.toNat Tk) < Ti.length)) (
     cond ((List.getD Ti (1 + (Int.toNat Tk)) (bs [])).data.toList == [117, 110, 100, 111]) (
      some (.r)
     ) (
      (tellS m kh0_1 (List.getD Ti (1 + (Int.toNat Tk)) (bs []))).bind fun r6 =>
       cond (r6.1 != 0) (
        some (.r)
       ) (
        f23_1 m fuel Th Tg Tj (w64 (Tk + 1)) r6.2 Ti
       )
     )
    ) none
   ) none
  ) (
   some (.x1 kh0_1)
  )
abbrev aPf9 : Nat × Value := (2, .pointer none)
abbrev aPf14 (Ti : List ByteArray) (Tk : Int) := (List.getD Ti (1 + (Int.toNat Tk)) (bs []))
theorem f23_1_ok (m : Nat) : ∀ (fuel : Nat) (Th : Nat) (Tg : Nat) (Tj : Int) (Tk : Int) (kh0_1 : BkS) (Ti : List ByteArray) (o : Of23_1), f23_1 m fuel Th Tg Tj Tk kh0_1 Ti = some o → ∀ Q : QP, (match o with | .r => Q .ret [(2, .pointer none), (3, ii 14)] [] 0 | .x1 Tb => Q (.exit 1) [(10, pp 0 0)] [(0, .ext (bookX Tb))] 1) → XL E0 94 0 fuel f23_L1 [(10, pp 0 0), (78, sl 1 (1 * 1) Th Tg), (79, ii Tj), (80, ii Tk)] [(1, rc encS Ti 0 9 1), (0, .ext (bookX kh0_1))] 2 Q
 | 0, Th, Tg, Tj, Tk, kh0_1, Ti, o, h, Q, hQ => by cases h
 | fuel + 1, Th, Tg, Tj, Tk, kh0_1, Ti, o, h, Q, hQ => by
  unfold f23_1 at h
  refine XL.succ E0_ok ?_
  refine qE 1 [(10, pp 0 0), (78, sl 1 (1 * 1) Th Tg), (79, ii Tj), (80, ii Tk), (81, .bool (decide (Tk < Tj)))] id ?_
  refine sQ ?_
  cases b1 : (decide (Tk < Tj) : Bool)
  case false =>
   have h := cF b1 h
   refine iF 81 ?_
   refine nR [(10, pp 0 0)] [(0, .ext (bookX kh0_1))] 1 [0] ?_
   refine XQ.exit (i := 1) (by kernel_rfl) ?_
   cases h
   exact hQ
  have h := cT b1 h
  refine iT 81 ?_
  refine kQ ?_
  show XQ _ _ _ _ _ _ _ _
  refine sQ ?_
  refine XQ.block (id := 2) (by kernel_rfl) ?_
  refine qQ ?_
  obtain ⟨b2, h⟩ := oC h
  refine rR (pp 1 ((1 + (Int.toNat Tk)) * 1)) (v_idx (s := 1) (x := (src 94 (.tmp 78))) (y := (src 94 (.tmp 80))) (b := 1) (o := 1 * 1) (len := Th) (cap := Tg) (ik := .i64) (i := Tk) (off := (1 + (Int.toNat Tk)) * 1) (d := (some (path 12 82))) (by kernel_rfl) (by kernel_rfl) (by kernel_rfl) b2 (by omega)) [(10, pp 0 0), (78, sl 1 (1 * 1) Th Tg), (79, ii Tj), (80, ii Tk), (82, pp 1 ((1 + (Int.toNat Tk)) * 1))] ?_
  obtain ⟨b3, h⟩ := oC h
  refine rR _ (lV encS_ok 82 83 1 ((1 + (Int.toNat Tk)) * 1) Ti 0 9 1 (1 + (Int.toNat Tk)) 0 (bs []) (row_len b3 (by simp))) [(10, pp 0 0), (78, sl 1 (1 * 1) Th Tg), (79, ii Tj), (80, ii Tk), (83, .string (aPf14 Ti Tk))] ?_
  refine rS 1 [(10, pp 0 0), (13, .string (aPf14 Ti Tk)), (78, sl 1 (1 * 1) Th Tg), (79, ii Tj), (80, ii Tk)] ?_
  refine nQ id ?_
  refine rS 3 [(10, pp 0 0), (13, .string (aPf14 Ti Tk)), (78, sl 1 (1 * 1) Th Tg), (79, ii Tj), (80, ii Tk), (86, .bool ((aPf14 Ti Tk).data.toList == [117, 110, 100, 111]))] ?_
  cases b4 : ((aPf14 Ti Tk).data.toList == [117, 110, 100, 111] : Bool)
  case true =>
   have h := cT b4 h
   refine rE 5 [(10, pp 0 0), (78, sl 1 (1 * 1) Th Tg), (79, ii Tj), (80, ii Tk), (91, .bool true)] id ?_
   refine iT 91 ?_
   refine qE 2 [aPf9, (3, ii 14)] id ?_
   refine nR [aPf9, (3, ii 14)] [] 0 [] ?_
   refine tQ ?_
   cases h
   exact hQ
  have h := cF b4 h
  refine rS 2 [(10, pp 0 0), (78, sl 1 (1 * 1) Th Tg), (79, ii Tj), (80, ii Tk), (86, .bool false), (87, pp 0 0), (88, .string (aPf14 Ti Tk))] ?_
  obtain ⟨r6, r6_h, h⟩ := bS h
  refine cQ [10, 78, 79, 80, 86, 89] 89 (KC.ofX rfl rfl (tell_cx r6_h) (i := 0) (by kernel_rfl) rfl) ?_
  refine rE 2 [(10, pp 0 0), (78, sl 1 (1 * 1) Th Tg), (79, ii Tj), (80, ii Tk), (91, .bool (r6.1 != 0))] id ?_
  cases b5 : (r6.1 != 0 : Bool)
  case true =>
   have h := cT b5 h
   refine iT 91 ?_
   refine qE 2 [aPf9, (3, ii 14)] id ?_
   refine nR [aPf9, (3, ii 14)] [] 0 [] ?_
   refine tQ ?_
   cases h
   exact hQ
  have h := cF b5 h
  refine iK 91 id ?_
  refine rQ ?_
  refine rS 2 [(10, pp 0 0), (78, sl 1 (1 * 1) Th Tg), (79, ii Tj), (80, ii (w64 (Tk + 1)))] ?_
  refine dQ ?_
  show XL _ _ _ _ _ _ _ _ _
  refine nL [(10, pp 0 0), (78, sl 1 (1 * 1) Th Tg), (79, ii Tj), (80, ii (w64 (Tk + 1)))] [(1, rc encS Ti 0 9 1), (0, .ext (bookX r6.2))] 2 [0, 1] ?_
  refine XL.conv (f23_1_ok m fuel Th Tg Tj (w64 (Tk + 1)) r6.2 Ti o h Q hQ) (by first | with_reducible rfl | simp | rfl)
inductive Of23_2 where
 | r
 | x1
def f23_2 (m : Nat) : Nat → Nat → Nat → Int → List ByteArray → Option Of23_2
 | 0, _, _, _, _ => none
 | fuel + 1, Td, Tc, Te, Tf =>
  cond (decide ((0 : Int) < Te)) (
   cond (inRow 0 Td) (
    cond (decide (1 + 0 < Tf.length)) (
     cond ((List.getD Tf (1 + 0) (bs [])).data.toList == [117, 110, 100, 111]) (
      some (.r)
     ) (
      some (.r)
     )
    ) none
   ) none
  ) (
   some (.x1)
  )
abbrev aPf5 : Nat × Value := (10, .pointer none)
abbrev aPf11 (Tf : List ByteArray) := (List.getD Tf (1 + 0) (bs []))
theorem f23_2_ok (m : Nat) : ∀ (fuel : Nat) (Td : Nat) (Tc : Nat) (Te : Int) (Tf : List ByteArray) (o : Of23_2), f23_2 m fuel Td Tc Te Tf = some o → ∀ Q : QP, (match o with | .r => Q .ret [(2, .pointer none), (3, ii 14)] [] 0 | .x1 => Q (.exit 1) [(10, .pointer none)] [] 0) → XL E0 94 0 fuel f23_L2 [(10, .pointer none), (78, sl 0 (1 * 1) Td Tc), (79, ii Te), (80, ii 0)] [(0, rc encS Tf 0 9 1)] 1 Q
 | 0, Td, Tc, Te, Tf, o, h, Q, hQ => by cases h
 | fuel + 1, Td, Tc, Te, Tf, o, h, Q, hQ => by
  unfold f23_2 at h
  refine XL.succ E0_ok ?_
  refine qE 1 [aPf5, (78, sl 0 (1 * 1) Td Tc), (79, ii Te), (80, ii 0), (81, .bool (decide ((0 : Int) < Te)))] id ?_
  refine sQ ?_
  cases b1 : (decide ((0 : Int) < Te) : Bool)
  case false =>
   have h := cF b1 h
   refine iF 81 ?_
   refine nR [aPf5] [] 0 [] ?_
   refine XQ.exit (i := 1) (by kernel_rfl) ?_
   cases h
   exact hQ
  have h := cT b1 h
  refine iT 81 ?_
  refine kQ ?_
  show XQ _ _ _ _ _ _ _ _
  refine sQ ?_
  refine XQ.block (id := 2) (by kernel_rfl) ?_
  refine qQ ?_
  obtain ⟨b2, h⟩ := oC h
  refine rR (pp 0 ((1 + 0) * 1)) (v_idx (s := 1) (x := (src 94 (.tmp 78))) (y := (src 94 (.tmp 80))) (b := 0) (o := 1 * 1) (len := Td) (cap := Tc) (ik := .i64) (i := 0) (off := (1 + 0) * 1) (d := (some (path 12 82))) (by kernel_rfl) (by kernel_rfl) (by kernel_rfl) b2 (by omega)) [aPf5, (78, sl 0 (1 * 1) Td Tc), (79, ii Te), (80, ii 0), (82, pp 0 ((1 + 0) * 1))] ?_
  obtain ⟨b3, h⟩ := oC h
  refine rR _ (lV encS_ok 82 83 0 ((1 + 0) * 1) Tf 0 9 1 (1 + 0) 0 (bs []) (row_len b3 (by simp))) [aPf5, (78, sl 0 (1 * 1) Td Tc), (79, ii Te), (80, ii 0), (83, .string (aPf11 Tf))] ?_
  refine rS 1 [aPf5, (13, .string (aPf11 Tf)), (78, sl 0 (1 * 1) Td Tc), (79, ii Te), (80, ii 0)] ?_
  refine nQ id ?_
  refine rS 3 [aPf5, (13, .string (aPf11 Tf)), (78, sl 0 (1 * 1) Td Tc), (79, ii Te), (80, ii 0), (86, .bool ((aPf11 Tf).data.toList == [117, 110, 100, 111]))] ?_
  cases b4 : ((aPf11 Tf).data.toList == [117, 110, 100, 111] : Bool)
  case true =>
   have h := cT b4 h
   refine rE 5 [aPf5, (78, sl 0 (1 * 1) Td Tc), (79, ii Te), (80, ii 0), (91, .bool true)] id ?_
   refine iT 91 ?_
   refine qE 2 [aPf9, (3, ii 14)] id ?_
   refine nR [aPf9, (3, ii 14)] [] 0 [] ?_
   refine tQ ?_
   cases h
   exact hQ
  have h := cF b4 h
  refine rS 2 [aPf5, (78, sl 0 (1 * 1) Td Tc), (79, ii Te), (80, ii 0), (86, .bool false), (87, .pointer none), (88, .string (aPf11 Tf))] ?_
  refine cK [10, 78, 79, 80, 86, 89] 19 [.pointer none, .string (aPf11 Tf)] 89 ?_
  refine kN Proofs.Tryz.f19 f23_C19 38 [.cell 4 26] ?_
  refine qG 3 [(2, pp 1 0), (3, pp 2 0), (4, pp 3 0)] (fun h => (3, .cells [ii 0] 0 26 0) :: (2, .cells [.string (aPf11 Tf)] 0 9 0) :: (1, .cells [.pointer none] 0 25 0) :: h) 4 id ?_
  refine sQ ?_
  refine qQ ?_
  refine rS 1 [(2, pp 1 0), (3, pp 2 0), (4, pp 3 0), (7, .pointer none)] ?_
  refine cK [2, 3, 4, 8] 52 [.pointer none] 8 ?_
  refine kN Proofs.Tryz.f52 f23_C52 13 [.tmp 2] ?_
  refine qQ ?_
  refine rS 1 [(0, .pointer none)] ?_
  refine nQ id ?_
  refine rE 11 [(2, .bool true)] id ?_
  refine tV (.bool true) id ?_
  refine eQ id ?_
  refine iT 8 ?_
  refine qG 1 [(4, pp 3 0)] (fun h => hset h 3 (.cells [ii 11] 0 26 0)) 4 id ?_
  refine tV (ii 11) id ?_
  refine rE 2 [aPf5, (78, sl 0 (1 * 1) Td Tc), (79, ii Te), (80, ii 0), (91, .bool true)] id ?_
  refine iT 91 ?_
  refine qE 2 [aPf9, (3, ii 14)] id ?_
  refine nR [aPf9, (3, ii 14)] [] 0 [] ?_
  refine tQ ?_
  cases h
  exact hQ
abbrev aPf1 (a : ByteArray) := (splitV a (bs [10]))
abbrev aPf0 (a : ByteArray) := (w64 ((((aPf1 a).length : Nat) : Int) - 1))
abbrev aPf4 (a : ByteArray) := (w64 ((aPf0 a) - 1))
abbrev aPf12 (a : ByteArray) := (Int.toNat (aPf4 a))
abbrev aPf2 (a : ByteArray) := (List.getD (aPf1 a) (aPf12 a) (bs []))
abbrev aPf6 (a : ByteArray) := ((Int.toNat (aPf4 a) - 1 : Nat) : Int)
abbrev aPf10 (a : ByteArray) := (catS (aPf2 a) (bs [10]))
abbrev aPf13 (a : ByteArray) := (List.getD (aPf1 a) (Int.toNat (aPf0 a)) (bs []))
def f23 (m : Nat) (a : ByteArray) : Option (Int × Option BkS) :=
 cond (decide (((a.size : Nat) : Int) > 16000)) (
  some (19, none)
 ) (
  cond (Nat.ble a.size 1000000 && Nat.beq (bs [10]).size 1) (
   cond (decide ((aPf0 a) < 2)) (
    some (9, none)
   ) (
    cond (inRow (aPf0 a) ((aPf1 a).length)) (
     cond (!((aPf13 a).data.toList == [])) (
      some (9, none)
     ) (
      cond (inRow 0 ((aPf1 a).length)) (
       (f63 m (List.getD (aPf1 a) 0 (bs [])) (bs [118, 105, 116, 111, 108, 97, 32])).bind fun r1 =>
        cond (inRow (aPf4 a) ((aPf1 a).length)) (
         (f63 m (aPf2 a) (bs [101, 110, 100, 32])).bind fun r2 =>
          cond (okN r1.1) (
           cond (!r1.2) (
            some (9, none)
           ) (
            cond (!r2.2) (
             some (9, none)
            ) (
             cond (Nat.ble ((aPf2 a).size + (bs [10]).size) 9223372036854775807) (
              cond (okS a) (
               (f64 m (sufV a (aPf10 a))).bind fun r3 =>
                cond (r3 != r2.1) (
                 some (18, none)
                ) (
                 cond (cutOK 1 (aPf4 a) (((aPf1 a).length : Nat) : Int) ((aPf1 a).length)) (
                  (f23_1 m m (Int.toNat (aPf4 a) - 1) ((aPf1 a).length - 1) (aPf6 a) 0 (newS r1.1) (aPf1 a)).bind fun o1 =>
                   match o1 with
                   | .r =>
                    some (14, none)
                   | .x1 Tb =>
                    some (0, some Tb)
                 ) none
                )
              ) none
             ) none
            )
           )
          ) (
           cond (!r1.2) (
            some (9, none)
           ) (
            cond (!r2.2) (
             some (9, none)
            ) (
             cond (newE != 0) (
              some (9, none)
             ) (
              cond (Nat.ble ((aPf2 a).size + (bs [10]).size) 9223372036854775807) (
               cond (okS a) (
                (f64 m (sufV a (aPf10 a))).bind fun r7 =>
                 cond (r7 != r2.1) (
                  some (18, none)
                 ) (
                  cond (cutOK 1 (aPf4 a) (((aPf1 a).length : Nat) : Int) ((aPf1 a).length)) (
                   (f23_2 m m (Int.toNat (aPf4 a) - 1) ((aPf1 a).length - 1) (aPf6 a) (aPf1 a)).bind fun o2 =>
                    match o2 with
                    | .r =>
                     some (14, none)
                    | .x1 =>
                     some (0, none)
                  ) none
                 )
               ) none
              ) none
             )
            )
           )
          )
        ) none
      ) none
     )
    ) none
   )
  ) none
 )
abbrev aPf3 (a : ByteArray) : Nat × Value := (4, s0 0 ((aPf1 a).length))
abbrev aPf7 (a : ByteArray) : Nat × Value := (5, ii (aPf0 a))
abbrev aPf8 (a : ByteArray) : Nat × Value := (78, sl 0 (1 * 1) (Int.toNat (aPf4 a) - 1) ((aPf1 a).length - 1))
theorem f23_ok (m : Nat) (a : ByteArray) (o : Int × Option BkS) (h : f23 m a = some o) : KC E0 23 [.string a] [] 0 (fun v h' _ => GetH o v h') := by
 refine kN Proofs.Tryz.f23 f23_C23 94 [.tmp 2, .tmp 3] ?_
 unfold f23 at h
 refine qE 2 [(0, .string a)] id ?_
 refine sQ ?_
 refine qE 3 [(0, .string a), (16, .bool (decide (((a.size : Nat) : Int) > 16000)))] id ?_
 cases b1 : (decide (((a.size : Nat) : Int) > 16000) : Bool)
 case true =>
  have h := cT b1 h
  refine iT 16 ?_
  refine qE 2 [aPf9, (3, ii 19)] id ?_
  obtain rfl := sI h
  exact tV (.tuple #[.pointer none, ii 19]) id rfl
 have h := cF b1 h
 refine iK 16 id ?_
 refine qQ ?_
 refine rS 1 [(0, .string a), (17, .string a)] ?_
 obtain ⟨b2, h⟩ := oC h
 refine cA [0, 18] 18 [.string a, .string (bs [10])] (split_c b2) ?_
 refine rS 1 [(0, .string a), (aPf3 a)] ?_
 refine nQ id ?_
 refine rE 4 [(0, .string a), (aPf3 a), (aPf7 a)] id ?_
 refine sQ ?_
 refine qQ ?_
 refine rS 3 [(0, .string a), (aPf3 a), (aPf7 a), (24, .bool (decide ((aPf0 a) < 2)))] ?_
 cases b3 : (decide ((aPf0 a) < 2) : Bool)
 case true =>
  have h := cT b3 h
  refine rE 6 [(0, .string a), (aPf3 a), (aPf7 a), (30, .bool true)] id ?_
  refine iT 30 ?_
  refine qE 2 [aPf9, (3, ii 9)] id ?_
  obtain rfl := sI h
  exact tV (.tuple #[.pointer none, ii 9]) id rfl
 have h := cF b3 h
 refine rS 2 [(0, .string a), (aPf3 a), (aPf7 a), (24, .bool false), (25, s0 0 ((aPf1 a).length)), (26, ii (aPf0 a))] ?_
 obtain ⟨b4, h⟩ := oC h
 refine rR (pp 0 ((Int.toNat (aPf0 a)) * 1)) (iV 25 (.tmp 26) 27 1 0 b4) [(0, .string a), (aPf3 a), (aPf7 a), (24, .bool false), (27, pp 0 ((Int.toNat (aPf0 a)) * 1))] ?_
 refine rR _ (lV encS_ok 27 28 0 ((Int.toNat (aPf0 a)) * 1) (aPf1 a) 0 9 1 (Int.toNat (aPf0 a)) 0 (bs []) (rl b4)) [(0, .string a), (aPf3 a), (aPf7 a), (24, .bool false), (28, .string (aPf13 a))] ?_
 refine rE 2 [(0, .string a), (aPf3 a), (aPf7 a), (30, .bool (!((aPf13 a).data.toList == [])))] id ?_
 cases b5 : (!((aPf13 a).data.toList == []) : Bool)
 case true =>
  have h := cT b5 h
  refine iT 30 ?_
  refine qE 2 [aPf9, (3, ii 9)] id ?_
  obtain rfl := sI h
  exact tV (.tuple #[.pointer none, ii 9]) id rfl
 have h := cF b5 h
 refine iK 30 id ?_
 refine qQ ?_
 refine rS 1 [(0, .string a), (aPf3 a), (aPf7 a), (32, s0 0 ((aPf1 a).length))] ?_
 obtain ⟨b6, h⟩ := oC h
 refine rR (pp 0 (0 * 1)) (iV 32 (.const (ii 0)) 33 1 0 b6) [(0, .string a), (aPf3 a), (aPf7 a), (33, pp 0 (0 * 1))] ?_
 refine rR _ (lV encS_ok 33 34 0 (0 * 1) (aPf1 a) 0 9 1 0 0 (bs []) (rl b6)) [(0, .string a), (aPf3 a), (aPf7 a), (34, .string (List.getD (aPf1 a) 0 (bs [])))] ?_
 obtain ⟨r1, r1_h, h⟩ := bS h
 refine cQ [0, 4, 5, 35] 35 (KC.of_calls E0_ok (F := Proofs.Tryz.f63) (v := .tuple #[ii r1.1, .bool r1.2]) (by kernel_rfl) rfl rfl (fun w hI => f63_ok m (List.getD (aPf1 a) 0 (bs [])) (bs [118, 105, 116, 111, 108, 97, 32]) r1 r1_h w hI)) ?_
 refine rS 5 [(0, .string a), (aPf3 a), (aPf7 a), (6, ii r1.1), (7, .bool r1.2)] ?_
 refine nQ id ?_
 refine rS 3 [(0, .string a), (aPf3 a), (aPf7 a), (6, ii r1.1), (7, .bool r1.2), (39, s0 0 ((aPf1 a).length)), (41, ii (aPf4 a))] ?_
 obtain ⟨b7, h⟩ := oC h
 refine rR (pp 0 ((aPf12 a) * 1)) (iV 39 (.tmp 41) 42 1 0 b7) [(0, .string a), (aPf3 a), (aPf7 a), (6, ii r1.1), (7, .bool r1.2), (42, pp 0 ((aPf12 a) * 1))] ?_
 refine rR _ (lV encS_ok 42 43 0 ((aPf12 a) * 1) (aPf1 a) 0 9 1 (aPf12 a) 0 (bs []) (rl b7)) [(0, .string a), (aPf3 a), (aPf7 a), (6, ii r1.1), (7, .bool r1.2), (43, .string (aPf2 a))] ?_
 obtain ⟨r2, r2_h, h⟩ := bS h
 refine cQ [0, 4, 5, 6, 7, 44] 44 (KC.of_calls E0_ok (F := Proofs.Tryz.f63) (v := .tuple #[ii r2.1, .bool r2.2]) (by kernel_rfl) rfl rfl (fun w hI => f63_ok m (aPf2 a) (bs [101, 110, 100, 32]) r2 r2_h w hI)) ?_
 refine rS 5 [(0, .string a), (aPf3 a), (aPf7 a), (6, ii r1.1), (7, .bool r1.2), (8, ii r2.1), (9, .bool r2.2)] ?_
 refine nQ id ?_
 refine rS 1 [(0, .string a), (aPf3 a), (aPf7 a), (7, .bool r1.2), (8, ii r2.1), (9, .bool r2.2), (48, ii r1.1)] ?_
 cases b8 : (okN r1.1 : Bool)
 case true =>
  have h := cT b8 h
  refine cQ [0, 4, 5, 7, 8, 9, 49] 49 (KC.ofN (g := fun u => .tuple #[u, ii 0]) (q := bookX (newS r1.1)) rfl g_ok (new_cn b8)) ?_
  refine rE 5 [(0, .string a), (aPf3 a), (aPf7 a), (7, .bool r1.2), (8, ii r2.1), (9, .bool r2.2), (10, pp 1 0), (11, ii 0)] id ?_
  refine sQ ?_
  refine XQ.block (id := 0) (by kernel_rfl) ?_
  refine qQ ?_
  refine rS 3 [(0, .string a), (aPf3 a), (aPf7 a), (8, ii r2.1), (9, .bool r2.2), (10, pp 1 0), (11, ii 0), (55, .bool (!r1.2))] ?_
  cases b9 : (!r1.2 : Bool)
  case true =>
   have h := cT b9 h
   refine rE 8 [(0, .string a), (aPf3 a), (aPf7 a), (8, ii r2.1), (10, pp 1 0), (52, .bool true)] id ?_
   refine iT 52 ?_
   refine qE 2 [aPf9, (3, ii 9)] id ?_
   obtain rfl := sI h
   exact tV (.tuple #[.pointer none, ii 9]) id rfl
  have h := cF b9 h
  refine rS 4 [(0, .string a), (aPf3 a), (aPf7 a), (8, ii r2.1), (10, pp 1 0), (11, ii 0), (59, .bool (!r2.2))] ?_
  cases b10 : (!r2.2 : Bool)
  case true =>
   have h := cT b10 h
   refine rE 4 [(0, .string a), (aPf3 a), (aPf7 a), (8, ii r2.1), (10, pp 1 0), (52, .bool true)] id ?_
   refine iT 52 ?_
   refine qE 2 [aPf9, (3, ii 9)] id ?_
   obtain rfl := sI h
   exact tV (.tuple #[.pointer none, ii 9]) id rfl
  have h := cF b10 h
  refine rE 4 [(0, .string a), (aPf3 a), (aPf7 a), (8, ii r2.1), (10, pp 1 0), (52, .bool false)] id ?_
  refine iF 52 ?_
  refine qQ ?_
  refine rS 4 [(aPf3 a), (aPf7 a), (8, ii r2.1), (10, pp 1 0), (64, .string a), (65, s0 0 ((aPf1 a).length)), (67, ii (aPf4 a))] ?_
  refine rR (pp 0 ((aPf12 a) * 1)) (iV 65 (.tmp 67) 68 1 0 b7) [(aPf3 a), (aPf7 a), (8, ii r2.1), (10, pp 1 0), (64, .string a), (68, pp 0 ((aPf12 a) * 1))] ?_
  refine rR _ (lV encS_ok 68 69 0 ((aPf12 a) * 1) (aPf1 a) 0 9 1 (aPf12 a) 0 (bs []) (rl b7)) [(aPf3 a), (aPf7 a), (8, ii r2.1), (10, pp 1 0), (64, .string a), (69, .string (aPf2 a))] ?_
  obtain ⟨b11, h⟩ := oC h
  refine rR (.string (aPf10 a)) (mR b11) [(aPf3 a), (aPf7 a), (8, ii r2.1), (10, pp 1 0), (64, .string a), (70, .string (aPf10 a))] ?_
  obtain ⟨b13, h⟩ := oC h
  refine cQ [4, 5, 8, 10, 71] 71 (KC.of_calls E0_ok (F := Proofs.Tryz.f65) (v := .string (sufV a (aPf10 a))) (by kernel_rfl) rfl rfl (suf_ok b13)) ?_
  obtain ⟨r3, r3_h, h⟩ := bS h
  refine cQ [4, 5, 8, 10, 72] 72 (KC.of_calls E0_ok (F := Proofs.Tryz.f64) (v := ii r3) (by kernel_rfl) rfl rfl (fun w hI => f64_ok m (sufV a (aPf10 a)) r3 r3_h w hI)) ?_
  refine rE 3 [(aPf3 a), (aPf7 a), (10, pp 1 0), (63, .bool (r3 != r2.1))] id ?_
  cases b14 : (r3 != r2.1 : Bool)
  case true =>
   have h := cT b14 h
   refine iT 63 ?_
   refine qE 2 [aPf9, (3, ii 18)] id ?_
   obtain rfl := sI h
   exact tV (.tuple #[.pointer none, ii 18]) id rfl
  have h := cF b14 h
  refine iK 63 id ?_
  refine sQ ?_
  refine qQ ?_
  refine rS 3 [(10, pp 1 0), (75, s0 0 ((aPf1 a).length)), (77, ii (aPf4 a))] ?_
  obtain ⟨b15, h⟩ := oC h
  refine rR (sl 0 (1 * 1) (Int.toNat (aPf4 a) - 1) ((aPf1 a).length - 1)) (v_cut (nt := 94) (s := 1) (x := (src 94 (.tmp 75))) (lo := (some (.const (ii 1)))) (hi := (some (.tmp 77))) (mx := none) (b := 0) (o := 0) (len := (aPf1 a).length) (cap := (aPf1 a).length) (l := (some 1)) (u := (some (aPf4 a))) (m := none) (cs := rowC encS (aPf1 a)) (fz := 0) (e := 9) (es := 1) (o' := 1 * 1) (len' := Int.toNat (aPf4 a) - 1) (cap' := (aPf1 a).length - 1) (d := (some (path 12 78))) (by kernel_rfl) (by kernel_rfl) (by kernel_rfl) (by kernel_rfl) (by kernel_rfl) (by kernel_rfl) (by kernel_rfl) rfl b15 (by simp only [Option.getD_none, Option.getD_some] <;> omega) (by simp only [Option.getD_none, Option.getD_some] <;> omega) (by simp only [Option.getD_none, Option.getD_some] <;> omega)) [(10, pp 1 0), (aPf8 a)] ?_
  refine rE 2 [(10, pp 1 0), (aPf8 a), (79, ii (aPf6 a)), (80, ii 0)] id ?_
  refine XQ.block (id := 1) (by kernel_rfl) ?_
  refine XQ.loop m (by kernel_rfl) ?_
  obtain ⟨o1, o1_h, h⟩ := bS h
  refine nL [(10, pp 0 0), (78, sl 1 (1 * 1) (Int.toNat (aPf4 a) - 1) ((aPf1 a).length - 1)), (79, ii (aPf6 a)), (80, ii 0)] [(1, rc encS (aPf1 a) 0 9 1), (0, .ext (bookX (newS r1.1)))] 2 [1, 0] ?_
  cases o1 with
  | r =>
   dsimp only at h
   refine XL.conv (f23_1_ok m m (Int.toNat (aPf4 a) - 1) ((aPf1 a).length - 1) (aPf6 a) 0 (newS r1.1) (aPf1 a) (.r) o1_h _ ?_) (by first | with_reducible rfl | simp | rfl)
   obtain rfl := sI h
   exact ⟨fun i q => (by cases q), .tuple #[.pointer none, ii 14], (by kernel_rfl), rfl⟩
  | x1 Tb =>
   dsimp only at h
   refine XL.conv (f23_1_ok m m (Int.toNat (aPf4 a) - 1) ((aPf1 a).length - 1) (aPf6 a) 0 (newS r1.1) (aPf1 a) (.x1 Tb) o1_h _ ?_) (by first | with_reducible rfl | simp | rfl)
   show XQ _ _ _ _ _ _ _ _
   refine qE 3 [(2, pp 0 0), (3, ii 0)] id ?_
   obtain rfl := sI h
   exact tV (.tuple #[pp 0 0, ii 0]) id ⟨0, rfl, by kernel_rfl⟩
 have h := cF b8 h
 refine cA [0, 4, 5, 7, 8, 9, 49] 49 [ii r1.1] (new_no b8) ?_
 refine rE 5 [(0, .string a), (aPf3 a), (aPf7 a), (7, .bool r1.2), (8, ii r2.1), (9, .bool r2.2), aPf5, (11, ii newE)] id ?_
 refine sQ ?_
 refine XQ.block (id := 0) (by kernel_rfl) ?_
 refine qQ ?_
 refine rS 3 [(0, .string a), (aPf3 a), (aPf7 a), (8, ii r2.1), (9, .bool r2.2), aPf5, (11, ii newE), (55, .bool (!r1.2))] ?_
 cases b17 : (!r1.2 : Bool)
 case true =>
  have h := cT b17 h
  refine rE 8 [(0, .string a), (aPf3 a), (aPf7 a), (8, ii r2.1), aPf5, (52, .bool true)] id ?_
  refine iT 52 ?_
  refine qE 2 [aPf9, (3, ii 9)] id ?_
  obtain rfl := sI h
  exact tV (.tuple #[.pointer none, ii 9]) id rfl
 have h := cF b17 h
 refine rS 4 [(0, .string a), (aPf3 a), (aPf7 a), (8, ii r2.1), aPf5, (11, ii newE), (59, .bool (!r2.2))] ?_
 cases b18 : (!r2.2 : Bool)
 case true =>
  have h := cT b18 h
  refine rE 4 [(0, .string a), (aPf3 a), (aPf7 a), (8, ii r2.1), aPf5, (52, .bool true)] id ?_
  refine iT 52 ?_
  refine qE 2 [aPf9, (3, ii 9)] id ?_
  obtain rfl := sI h
  exact tV (.tuple #[.pointer none, ii 9]) id rfl
 have h := cF b18 h
 refine rE 4 [(0, .string a), (aPf3 a), (aPf7 a), (8, ii r2.1), aPf5, (52, .bool (newE != 0))] id ?_
 cases b19 : (newE != 0 : Bool)
 case true =>
  have h := cT b19 h
  refine iT 52 ?_
  refine qE 2 [aPf9, (3, ii 9)] id ?_
  obtain rfl := sI h
  exact tV (.tuple #[.pointer none, ii 9]) id rfl
 have h := cF b19 h
 refine iF 52 ?_
 refine qQ ?_
 refine rS 4 [(aPf3 a), (aPf7 a), (8, ii r2.1), aPf5, (64, .string a), (65, s0 0 ((aPf1 a).length)), (67, ii (aPf4 a))] ?_
 refine rR (pp 0 ((aPf12 a) * 1)) (iV 65 (.tmp 67) 68 1 0 b7) [(aPf3 a), (aPf7 a), (8, ii r2.1), aPf5, (64, .string a), (68, pp 0 ((aPf12 a) * 1))] ?_
 refine rR _ (lV encS_ok 68 69 0 ((aPf12 a) * 1) (aPf1 a) 0 9 1 (aPf12 a) 0 (bs []) (rl b7)) [(aPf3 a), (aPf7 a), (8, ii r2.1), aPf5, (64, .string a), (69, .string (aPf2 a))] ?_
 obtain ⟨b20, h⟩ := oC h
 refine rR (.string (aPf10 a)) (mR b20) [(aPf3 a), (aPf7 a), (8, ii r2.1), aPf5, (64, .string a), (70, .string (aPf10 a))] ?_
 obtain ⟨b22, h⟩ := oC h
 refine cQ [4, 5, 8, 10, 71] 71 (KC.of_calls E0_ok (F := Proofs.Tryz.f65) (v := .string (sufV a (aPf10 a))) (by kernel_rfl) rfl rfl (suf_ok b22)) ?_
 obtain ⟨r7, r7_h, h⟩ := bS h
 refine cQ [4, 5, 8, 10, 72] 72 (KC.of_calls E0_ok (F := Proofs.Tryz.f64) (v := ii r7) (by kernel_rfl) rfl rfl (fun w hI => f64_ok m (sufV a (aPf10 a)) r7 r7_h w hI)) ?_
 refine rE 3 [(aPf3 a), (aPf7 a), aPf5, (63, .bool (r7 != r2.1))] id ?_
 cases b23 : (r7 != r2.1 : Bool)
 case true =>
  have h := cT b23 h
  refine iT 63 ?_
  refine qE 2 [aPf9, (3, ii 18)] id ?_
  obtain rfl := sI h
  exact tV (.tuple #[.pointer none, ii 18]) id rfl
 have h := cF b23 h
 refine iK 63 id ?_
 refine sQ ?_
 refine qQ ?_
 refine rS 3 [aPf5, (75, s0 0 ((aPf1 a).length)), (77, ii (aPf4 a))] ?_
 obtain ⟨b24, h⟩ := oC h
 refine rR (sl 0 (1 * 1) (Int.toNat (aPf4 a) - 1) ((aPf1 a).length - 1)) (v_cut (nt := 94) (s := 1) (x := (src 94 (.tmp 75))) (lo := (some (.const (ii 1)))) (hi := (some (.tmp 77))) (mx := none) (b := 0) (o := 0) (len := (aPf1 a).length) (cap := (aPf1 a).length) (l := (some 1)) (u := (some (aPf4 a))) (m := none) (cs := rowC encS (aPf1 a)) (fz := 0) (e := 9) (es := 1) (o' := 1 * 1) (len' := Int.toNat (aPf4 a) - 1) (cap' := (aPf1 a).length - 1) (d := (some (path 12 78))) (by kernel_rfl) (by kernel_rfl) (by kernel_rfl) (by kernel_rfl) (by kernel_rfl) (by kernel_rfl) (by kernel_rfl) rfl b24 (by simp only [Option.getD_none, Option.getD_some] <;> omega) (by simp only [Option.getD_none, Option.getD_some] <;> omega) (by simp only [Option.getD_none, Option.getD_some] <;> omega)) [aPf5, (aPf8 a)] ?_
 refine rE 2 [aPf5, (aPf8 a), (79, ii (aPf6 a)), (80, ii 0)] id ?_
 refine XQ.block (id := 1) (by kernel_rfl) ?_
 refine XQ.loop m (by kernel_rfl) ?_
 obtain ⟨o2, o2_h, h⟩ := bS h
 refine nL [aPf5, (aPf8 a), (79, ii (aPf6 a)), (80, ii 0)] [(0, rc encS (aPf1 a) 0 9 1)] 1 [0] ?_
 cases o2 with
 | r =>
  dsimp only at h
  refine XL.conv (f23_2_ok m m (Int.toNat (aPf4 a) - 1) ((aPf1 a).length - 1) (aPf6 a) (aPf1 a) (.r) o2_h _ ?_) (by first | with_reducible rfl | simp | rfl)
  obtain rfl := sI h
  exact ⟨fun i q => (by cases q), .tuple #[.pointer none, ii 14], (by kernel_rfl), rfl⟩
 | x1 =>
  dsimp only at h
  refine XL.conv (f23_2_ok m m (Int.toNat (aPf4 a) - 1) ((aPf1 a).length - 1) (aPf6 a) (aPf1 a) (.x1) o2_h _ ?_) (by first | with_reducible rfl | simp | rfl)
  show XQ _ _ _ _ _ _ _ _
  refine qE 3 [aPf9, (3, ii 0)] id ?_
  obtain rfl := sI h
  exact tV (.tuple #[.pointer none, ii 0]) id rfl
end Go.Xm
