/- What functions of the program compute, and the proofs. Conditions: the library's variables hold what their texts lay. -/
import Derived.Test.YtglkjlafglpalaaGreatDoorWe
import Derived.Test.YtglkjlafglpalaaGreatDoorEe
import Derived.Test.YtglkjlafglpalaaGreatDoorMp
import Derived.Test.YtglkjlafglpalaaGreatDoorNm
namespace Go.Xm
open Go.RowKit
set_option linter.unusedVariables false
set_option linter.unusedSimpArgs false
set_option maxRecDepth 20000
set_option maxHeartbeats 4000000
noncomputable def f91_C91 : Code := Proofs.Tryz.f91.body.getD .skip
abbrev aPa7 (a : ByteArray) := (trimV a (bs [97, 98, 99, 100, 101, 102, 103, 104, 105, 106, 107, 108, 109, 110, 111, 112, 113, 114, 115, 116, 117, 118, 119, 120, 121, 122]))
def f91 (m : Nat) (a : ByteArray) : Option (Bool) :=
 cond (!(a.data.toList == [])) (
  cond (decide (((a.size : Nat) : Int) ≤ 10)) (
   cond (okS a) (
    some ((aPa7 a).data.toList == [])
   ) none
  ) (
   some (false)
  )
 ) (
  some (false)
 )
theorem f91_ok (m : Nat) (a : ByteArray) (o : Bool) (h : f91 m a = some o) (w : World) (hI : maInv w) : Calls Proofs.Tryz.prog 91 #[.string a] w fun e w' => e = .returned (.bool o) ∧ Below w.heap.size w w' := by
 refine KC.calls (E := E0) (args := [.string a]) (v := .bool o) rfl rfl (KC.bodyN E0_ok (F := Proofs.Tryz.f91) (by kernel_rfl) (code := f91_C91) (by kernel_rfl) (nt := 15) (by kernel_rfl) (rs := [.tmp 2]) (by kernel_rfl) (by kernel_rfl) (σ := [(0, .string a)]) (by kernel_rfl) ?_) w (maInv_size hI) hI
 unfold f91 at h
 refine qQ ?_
 refine rS 1 [(0, .string a)] ?_
 refine nQ id ?_
 refine rS 3 [(0, .string a), (5, .bool (!(a.data.toList == [])))] ?_
 cases b1 : (!(a.data.toList == []) : Bool)
 case false =>
  have h := cF b1 h
  refine rE 10 [(2, .bool false)] id ?_
  obtain rfl := sI h
  exact tV (.bool false) id rfl
 have h := cT b1 h
 refine rS 5 [(0, .string a), (10, .bool (decide (((a.size : Nat) : Int) ≤ 10)))] ?_
 cases b2 : (decide (((a.size : Nat) : Int) ≤ 10) : Bool)
 case false =>
  have h := cF b2 h
  refine rE 5 [(2, .bool false)] id ?_
  obtain rfl := sI h
  exact tV (.bool false) id rfl
 have h := cT b2 h
 refine rS 1 [(10, .bool true), (11, .string a)] ?_
 obtain ⟨b3, h⟩ := oC h
 refine cQ [10, 12] 12 (KC.of_calls E0_ok (F := Proofs.Tryz.f119) (v := .string (aPa7 a)) (by kernel_rfl) rfl rfl (trim_ok b3 (by kernel_rfl))) ?_
 refine rE 3 [(2, .bool ((aPa7 a).data.toList == []))] id ?_
 obtain rfl := sI h
 exact tV (.bool ((aPa7 a).data.toList == [])) id rfl
noncomputable def f53_C53 : Code := Proofs.Tryz.f53.body.getD .skip
noncomputable def f53_C93 : Code := Proofs.Tryz.f93.body.getD .skip
abbrev aPa1 (a : ByteArray) := (splitV a (bs [32]))
abbrev aPa0 (a : ByteArray) := (List.getD (aPa1 a) 1 (bs []))
abbrev aPa12 (a : ByteArray) := (List.getD (aPa1 a) 2 (bs []))
abbrev aPa2 (a : ByteArray) := ((numV (aPa12 a)).1)
abbrev aPa3 (a : ByteArray) := (List.getD (aPa1 a) 0 (bs []))
abbrev aPa4 (a : ByteArray) := ((numV (aPa0 a)).1)
abbrev aPa6 (a : ByteArray) := (numV (List.getD (aPa1 a) (3 + 0) (bs [])))
abbrev aPa8 (a : ByteArray) := (((aPa1 a).length : Nat) : Int)
abbrev aPa11 (a : ByteArray) := (((aPa1 a).length - 3 : Nat) : Int)
abbrev aPa13 (a : ByteArray) := ((aPa1 a).length)
def f53 (m : Nat) (a : ByteArray) : Option (Deed) :=
 cond (Nat.ble a.size 1000000 && Nat.beq (bs [32]).size 1) (
  cond (a.data.toList == [115, 104, 117, 116]) (
   some (Deed.shut)
  ) (
   cond (a.data.toList == [99, 108, 111, 115, 101]) (
    some (Deed.closed)
   ) (
    cond (a.data.toList == [117, 110, 100, 111]) (
     some (Deed.undo)
    ) (
     cond (decide ((aPa8 a) > 2)) (
      cond (inRow 1 (aPa13 a)) (
       (f91 m (aPa0 a)).bind fun r1 =>
        cond (r1) (
         cond (inRow 2 (aPa13 a)) (
          cond (okS (aPa12 a)) (
           cond ((numV (aPa12 a)).2) (
            cond (inRow 0 (aPa13 a)) (
             cond (cutOK 3 (aPa8 a) (aPa8 a) (aPa13 a)) (
              cond ((aPa3 a).data.toList == [98, 97, 108, 101]) (
               cond ((aPa11 a) != 1) (
                some (Deed.nop)
               ) (
                cond (inRow 0 ((aPa1 a).length - 3)) (
                 cond (decide (3 + 0 < (aPa1 a).length)) (
                  cond (okS (List.getD (aPa1 a) (3 + 0) (bs []))) (
                   cond (!((aPa6 a).2)) (
                    some (Deed.nop)
                   ) (
                    some (Deed.arrive (aPa0 a) (aPa2 a) ((aPa6 a).1))
                   )
                  ) none
                 ) none
                ) none
               )
              ) (
               cond (decide ((aPa11 a) > 0)) (
                some (Deed.nop)
               ) (
                cond ((aPa3 a).data.toList == [109, 111, 118, 101]) (
                 some (Deed.move (aPa0 a) (aPa2 a))
                ) (
                 cond ((aPa3 a).data.toList == [116, 97, 107, 101]) (
                  some (Deed.take (aPa0 a) (aPa2 a))
                 ) (
                  cond ((aPa3 a).data.toList == [99, 111, 117, 110, 116]) (
                   some (Deed.count (aPa0 a) 0 (aPa2 a))
                  ) (
                   some (Deed.nop)
                  )
                 )
                )
               )
              )
             ) none
            ) none
           ) (
            some (Deed.nop)
           )
          ) none
         ) none
        ) (
         cond ((aPa8 a) != 2) (
          some (Deed.nop)
         ) (
          cond (okS (aPa0 a)) (
           cond (!((numV (aPa0 a)).2)) (
            some (Deed.nop)
           ) (
            cond (inRow 0 (aPa13 a)) (
             cond ((aPa3 a).data.toList == [115, 116, 97, 109, 112, 115]) (
              some (Deed.supply (aPa4 a))
             ) (
              cond ((aPa3 a).data.toList == [98, 97, 110, 100]) (
               some (Deed.band (aPa4 a))
              ) (
               cond ((aPa3 a).data.toList == [115, 112, 111, 105, 108]) (
                some (Deed.spoil (aPa4 a))
               ) (
                cond ((aPa3 a).data.toList == [107, 101, 121]) (
                 some (Deed.turn (aPa4 a))
                ) (
                 cond ((aPa3 a).data.toList == [111, 117, 116]) (
                  some (Deed.leave (aPa4 a))
                 ) (
                  some (Deed.nop)
                 )
                )
               )
              )
             )
            ) none
           )
          ) none
         )
        )
      ) none
     ) (
      cond ((aPa8 a) != 2) (
       some (Deed.nop)
      ) (
       cond (inRow 1 (aPa13 a)) (
        cond (okS (aPa0 a)) (
         cond (!((numV (aPa0 a)).2)) (
          some (Deed.nop)
         ) (
          cond (inRow 0 (aPa13 a)) (
           cond ((aPa3 a).data.toList == [115, 116, 97, 109, 112, 115]) (
            some (Deed.supply (aPa4 a))
           ) (
            cond ((aPa3 a).data.toList == [98, 97, 110, 100]) (
             some (Deed.band (aPa4 a))
            ) (
             cond ((aPa3 a).data.toList == [115, 112, 111, 105, 108]) (
              some (Deed.spoil (aPa4 a))
             ) (
              cond ((aPa3 a).data.toList == [107, 101, 121]) (
               some (Deed.turn (aPa4 a))
              ) (
               cond ((aPa3 a).data.toList == [111, 117, 116]) (
                some (Deed.leave (aPa4 a))
               ) (
                some (Deed.nop)
               )
              )
             )
            )
           )
          ) none
         )
        ) none
       ) none
      )
     )
    )
   )
  )
 ) none
abbrev aPa5 (a : ByteArray) : Nat × Value := (3, s0 0 (aPa13 a))
abbrev aPa9 (a : ByteArray) : Nat × Value := (1, .string (aPa0 a))
abbrev aPa10 (a : ByteArray) : Nat × Value := (6, ii (aPa4 a))
abbrev aPa14 (a : ByteArray) : Nat × Value := (68, .string (aPa3 a))
abbrev aPa15 (a : ByteArray) : Nat × Value := (3, sl 0 (3 * 1) ((aPa1 a).length - 3) ((aPa1 a).length - 3))
theorem f53_ok (m : Nat) (a : ByteArray) (o : Deed) (h : f53 m a = some o) : KC E0 53 [.string a] [] 0 (fun v h' c' => v = deedV o ∧ h' = [] ∧ c' = 0) := by
 refine kN Proofs.Tryz.f53 f53_C53 94 [.tmp 2] ?_
 unfold f53 at h
 refine qQ ?_
 refine rS 1 [(0, .string a)] ?_
 refine nQ id ?_
 refine rS 1 [(0, .string a), (8, .string a)] ?_
 obtain ⟨b1, h⟩ := oC h
 refine cA [0, 9] 9 [.string a, .string (bs [32])] (split_c b1) ?_
 refine rE 1 [(0, .string a), (aPa5 a)] id ?_
 refine sQ ?_
 refine XQ.block (id := 0) (by kernel_rfl) ?_
 refine qE 3 [(0, .string a), (aPa5 a), (10, .bool (a.data.toList == [115, 104, 117, 116]))] id ?_
 cases b2 : (a.data.toList == [115, 104, 117, 116] : Bool)
 case true =>
  have h := cT b2 h
  refine iT 10 ?_
  refine qE 3 [(2, .iface 150 (.agg #[]))] id ?_
  refine nR [(2, .iface 150 (.agg #[]))] [] 0 [] ?_
  obtain rfl := sI h
  exact tV (.iface 150 (.agg #[])) id ⟨by kernel_rfl, by kernel_rfl, rfl⟩
 have h := cF b2 h
 refine iF 10 ?_
 refine qE 3 [(0, .string a), (aPa5 a), (15, .bool (a.data.toList == [99, 108, 111, 115, 101]))] id ?_
 cases b3 : (a.data.toList == [99, 108, 111, 115, 101] : Bool)
 case true =>
  have h := cT b3 h
  refine iT 15 ?_
  refine qE 3 [(2, .iface 151 (.agg #[]))] id ?_
  refine nR [(2, .iface 151 (.agg #[]))] [] 0 [] ?_
  obtain rfl := sI h
  exact tV (.iface 151 (.agg #[])) id ⟨by kernel_rfl, by kernel_rfl, rfl⟩
 have h := cF b3 h
 refine iF 15 ?_
 refine qE 3 [(aPa5 a), (20, .bool (a.data.toList == [117, 110, 100, 111]))] id ?_
 cases b4 : (a.data.toList == [117, 110, 100, 111] : Bool)
 case true =>
  have h := cT b4 h
  refine iT 20 ?_
  refine qE 3 [(2, .iface 104 (.agg #[]))] id ?_
  refine nR [(2, .iface 104 (.agg #[]))] [] 0 [] ?_
  obtain rfl := sI h
  exact tV (.iface 104 (.agg #[])) id ⟨by kernel_rfl, by kernel_rfl, rfl⟩
 have h := cF b4 h
 refine iF 20 ?_
 refine qQ ?_
 refine rS 4 [(aPa5 a), (29, .bool (decide ((aPa8 a) > 2)))] ?_
 cases b5 : (decide ((aPa8 a) > 2) : Bool)
 case false =>
  have h := cF b5 h
  refine rE 6 [(aPa5 a), (25, .bool false)] id ?_
  refine iF 25 ?_
  refine qE 4 [(aPa5 a), (53, .bool ((aPa8 a) != 2))] id ?_
  cases b32 : ((aPa8 a) != 2 : Bool)
  case true =>
   have h := cT b32 h
   refine iT 53 ?_
   refine qE 1 [(2, .nilIface)] id ?_
   refine nR [(2, .nilIface)] [] 0 [] ?_
   obtain rfl := sI h
   exact tV (.nilIface) id ⟨by kernel_rfl, by kernel_rfl, rfl⟩
  have h := cF b32 h
  refine iK 53 id ?_
  refine qQ ?_
  refine rS 1 [(aPa5 a), (58, s0 0 (aPa13 a))] ?_
  obtain ⟨b33, h⟩ := oC h
  refine rR (pp 0 (1 * 1)) (iV 58 (.const (ii 1)) 59 1 0 b33) [(aPa5 a), (59, pp 0 (1 * 1))] ?_
  refine rR _ (lV encS_ok 59 60 0 (1 * 1) (aPa1 a) 0 9 1 1 0 (bs []) (rl b33)) [(aPa5 a), (60, .string (aPa0 a))] ?_
  obtain ⟨b34, h⟩ := oC h
  refine cQ [3, 61] 61 (KC.of_calls E0_ok (F := Proofs.Tryz.f92) (v := .tuple #[ii (aPa4 a), .bool ((numV (aPa0 a)).2)]) (by kernel_rfl) rfl rfl (num_ok b34)) ?_
  refine rE 5 [(aPa5 a), (aPa10 a), (7, .bool ((numV (aPa0 a)).2))] id ?_
  refine sQ ?_
  refine qE 2 [(aPa5 a), (aPa10 a), (65, .bool (!((numV (aPa0 a)).2)))] id ?_
  cases b35 : (!((numV (aPa0 a)).2) : Bool)
  case true =>
   have h := cT b35 h
   refine iT 65 ?_
   refine qE 1 [(2, .nilIface)] id ?_
   refine nR [(2, .nilIface)] [] 0 [] ?_
   obtain rfl := sI h
   exact tV (.nilIface) id ⟨by kernel_rfl, by kernel_rfl, rfl⟩
  have h := cF b35 h
  refine iK 65 id ?_
  refine sQ ?_
  refine qQ ?_
  refine rS 1 [(aPa10 a), (66, s0 0 (aPa13 a))] ?_
  obtain ⟨b36, h⟩ := oC h
  refine rR (pp 0 (0 * 1)) (iV 66 (.const (ii 0)) 67 1 0 b36) [(aPa10 a), (67, pp 0 (0 * 1))] ?_
  refine rR _ (lV encS_ok 67 68 0 (0 * 1) (aPa1 a) 0 9 1 0 0 (bs []) (rl b36)) [(aPa10 a), (aPa14 a)] ?_
  refine eQ id ?_
  refine XQ.block (id := 1) (by kernel_rfl) ?_
  refine qE 2 [(aPa10 a), (aPa14 a), (69, .bool ((aPa3 a).data.toList == [115, 116, 97, 109, 112, 115]))] id ?_
  cases b37 : ((aPa3 a).data.toList == [115, 116, 97, 109, 112, 115] : Bool)
  case true =>
   have h := cT b37 h
   refine iT 69 ?_
   refine qE 4 [(2, .iface 155 (.agg #[ii (aPa4 a)]))] id ?_
   refine nR [(2, .iface 155 (.agg #[ii (aPa4 a)]))] [] 0 [] ?_
   obtain rfl := sI h
   exact tV (.iface 155 (.agg #[ii (aPa4 a)])) id ⟨by kernel_rfl, by kernel_rfl, rfl⟩
  have h := cF b37 h
  refine iF 69 ?_
  refine qE 2 [(aPa10 a), (aPa14 a), (74, .bool ((aPa3 a).data.toList == [98, 97, 110, 100]))] id ?_
  cases b38 : ((aPa3 a).data.toList == [98, 97, 110, 100] : Bool)
  case true =>
   have h := cT b38 h
   refine iT 74 ?_
   refine qE 4 [(2, .iface 156 (.agg #[ii (aPa4 a)]))] id ?_
   refine nR [(2, .iface 156 (.agg #[ii (aPa4 a)]))] [] 0 [] ?_
   obtain rfl := sI h
   exact tV (.iface 156 (.agg #[ii (aPa4 a)])) id ⟨by kernel_rfl, by kernel_rfl, rfl⟩
  have h := cF b38 h
  refine iF 74 ?_
  refine qE 2 [(aPa10 a), (aPa14 a), (79, .bool ((aPa3 a).data.toList == [115, 112, 111, 105, 108]))] id ?_
  cases b39 : ((aPa3 a).data.toList == [115, 112, 111, 105, 108] : Bool)
  case true =>
   have h := cT b39 h
   refine iT 79 ?_
   refine qE 4 [(2, .iface 157 (.agg #[ii (aPa4 a)]))] id ?_
   refine nR [(2, .iface 157 (.agg #[ii (aPa4 a)]))] [] 0 [] ?_
   obtain rfl := sI h
   exact tV (.iface 157 (.agg #[ii (aPa4 a)])) id ⟨by kernel_rfl, by kernel_rfl, rfl⟩
  have h := cF b39 h
  refine iF 79 ?_
  refine qE 2 [(aPa10 a), (aPa14 a), (84, .bool ((aPa3 a).data.toList == [107, 101, 121]))] id ?_
  cases b40 : ((aPa3 a).data.toList == [107, 101, 121] : Bool)
  case true =>
   have h := cT b40 h
   refine iT 84 ?_
   refine qE 4 [(2, .iface 159 (.agg #[ii (aPa4 a)]))] id ?_
   refine nR [(2, .iface 159 (.agg #[ii (aPa4 a)]))] [] 0 [] ?_
   obtain rfl := sI h
   exact tV (.iface 159 (.agg #[ii (aPa4 a)])) id ⟨by kernel_rfl, by kernel_rfl, rfl⟩
  have h := cF b40 h
  refine iF 84 ?_
  refine qE 2 [(aPa10 a), (89, .bool ((aPa3 a).data.toList == [111, 117, 116]))] id ?_
  cases b41 : ((aPa3 a).data.toList == [111, 117, 116] : Bool)
  case false =>
   have h := cF b41 h
   refine iK 89 id ?_
   refine qE 1 [(2, .nilIface)] id ?_
   refine nR [(2, .nilIface)] [] 0 [] ?_
   obtain rfl := sI h
   exact tV (.nilIface) id ⟨by kernel_rfl, by kernel_rfl, rfl⟩
  have h := cT b41 h
  refine iT 89 ?_
  refine qE 4 [(2, .iface 160 (.agg #[ii (aPa4 a)]))] id ?_
  refine nR [(2, .iface 160 (.agg #[ii (aPa4 a)]))] [] 0 [] ?_
  obtain rfl := sI h
  exact tV (.iface 160 (.agg #[ii (aPa4 a)])) id ⟨by kernel_rfl, by kernel_rfl, rfl⟩
 have h := cT b5 h
 refine rS 1 [(aPa5 a), (29, .bool true), (30, s0 0 (aPa13 a))] ?_
 obtain ⟨b6, h⟩ := oC h
 refine rR (pp 0 (1 * 1)) (iV 30 (.const (ii 1)) 31 1 0 b6) [(aPa5 a), (29, .bool true), (31, pp 0 (1 * 1))] ?_
 refine rR _ (lV encS_ok 31 32 0 (1 * 1) (aPa1 a) 0 9 1 1 0 (bs []) (rl b6)) [(aPa5 a), (29, .bool true), (32, .string (aPa0 a))] ?_
 obtain ⟨r1, r1_h, h⟩ := bS h
 refine cQ [3, 29, 33] 33 (KC.of_calls E0_ok (F := Proofs.Tryz.f91) (v := .bool r1) (by kernel_rfl) rfl rfl (fun w hI => f91_ok m (aPa0 a) r1 r1_h w hI)) ?_
 refine rE 2 [(aPa5 a), (25, .bool r1)] id ?_
 cases b7 : (r1 : Bool)
 case false =>
  have h := cF b7 h
  refine iF 25 ?_
  refine qE 4 [(aPa5 a), (53, .bool ((aPa8 a) != 2))] id ?_
  cases b23 : ((aPa8 a) != 2 : Bool)
  case true =>
   have h := cT b23 h
   refine iT 53 ?_
   refine qE 1 [(2, .nilIface)] id ?_
   refine nR [(2, .nilIface)] [] 0 [] ?_
   obtain rfl := sI h
   exact tV (.nilIface) id ⟨by kernel_rfl, by kernel_rfl, rfl⟩
  have h := cF b23 h
  refine iK 53 id ?_
  refine qQ ?_
  refine rS 1 [(aPa5 a), (58, s0 0 (aPa13 a))] ?_
  refine rR (pp 0 (1 * 1)) (iV 58 (.const (ii 1)) 59 1 0 b6) [(aPa5 a), (59, pp 0 (1 * 1))] ?_
  refine rR _ (lV encS_ok 59 60 0 (1 * 1) (aPa1 a) 0 9 1 1 0 (bs []) (rl b6)) [(aPa5 a), (60, .string (aPa0 a))] ?_
  obtain ⟨b24, h⟩ := oC h
  refine cQ [3, 61] 61 (KC.of_calls E0_ok (F := Proofs.Tryz.f92) (v := .tuple #[ii (aPa4 a), .bool ((numV (aPa0 a)).2)]) (by kernel_rfl) rfl rfl (num_ok b24)) ?_
  refine rE 5 [(aPa5 a), (aPa10 a), (7, .bool ((numV (aPa0 a)).2))] id ?_
  refine sQ ?_
  refine qE 2 [(aPa5 a), (aPa10 a), (65, .bool (!((numV (aPa0 a)).2)))] id ?_
  cases b25 : (!((numV (aPa0 a)).2) : Bool)
  case true =>
   have h := cT b25 h
   refine iT 65 ?_
   refine qE 1 [(2, .nilIface)] id ?_
   refine nR [(2, .nilIface)] [] 0 [] ?_
   obtain rfl := sI h
   exact tV (.nilIface) id ⟨by kernel_rfl, by kernel_rfl, rfl⟩
  have h := cF b25 h
  refine iK 65 id ?_
  refine sQ ?_
  refine qQ ?_
  refine rS 1 [(aPa10 a), (66, s0 0 (aPa13 a))] ?_
  obtain ⟨b26, h⟩ := oC h
  refine rR (pp 0 (0 * 1)) (iV 66 (.const (ii 0)) 67 1 0 b26) [(aPa10 a), (67, pp 0 (0 * 1))] ?_
  refine rR _ (lV encS_ok 67 68 0 (0 * 1) (aPa1 a) 0 9 1 0 0 (bs []) (rl b26)) [(aPa10 a), (aPa14 a)] ?_
  refine eQ id ?_
  refine XQ.block (id := 1) (by kernel_rfl) ?_
  refine qE 2 [(aPa10 a), (aPa14 a), (69, .bool ((aPa3 a).data.toList == [115, 116, 97, 109, 112, 115]))] id ?_
  cases b27 : ((aPa3 a).data.toList == [115, 116, 97, 109, 112, 115] : Bool)
  case true =>
   have h := cT b27 h
   refine iT 69 ?_
   refine qE 4 [(2, .iface 155 (.agg #[ii (aPa4 a)]))] id ?_
   refine nR [(2, .iface 155 (.agg #[ii (aPa4 a)]))] [] 0 [] ?_
   obtain rfl := sI h
   exact tV (.iface 155 (.agg #[ii (aPa4 a)])) id ⟨by kernel_rfl, by kernel_rfl, rfl⟩
  have h := cF b27 h
  refine iF 69 ?_
  refine qE 2 [(aPa10 a), (aPa14 a), (74, .bool ((aPa3 a).data.toList == [98, 97, 110, 100]))] id ?_
  cases b28 : ((aPa3 a).data.toList == [98, 97, 110, 100] : Bool)
  case true =>
   have h := cT b28 h
   refine iT 74 ?_
   refine qE 4 [(2, .iface 156 (.agg #[ii (aPa4 a)]))] id ?_
   refine nR [(2, .iface 156 (.agg #[ii (aPa4 a)]))] [] 0 [] ?_
   obtain rfl := sI h
   exact tV (.iface 156 (.agg #[ii (aPa4 a)])) id ⟨by kernel_rfl, by kernel_rfl, rfl⟩
  have h := cF b28 h
  refine iF 74 ?_
  refine qE 2 [(aPa10 a), (aPa14 a), (79, .bool ((aPa3 a).data.toList == [115, 112, 111, 105, 108]))] id ?_
  cases b29 : ((aPa3 a).data.toList == [115, 112, 111, 105, 108] : Bool)
  case true =>
   have h := cT b29 h
   refine iT 79 ?_
   refine qE 4 [(2, .iface 157 (.agg #[ii (aPa4 a)]))] id ?_
   refine nR [(2, .iface 157 (.agg #[ii (aPa4 a)]))] [] 0 [] ?_
   obtain rfl := sI h
   exact tV (.iface 157 (.agg #[ii (aPa4 a)])) id ⟨by kernel_rfl, by kernel_rfl, rfl⟩
  have h := cF b29 h
  refine iF 79 ?_
  refine qE 2 [(aPa10 a), (aPa14 a), (84, .bool ((aPa3 a).data.toList == [107, 101, 121]))] id ?_
  cases b30 : ((aPa3 a).data.toList == [107, 101, 121] : Bool)
  case true =>
   have h := cT b30 h
   refine iT 84 ?_
   refine qE 4 [(2, .iface 159 (.agg #[ii (aPa4 a)]))] id ?_
   refine nR [(2, .iface 159 (.agg #[ii (aPa4 a)]))] [] 0 [] ?_
   obtain rfl := sI h
   exact tV (.iface 159 (.agg #[ii (aPa4 a)])) id ⟨by kernel_rfl, by kernel_rfl, rfl⟩
  have h := cF b30 h
  refine iF 84 ?_
  refine qE 2 [(aPa10 a), (89, .bool ((aPa3 a).data.toList == [111, 117, 116]))] id ?_
  cases b31 : ((aPa3 a).data.toList == [111, 117, 116] : Bool)
  case false =>
   have h := cF b31 h
   refine iK 89 id ?_
   refine qE 1 [(2, .nilIface)] id ?_
   refine nR [(2, .nilIface)] [] 0 [] ?_
   obtain rfl := sI h
   exact tV (.nilIface) id ⟨by kernel_rfl, by kernel_rfl, rfl⟩
  have h := cT b31 h
  refine iT 89 ?_
  refine qE 4 [(2, .iface 160 (.agg #[ii (aPa4 a)]))] id ?_
  refine nR [(2, .iface 160 (.agg #[ii (aPa4 a)]))] [] 0 [] ?_
  obtain rfl := sI h
  exact tV (.iface 160 (.agg #[ii (aPa4 a)])) id ⟨by kernel_rfl, by kernel_rfl, rfl⟩
 have h := cT b7 h
 refine iT 25 ?_
 refine sQ ?_
 refine qQ ?_
 refine rS 1 [(aPa5 a), (36, s0 0 (aPa13 a))] ?_
 obtain ⟨b8, h⟩ := oC h
 refine rR (pp 0 (2 * 1)) (iV 36 (.const (ii 2)) 37 1 0 b8) [(aPa5 a), (37, pp 0 (2 * 1))] ?_
 refine rR _ (lV encS_ok 37 38 0 (2 * 1) (aPa1 a) 0 9 1 2 0 (bs []) (rl b8)) [(aPa5 a), (38, .string (aPa12 a))] ?_
 obtain ⟨b9, h⟩ := oC h
 refine cQ [3, 39] 39 (KC.of_calls E0_ok (F := Proofs.Tryz.f92) (v := .tuple #[ii (aPa2 a), .bool ((numV (aPa12 a)).2)]) (by kernel_rfl) rfl rfl (num_ok b9)) ?_
 refine rS 5 [(aPa5 a), (4, ii (aPa2 a)), (5, .bool ((numV (aPa12 a)).2))] ?_
 refine nQ id ?_
 refine rE 1 [(aPa5 a), (4, ii (aPa2 a)), (42, .bool ((numV (aPa12 a)).2))] id ?_
 cases b10 : ((numV (aPa12 a)).2 : Bool)
 case false =>
  have h := cF b10 h
  refine iK 42 id ?_
  refine qE 1 [(2, .nilIface)] id ?_
  refine nR [(2, .nilIface)] [] 0 [] ?_
  obtain rfl := sI h
  exact tV (.nilIface) id ⟨by kernel_rfl, by kernel_rfl, rfl⟩
 have h := cT b10 h
 refine iT 42 ?_
 refine sQ ?_
 refine XQ.tail E0_ok 9 (by kernel_rfl) (by kernel_rfl) ?_
 refine XS.step E0_ok 1 rfl [3, 4, 43] rfl (σ' := [(aPa5 a), (4, ii (aPa2 a)), (43, s0 0 (aPa13 a))]) (by kernel_rfl) ?_
 obtain ⟨b11, h⟩ := oC h
 refine sR (pp 0 (0 * 1)) (iV 43 (.const (ii 0)) 44 1 0 b11) [(aPa5 a), (4, ii (aPa2 a)), (44, pp 0 (0 * 1))] ?_
 refine sR _ (lV encS_ok 44 45 0 (0 * 1) (aPa1 a) 0 9 1 0 0 (bs []) (rl b11)) [(aPa5 a), (4, ii (aPa2 a)), (45, .string (aPa3 a))] ?_
 refine XS.step E0_ok 1 rfl [3, 4, 45, 46] rfl (σ' := [(aPa5 a), (4, ii (aPa2 a)), (45, .string (aPa3 a)), (46, s0 0 (aPa13 a))]) (by kernel_rfl) ?_
 refine sR (pp 0 (1 * 1)) (iV 46 (.const (ii 1)) 47 1 0 b6) [(aPa5 a), (4, ii (aPa2 a)), (45, .string (aPa3 a)), (47, pp 0 (1 * 1))] ?_
 refine sR _ (lV encS_ok 47 48 0 (1 * 1) (aPa1 a) 0 9 1 1 0 (bs []) (rl b6)) [(aPa5 a), (4, ii (aPa2 a)), (45, .string (aPa3 a)), (48, .string (aPa0 a))] ?_
 refine XS.step E0_ok 2 rfl [45, 48, 49, 50] rfl (σ' := [(45, .string (aPa3 a)), (48, .string (aPa0 a)), (49, ii (aPa2 a)), (50, s0 0 (aPa13 a))]) (by kernel_rfl) ?_
 obtain ⟨b12, h⟩ := oC h
 refine sR (sl 0 (3 * 1) ((aPa1 a).length - 3) ((aPa1 a).length - 3)) (v_cut (nt := 94) (s := 1) (x := (src 94 (.tmp 50))) (lo := (some (.const (ii 3)))) (hi := none) (mx := none) (b := 0) (o := 0) (len := (aPa1 a).length) (cap := (aPa1 a).length) (l := (some 3)) (u := none) (m := none) (cs := rowC encS (aPa1 a)) (fz := 0) (e := 9) (es := 1) (o' := 3 * 1) (len' := (aPa1 a).length - 3) (cap' := (aPa1 a).length - 3) (d := (some (path 12 51))) (by kernel_rfl) (by kernel_rfl) (by kernel_rfl) (by kernel_rfl) (by kernel_rfl) (by kernel_rfl) (by kernel_rfl) rfl b12 (by simp only [Option.getD_none, Option.getD_some] <;> omega) (by simp only [Option.getD_none, Option.getD_some] <;> omega) (by simp only [Option.getD_none, Option.getD_some] <;> omega)) [(45, .string (aPa3 a)), (48, .string (aPa0 a)), (49, ii (aPa2 a)), (51, sl 0 (3 * 1) ((aPa1 a).length - 3) ((aPa1 a).length - 3))] ?_
 refine XS.done (by kernel_rfl) ?_
 refine cK [52] 93 [.string (aPa3 a), .string (aPa0 a), ii (aPa2 a), sl 0 (3 * 1) ((aPa1 a).length - 3) ((aPa1 a).length - 3)] 52 ?_
 refine kN Proofs.Tryz.f93 f53_C93 53 [.tmp 8] ?_
 refine qE 1 [(0, .string (aPa3 a)), (aPa9 a), (2, ii (aPa2 a)), (aPa15 a)] id ?_
 refine sQ ?_
 refine qE 2 [(0, .string (aPa3 a)), (aPa9 a), (2, ii (aPa2 a)), (aPa15 a), (12, .bool ((aPa3 a).data.toList == [98, 97, 108, 101]))] id ?_
 cases b13 : ((aPa3 a).data.toList == [98, 97, 108, 101] : Bool)
 case true =>
  have h := cT b13 h
  refine iT 12 ?_
  refine sQ ?_
  refine qE 3 [(aPa9 a), (2, ii (aPa2 a)), (aPa15 a), (15, .bool ((aPa11 a) != 1))] id ?_
  cases b14 : ((aPa11 a) != 1 : Bool)
  case true =>
   have h := cT b14 h
   refine iT 15 ?_
   refine qE 1 [(8, .nilIface)] id ?_
   refine tV (.nilIface) id ?_
   refine rE 1 [(2, .nilIface)] id ?_
   refine nR [(2, .nilIface)] [] 0 [] ?_
   obtain rfl := sI h
   exact tV (.nilIface) id ⟨by kernel_rfl, by kernel_rfl, rfl⟩
  have h := cF b14 h
  refine iK 15 id ?_
  refine qQ ?_
  refine rS 1 [(aPa9 a), (2, ii (aPa2 a)), (17, sl 0 (3 * 1) ((aPa1 a).length - 3) ((aPa1 a).length - 3))] ?_
  obtain ⟨b15, h⟩ := oC h
  refine rR (pp 0 ((3 + 0) * 1)) (v_idx (s := 1) (x := (src 53 (.tmp 17))) (y := (src 53 (.const (ii 0)))) (b := 0) (o := 3 * 1) (len := (aPa1 a).length - 3) (cap := (aPa1 a).length - 3) (ik := .i64) (i := 0) (off := (3 + 0) * 1) (d := (some (path 12 18))) (by kernel_rfl) (by kernel_rfl) (by kernel_rfl) b15 (by omega)) [(aPa9 a), (2, ii (aPa2 a)), (18, pp 0 ((3 + 0) * 1))] ?_
  obtain ⟨b16, h⟩ := oC h
  refine rR _ (lV encS_ok 18 19 0 ((3 + 0) * 1) (aPa1 a) 0 9 1 (3 + 0) 0 (bs []) (row_len b16 (by simp))) [(aPa9 a), (2, ii (aPa2 a)), (19, .string (List.getD (aPa1 a) (3 + 0) (bs [])))] ?_
  obtain ⟨b17, h⟩ := oC h
  refine cQ [1, 2, 20] 20 (KC.of_calls E0_ok (F := Proofs.Tryz.f92) (v := .tuple #[ii ((aPa6 a).1), .bool ((aPa6 a).2)]) (by kernel_rfl) rfl rfl (num_ok b17)) ?_
  refine rE 5 [(aPa9 a), (2, ii (aPa2 a)), (9, ii ((aPa6 a).1)), (10, .bool ((aPa6 a).2))] id ?_
  refine sQ ?_
  refine qE 2 [(aPa9 a), (2, ii (aPa2 a)), (9, ii ((aPa6 a).1)), (24, .bool (!((aPa6 a).2)))] id ?_
  cases b18 : (!((aPa6 a).2) : Bool)
  case true =>
   have h := cT b18 h
   refine iT 24 ?_
   refine qE 1 [(8, .nilIface)] id ?_
   refine tV (.nilIface) id ?_
   refine rE 1 [(2, .nilIface)] id ?_
   refine nR [(2, .nilIface)] [] 0 [] ?_
   obtain rfl := sI h
   exact tV (.nilIface) id ⟨by kernel_rfl, by kernel_rfl, rfl⟩
  have h := cF b18 h
  refine iK 24 id ?_
  refine qE 6 [(8, .iface 186 (.agg #[.string (aPa0 a), ii (aPa2 a), ii ((aPa6 a).1)]))] id ?_
  refine tV (.iface 186 (.agg #[.string (aPa0 a), ii (aPa2 a), ii ((aPa6 a).1)])) id ?_
  refine rE 1 [(2, .iface 186 (.agg #[.string (aPa0 a), ii (aPa2 a), ii ((aPa6 a).1)]))] id ?_
  refine nR [(2, .iface 186 (.agg #[.string (aPa0 a), ii (aPa2 a), ii ((aPa6 a).1)]))] [] 0 [] ?_
  obtain rfl := sI h
  exact tV (.iface 186 (.agg #[.string (aPa0 a), ii (aPa2 a), ii ((aPa6 a).1)])) id ⟨by kernel_rfl, by kernel_rfl, rfl⟩
 have h := cF b13 h
 refine iK 12 id ?_
 refine sQ ?_
 refine qE 3 [(0, .string (aPa3 a)), (aPa9 a), (2, ii (aPa2 a)), (32, .bool (decide ((aPa11 a) > 0)))] id ?_
 cases b19 : (decide ((aPa11 a) > 0) : Bool)
 case true =>
  have h := cT b19 h
  refine iT 32 ?_
  refine qE 1 [(8, .nilIface)] id ?_
  refine tV (.nilIface) id ?_
  refine rE 1 [(2, .nilIface)] id ?_
  refine nR [(2, .nilIface)] [] 0 [] ?_
  obtain rfl := sI h
  exact tV (.nilIface) id ⟨by kernel_rfl, by kernel_rfl, rfl⟩
 have h := cF b19 h
 refine iK 32 id ?_
 refine sQ ?_
 refine qE 1 [(aPa9 a), (2, ii (aPa2 a)), (33, .string (aPa3 a))] id ?_
 refine XQ.block (id := 0) (by kernel_rfl) ?_
 refine qE 2 [(aPa9 a), (2, ii (aPa2 a)), (33, .string (aPa3 a)), (34, .bool ((aPa3 a).data.toList == [109, 111, 118, 101]))] id ?_
 cases b20 : ((aPa3 a).data.toList == [109, 111, 118, 101] : Bool)
 case true =>
  have h := cT b20 h
  refine iT 34 ?_
  refine qE 5 [(8, .iface 188 (.agg #[.string (aPa0 a), ii (aPa2 a)]))] id ?_
  refine tV (.iface 188 (.agg #[.string (aPa0 a), ii (aPa2 a)])) id ?_
  refine rE 1 [(2, .iface 188 (.agg #[.string (aPa0 a), ii (aPa2 a)]))] id ?_
  refine nR [(2, .iface 188 (.agg #[.string (aPa0 a), ii (aPa2 a)]))] [] 0 [] ?_
  obtain rfl := sI h
  exact tV (.iface 188 (.agg #[.string (aPa0 a), ii (aPa2 a)])) id ⟨by kernel_rfl, by kernel_rfl, rfl⟩
 have h := cF b20 h
 refine iF 34 ?_
 refine qE 2 [(aPa9 a), (2, ii (aPa2 a)), (33, .string (aPa3 a)), (40, .bool ((aPa3 a).data.toList == [116, 97, 107, 101]))] id ?_
 cases b21 : ((aPa3 a).data.toList == [116, 97, 107, 101] : Bool)
 case true =>
  have h := cT b21 h
  refine iT 40 ?_
  refine qE 5 [(8, .iface 190 (.agg #[.string (aPa0 a), ii (aPa2 a)]))] id ?_
  refine tV (.iface 190 (.agg #[.string (aPa0 a), ii (aPa2 a)])) id ?_
  refine rE 1 [(2, .iface 190 (.agg #[.string (aPa0 a), ii (aPa2 a)]))] id ?_
  refine nR [(2, .iface 190 (.agg #[.string (aPa0 a), ii (aPa2 a)]))] [] 0 [] ?_
  obtain rfl := sI h
  exact tV (.iface 190 (.agg #[.string (aPa0 a), ii (aPa2 a)])) id ⟨by kernel_rfl, by kernel_rfl, rfl⟩
 have h := cF b21 h
 refine iF 40 ?_
 refine qE 2 [(aPa9 a), (2, ii (aPa2 a)), (46, .bool ((aPa3 a).data.toList == [99, 111, 117, 110, 116]))] id ?_
 cases b22 : ((aPa3 a).data.toList == [99, 111, 117, 110, 116] : Bool)
 case false =>
  have h := cF b22 h
  refine iK 46 id ?_
  refine qE 1 [(8, .nilIface)] id ?_
  refine tV (.nilIface) id ?_
  refine rE 1 [(2, .nilIface)] id ?_
  refine nR [(2, .nilIface)] [] 0 [] ?_
  obtain rfl := sI h
  exact tV (.nilIface) id ⟨by kernel_rfl, by kernel_rfl, rfl⟩
 have h := cT b22 h
 refine iT 46 ?_
 refine qE 6 [(8, .iface 192 (.agg #[.string (aPa0 a), ii 0, ii (aPa2 a)]))] id ?_
 refine tV (.iface 192 (.agg #[.string (aPa0 a), ii 0, ii (aPa2 a)])) id ?_
 refine rE 1 [(2, .iface 192 (.agg #[.string (aPa0 a), ii 0, ii (aPa2 a)]))] id ?_
 refine nR [(2, .iface 192 (.agg #[.string (aPa0 a), ii 0, ii (aPa2 a)]))] [] 0 [] ?_
 obtain rfl := sI h
 exact tV (.iface 192 (.agg #[.string (aPa0 a), ii 0, ii (aPa2 a)])) id ⟨by kernel_rfl, by kernel_rfl, rfl⟩
end Go.Xm
