/- What functions of the program compute, and the proofs. Conditions: the library's variables hold what their texts lay. -/
import Derived.Test.YtglkjlafglpalaaGreatDoorWe
import Derived.Test.YtglkjlafglpalaaGreatDoorEz
namespace Go.Xm
open Go.RowKit
set_option linter.unusedVariables false
set_option linter.unusedSimpArgs false
set_option maxRecDepth 20000
set_option maxHeartbeats 4000000
noncomputable def f78_C78 : Code := Proofs.Tryz.f78.body.getD .skip
def f78 (m : Nat) (V : Int) (Z : Int) (G : Int) (B : Int) (b : Int) (c : Bool) : Option (ByteArray) :=
 cond (okI (w64 (1 + (Int.tmod (w64 G) 40)))) (
  cond (b != 0) (
   cond (okI (Int.tmod (w64 B) b)) (
    cond (cond ((Int.tmod V 20) == 0) ((Int.tmod V 20) == 0) (cond ((Int.tmod V 20) == 1) ((Int.tmod V 20) == 1) (cond ((Int.tmod V 20) == 2) ((Int.tmod V 20) == 2) ((Int.tmod V 20) == 3)))) (
     cond (Nat.ble ((bs [98, 97, 108, 101, 32]).size + (strN [IntKind.wrap .u8 (97 + (Int.tmod Z 6))]).size) 9223372036854775807) (
      cond (Nat.ble ((catS (bs [98, 97, 108, 101, 32]) (strN [IntKind.wrap .u8 (97 + (Int.tmod Z 6))])).size + (bs [32]).size) 9223372036854775807) (
       cond (Nat.ble ((catS (catS (bs [98, 97, 108, 101, 32]) (strN [IntKind.wrap .u8 (97 + (Int.tmod Z 6))])) (bs [32])).size + (itoaV (w64 (1 + (Int.tmod (w64 G) 40)))).size) 9223372036854775807) (
        cond (Nat.ble ((catS (catS (catS (bs [98, 97, 108, 101, 32]) (strN [IntKind.wrap .u8 (97 + (Int.tmod Z 6))])) (bs [32])) (itoaV (w64 (1 + (Int.tmod (w64 G) 40))))).size + (bs [32]).size) 9223372036854775807) (
         cond (Nat.ble ((catS (catS (catS (catS (bs [98, 97, 108, 101, 32]) (strN [IntKind.wrap .u8 (97 + (Int.tmod Z 6))])) (bs [32])) (itoaV (w64 (1 + (Int.tmod (w64 G) 40))))) (bs [32])).size + (itoaV (Int.tmod (w64 B) b)).size) 9223372036854775807) (
          some (catS (catS (catS (catS (catS (bs [98, 97, 108, 101, 32]) (strN [IntKind.wrap .u8 (97 + (Int.tmod Z 6))])) (bs [32])) (itoaV (w64 (1 + (Int.tmod (w64 G) 40))))) (bs [32])) (itoaV (Int.tmod (w64 B) b)))
         ) none
        ) none
       ) none
      ) none
     ) none
    ) (
     cond (cond ((Int.tmod V 20) == 4) ((Int.tmod V 20) == 4) ((Int.tmod V 20) == 5)) (
      cond (Nat.ble ((bs [109, 111, 118, 101, 32]).size + (strN [IntKind.wrap .u8 (97 + (Int.tmod Z 6))]).size) 9223372036854775807) (
       cond (Nat.ble ((catS (bs [109, 111, 118, 101, 32]) (strN [IntKind.wrap .u8 (97 + (Int.tmod Z 6))])).size + (bs [32]).size) 9223372036854775807) (
        cond (Nat.ble ((catS (catS (bs [109, 111, 118, 101, 32]) (strN [IntKind.wrap .u8 (97 + (Int.tmod Z 6))])) (bs [32])).size + (itoaV (Int.tmod (w64 B) b)).size) 9223372036854775807) (
         some (catS (catS (catS (bs [109, 111, 118, 101, 32]) (strN [IntKind.wrap .u8 (97 + (Int.tmod Z 6))])) (bs [32])) (itoaV (Int.tmod (w64 B) b)))
        ) none
       ) none
      ) none
     ) (
      cond (cond ((Int.tmod V 20) == 6) ((Int.tmod V 20) == 6) ((Int.tmod V 20) == 7)) (
       cond (Nat.ble ((bs [116, 97, 107, 101, 32]).size + (strN [IntKind.wrap .u8 (97 + (Int.tmod Z 6))]).size) 9223372036854775807) (
        cond (Nat.ble ((catS (bs [116, 97, 107, 101, 32]) (strN [IntKind.wrap .u8 (97 + (Int.tmod Z 6))])).size + (bs [32]).size) 9223372036854775807) (
         cond (Nat.ble ((catS (catS (bs [116, 97, 107, 101, 32]) (strN [IntKind.wrap .u8 (97 + (Int.tmod Z 6))])) (bs [32])).size + (itoaV (w64 (1 + (Int.tmod (w64 G) 40)))).size) 9223372036854775807) (
          some (catS (catS (catS (bs [116, 97, 107, 101, 32]) (strN [IntKind.wrap .u8 (97 + (Int.tmod Z 6))])) (bs [32])) (itoaV (w64 (1 + (Int.tmod (w64 G) 40)))))
         ) none
        ) none
       ) none
      ) (
       cond ((Int.tmod V 20) == 8) (
        cond (Nat.ble ((bs [99, 111, 117, 110, 116, 32]).size + (strN [IntKind.wrap .u8 (97 + (Int.tmod Z 6))]).size) 9223372036854775807) (
         cond (Nat.ble ((catS (bs [99, 111, 117, 110, 116, 32]) (strN [IntKind.wrap .u8 (97 + (Int.tmod Z 6))])).size + (bs [32]).size) 9223372036854775807) (
          cond (Nat.ble ((catS (catS (bs [99, 111, 117, 110, 116, 32]) (strN [IntKind.wrap .u8 (97 + (Int.tmod Z 6))])) (bs [32])).size + (itoaV (w64 (1 + (Int.tmod (w64 G) 40)))).size) 9223372036854775807) (
           some (catS (catS (catS (bs [99, 111, 117, 110, 116, 32]) (strN [IntKind.wrap .u8 (97 + (Int.tmod Z 6))])) (bs [32])) (itoaV (w64 (1 + (Int.tmod (w64 G) 40)))))
          ) none
         ) none
        ) none
       ) (
        cond (cond ((Int.tmod V 20) == 9) ((Int.tmod V 20) == 9) ((Int.tmod V 20) == 10)) (
         cond (Nat.ble ((bs [115, 116, 97, 109, 112, 115, 32]).size + (itoaV (w64 (1 + (Int.tmod (w64 G) 40)))).size) 9223372036854775807) (
          some (catS (bs [115, 116, 97, 109, 112, 115, 32]) (itoaV (w64 (1 + (Int.tmod (w64 G) 40)))))
         ) none
        ) (
         cond (cond ((Int.tmod V 20) == 11) ((Int.tmod V 20) == 11) ((Int.tmod V 20) == 12)) (
          cond (Nat.ble ((bs [98, 97, 110, 100, 32]).size + (itoaV (w64 (1 + (Int.tmod (w64 G) 40)))).size) 9223372036854775807) (
           some (catS (bs [98, 97, 110, 100, 32]) (itoaV (w64 (1 + (Int.tmod (w64 G) 40)))))
          ) none
         ) (
          cond ((Int.tmod V 20) == 13) (
           cond (Nat.ble ((bs [115, 112, 111, 105, 108, 32]).size + (itoaV (w64 (1 + (Int.tmod (w64 G) 40)))).size) 9223372036854775807) (
            some (catS (bs [115, 112, 111, 105, 108, 32]) (itoaV (w64 (1 + (Int.tmod (w64 G) 40)))))
           ) none
          ) (
           cond (cond ((Int.tmod V 20) == 14) ((Int.tmod V 20) == 14) ((Int.tmod V 20) == 15)) (
            cond (okI (Int.tmod (w64 Z) 3)) (
             cond (Nat.ble ((bs [107, 101, 121, 32]).size + (itoaV (Int.tmod (w64 Z) 3)).size) 9223372036854775807) (
              some (catS (bs [107, 101, 121, 32]) (itoaV (Int.tmod (w64 Z) 3)))
             ) none
            ) none
           ) (
            cond ((Int.tmod V 20) == 16) (
             cond (Nat.ble ((bs [111, 117, 116, 32]).size + (itoaV (w64 (1 + (Int.tmod (w64 G) 40)))).size) 9223372036854775807) (
              some (catS (bs [111, 117, 116, 32]) (itoaV (w64 (1 + (Int.tmod (w64 G) 40)))))
             ) none
            ) (
             cond ((Int.tmod V 20) == 17) (
              some ((bs [115, 104, 117, 116]))
             ) (
              cond ((Int.tmod V 20) == 18) (
               some ((bs [99, 108, 111, 115, 101]))
              ) (
               cond (c) (
                some ((bs [117, 110, 100, 111]))
               ) (
                cond (Nat.ble ((bs [115, 116, 97, 109, 112, 115, 32]).size + (itoaV (w64 (1 + (Int.tmod (w64 G) 40)))).size) 9223372036854775807) (
                 some (catS (bs [115, 116, 97, 109, 112, 115, 32]) (itoaV (w64 (1 + (Int.tmod (w64 G) 40)))))
                ) none
               )
              )
             )
            )
           )
          )
         )
        )
       )
      )
     )
    )
   ) none
  ) none
 ) none
abbrev aPh1 (G : Int) := (itoaV (w64 (1 + (Int.tmod (w64 G) 40))))
abbrev aPh3 (Z : Int) := (strN [IntKind.wrap .u8 (97 + (Int.tmod Z 6))])
abbrev aPh6 (Z : Int) (V : Int) (G : Int) (B : Int) : List (Nat × XObj) := [(1, .cells [.int .u8 (IntKind.wrap .u8 (97 + (Int.tmod Z 6)))] 0 5 1), (0, .cells [.int .u8 V, .int .u8 Z, .int .u8 G, .int .u8 B] 0 135 0)]
abbrev aPh8 (V : Int) := (Int.tmod V 20)
abbrev aPh26 (B : Int) (b : Int) := (itoaV (Int.tmod (w64 B) b))
abbrev aPh9 (B : Int) (b : Int) : Nat × Value := (9, .string (aPh26 B b))
abbrev aPh10 (Z : Int) := (catS (catS (bs [98, 97, 108, 101, 32]) (aPh3 Z)) (bs [32]))
abbrev aPh11 (G : Int) : Nat × Value := (8, .string (aPh1 G))
abbrev aPh13 (V : Int) : Nat × Value := (30, .int .u8 (aPh8 V))
abbrev aPh14 (Z : Int) := (catS (catS (bs [99, 111, 117, 110, 116, 32]) (aPh3 Z)) (bs [32]))
abbrev aPh15 (G : Int) := (catS (bs [115, 116, 97, 109, 112, 115, 32]) (aPh1 G))
abbrev aPh16 (Z : Int) := (catS (catS (bs [109, 111, 118, 101, 32]) (aPh3 Z)) (bs [32]))
abbrev aPh17 (Z : Int) := (catS (catS (bs [116, 97, 107, 101, 32]) (aPh3 Z)) (bs [32]))
abbrev aPh19 (Z : Int) : Nat × Value := (7, .string (aPh3 Z))
abbrev aPh25 (Z : Int) (G : Int) := (catS (catS (aPh10 Z) (aPh1 G)) (bs [32]))
abbrev aPh27 (Z : Int) := (catS (bs [107, 101, 121, 32]) (itoaV (Int.tmod (w64 Z) 3)))
abbrev aPh28 (G : Int) := (catS (bs [115, 112, 111, 105, 108, 32]) (aPh1 G))
abbrev aPh32 (G : Int) := (catS (bs [98, 97, 110, 100, 32]) (aPh1 G))
theorem f78_ok (m : Nat) (V : Int) (Z : Int) (G : Int) (B : Int) (b : Int) (c : Bool) (o : ByteArray) (h : f78 m V Z G B b c = some o) (w : World) (hI : maInv w) : Calls Proofs.Tryz.prog 78 #[.agg #[.int .u8 V, .int .u8 Z, .int .u8 G, .int .u8 B], ii b, .bool c] w fun e w' => e = .returned (.string o) ∧ Below w.heap.size w w' := by
 refine KC.calls (E := E0) (args := [.agg #[.int .u8 V, .int .u8 Z, .int .u8 G, .int .u8 B], ii b, .bool c]) (v := .string o) rfl rfl (KC.bodyN E0_ok (F := Proofs.Tryz.f78) (by kernel_rfl) (code := f78_C78) (by kernel_rfl) (nt := 101) (by kernel_rfl) (rs := [.tmp 6]) (by kernel_rfl) (by kernel_rfl) (σ := [(0, .agg #[.int .u8 V, .int .u8 Z, .int .u8 G, .int .u8 B]), (1, ii b), (2, .bool c)]) (by kernel_rfl) ?_) w (maInv_size hI) hI
 unfold f78 at h
 refine qQ ?_
 refine rD 2 [(1, ii b), (2, .bool c), (3, pp 0 0)] (fun h => (0, .cells [.int .u8 V, .int .u8 Z, .int .u8 G, .int .u8 B] 0 135 0) :: h) 1 ?_
 refine nQ id ?_
 refine rD 7 [(1, ii b), (2, .bool c), (3, pp 0 0), (aPh19 Z)] (fun h => (1, .cells [.int .u8 (IntKind.wrap .u8 (97 + (Int.tmod Z 6)))] 0 5 1) :: h) 2 ?_
 refine nQ id ?_
 refine rS 5 [(1, ii b), (2, .bool c), (3, pp 0 0), (aPh19 Z), (20, ii (w64 (1 + (Int.tmod (w64 G) 40))))] ?_
 obtain ⟨b1, h⟩ := oC h
 refine cQ [1, 2, 3, 7, 21] 21 (KC.of_calls E0_ok (F := Proofs.Tryz.f44) (v := .string (aPh1 G)) (by kernel_rfl) rfl rfl (itoaV_ok b1)) ?_
 refine rS 1 [(1, ii b), (2, .bool c), (3, pp 0 0), (aPh19 Z), (aPh11 G)] ?_
 refine nQ id ?_
 refine rS 4 [(2, .bool c), (3, pp 0 0), (aPh19 Z), (aPh11 G), (24, ii (w64 B)), (25, ii b)] ?_
 obtain ⟨b2, h⟩ := oC h
 refine rR (ii (Int.tmod (w64 B) b)) (mR b2) [(2, .bool c), (3, pp 0 0), (aPh19 Z), (aPh11 G), (26, ii (Int.tmod (w64 B) b))] ?_
 obtain ⟨b4, h⟩ := oC h
 refine cQ [2, 3, 7, 8, 27] 27 (KC.of_calls E0_ok (F := Proofs.Tryz.f44) (v := .string (aPh26 B b)) (by kernel_rfl) rfl rfl (itoaV_ok b4)) ?_
 refine rE 1 [(2, .bool c), (3, pp 0 0), (aPh19 Z), (aPh11 G), (aPh9 B b)] id ?_
 refine sQ ?_
 refine qE 3 [(2, .bool c), (3, pp 0 0), (aPh19 Z), (aPh11 G), (aPh9 B b), (aPh13 V)] id ?_
 refine XQ.block (id := 0) (by kernel_rfl) ?_
 refine sQ ?_
 refine qE 2 [(2, .bool c), (3, pp 0 0), (aPh19 Z), (aPh11 G), (aPh9 B b), (aPh13 V), (31, .bool ((aPh8 V) == 0))] id ?_
 refine XQ.meetC (σ' := [(2, .bool c), (3, pp 0 0), (aPh19 Z), (aPh11 G), (aPh9 B b), (aPh13 V), (31, .bool (cond ((aPh8 V) == 0) ((aPh8 V) == 0) (cond ((aPh8 V) == 1) ((aPh8 V) == 1) (cond ((aPh8 V) == 2) ((aPh8 V) == 2) ((aPh8 V) == 3)))))]) (h' := (aPh6 Z V G B)) (c' := 2) ?_ ?_
 rotate_left
 ·refine XQ.cond (s := (.tmp 31)) (b := (aPh8 V) == 0) (by kernel_rfl) (by kernel_rfl) (fun b5 => ?_) (fun b5 => ?_)
  ·refine kQ ?_
   refine ⟨rfl, ?_, ?_⟩ <;> (try rw [b5]) <;> first | kernel_rfl | and_intros <;> first | kernel_rfl | trivial
  ·refine qE 2 [(2, .bool c), (3, pp 0 0), (aPh19 Z), (aPh11 G), (aPh9 B b), (aPh13 V), (31, .bool ((aPh8 V) == 1))] id ?_
   refine XQ.meetC (σ' := [(2, .bool c), (3, pp 0 0), (aPh19 Z), (aPh11 G), (aPh9 B b), (aPh13 V), (31, .bool (cond ((aPh8 V) == 1) ((aPh8 V) == 1) (cond ((aPh8 V) == 2) ((aPh8 V) == 2) ((aPh8 V) == 3))))]) (h' := (aPh6 Z V G B)) (c' := 2) ?_ ?_
   rotate_left
   ·refine XQ.cond (s := (.tmp 31)) (b := (aPh8 V) == 1) (by kernel_rfl) (by kernel_rfl) (fun b5 => ?_) (fun b5 => ?_)
    ·refine kQ ?_
     refine ⟨rfl, ?_, ?_⟩ <;> (try rw [b5]) <;> first | kernel_rfl | and_intros <;> first | kernel_rfl | trivial
    ·refine qE 2 [(2, .bool c), (3, pp 0 0), (aPh19 Z), (aPh11 G), (aPh9 B b), (aPh13 V), (31, .bool ((aPh8 V) == 2))] id ?_
     refine XQ.meetC (σ' := [(2, .bool c), (3, pp 0 0), (aPh19 Z), (aPh11 G), (aPh9 B b), (aPh13 V), (31, .bool (cond ((aPh8 V) == 2) ((aPh8 V) == 2) ((aPh8 V) == 3)))]) (h' := (aPh6 Z V G B)) (c' := 2) ?_ ?_
     rotate_left
     ·refine XQ.cond (s := (.tmp 31)) (b := (aPh8 V) == 2) (by kernel_rfl) (by kernel_rfl) (fun b5 => ?_) (fun b5 => ?_)
      ·refine kQ ?_
       refine ⟨rfl, ?_, ?_⟩ <;> (try rw [b5]) <;> first | kernel_rfl | and_intros <;> first | kernel_rfl | trivial
      ·refine rQ ?_
       refine rS 2 [(2, .bool c), (3, pp 0 0), (aPh19 Z), (aPh11 G), (aPh9 B b), (aPh13 V), (31, .bool ((aPh8 V) == 3))] ?_
       refine dQ ?_
       refine ⟨rfl, ?_, ?_⟩ <;> (try rw [b5]) <;> first | kernel_rfl | and_intros <;> first | kernel_rfl | trivial
     refine ⟨rfl, ?_, ?_⟩ <;> (try rw [b5]) <;> first | kernel_rfl | and_intros <;> first | kernel_rfl | trivial
   refine ⟨rfl, ?_, ?_⟩ <;> (try rw [b5]) <;> first | kernel_rfl | and_intros <;> first | kernel_rfl | trivial
 show XQ _ _ _ _ _ _ _ _
 cases b6 : (cond ((aPh8 V) == 0) ((aPh8 V) == 0) (cond ((aPh8 V) == 1) ((aPh8 V) == 1) (cond ((aPh8 V) == 2) ((aPh8 V) == 2) ((aPh8 V) == 3))) : Bool)
 case true =>
  have h := cT b6 h
  refine iT 31 ?_
  refine qQ ?_
  refine rS 1 [(aPh11 G), (aPh9 B b), (36, .string (aPh3 Z))] ?_
  obtain ⟨b7, h⟩ := oC h
  refine rR (.string (catS (bs [98, 97, 108, 101, 32]) (aPh3 Z))) (mR b7) [(aPh11 G), (aPh9 B b), (37, .string (catS (bs [98, 97, 108, 101, 32]) (aPh3 Z)))] ?_
  obtain ⟨b9, h⟩ := oC h
  refine rR (.string (aPh10 Z)) (mR b9) [(aPh11 G), (aPh9 B b), (38, .string (aPh10 Z))] ?_
  refine rS 1 [(aPh9 B b), (38, .string (aPh10 Z)), (39, .string (aPh1 G))] ?_
  obtain ⟨b11, h⟩ := oC h
  refine rR (.string (catS (aPh10 Z) (aPh1 G))) (mR b11) [(aPh9 B b), (40, .string (catS (aPh10 Z) (aPh1 G)))] ?_
  obtain ⟨b13, h⟩ := oC h
  refine rR (.string (aPh25 Z G)) (mR b13) [(aPh9 B b), (41, .string (aPh25 Z G))] ?_
  refine rS 1 [(41, .string (aPh25 Z G)), (42, .string (aPh26 B b))] ?_
  obtain ⟨b15, h⟩ := oC h
  refine rR (.string (catS (aPh25 Z G) (aPh26 B b))) (mR b15) [(43, .string (catS (aPh25 Z G) (aPh26 B b)))] ?_
  refine rE 1 [(6, .string (catS (aPh25 Z G) (aPh26 B b)))] id ?_
  obtain rfl := sI h
  exact tV (.string (catS (aPh25 Z G) (aPh26 B b))) id rfl
 have h := cF b6 h
 refine iF 31 ?_
 refine sQ ?_
 refine qE 2 [(2, .bool c), (3, pp 0 0), (aPh19 Z), (aPh11 G), (aPh9 B b), (aPh13 V), (44, .bool ((aPh8 V) == 4))] id ?_
 refine XQ.meetC (σ' := [(2, .bool c), (3, pp 0 0), (aPh19 Z), (aPh11 G), (aPh9 B b), (aPh13 V), (44, .bool (cond ((aPh8 V) == 4) ((aPh8 V) == 4) ((aPh8 V) == 5)))]) (h' := (aPh6 Z V G B)) (c' := 2) ?_ ?_
 rotate_left
 ·refine XQ.cond (s := (.tmp 44)) (b := (aPh8 V) == 4) (by kernel_rfl) (by kernel_rfl) (fun b17 => ?_) (fun b17 => ?_)
  ·refine kQ ?_
   refine ⟨rfl, ?_, ?_⟩ <;> (try rw [b17]) <;> first | kernel_rfl | and_intros <;> first | kernel_rfl | trivial
  ·refine rQ ?_
   refine rS 2 [(2, .bool c), (3, pp 0 0), (aPh19 Z), (aPh11 G), (aPh9 B b), (aPh13 V), (44, .bool ((aPh8 V) == 5))] ?_
   refine dQ ?_
   refine ⟨rfl, ?_, ?_⟩ <;> (try rw [b17]) <;> first | kernel_rfl | and_intros <;> first | kernel_rfl | trivial
 show XQ _ _ _ _ _ _ _ _
 cases b18 : (cond ((aPh8 V) == 4) ((aPh8 V) == 4) ((aPh8 V) == 5) : Bool)
 case true =>
  have h := cT b18 h
  refine iT 44 ?_
  refine qQ ?_
  refine rS 1 [(aPh9 B b), (47, .string (aPh3 Z))] ?_
  obtain ⟨b19, h⟩ := oC h
  refine rR (.string (catS (bs [109, 111, 118, 101, 32]) (aPh3 Z))) (mR b19) [(aPh9 B b), (48, .string (catS (bs [109, 111, 118, 101, 32]) (aPh3 Z)))] ?_
  obtain ⟨b21, h⟩ := oC h
  refine rR (.string (aPh16 Z)) (mR b21) [(aPh9 B b), (49, .string (aPh16 Z))] ?_
  refine rS 1 [(49, .string (aPh16 Z)), (50, .string (aPh26 B b))] ?_
  obtain ⟨b23, h⟩ := oC h
  refine rR (.string (catS (aPh16 Z) (aPh26 B b))) (mR b23) [(51, .string (catS (aPh16 Z) (aPh26 B b)))] ?_
  refine rE 1 [(6, .string (catS (aPh16 Z) (aPh26 B b)))] id ?_
  obtain rfl := sI h
  exact tV (.string (catS (aPh16 Z) (aPh26 B b))) id rfl
 have h := cF b18 h
 refine iF 44 ?_
 refine sQ ?_
 refine qE 2 [(2, .bool c), (3, pp 0 0), (aPh19 Z), (aPh11 G), (aPh13 V), (52, .bool ((aPh8 V) == 6))] id ?_
 refine XQ.meetC (σ' := [(2, .bool c), (3, pp 0 0), (aPh19 Z), (aPh11 G), (aPh13 V), (52, .bool (cond ((aPh8 V) == 6) ((aPh8 V) == 6) ((aPh8 V) == 7)))]) (h' := (aPh6 Z V G B)) (c' := 2) ?_ ?_
 rotate_left
 ·refine XQ.cond (s := (.tmp 52)) (b := (aPh8 V) == 6) (by kernel_rfl) (by kernel_rfl) (fun b25 => ?_) (fun b25 => ?_)
  ·refine kQ ?_
   refine ⟨rfl, ?_, ?_⟩ <;> (try rw [b25]) <;> first | kernel_rfl | and_intros <;> first | kernel_rfl | trivial
  ·refine rQ ?_
   refine rS 2 [(2, .bool c), (3, pp 0 0), (aPh19 Z), (aPh11 G), (aPh13 V), (52, .bool ((aPh8 V) == 7))] ?_
   refine dQ ?_
   refine ⟨rfl, ?_, ?_⟩ <;> (try rw [b25]) <;> first | kernel_rfl | and_intros <;> first | kernel_rfl | trivial
 show XQ _ _ _ _ _ _ _ _
 cases b26 : (cond ((aPh8 V) == 6) ((aPh8 V) == 6) ((aPh8 V) == 7) : Bool)
 case true =>
  have h := cT b26 h
  refine iT 52 ?_
  refine qQ ?_
  refine rS 1 [(aPh11 G), (55, .string (aPh3 Z))] ?_
  obtain ⟨b27, h⟩ := oC h
  refine rR (.string (catS (bs [116, 97, 107, 101, 32]) (aPh3 Z))) (mR b27) [(aPh11 G), (56, .string (catS (bs [116, 97, 107, 101, 32]) (aPh3 Z)))] ?_
  obtain ⟨b29, h⟩ := oC h
  refine rR (.string (aPh17 Z)) (mR b29) [(aPh11 G), (57, .string (aPh17 Z))] ?_
  refine rS 1 [(57, .string (aPh17 Z)), (58, .string (aPh1 G))] ?_
  obtain ⟨b31, h⟩ := oC h
  refine rR (.string (catS (aPh17 Z) (aPh1 G))) (mR b31) [(59, .string (catS (aPh17 Z) (aPh1 G)))] ?_
  refine rE 1 [(6, .string (catS (aPh17 Z) (aPh1 G)))] id ?_
  obtain rfl := sI h
  exact tV (.string (catS (aPh17 Z) (aPh1 G))) id rfl
 have h := cF b26 h
 refine iF 52 ?_
 refine qE 2 [(2, .bool c), (3, pp 0 0), (aPh19 Z), (aPh11 G), (aPh13 V), (60, .bool ((aPh8 V) == 8))] id ?_
 cases b33 : ((aPh8 V) == 8 : Bool)
 case true =>
  have h := cT b33 h
  refine iT 60 ?_
  refine qQ ?_
  refine rS 1 [(aPh11 G), (62, .string (aPh3 Z))] ?_
  obtain ⟨b34, h⟩ := oC h
  refine rR (.string (catS (bs [99, 111, 117, 110, 116, 32]) (aPh3 Z))) (mR b34) [(aPh11 G), (63, .string (catS (bs [99, 111, 117, 110, 116, 32]) (aPh3 Z)))] ?_
  obtain ⟨b36, h⟩ := oC h
  refine rR (.string (aPh14 Z)) (mR b36) [(aPh11 G), (64, .string (aPh14 Z))] ?_
  refine rS 1 [(64, .string (aPh14 Z)), (65, .string (aPh1 G))] ?_
  obtain ⟨b38, h⟩ := oC h
  refine rR (.string (catS (aPh14 Z) (aPh1 G))) (mR b38) [(66, .string (catS (aPh14 Z) (aPh1 G)))] ?_
  refine rE 1 [(6, .string (catS (aPh14 Z) (aPh1 G)))] id ?_
  obtain rfl := sI h
  exact tV (.string (catS (aPh14 Z) (aPh1 G))) id rfl
 have h := cF b33 h
 refine iF 60 ?_
 refine sQ ?_
 refine qE 2 [(2, .bool c), (3, pp 0 0), (aPh11 G), (aPh13 V), (67, .bool ((aPh8 V) == 9))] id ?_
 refine XQ.meetC (σ' := [(2, .bool c), (3, pp 0 0), (aPh11 G), (aPh13 V), (67, .bool (cond ((aPh8 V) == 9) ((aPh8 V) == 9) ((aPh8 V) == 10)))]) (h' := (aPh6 Z V G B)) (c' := 2) ?_ ?_
 rotate_left
 ·refine XQ.cond (s := (.tmp 67)) (b := (aPh8 V) == 9) (by kernel_rfl) (by kernel_rfl) (fun b40 => ?_) (fun b40 => ?_)
  ·refine kQ ?_
   refine ⟨rfl, ?_, ?_⟩ <;> (try rw [b40]) <;> first | kernel_rfl | and_intros <;> first | kernel_rfl | trivial
  ·refine rQ ?_
   refine rS 2 [(2, .bool c), (3, pp 0 0), (aPh11 G), (aPh13 V), (67, .bool ((aPh8 V) == 10))] ?_
   refine dQ ?_
   refine ⟨rfl, ?_, ?_⟩ <;> (try rw [b40]) <;> first | kernel_rfl | and_intros <;> first | kernel_rfl | trivial
 show XQ _ _ _ _ _ _ _ _
 cases b41 : (cond ((aPh8 V) == 9) ((aPh8 V) == 9) ((aPh8 V) == 10) : Bool)
 case true =>
  have h := cT b41 h
  refine iT 67 ?_
  refine qQ ?_
  refine rS 1 [(70, .string (aPh1 G))] ?_
  obtain ⟨b42, h⟩ := oC h
  refine rR (.string (aPh15 G)) (mR b42) [(71, .string (aPh15 G))] ?_
  refine rE 1 [(6, .string (aPh15 G))] id ?_
  obtain rfl := sI h
  exact tV (.string (aPh15 G)) id rfl
 have h := cF b41 h
 refine iF 67 ?_
 refine sQ ?_
 refine qE 2 [(2, .bool c), (3, pp 0 0), (aPh11 G), (aPh13 V), (72, .bool ((aPh8 V) == 11))] id ?_
 refine XQ.meetC (σ' := [(2, .bool c), (3, pp 0 0), (aPh11 G), (aPh13 V), (72, .bool (cond ((aPh8 V) == 11) ((aPh8 V) == 11) ((aPh8 V) == 12)))]) (h' := (aPh6 Z V G B)) (c' := 2) ?_ ?_
 rotate_left
 ·refine XQ.cond (s := (.tmp 72)) (b := (aPh8 V) == 11) (by kernel_rfl) (by kernel_rfl) (fun b44 => ?_) (fun b44 => ?_)
  ·refine kQ ?_
   refine ⟨rfl, ?_, ?_⟩ <;> (try rw [b44]) <;> first | kernel_rfl | and_intros <;> first | kernel_rfl | trivial
  ·refine rQ ?_
   refine rS 2 [(2, .bool c), (3, pp 0 0), (aPh11 G), (aPh13 V), (72, .bool ((aPh8 V) == 12))] ?_
   refine dQ ?_
   refine ⟨rfl, ?_, ?_⟩ <;> (try rw [b44]) <;> first | kernel_rfl | and_intros <;> first | kernel_rfl | trivial
 show XQ _ _ _ _ _ _ _ _
 cases b45 : (cond ((aPh8 V) == 11) ((aPh8 V) == 11) ((aPh8 V) == 12) : Bool)
 case true =>
  have h := cT b45 h
  refine iT 72 ?_
  refine qQ ?_
  refine rS 1 [(75, .string (aPh1 G))] ?_
  obtain ⟨b46, h⟩ := oC h
  refine rR (.string (aPh32 G)) (mR b46) [(76, .string (aPh32 G))] ?_
  refine rE 1 [(6, .string (aPh32 G))] id ?_
  obtain rfl := sI h
  exact tV (.string (aPh32 G)) id rfl
 have h := cF b45 h
 refine iF 72 ?_
 refine qE 2 [(2, .bool c), (3, pp 0 0), (aPh11 G), (aPh13 V), (77, .bool ((aPh8 V) == 13))] id ?_
 cases b48 : ((aPh8 V) == 13 : Bool)
 case true =>
  have h := cT b48 h
  refine iT 77 ?_
  refine qQ ?_
  refine rS 1 [(79, .string (aPh1 G))] ?_
  obtain ⟨b49, h⟩ := oC h
  refine rR (.string (aPh28 G)) (mR b49) [(80, .string (aPh28 G))] ?_
  refine rE 1 [(6, .string (aPh28 G))] id ?_
  obtain rfl := sI h
  exact tV (.string (aPh28 G)) id rfl
 have h := cF b48 h
 refine iF 77 ?_
 refine sQ ?_
 refine qE 2 [(2, .bool c), (3, pp 0 0), (aPh11 G), (aPh13 V), (81, .bool ((aPh8 V) == 14))] id ?_
 refine XQ.meetC (σ' := [(2, .bool c), (3, pp 0 0), (aPh11 G), (aPh13 V), (81, .bool (cond ((aPh8 V) == 14) ((aPh8 V) == 14) ((aPh8 V) == 15)))]) (h' := (aPh6 Z V G B)) (c' := 2) ?_ ?_
 rotate_left
 ·refine XQ.cond (s := (.tmp 81)) (b := (aPh8 V) == 14) (by kernel_rfl) (by kernel_rfl) (fun b51 => ?_) (fun b51 => ?_)
  ·refine kQ ?_
   refine ⟨rfl, ?_, ?_⟩ <;> (try rw [b51]) <;> first | kernel_rfl | and_intros <;> first | kernel_rfl | trivial
  ·refine rQ ?_
   refine rS 2 [(2, .bool c), (3, pp 0 0), (aPh11 G), (aPh13 V), (81, .bool ((aPh8 V) == 15))] ?_
   refine dQ ?_
   refine ⟨rfl, ?_, ?_⟩ <;> (try rw [b51]) <;> first | kernel_rfl | and_intros <;> first | kernel_rfl | trivial
 show XQ _ _ _ _ _ _ _ _
 cases b52 : (cond ((aPh8 V) == 14) ((aPh8 V) == 14) ((aPh8 V) == 15) : Bool)
 case true =>
  have h := cT b52 h
  refine iT 81 ?_
  refine qQ ?_
  refine rS 4 [(87, ii (Int.tmod (w64 Z) 3))] ?_
  obtain ⟨b53, h⟩ := oC h
  refine cQ [88] 88 (KC.of_calls E0_ok (F := Proofs.Tryz.f44) (v := .string (itoaV (Int.tmod (w64 Z) 3))) (by kernel_rfl) rfl rfl (itoaV_ok b53)) ?_
  obtain ⟨b54, h⟩ := oC h
  refine rR (.string (aPh27 Z)) (mR b54) [(89, .string (aPh27 Z))] ?_
  refine rE 1 [(6, .string (aPh27 Z))] id ?_
  obtain rfl := sI h
  exact tV (.string (aPh27 Z)) id rfl
 have h := cF b52 h
 refine iF 81 ?_
 refine qE 2 [(2, .bool c), (aPh11 G), (aPh13 V), (90, .bool ((aPh8 V) == 16))] id ?_
 cases b56 : ((aPh8 V) == 16 : Bool)
 case true =>
  have h := cT b56 h
  refine iT 90 ?_
  refine qQ ?_
  refine rS 1 [(92, .string (aPh1 G))] ?_
  obtain ⟨b57, h⟩ := oC h
  refine rR (.string (catS (bs [111, 117, 116, 32]) (aPh1 G))) (mR b57) [(93, .string (catS (bs [111, 117, 116, 32]) (aPh1 G)))] ?_
  refine rE 1 [(6, .string (catS (bs [111, 117, 116, 32]) (aPh1 G)))] id ?_
  obtain rfl := sI h
  exact tV (.string (catS (bs [111, 117, 116, 32]) (aPh1 G))) id rfl
 have h := cF b56 h
 refine iF 90 ?_
 refine qE 2 [(2, .bool c), (aPh11 G), (aPh13 V), (94, .bool ((aPh8 V) == 17))] id ?_
 cases b59 : ((aPh8 V) == 17 : Bool)
 case true =>
  have h := cT b59 h
  refine iT 94 ?_
  refine qE 1 [(6, .string (bs [115, 104, 117, 116]))] id ?_
  obtain rfl := sI h
  exact tV (.string (bs [115, 104, 117, 116])) id rfl
 have h := cF b59 h
 refine iF 94 ?_
 refine qE 2 [(2, .bool c), (aPh11 G), (96, .bool ((aPh8 V) == 18))] id ?_
 cases b60 : ((aPh8 V) == 18 : Bool)
 case true =>
  have h := cT b60 h
  refine iT 96 ?_
  refine qE 1 [(6, .string (bs [99, 108, 111, 115, 101]))] id ?_
  obtain rfl := sI h
  exact tV (.string (bs [99, 108, 111, 115, 101])) id rfl
 have h := cF b60 h
 refine iK 96 id ?_
 refine sQ ?_
 refine qE 1 [(aPh11 G), (98, .bool c)] id ?_
 cases b61 : (c : Bool)
 case true =>
  have h := cT b61 h
  refine iT 98 ?_
  refine qE 1 [(6, .string (bs [117, 110, 100, 111]))] id ?_
  obtain rfl := sI h
  exact tV (.string (bs [117, 110, 100, 111])) id rfl
 have h := cF b61 h
 refine iK 98 id ?_
 refine qQ ?_
 refine rS 1 [(99, .string (aPh1 G))] ?_
 obtain ⟨b62, h⟩ := oC h
 refine rR (.string (aPh15 G)) (mR b62) [(100, .string (aPh15 G))] ?_
 refine rE 1 [(6, .string (aPh15 G))] id ?_
 obtain rfl := sI h
 exact tV (.string (aPh15 G)) id rfl
noncomputable def f37_C37 : Code := Proofs.Tryz.f37.body.getD .skip
noncomputable def f37_C41 : Code := Proofs.Tryz.f41.body.getD .skip
noncomputable def f37_L1 : Code := lft (lft (rgt (lft (rgt (rgt f37_C37)))))
def f37_1 (m : Nat) : Nat → Int → List (Int × Int × Int × Int) → Bool → Nat → Int → Int → List ByteArray → Option (List ByteArray)
 | 0, _, _, _, _, _, _, _ => none
 | fuel + 1, W, U, b, C, D, Y, A =>
  cond (decide (Y < D)) (
   cond (inRow Y C) (
    cond (decide (Int.toNat Y < U.length)) (
     cond (Option.isSome (f78 m ((List.getD U (Int.toNat Y) (0, 0, 0, 0)).1) ((List.getD U (Int.toNat Y) (0, 0, 0, 0)).2.1) ((List.getD U (Int.toNat Y) (0, 0, 0, 0)).2.2.1) ((List.getD U (Int.toNat Y) (0, 0, 0, 0)).2.2.2) (w64 (1 + (Int.tmod (w64 W) 8))) b)) (
      cond (fitsB (A.length + 1) 16) (
       f37_1 m fuel W U b C D (w64 (Y + 1)) (A ++ [Option.getD (f78 m ((List.getD U (Int.toNat Y) (0, 0, 0, 0)).1) ((List.getD U (Int.toNat Y) (0, 0, 0, 0)).2.1) ((List.getD U (Int.toNat Y) (0, 0, 0, 0)).2.2.1) ((List.getD U (Int.toNat Y) (0, 0, 0, 0)).2.2.2) (w64 (1 + (Int.tmod (w64 W) 8))) b) (bs [])])
      ) none
     ) none
    ) none
   ) none
  ) (
   some (A)
  )
abbrev aPh18 (U : List (Int × Int × Int × Int)) (Y : Int) := (List.getD U (Int.toNat Y) (0, 0, 0, 0))
abbrev aPh20 (W : Int) := (w64 (1 + (Int.tmod (w64 W) 8)))
abbrev aPh0 (m : Nat) (U : List (Int × Int × Int × Int)) (Y : Int) (W : Int) (b : Bool) := (f78 m ((aPh18 U Y).1) ((aPh18 U Y).2.1) ((aPh18 U Y).2.2.1) ((aPh18 U Y).2.2.2) (aPh20 W) b)
abbrev aPh2 (U : List (Int × Int × Int × Int)) (Y : Int) : Nat × Value := (21, .agg #[.int .u8 ((aPh18 U Y).1), .int .u8 ((aPh18 U Y).2.1), .int .u8 ((aPh18 U Y).2.2.1), .int .u8 ((aPh18 U Y).2.2.2)])
abbrev aPh4 (W : Int) (U : List (Int × Int × Int × Int)) : Nat × XObj := (1, .cells [.int .u8 W, s0 0 U.length] 0 66 0)
abbrev aPh5 (U : List (Int × Int × Int × Int)) (Y : Int) : Nat × XObj := (3, .cells [.int .u8 ((aPh18 U Y).1), .int .u8 ((aPh18 U Y).2.1), .int .u8 ((aPh18 U Y).2.2.1), .int .u8 ((aPh18 U Y).2.2.2)] 0 135 0)
abbrev aPh7 (A : List ByteArray) (m : Nat) (U : List (Int × Int × Int × Int)) (Y : Int) (W : Int) (b : Bool) := (A ++ [Option.getD (aPh0 m U Y W b) (bs [])])
abbrev aPh12 (C : Nat) (U : List (Int × Int × Int × Int)) : Nat × Value := (14, sl 0 0 C U.length)
abbrev aPh21 (A : List ByteArray) : Nat × Value := (5, s0 2 A.length)
abbrev aPh29 (U : List (Int × Int × Int × Int)) (z0 : Nat) (y0 : Nat) : Nat × XObj := (0, rc encD U z0 y0 4)
abbrev aPh23 (A : List ByteArray) (W : Int) (U : List (Int × Int × Int × Int)) (z0 : Nat) (y0 : Nat) : List (Nat × XObj) := [(2, rc encS A 0 9 1), (aPh4 W U), (aPh29 U z0 y0)]
abbrev aPh24 (A : List ByteArray) : Nat × Value := (20, s0 2 A.length)
abbrev aPh30 (A : List ByteArray) (m : Nat) (U : List (Int × Int × Int × Int)) (Y : Int) (W : Int) (b : Bool) : Nat × Value := (5, s0 2 ((aPh7 A m U Y W b).length))
abbrev aPh31 (A : List ByteArray) (m : Nat) (U : List (Int × Int × Int × Int)) (Y : Int) (W : Int) (b : Bool) : Nat × XObj := (2, rc encS (aPh7 A m U Y W b) 0 9 1)
theorem f37_1_ok (m : Nat) : ∀ (fuel : Nat) (z0 : Nat) (y0 : Nat) (W : Int) (U : List (Int × Int × Int × Int)) (b : Bool) (C : Nat) (D : Int) (Y : Int) (A : List ByteArray) (o : (List ByteArray)), f37_1 m fuel W U b C D Y A = some o → ∀ Q : QP, Q (.exit 0) [(5, s0 1 o.length)] [(1, rc encS o 0 9 1), (0, rc encD U z0 y0 4)] 2 → XL E0 30 1 fuel f37_L1 [(1, .bool b), (2, pp 1 0), (5, s0 2 A.length), (14, sl 0 0 C U.length), (15, ii D), (16, ii Y)] [(2, rc encS A 0 9 1), (1, .cells [.int .u8 W, s0 0 U.length] 0 66 0), (0, rc encD U z0 y0 4)] 3 Q
 | 0, z0, y0, W, U, b, C, D, Y, A, o, h, Q, hQ => by cases h
 | fuel + 1, z0, y0, W, U, b, C, D, Y, A, o, h, Q, hQ => by
  unfold f37_1 at h
  refine XL.succ E0_ok ?_
  refine qE 1 [(1, .bool b), (2, pp 1 0), (aPh21 A), (aPh12 C U), (15, ii D), (16, ii Y), (17, .bool (decide (Y < D)))] id ?_
  refine sQ ?_
  cases b1 : (decide (Y < D) : Bool)
  case false =>
   have h := cF b1 h
   refine iF 17 ?_
   refine nR [(5, s0 1 A.length)] [(1, rc encS A 0 9 1), (aPh29 U z0 y0)] 2 [0, 2] ?_
   refine XQ.exit (i := 0) (by kernel_rfl) ?_
   cases h
   exact hQ
  have h := cT b1 h
  refine iT 17 ?_
  refine kQ ?_
  show XQ _ _ _ _ _ _ _ _
  refine sQ ?_
  refine XQ.block (id := 1) (by kernel_rfl) ?_
  refine qQ ?_
  obtain ⟨b2, h⟩ := oC h
  refine rR (pp 0 ((Int.toNat Y) * 4)) (v_idx (s := 4) (x := (src 30 (.tmp 14))) (y := (src 30 (.tmp 16))) (b := 0) (o := 0) (len := C) (cap := U.length) (ik := .i64) (i := Y) (off := (Int.toNat Y) * 4) (d := (some (path 12 18))) (by kernel_rfl) (by kernel_rfl) (by kernel_rfl) b2 (by omega)) [(1, .bool b), (2, pp 1 0), (aPh21 A), (aPh12 C U), (15, ii D), (16, ii Y), (18, pp 0 ((Int.toNat Y) * 4))] ?_
  obtain ⟨b3, h⟩ := oC h
  refine rR (.agg #[.int .u8 ((aPh18 U Y).1), .int .u8 ((aPh18 U Y).2.1), .int .u8 ((aPh18 U Y).2.2.1), .int .u8 ((aPh18 U Y).2.2.2)]) (v_loadN encD_ok (x := (src 30 (.tmp 18))) (b := 0) (off := (Int.toNat Y) * 4) (xs := U) (fz := z0) (e := y0) (es := 4) (d := (some (path 12 19))) (by kernel_rfl) (by kernel_rfl) (by kernel_rfl) (Int.toNat Y) (0, 0, 0, 0) (by first | with_reducible rfl | omega | rfl) (row_len b3 (by simp)) rfl) [(1, .bool b), (2, pp 1 0), (aPh21 A), (aPh12 C U), (15, ii D), (16, ii Y), (19, .agg #[.int .u8 ((aPh18 U Y).1), .int .u8 ((aPh18 U Y).2.1), .int .u8 ((aPh18 U Y).2.2.1), .int .u8 ((aPh18 U Y).2.2.2)])] ?_
  refine rG 2 [(1, .bool b), (2, pp 1 0), (aPh21 A), (7, pp 3 0), (aPh12 C U), (15, ii D), (16, ii Y)] (fun h => (aPh5 U Y) :: h) 4 id ?_
  obtain ⟨b4, h⟩ := oC h
  obtain ⟨b5, h⟩ := oC h
  refine XQ.preA E0_ok [0, 4] (by kernel_rfl) (g := 7) (listed := #[true, false, false, false, true, false, false, false, false]) (by kernel_rfl) (by kernel_rfl) (by kernel_rfl) (by kernel_rfl) (by kernel_rfl) (σ' := [(1, .bool b), (2, pp 1 0), (aPh30 A m U Y W b), (aPh12 C U), (15, ii D), (16, ii Y)]) (h' := [(aPh31 A m U Y W b), (aPh4 W U), (aPh29 U z0 y0)]) (c' := 3) ?_ ?_
  ·show XQ _ _ _ _ _ _ _ _
   refine rQ ?_
   refine rS 2 [(1, .bool b), (2, pp 1 0), (aPh30 A m U Y W b), (aPh12 C U), (15, ii D), (16, ii (w64 (Y + 1)))] ?_
   refine dQ ?_
   show XL _ _ _ _ _ _ _ _ _
   refine nL [(1, .bool b), (2, pp 1 0), (aPh30 A m U Y W b), (aPh12 C U), (15, ii D), (16, ii (w64 (Y + 1)))] [(aPh31 A m U Y W b), (aPh4 W U), (aPh29 U z0 y0)] 3 [0, 1, 2] ?_
   refine XL.conv (f37_1_ok m fuel z0 y0 W U b C D (w64 (Y + 1)) (aPh7 A m U Y W b) o h Q hQ) (by first | with_reducible rfl | simp | rfl)
  ·have xa7 : XA E0 30 1 (opsOf (rgt (lft (lft (rgt (rgt f37_L1)))))) 0 #[true, true, true, true, true, true, true, true, true] [(1, .bool b), (2, pp 1 0), (aPh30 A m U Y W b), (aPh12 C U), (15, ii D), (16, ii Y)] [(aPh31 A m U Y W b), (aPh4 W U), (aPh29 U z0 y0)] 3 (fun xe xσ xh xc => xe = .normal ∧ (xσ, xh, xc) = ([(1, .bool b), (2, pp 1 0), (aPh30 A m U Y W b), (aPh12 C U), (15, ii D), (16, ii Y)], [(aPh31 A m U Y W b), (aPh4 W U), (aPh29 U z0 y0)], 3)) := by
    exact XA.done (by kernel_rfl) ⟨rfl, rfl⟩
   have xa6 : XA E0 30 1 (opsOf (rgt (lft (lft (rgt (rgt f37_L1)))))) 1 #[true, true, true, true, true, true, true, true, false] [(1, .bool b), (2, pp 1 0), (aPh21 A), (aPh12 C U), (15, ii D), (16, ii Y), (27, s0 3 ((aPh7 A m U Y W b).length))] [(3, rc encS (aPh7 A m U Y W b) 0 9 1), (aPh4 W U), (aPh29 U z0 y0)] 4 (fun xe xσ xh xc => xe = .normal ∧ (xσ, xh, xc) = ([(1, .bool b), (2, pp 1 0), (aPh30 A m U Y W b), (aPh12 C U), (15, ii D), (16, ii Y)], [(aPh31 A m U Y W b), (aPh4 W U), (aPh29 U z0 y0)], 3)) := by
    refine XA.step E0_ok [8] (by kernel_rfl) rfl (by kernel_rfl) ⟨?_, trivial⟩
    ·refine rS 1 [(1, .bool b), (2, pp 1 0), (5, s0 3 ((aPh7 A m U Y W b).length)), (aPh12 C U), (15, ii D), (16, ii Y)] ?_
     refine dQ ?_
     refine ⟨rfl, ?_⟩
     show XA _ _ _ _ _ _ _ _ _ _
     refine XA.ren (σ' := [(1, .bool b), (2, pp 1 0), (aPh30 A m U Y W b), (aPh12 C U), (15, ii D), (16, ii Y)]) (h' := [(aPh31 A m U Y W b), (aPh4 W U), (aPh29 U z0 y0)]) (c' := 3) [0, 1, 3] (by decide) rfl ⟨by kernel_rfl, by kernel_rfl, by kernel_rfl, by kernel_rfl, by kernel_rfl, by kernel_rfl, trivial⟩ ⟨⟨_, _, rfl, rfl, .inl ⟨rfl, rowC_scal encS_ok _⟩⟩, ⟨_, _, rfl, rfl, .inr ⟨_, _, _, _, rfl, rfl⟩⟩, ⟨_, _, rfl, rfl, .inl ⟨rfl, rowC_scal encD_ok _⟩⟩, trivial⟩ rfl ?_
     exact xa7
   have xa5 : XA E0 30 1 (opsOf (rgt (lft (lft (rgt (rgt f37_L1)))))) 2 #[true, true, true, true, true, true, true, false, false] [(1, .bool b), (2, pp 1 0), (aPh21 A), (aPh12 C U), (15, ii D), (16, ii Y), (aPh24 A), (26, s0 3 1)] [(3, .cells [.string (Option.getD (aPh0 m U Y W b) (bs []))] 0 9 1), (2, rc encS A 0 9 1), (aPh4 W U), (aPh29 U z0 y0)] 4 (fun xe xσ xh xc => xe = .normal ∧ (xσ, xh, xc) = ([(1, .bool b), (2, pp 1 0), (aPh30 A m U Y W b), (aPh12 C U), (15, ii D), (16, ii Y)], [(aPh31 A m U Y W b), (aPh4 W U), (aPh29 U z0 y0)], 3)) := by
    refine XA.step E0_ok [7] (by kernel_rfl) rfl (by kernel_rfl) ⟨?_, trivial⟩
    ·refine eR (e_append encS_ok (bytes := 16) (e := 9) (x := (src 30 (.tmp 20))) (y := (src 30 (.tmp 26))) (b := 2) (len := A.length) (cap := A.length) (xs := A) (m := 0) (ys := [Option.getD (aPh0 m U Y W b) (bs [])]) (d := (some (path 12 27))) (n' := (aPh7 A m U Y W b).length) (h' := [(4, rc encS (aPh7 A m U Y W b) 0 9 1), (3, .cells [.string (Option.getD (aPh0 m U Y W b) (bs []))] 0 9 1), (aPh4 W U), (aPh29 U z0 y0)]) (by kernel_rfl) (by kernel_rfl) (by kernel_rfl) (by kernel_rfl) rfl (by simp) (by simp) b5 (by simp) (by kernel_rfl)) [(1, .bool b), (2, pp 1 0), (aPh21 A), (aPh12 C U), (15, ii D), (16, ii Y), (27, s0 4 ((aPh7 A m U Y W b).length))] ?_
     refine dQ ?_
     refine ⟨rfl, ?_⟩
     show XA _ _ _ _ _ _ _ _ _ _
     refine XA.ren (σ' := [(1, .bool b), (2, pp 1 0), (aPh21 A), (aPh12 C U), (15, ii D), (16, ii Y), (27, s0 3 ((aPh7 A m U Y W b).length))]) (h' := [(3, rc encS (aPh7 A m U Y W b) 0 9 1), (aPh4 W U), (aPh29 U z0 y0)]) (c' := 4) [0, 1, 2, 4] (by decide) rfl ⟨by kernel_rfl, by kernel_rfl, by kernel_rfl, by kernel_rfl, by kernel_rfl, by kernel_rfl, by kernel_rfl, trivial⟩ ⟨⟨_, _, rfl, rfl, .inl ⟨rfl, rowC_scal encS_ok _⟩⟩, ⟨_, _, rfl, rfl, .inr ⟨_, _, _, _, rfl, rfl⟩⟩, ⟨_, _, rfl, rfl, .inl ⟨rfl, rowC_scal encD_ok _⟩⟩, trivial⟩ rfl ?_
     exact xa6
   have xa4 : XA E0 30 1 (opsOf (rgt (lft (lft (rgt (rgt f37_L1)))))) 3 #[true, true, true, true, true, true, false, false, false] [(1, .bool b), (2, pp 1 0), (aPh21 A), (aPh12 C U), (15, ii D), (16, ii Y), (aPh24 A), (25, .string (Option.getD (aPh0 m U Y W b) (bs [])))] (aPh23 A W U z0 y0) 3 (fun xe xσ xh xc => xe = .normal ∧ (xσ, xh, xc) = ([(1, .bool b), (2, pp 1 0), (aPh30 A m U Y W b), (aPh12 C U), (15, ii D), (16, ii Y)], [(aPh31 A m U Y W b), (aPh4 W U), (aPh29 U z0 y0)], 3)) := by
    refine XA.step E0_ok [6] (by kernel_rfl) rfl (by kernel_rfl) ⟨?_, trivial⟩
    ·refine rD 1 [(1, .bool b), (2, pp 1 0), (aPh21 A), (aPh12 C U), (15, ii D), (16, ii Y), (aPh24 A), (26, s0 3 1)] (fun h => (3, .cells [.string (Option.getD (aPh0 m U Y W b) (bs []))] 0 9 1) :: h) 4 ?_
     refine dQ ?_
     refine ⟨rfl, ?_⟩
     show XA _ _ _ _ _ _ _ _ _ _
     exact xa5
   have xa3 : XA E0 30 1 (opsOf (rgt (lft (lft (rgt (rgt f37_L1)))))) 4 #[true, true, true, true, true, false, false, false, false] [(1, .bool b), (2, pp 1 0), (aPh21 A), (aPh12 C U), (15, ii D), (16, ii Y), (aPh24 A), (aPh2 U Y), (23, ii (aPh20 W)), (24, .bool b)] (aPh23 A W U z0 y0) 3 (fun xe xσ xh xc => xe = .normal ∧ (xσ, xh, xc) = ([(1, .bool b), (2, pp 1 0), (aPh30 A m U Y W b), (aPh12 C U), (15, ii D), (16, ii Y)], [(aPh31 A m U Y W b), (aPh4 W U), (aPh29 U z0 y0)], 3)) := by
    refine XA.step E0_ok [5] (by kernel_rfl) rfl (by kernel_rfl) ⟨?_, trivial⟩
    ·refine cQ [1, 2, 5, 14, 15, 16, 20, 25] 25 (KC.of_calls E0_ok (F := Proofs.Tryz.f78) (v := .string (Option.getD (aPh0 m U Y W b) (bs []))) (by kernel_rfl) rfl rfl (fun w hI => f78_ok m ((aPh18 U Y).1) ((aPh18 U Y).2.1) ((aPh18 U Y).2.2.1) ((aPh18 U Y).2.2.2) (aPh20 W) b _ (oS (bs []) b4) w hI)) ?_
     refine dQ ?_
     refine ⟨rfl, ?_⟩
     show XA _ _ _ _ _ _ _ _ _ _
     exact xa4
   have xa2 : XA E0 30 1 (opsOf (rgt (lft (lft (rgt (rgt f37_L1)))))) 5 #[true, true, true, false, true, false, false, false, false] [(1, .bool b), (2, pp 1 0), (aPh21 A), (aPh12 C U), (15, ii D), (16, ii Y), (aPh24 A), (aPh2 U Y), (22, .agg #[.int .u8 W, s0 0 U.length]), (24, .bool b)] (aPh23 A W U z0 y0) 3 (fun xe xσ xh xc => xe = .normal ∧ (xσ, xh, xc) = ([(1, .bool b), (2, pp 1 0), (aPh30 A m U Y W b), (aPh12 C U), (15, ii D), (16, ii Y)], [(aPh31 A m U Y W b), (aPh4 W U), (aPh29 U z0 y0)], 3)) := by
    refine XA.step E0_ok [3] (by kernel_rfl) rfl (by kernel_rfl) ⟨?_, trivial⟩
    ·refine cK [1, 2, 5, 14, 15, 16, 20, 21, 23, 24] 41 [.agg #[.int .u8 W, s0 0 U.length]] 23 ?_
     refine kN Proofs.Tryz.f41 f37_C41 8 [.tmp 2] ?_
     refine qQ ?_
     refine rD 2 [(1, pp 3 0)] (fun h => (3, .cells [.int .u8 W, s0 0 U.length] 0 66 0) :: h) 4 ?_
     refine nQ id ?_
     refine rE 6 [(2, ii (aPh20 W))] id ?_
     refine tV (ii (aPh20 W)) id ?_
     refine dQ ?_
     refine ⟨rfl, ?_⟩
     show XA _ _ _ _ _ _ _ _ _ _
     refine XA.ren (σ' := [(1, .bool b), (2, pp 1 0), (aPh21 A), (aPh12 C U), (15, ii D), (16, ii Y), (aPh24 A), (aPh2 U Y), (23, ii (aPh20 W)), (24, .bool b)]) (h' := (aPh23 A W U z0 y0)) (c' := 3) [0, 1, 2] (by decide) rfl ⟨by kernel_rfl, by kernel_rfl, by kernel_rfl, by kernel_rfl, by kernel_rfl, by kernel_rfl, by kernel_rfl, by kernel_rfl, by kernel_rfl, by kernel_rfl, trivial⟩ ⟨⟨_, _, rfl, rfl, .inl ⟨rfl, rowC_scal encS_ok _⟩⟩, ⟨_, _, rfl, rfl, .inr ⟨_, _, _, _, rfl, rfl⟩⟩, ⟨_, _, rfl, rfl, .inl ⟨rfl, rowC_scal encD_ok _⟩⟩, trivial⟩ rfl ?_
     exact xa3
   have xa1 : XA E0 30 1 (opsOf (rgt (lft (lft (rgt (rgt f37_L1)))))) 6 #[true, true, false, false, true, false, false, false, false] [(1, .bool b), (2, pp 1 0), (aPh21 A), (aPh12 C U), (15, ii D), (16, ii Y), (aPh24 A), (aPh2 U Y), (24, .bool b)] (aPh23 A W U z0 y0) 3 (fun xe xσ xh xc => xe = .normal ∧ (xσ, xh, xc) = ([(1, .bool b), (2, pp 1 0), (aPh30 A m U Y W b), (aPh12 C U), (15, ii D), (16, ii Y)], [(aPh31 A m U Y W b), (aPh4 W U), (aPh29 U z0 y0)], 3)) := by
    refine XA.step E0_ok [2] (by kernel_rfl) rfl (by kernel_rfl) ⟨?_, trivial⟩
    ·refine rS 1 [(1, .bool b), (2, pp 1 0), (aPh21 A), (aPh12 C U), (15, ii D), (16, ii Y), (aPh24 A), (aPh2 U Y), (22, .agg #[.int .u8 W, s0 0 U.length]), (24, .bool b)] ?_
     refine dQ ?_
     refine ⟨rfl, ?_⟩
     show XA _ _ _ _ _ _ _ _ _ _
     exact xa2
   have xa9 : XA E0 30 1 (opsOf (rgt (lft (lft (rgt (rgt f37_L1)))))) 5 #[true, false, true, true, true, false, false, false, false] [(1, .bool b), (2, pp 1 0), (aPh21 A), (7, pp 3 0), (aPh12 C U), (15, ii D), (16, ii Y), (aPh24 A), (23, ii (aPh20 W)), (24, .bool b)] [(aPh5 U Y), (2, rc encS A 0 9 1), (aPh4 W U), (aPh29 U z0 y0)] 4 (fun xe xσ xh xc => xe = .normal ∧ (xσ, xh, xc) = ([(1, .bool b), (2, pp 1 0), (aPh30 A m U Y W b), (aPh12 C U), (15, ii D), (16, ii Y)], [(aPh31 A m U Y W b), (aPh4 W U), (aPh29 U z0 y0)], 3)) := by
    refine XA.step E0_ok [1] (by kernel_rfl) rfl (by kernel_rfl) ⟨?_, trivial⟩
    ·refine rS 1 [(1, .bool b), (2, pp 1 0), (aPh21 A), (aPh12 C U), (15, ii D), (16, ii Y), (aPh24 A), (aPh2 U Y), (23, ii (aPh20 W)), (24, .bool b)] ?_
     refine dQ ?_
     refine ⟨rfl, ?_⟩
     show XA _ _ _ _ _ _ _ _ _ _
     refine XA.ren (σ' := [(1, .bool b), (2, pp 1 0), (aPh21 A), (aPh12 C U), (15, ii D), (16, ii Y), (aPh24 A), (aPh2 U Y), (23, ii (aPh20 W)), (24, .bool b)]) (h' := (aPh23 A W U z0 y0)) (c' := 3) [0, 1, 2] (by decide) rfl ⟨by kernel_rfl, by kernel_rfl, by kernel_rfl, by kernel_rfl, by kernel_rfl, by kernel_rfl, by kernel_rfl, by kernel_rfl, by kernel_rfl, by kernel_rfl, trivial⟩ ⟨⟨_, _, rfl, rfl, .inl ⟨rfl, rowC_scal encS_ok _⟩⟩, ⟨_, _, rfl, rfl, .inr ⟨_, _, _, _, rfl, rfl⟩⟩, ⟨_, _, rfl, rfl, .inl ⟨rfl, rowC_scal encD_ok _⟩⟩, trivial⟩ rfl ?_
     exact xa3
   have xa8 : XA E0 30 1 (opsOf (rgt (lft (lft (rgt (rgt f37_L1)))))) 6 #[true, false, true, false, true, false, false, false, false] [(1, .bool b), (2, pp 1 0), (aPh21 A), (7, pp 3 0), (aPh12 C U), (15, ii D), (16, ii Y), (aPh24 A), (22, .agg #[.int .u8 W, s0 0 U.length]), (24, .bool b)] [(aPh5 U Y), (2, rc encS A 0 9 1), (aPh4 W U), (aPh29 U z0 y0)] 4 (fun xe xσ xh xc => xe = .normal ∧ (xσ, xh, xc) = ([(1, .bool b), (2, pp 1 0), (aPh30 A m U Y W b), (aPh12 C U), (15, ii D), (16, ii Y)], [(aPh31 A m U Y W b), (aPh4 W U), (aPh29 U z0 y0)], 3)) := by
    refine XA.step E0_ok [1, 3] (by kernel_rfl) rfl (by kernel_rfl) ⟨?_, ?_, trivial⟩
    ·refine rS 1 [(1, .bool b), (2, pp 1 0), (aPh21 A), (aPh12 C U), (15, ii D), (16, ii Y), (aPh24 A), (aPh2 U Y), (22, .agg #[.int .u8 W, s0 0 U.length]), (24, .bool b)] ?_
     refine dQ ?_
     refine ⟨rfl, ?_⟩
     show XA _ _ _ _ _ _ _ _ _ _
     refine XA.ren (σ' := [(1, .bool b), (2, pp 1 0), (aPh21 A), (aPh12 C U), (15, ii D), (16, ii Y), (aPh24 A), (aPh2 U Y), (22, .agg #[.int .u8 W, s0 0 U.length]), (24, .bool b)]) (h' := (aPh23 A W U z0 y0)) (c' := 3) [0, 1, 2] (by decide) rfl ⟨by kernel_rfl, by kernel_rfl, by kernel_rfl, by kernel_rfl, by kernel_rfl, by kernel_rfl, by kernel_rfl, by kernel_rfl, by kernel_rfl, by kernel_rfl, trivial⟩ ⟨⟨_, _, rfl, rfl, .inl ⟨rfl, rowC_scal encS_ok _⟩⟩, ⟨_, _, rfl, rfl, .inr ⟨_, _, _, _, rfl, rfl⟩⟩, ⟨_, _, rfl, rfl, .inl ⟨rfl, rowC_scal encD_ok _⟩⟩, trivial⟩ rfl ?_
     exact xa2
    ·refine cK [1, 2, 5, 7, 14, 15, 16, 20, 23, 24] 41 [.agg #[.int .u8 W, s0 0 U.length]] 23 ?_
     refine kN Proofs.Tryz.f41 f37_C41 8 [.tmp 2] ?_
     refine qQ ?_
     refine rD 2 [(1, pp 4 0)] (fun h => (4, .cells [.int .u8 W, s0 0 U.length] 0 66 0) :: h) 5 ?_
     refine nQ id ?_
     refine rE 6 [(2, ii (aPh20 W))] id ?_
     refine tV (ii (aPh20 W)) id ?_
     refine dQ ?_
     refine ⟨rfl, ?_⟩
     show XA _ _ _ _ _ _ _ _ _ _
     refine XA.ren (σ' := [(1, .bool b), (2, pp 1 0), (aPh21 A), (7, pp 3 0), (aPh12 C U), (15, ii D), (16, ii Y), (aPh24 A), (23, ii (aPh20 W)), (24, .bool b)]) (h' := [(aPh5 U Y), (2, rc encS A 0 9 1), (aPh4 W U), (aPh29 U z0 y0)]) (c' := 4) [0, 1, 2, 3] (by decide) rfl ⟨by kernel_rfl, by kernel_rfl, by kernel_rfl, by kernel_rfl, by kernel_rfl, by kernel_rfl, by kernel_rfl, by kernel_rfl, by kernel_rfl, by kernel_rfl, trivial⟩ ⟨⟨_, _, rfl, rfl, .inr ⟨_, _, _, _, rfl, rfl⟩⟩, ⟨_, _, rfl, rfl, .inl ⟨rfl, rowC_scal encS_ok _⟩⟩, ⟨_, _, rfl, rfl, .inr ⟨_, _, _, _, rfl, rfl⟩⟩, ⟨_, _, rfl, rfl, .inl ⟨rfl, rowC_scal encD_ok _⟩⟩, trivial⟩ rfl ?_
     exact xa9
   have xa0 : XA E0 30 1 (opsOf (rgt (lft (lft (rgt (rgt f37_L1)))))) 7 #[true, false, false, false, true, false, false, false, false] [(1, .bool b), (2, pp 1 0), (aPh21 A), (7, pp 3 0), (aPh12 C U), (15, ii D), (16, ii Y), (aPh24 A), (24, .bool b)] [(aPh5 U Y), (2, rc encS A 0 9 1), (aPh4 W U), (aPh29 U z0 y0)] 4 (fun xe xσ xh xc => xe = .normal ∧ (xσ, xh, xc) = ([(1, .bool b), (2, pp 1 0), (aPh30 A m U Y W b), (aPh12 C U), (15, ii D), (16, ii Y)], [(aPh31 A m U Y W b), (aPh4 W U), (aPh29 U z0 y0)], 3)) := by
    refine XA.step E0_ok [1, 2] (by kernel_rfl) rfl (by kernel_rfl) ⟨?_, ?_, trivial⟩
    ·refine rS 1 [(1, .bool b), (2, pp 1 0), (aPh21 A), (aPh12 C U), (15, ii D), (16, ii Y), (aPh24 A), (aPh2 U Y), (24, .bool b)] ?_
     refine dQ ?_
     refine ⟨rfl, ?_⟩
     show XA _ _ _ _ _ _ _ _ _ _
     refine XA.ren (σ' := [(1, .bool b), (2, pp 1 0), (aPh21 A), (aPh12 C U), (15, ii D), (16, ii Y), (aPh24 A), (aPh2 U Y), (24, .bool b)]) (h' := (aPh23 A W U z0 y0)) (c' := 3) [0, 1, 2] (by decide) rfl ⟨by kernel_rfl, by kernel_rfl, by kernel_rfl, by kernel_rfl, by kernel_rfl, by kernel_rfl, by kernel_rfl, by kernel_rfl, by kernel_rfl, trivial⟩ ⟨⟨_, _, rfl, rfl, .inl ⟨rfl, rowC_scal encS_ok _⟩⟩, ⟨_, _, rfl, rfl, .inr ⟨_, _, _, _, rfl, rfl⟩⟩, ⟨_, _, rfl, rfl, .inl ⟨rfl, rowC_scal encD_ok _⟩⟩, trivial⟩ rfl ?_
     exact xa1
    ·refine rS 1 [(1, .bool b), (2, pp 1 0), (aPh21 A), (7, pp 3 0), (aPh12 C U), (15, ii D), (16, ii Y), (aPh24 A), (22, .agg #[.int .u8 W, s0 0 U.length]), (24, .bool b)] ?_
     refine dQ ?_
     refine ⟨rfl, ?_⟩
     show XA _ _ _ _ _ _ _ _ _ _
     exact xa8
   refine XP.step E0_ok 2 [1, 2, 5, 7, 14, 15, 16, 20, 24] rfl (σ' := [(1, .bool b), (2, pp 1 0), (aPh21 A), (7, pp 3 0), (aPh12 C U), (15, ii D), (16, ii Y), (aPh24 A), (24, .bool b)]) (by kernel_rfl) ?_
   refine XP.done (by kernel_rfl) ?_
   show XA _ _ _ _ _ _ _ _ _ _
   exact xa0
def f37 (m : Nat) (W : Int) (U : List (Int × Int × Int × Int)) (b : Bool) : Option (List ByteArray) :=
 cond (cutOK 0 (iMin ((U.length : Nat) : Int) 40) ((U.length : Nat) : Int) U.length) (
  (f37_1 m m W U b (Int.toNat (iMin ((U.length : Nat) : Int) 40)) ((Int.toNat (iMin ((U.length : Nat) : Int) 40) : Nat) : Int) 0 []).bind fun o1 =>
   some (o1)
 ) none
abbrev aPh22 (U : List (Int × Int × Int × Int)) := (iMin ((U.length : Nat) : Int) 40)
theorem f37_ok (m : Nat) (z0 : Nat) (y0 : Nat) (W : Int) (U : List (Int × Int × Int × Int)) (b : Bool) (o : List ByteArray) (h : f37 m W U b = some o) : KC E0 37 [.agg #[.int .u8 W, s0 0 U.length], .bool b] [(0, rc encD U z0 y0 4)] 1 (fun v h' c' => v = s0 1 o.length ∧ h' = [(1, rc encS o 0 9 1)] ++ [(0, rc encD U z0 y0 4)] ∧ c' = 2) := by
 refine kN Proofs.Tryz.f37 f37_C37 30 [.tmp 4] ?_
 unfold f37 at h
 refine qQ ?_
 refine rD 2 [(1, .bool b), (2, pp 1 0)] (fun h => (aPh4 W U) :: h) 2 ?_
 refine nQ id ?_
 refine rE 1 [(1, .bool b), (2, pp 1 0), (5, .slice none 0 0)] id ?_
 refine XQ.ghost 9 1 rfl (σ' := [(1, .bool b), (2, pp 1 0), (5, s0 2 0)]) (h' := [(aPh4 W U), (aPh29 U z0 y0)]) ⟨by kernel_rfl, by kernel_rfl, by kernel_rfl, trivial⟩ ⟨⟨_, rfl, .inl rfl⟩, ⟨_, rfl, .inl rfl⟩, trivial⟩ ?_
 refine XQ.conv (σ' := [(1, .bool b), (2, pp 1 0), (5, s0 2 0)]) (h' := [(2, rc encS [] 0 9 1), (aPh4 W U), (aPh29 U z0 y0)]) (c' := 3) ?_ (by kernel_rfl)
 refine sQ ?_
 refine qQ ?_
 refine rS 6 [(1, .bool b), (2, pp 1 0), (5, s0 2 0), (9, s0 0 U.length), (13, ii (aPh22 U))] ?_
 obtain ⟨b1, h⟩ := oC h
 refine rR (sl 0 0 (Int.toNat (aPh22 U)) U.length) (v_cut (nt := 30) (s := 4) (x := (src 30 (.tmp 9))) (lo := none) (hi := (some (.tmp 13))) (mx := none) (b := 0) (o := 0) (len := U.length) (cap := U.length) (l := none) (u := (some (aPh22 U))) (m := none) (cs := rowC encD U) (fz := z0) (e := y0) (es := 4) (o' := 0) (len' := Int.toNat (aPh22 U)) (cap' := U.length) (d := (some (path 12 14))) (by kernel_rfl) (by kernel_rfl) (by kernel_rfl) (by kernel_rfl) (by kernel_rfl) (by kernel_rfl) (by kernel_rfl) rfl b1 (by simp only [Option.getD_none, Option.getD_some] <;> omega) (by simp only [Option.getD_none, Option.getD_some] <;> omega) (by simp only [Option.getD_none, Option.getD_some] <;> omega)) [(1, .bool b), (2, pp 1 0), (5, s0 2 0), (14, sl 0 0 (Int.toNat (aPh22 U)) U.length)] ?_
 refine rE 2 [(1, .bool b), (2, pp 1 0), (5, s0 2 0), (14, sl 0 0 (Int.toNat (aPh22 U)) U.length), (15, ii ((Int.toNat (aPh22 U) : Nat) : Int)), (16, ii 0)] id ?_
 refine XQ.block (id := 0) (by kernel_rfl) ?_
 refine XQ.loop m (by kernel_rfl) ?_
 obtain ⟨o1, o1_h, h⟩ := bS h
 refine nL [(1, .bool b), (2, pp 1 0), (5, s0 2 0), (14, sl 0 0 (Int.toNat (aPh22 U)) U.length), (15, ii ((Int.toNat (aPh22 U) : Nat) : Int)), (16, ii 0)] [(2, rc encS [] 0 9 1), (aPh4 W U), (aPh29 U z0 y0)] 3 [0, 1, 2] ?_
 refine XL.conv (f37_1_ok m m z0 y0 W U b (Int.toNat (aPh22 U)) ((Int.toNat (aPh22 U) : Nat) : Int) 0 [] o1 o1_h _ ?_) (by first | with_reducible rfl | simp | rfl)
 show XQ _ _ _ _ _ _ _ _
 refine qE 2 [(4, s0 1 o1.length)] id ?_
 refine nR [(4, s0 1 o1.length)] [(1, rc encS o1 0 9 1), (aPh29 U z0 y0)] 2 [0, 1] ?_
 obtain rfl := sI h
 exact tV (s0 1 o1.length) id ⟨by kernel_rfl, by kernel_rfl, rfl⟩
end Go.Xm
