/- What functions of the program compute, and the proofs. Conditions: the library's variables hold what their texts lay. -/
import Derived.Test.YtglkjlafglpalaaGreatDoorWe
import Derived.Test.YtglkjlafglpalaaGreatDoorPh
import Derived.Test.YtglkjlafglpalaaGreatDoorLj
namespace Go.Xm
open Go.RowKit
set_option linter.unusedVariables false
set_option linter.unusedSimpArgs false
set_option maxRecDepth 20000
set_option maxHeartbeats 4000000
noncomputable def f41_C41 : Code := Proofs.Tryz.f41.body.getD .skip
def f41 (m : Nat) (Tk : Int) (W : List (Int × Int × Int × Int)) : Option (Int) :=
 some (w64 (1 + (Int.tmod (w64 Tk) 8)))
theorem f41_ok (m : Nat) (z0 : Nat) (y0 : Nat) (Tk : Int) (W : List (Int × Int × Int × Int)) (o : Int) (h : f41 m Tk W = some o) : KC E0 41 [.agg #[.int .u8 Tk, s0 0 W.length]] [(0, rc encD W z0 y0 4)] 1 (fun v _ _ => v = ii o) := by
 refine kN Proofs.Tryz.f41 f41_C41 8 [.tmp 2] ?_
 unfold f41 at h
 refine qQ ?_
 refine rD 2 [(1, pp 1 0)] (fun h => (1, .cells [.int .u8 Tk, s0 0 W.length] 0 66 0) :: h) 2 ?_
 refine nQ id ?_
 refine rE 6 [(2, ii (w64 (1 + (Int.tmod (w64 Tk) 8))))] id ?_
 obtain rfl := sI h
 exact tV (ii (w64 (1 + (Int.tmod (w64 Tk) 8)))) id rfl
noncomputable def f45_C45 : Code := Proofs.Tryz.f45.body.getD .skip
def f45 (m : Nat) (a : ByteArray) (b : Int) : Option (ByteArray) :=
 cond (((a.size : Nat) : Int) != 1) (
  some ((bs [63]))
 ) (
  cond (inRow 0 a.size) (
   some ((strN [IntKind.wrap .u8 (97 + (Int.tmod (IntKind.wrap .u8 ((IntKind.wrap .u8 ((byteAt a 0) - 97)) + b)) 26)), 122]))
  ) none
 )
theorem f45_ok (m : Nat) (z0 : Nat) (a : ByteArray) (b : Int) (o : ByteArray) (h : f45 m a b = some o) : KC E0 45 [.string a, pp 0 0] [(0, .cells [.int .u8 b] z0 5 0)] 1 (fun v _ _ => v = .string o) := by
 refine kN Proofs.Tryz.f45 f45_C45 16 [.tmp 3] ?_
 unfold f45 at h
 refine qE 1 [(0, .string a), (1, pp 0 0)] id ?_
 refine sQ ?_
 refine qE 3 [(0, .string a), (1, pp 0 0), (6, .bool (((a.size : Nat) : Int) != 1))] id ?_
 cases b1 : (((a.size : Nat) : Int) != 1 : Bool)
 case true =>
  have h := cT b1 h
  refine iT 6 ?_
  refine qE 1 [(3, .string (bs [63]))] id ?_
  obtain rfl := sI h
  exact tV (.string (bs [63])) id rfl
 have h := cF b1 h
 refine iK 6 id ?_
 refine sQ ?_
 refine XQ.tail E0_ok 7 (by kernel_rfl) (by kernel_rfl) ?_
 refine XS.step E0_ok 1 rfl [1, 7] rfl (σ' := [(1, pp 0 0), (7, .string a)]) (by kernel_rfl) ?_
 obtain ⟨b2, h⟩ := oC h
 have e3 : insV (headI ((gsOf E0 16 (opsOf (lft (rgt (rgt f45_C45))))).drop 1) (trS 16 [(1, pp 0 0), (7, .string a)])) (trS 16 [(1, pp 0 0), (7, .string a)]) [(0, .cells [.int .u8 b] z0 5 0)] = (match (inRow 0 a.size : Bool) with | true => some (.int .u8 (byteAt a 0)) | false => none) := by kernel_rfl
 refine XS.rd E0_ok rfl [1, 8] rfl (e3.trans (by rw [b2])) (σ' := [(1, pp 0 0), (8, .int .u8 (byteAt a 0))]) (by kernel_rfl) ?_
 refine XS.step E0_ok 5 rfl [13] rfl (σ' := [(13, .int .u8 (IntKind.wrap .u8 (97 + (Int.tmod (IntKind.wrap .u8 ((IntKind.wrap .u8 ((byteAt a 0) - 97)) + b)) 26))))]) (by kernel_rfl) ?_
 refine XS.done (by kernel_rfl) ?_
 refine rG 3 [(3, .string (strN [IntKind.wrap .u8 (97 + (Int.tmod (IntKind.wrap .u8 ((IntKind.wrap .u8 ((byteAt a 0) - 97)) + b)) 26)), 122]))] (fun h => (1, .cells [.int .u8 (IntKind.wrap .u8 (97 + (Int.tmod (IntKind.wrap .u8 ((IntKind.wrap .u8 ((byteAt a 0) - 97)) + b)) 26))), .int .u8 122] 0 5 1) :: h) 2 id ?_
 obtain rfl := sI h
 exact tV (.string (strN [IntKind.wrap .u8 (97 + (Int.tmod (IntKind.wrap .u8 ((IntKind.wrap .u8 ((byteAt a 0) - 97)) + b)) 26)), 122])) id rfl
noncomputable def f13_C13 : Code := Proofs.Tryz.f13.body.getD .skip
noncomputable def f13_C36 : Code := Proofs.Tryz.f36.body.getD .skip
noncomputable def f13_C48 : Code := Proofs.Tryz.f48.body.getD .skip
noncomputable def f13_L1 : Code := lft (lft (rgt (lft (rgt (rgt (rgt (rgt (rgt f13_C13))))))))
noncomputable def f13_L2 : Code := lft (lft (rgt (rgt (rgt (rgt (rgt (rgt (rgt (lft (lft (rgt (rgt f13_L1))))))))))))
noncomputable def f13_L3 : Code := lft (lft (rgt (lft (rgt (rgt f13_C48)))))
def f13_2 (m : Nat) : Nat → List (Int × Int × Int × Int) → Int → Int → Int → List ByteArray → Int → Int → BkS → BkS → List Bl → List Bl → Option (BkS × BkS)
 | 0, _, _, _, _, _, _, _, _, _, _, _ => none
 | fuel + 1, W, b, A, Z, Y, G, U, Tc, Tb, C, B =>
  cond (decide (U < G)) (
   cond (inRow U B.length) (
    cond (inRow U C.length) (
     (f45 m ((List.getD C (Int.toNat U) ((bs []), 0, 0)).1) b).bind fun r30 =>
      cond (!(((List.getD B (Int.toNat U) ((bs []), 0, 0)).1).data.toList == r30.data.toList)) (
       none
      ) (
       cond (((List.getD B (Int.toNat U) ((bs []), 0, 0)).2.1) != ((List.getD C (Int.toNat U) ((bs []), 0, 0)).2.1)) (
        none
       ) (
        cond (((List.getD B (Int.toNat U) ((bs []), 0, 0)).2.2) != ((List.getD C (Int.toNat U) ((bs []), 0, 0)).2.2)) (
         none
        ) (
         f13_2 m fuel W b A Z Y G (w64 (U + 1)) Tc Tb C B
        )
       )
      )
    ) none
   ) none
  ) (
   some (Tc, Tb)
  )
abbrev aPn0 : Nat × Value := (9, .func (.func 45) #[] #[pp 3 0])
abbrev aPn10 (U : Int) := (Int.toNat U)
abbrev aPn2 (B : List Bl) (U : Int) := (List.getD B (aPn10 U) ((bs []), 0, 0))
abbrev aPn3 (Y : List ByteArray) : Nat × Value := (38, s0 6 Y.length)
abbrev aPn4 (C : List Bl) : Nat × Value := (13, s0 4 C.length)
abbrev aPn5 (B : List Bl) : Nat × Value := (14, s0 5 B.length)
abbrev aPn7 (C : List Bl) (U : Int) := (List.getD C (aPn10 U) ((bs []), 0, 0))
abbrev aPn8 (Y : List ByteArray) : Nat × Value := (38, s0 4 Y.length)
abbrev aPn9 (b : Int) : Nat × XObj := (3, .cells [.int .u8 b] 0 5 0)
abbrev aPn11 : Nat × Value := (83, .func (.func 45) #[] #[pp 3 0])
theorem f13_2_ok (m : Nat) : ∀ (fuel : Nat) (z0 : Nat) (y0 : Nat) (W : List (Int × Int × Int × Int)) (b : Int) (A : Int) (Z : Int) (Y : List ByteArray) (G : Int) (U : Int) (Tc : BkS) (Tb : BkS) (C : List Bl) (B : List Bl) (o : (BkS × BkS)), f13_2 m fuel W b A Z Y G U Tc Tb C B = some o → ∀ Q : QP, Q (.exit 2) [(5, pp 1 0), (7, pp 2 0), (9, .func (.func 45) #[] #[pp 3 0]), (38, s0 4 Y.length), (39, ii A), (40, ii Z)] [(4, rc encS Y 0 9 1), (3, .cells [.int .u8 b] 0 5 0), (2, .ext (bookX o.2)), (1, .ext (bookX o.1)), (0, rc encD W z0 y0 4)] 5 → XL E0 170 1 fuel f13_L2 [(5, pp 1 0), (7, pp 2 0), (9, .func (.func 45) #[] #[pp 3 0]), (13, s0 4 C.length), (14, s0 5 B.length), (38, s0 6 Y.length), (39, ii A), (40, ii Z), (74, ii G), (75, ii U)] [(6, rc encS Y 0 9 1), (5, rc encL B 0 74 3), (4, rc encL C 0 74 3), (3, .cells [.int .u8 b] 0 5 0), (2, .ext (bookX Tb)), (1, .ext (bookX Tc)), (0, rc encD W z0 y0 4)] 7 Q
 | 0, z0, y0, W, b, A, Z, Y, G, U, Tc, Tb, C, B, o, h, Q, hQ => by cases h
 | fuel + 1, z0, y0, W, b, A, Z, Y, G, U, Tc, Tb, C, B, o, h, Q, hQ => by
  unfold f13_2 at h
  refine XL.succ E0_ok ?_
  refine qE 1 [(5, pp 1 0), (7, pp 2 0), aPn0, (aPn4 C), (aPn5 B), (aPn3 Y), (39, ii A), (40, ii Z), (74, ii G), (75, ii U), (76, .bool (decide (U < G)))] id ?_
  refine sQ ?_
  cases b1 : (decide (U < G) : Bool)
  case false =>
   have h := cF b1 h
   refine iF 76 ?_
   refine nR [(5, pp 1 0), (7, pp 2 0), aPn0, (aPn8 Y), (39, ii A), (40, ii Z)] [(4, rc encS Y 0 9 1), (aPn9 b), (2, .ext (bookX Tb)), (1, .ext (bookX Tc)), (0, rc encD W z0 y0 4)] 5 [0, 1, 2, 3, 6] ?_
   refine XQ.exit (i := 2) (by kernel_rfl) ?_
   cases h
   exact hQ
  have h := cT b1 h
  refine iT 76 ?_
  refine kQ ?_
  show XQ _ _ _ _ _ _ _ _
  refine sQ ?_
  refine XQ.block (id := 3) (by kernel_rfl) ?_
  refine qE 2 [(5, pp 1 0), (7, pp 2 0), aPn0, (aPn4 C), (aPn5 B), (15, ii U), (aPn3 Y), (39, ii A), (40, ii Z), (74, ii G), (75, ii U)] id ?_
  refine sQ ?_
  refine XQ.quiet E0_ok (by kernel_rfl) (by kernel_rfl) ?_
  refine XU.run E0_ok 1 2 [5, 7, 9, 13, 14, 15, 38, 39, 40, 74, 75, 78, 79] rfl (σ' := [(5, pp 1 0), (7, pp 2 0), aPn0, (aPn4 C), (aPn5 B), (15, ii U), (aPn3 Y), (39, ii A), (40, ii Z), (74, ii G), (75, ii U), (78, s0 5 B.length), (79, ii U)]) (by kernel_rfl) ?_
  obtain ⟨b2, h⟩ := oC h
  refine uR (pp 5 ((aPn10 U) * 3)) (iV 78 (.tmp 79) 80 3 0 b2) [(5, pp 1 0), (7, pp 2 0), aPn0, (aPn4 C), (aPn5 B), (15, ii U), (aPn3 Y), (39, ii A), (40, ii Z), (74, ii G), (75, ii U), (80, pp 5 ((aPn10 U) * 3))] ?_
  refine XU.run E0_ok 1 1 [5, 7, 9, 13, 14, 15, 38, 39, 40, 74, 75, 81] rfl (σ' := [(5, pp 1 0), (7, pp 2 0), aPn0, (aPn4 C), (aPn5 B), (15, ii U), (aPn3 Y), (39, ii A), (40, ii Z), (74, ii G), (75, ii U), (81, pp 5 ((aPn10 U) * 3))]) (by kernel_rfl) ?_
  refine uR _ (lV encL_ok 81 82 5 ((aPn10 U) * 3) B 0 74 3 (aPn10 U) 0 ((bs []), 0, 0) (rl b2 (by first | rfl | simp))) [(5, pp 1 0), (7, pp 2 0), aPn0, (aPn4 C), (aPn5 B), (15, ii U), (aPn3 Y), (39, ii A), (40, ii Z), (74, ii G), (75, ii U), (82, .string ((aPn2 B U).1))] ?_
  refine XU.run E0_ok 1 3 [5, 7, 9, 13, 14, 15, 38, 39, 40, 74, 75, 82, 83, 84, 85] rfl (σ' := [(5, pp 1 0), (7, pp 2 0), aPn0, (aPn4 C), (aPn5 B), (15, ii U), (aPn3 Y), (39, ii A), (40, ii Z), (74, ii G), (75, ii U), (82, .string ((aPn2 B U).1)), aPn11, (84, s0 4 C.length), (85, ii U)]) (by kernel_rfl) ?_
  obtain ⟨b3, h⟩ := oC h
  refine uR (pp 4 ((aPn10 U) * 3)) (iV 84 (.tmp 85) 86 3 0 b3) [(5, pp 1 0), (7, pp 2 0), aPn0, (aPn4 C), (aPn5 B), (15, ii U), (aPn3 Y), (39, ii A), (40, ii Z), (74, ii G), (75, ii U), (82, .string ((aPn2 B U).1)), aPn11, (86, pp 4 ((aPn10 U) * 3))] ?_
  refine XU.run E0_ok 1 1 [5, 7, 9, 13, 14, 15, 38, 39, 40, 74, 75, 82, 83, 87] rfl (σ' := [(5, pp 1 0), (7, pp 2 0), aPn0, (aPn4 C), (aPn5 B), (15, ii U), (aPn3 Y), (39, ii A), (40, ii Z), (74, ii G), (75, ii U), (82, .string ((aPn2 B U).1)), aPn11, (87, pp 4 ((aPn10 U) * 3))]) (by kernel_rfl) ?_
  refine uR _ (lV encL_ok 87 88 4 ((aPn10 U) * 3) C 0 74 3 (aPn10 U) 0 ((bs []), 0, 0) (rl b3 (by first | rfl | simp))) [(5, pp 1 0), (7, pp 2 0), aPn0, (aPn4 C), (aPn5 B), (15, ii U), (aPn3 Y), (39, ii A), (40, ii Z), (74, ii G), (75, ii U), (82, .string ((aPn2 B U).1)), aPn11, (88, .string ((aPn7 C U).1))] ?_
  obtain ⟨r30, r30_h, h⟩ := bS h
  refine XU.callH E0_ok [5, 7, 9, 13, 14, 15, 38, 39, 40, 74, 75, 82, 89] rfl (K := 45) (args := [.string ((aPn7 C U).1), pp 3 0]) (d := (some (path 12 89))) (V := .string r30) (by kernel_rfl) rfl (KC.quiet E0_ok (args0 := [.string ((aPn7 C U).1), pp 0 0]) (h0 := [(0, .cells [.int .u8 b] (0 + (1 + 1)) 5 0)]) (n := 1) (V := .string r30) [3] (f45_ok m (0 + (1 + 1)) ((aPn7 C U).1) b r30 r30_h) rfl (by rfl) (by decide) rfl (by kernel_rfl) ⟨⟨_, _, rfl, rfl, .inr ⟨_, _, _, _, rfl, rfl⟩⟩, trivial⟩) (σ' := [(5, pp 1 0), (7, pp 2 0), aPn0, (aPn4 C), (aPn5 B), (15, ii U), (aPn3 Y), (39, ii A), (40, ii Z), (74, ii G), (75, ii U), (82, .string ((aPn2 B U).1)), (89, .string r30)]) (by kernel_rfl) ?_
  refine XU.run E0_ok 1 2 [5, 7, 9, 13, 14, 15, 38, 39, 40, 74, 75, 91] rfl (σ' := [(5, pp 1 0), (7, pp 2 0), aPn0, (aPn4 C), (aPn5 B), (15, ii U), (aPn3 Y), (39, ii A), (40, ii Z), (74, ii G), (75, ii U), (91, .bool (!(((aPn2 B U).1).data.toList == r30.data.toList)))]) (by kernel_rfl) ?_
  cases b4 : (!(((aPn2 B U).1).data.toList == r30.data.toList) : Bool)
  case true => cases (cT b4 h)
  have h := cF b4 h
  refine XU.run E0_ok 1 2 [5, 7, 9, 13, 14, 15, 38, 39, 40, 74, 75, 91, 92, 93] rfl (σ' := [(5, pp 1 0), (7, pp 2 0), aPn0, (aPn4 C), (aPn5 B), (15, ii U), (aPn3 Y), (39, ii A), (40, ii Z), (74, ii G), (75, ii U), (91, .bool false), (92, s0 5 B.length), (93, ii U)]) (by kernel_rfl) ?_
  refine uR (pp 5 ((aPn10 U) * 3)) (iV 92 (.tmp 93) 94 3 0 b2) [(5, pp 1 0), (7, pp 2 0), aPn0, (aPn4 C), (aPn5 B), (15, ii U), (aPn3 Y), (39, ii A), (40, ii Z), (74, ii G), (75, ii U), (91, .bool false), (94, pp 5 ((aPn10 U) * 3))] ?_
  refine XU.run E0_ok 1 1 [5, 7, 9, 13, 14, 15, 38, 39, 40, 74, 75, 91, 95] rfl (σ' := [(5, pp 1 0), (7, pp 2 0), aPn0, (aPn4 C), (aPn5 B), (15, ii U), (aPn3 Y), (39, ii A), (40, ii Z), (74, ii G), (75, ii U), (91, .bool false), (95, pp 5 ((aPn10 U) * 3 + 1))]) (by kernel_rfl) ?_
  refine uR _ (lV encL_ok 95 96 5 ((aPn10 U) * 3 + 1) B 0 74 3 (aPn10 U) 1 ((bs []), 0, 0) (rl b2 (by first | rfl | simp))) [(5, pp 1 0), (7, pp 2 0), aPn0, (aPn4 C), (aPn5 B), (15, ii U), (aPn3 Y), (39, ii A), (40, ii Z), (74, ii G), (75, ii U), (91, .bool false), (96, ii ((aPn2 B U).2.1))] ?_
  refine XU.run E0_ok 1 2 [5, 7, 9, 13, 14, 15, 38, 39, 40, 74, 75, 91, 96, 97, 98] rfl (σ' := [(5, pp 1 0), (7, pp 2 0), aPn0, (aPn4 C), (aPn5 B), (15, ii U), (aPn3 Y), (39, ii A), (40, ii Z), (74, ii G), (75, ii U), (91, .bool false), (96, ii ((aPn2 B U).2.1)), (97, s0 4 C.length), (98, ii U)]) (by kernel_rfl) ?_
  refine uR (pp 4 ((aPn10 U) * 3)) (iV 97 (.tmp 98) 99 3 0 b3) [(5, pp 1 0), (7, pp 2 0), aPn0, (aPn4 C), (aPn5 B), (15, ii U), (aPn3 Y), (39, ii A), (40, ii Z), (74, ii G), (75, ii U), (91, .bool false), (96, ii ((aPn2 B U).2.1)), (99, pp 4 ((aPn10 U) * 3))] ?_
  refine XU.run E0_ok 1 1 [5, 7, 9, 13, 14, 15, 38, 39, 40, 74, 75, 91, 96, 100] rfl (σ' := [(5, pp 1 0), (7, pp 2 0), aPn0, (aPn4 C), (aPn5 B), (15, ii U), (aPn3 Y), (39, ii A), (40, ii Z), (74, ii G), (75, ii U), (91, .bool false), (96, ii ((aPn2 B U).2.1)), (100, pp 4 ((aPn10 U) * 3 + 1))]) (by kernel_rfl) ?_
  refine uR _ (lV encL_ok 100 101 4 ((aPn10 U) * 3 + 1) C 0 74 3 (aPn10 U) 1 ((bs []), 0, 0) (rl b3 (by first | rfl | simp))) [(5, pp 1 0), (7, pp 2 0), aPn0, (aPn4 C), (aPn5 B), (15, ii U), (aPn3 Y), (39, ii A), (40, ii Z), (74, ii G), (75, ii U), (91, .bool false), (96, ii ((aPn2 B U).2.1)), (101, ii ((aPn7 C U).2.1))] ?_
  refine XU.run E0_ok 1 3 [5, 7, 9, 13, 14, 15, 38, 39, 40, 74, 75, 104] rfl (σ' := [(5, pp 1 0), (7, pp 2 0), aPn0, (aPn4 C), (aPn5 B), (15, ii U), (aPn3 Y), (39, ii A), (40, ii Z), (74, ii G), (75, ii U), (104, .bool (((aPn2 B U).2.1) != ((aPn7 C U).2.1)))]) (by kernel_rfl) ?_
  cases b5 : (((aPn2 B U).2.1) != ((aPn7 C U).2.1) : Bool)
  case true => cases (cT b5 h)
  have h := cF b5 h
  refine XU.run E0_ok 1 2 [5, 7, 9, 13, 14, 15, 38, 39, 40, 74, 75, 104, 105, 106] rfl (σ' := [(5, pp 1 0), (7, pp 2 0), aPn0, (aPn4 C), (aPn5 B), (15, ii U), (aPn3 Y), (39, ii A), (40, ii Z), (74, ii G), (75, ii U), (104, .bool false), (105, s0 5 B.length), (106, ii U)]) (by kernel_rfl) ?_
  refine uR (pp 5 ((aPn10 U) * 3)) (iV 105 (.tmp 106) 107 3 0 b2) [(5, pp 1 0), (7, pp 2 0), aPn0, (aPn4 C), (aPn5 B), (15, ii U), (aPn3 Y), (39, ii A), (40, ii Z), (74, ii G), (75, ii U), (104, .bool false), (107, pp 5 ((aPn10 U) * 3))] ?_
  refine XU.run E0_ok 1 1 [5, 7, 9, 13, 14, 15, 38, 39, 40, 74, 75, 104, 108] rfl (σ' := [(5, pp 1 0), (7, pp 2 0), aPn0, (aPn4 C), (aPn5 B), (15, ii U), (aPn3 Y), (39, ii A), (40, ii Z), (74, ii G), (75, ii U), (104, .bool false), (108, pp 5 ((aPn10 U) * 3 + 2))]) (by kernel_rfl) ?_
  refine uR _ (lV encL_ok 108 109 5 ((aPn10 U) * 3 + 2) B 0 74 3 (aPn10 U) 2 ((bs []), 0, 0) (rl b2 (by first | rfl | simp))) [(5, pp 1 0), (7, pp 2 0), aPn0, (aPn4 C), (aPn5 B), (15, ii U), (aPn3 Y), (39, ii A), (40, ii Z), (74, ii G), (75, ii U), (104, .bool false), (109, ii ((aPn2 B U).2.2))] ?_
  refine XU.run E0_ok 1 2 [5, 7, 9, 13, 14, 38, 39, 40, 74, 75, 104, 109, 110, 111] rfl (σ' := [(5, pp 1 0), (7, pp 2 0), aPn0, (aPn4 C), (aPn5 B), (aPn3 Y), (39, ii A), (40, ii Z), (74, ii G), (75, ii U), (104, .bool false), (109, ii ((aPn2 B U).2.2)), (110, s0 4 C.length), (111, ii U)]) (by kernel_rfl) ?_
  refine uR (pp 4 ((aPn10 U) * 3)) (iV 110 (.tmp 111) 112 3 0 b3) [(5, pp 1 0), (7, pp 2 0), aPn0, (aPn4 C), (aPn5 B), (aPn3 Y), (39, ii A), (40, ii Z), (74, ii G), (75, ii U), (104, .bool false), (109, ii ((aPn2 B U).2.2)), (112, pp 4 ((aPn10 U) * 3))] ?_
  refine XU.run E0_ok 1 1 [5, 7, 9, 13, 14, 38, 39, 40, 74, 75, 104, 109, 113] rfl (σ' := [(5, pp 1 0), (7, pp 2 0), aPn0, (aPn4 C), (aPn5 B), (aPn3 Y), (39, ii A), (40, ii Z), (74, ii G), (75, ii U), (104, .bool false), (109, ii ((aPn2 B U).2.2)), (113, pp 4 ((aPn10 U) * 3 + 2))]) (by kernel_rfl) ?_
  refine uR _ (lV encL_ok 113 114 4 ((aPn10 U) * 3 + 2) C 0 74 3 (aPn10 U) 2 ((bs []), 0, 0) (rl b3 (by first | rfl | simp))) [(5, pp 1 0), (7, pp 2 0), aPn0, (aPn4 C), (aPn5 B), (aPn3 Y), (39, ii A), (40, ii Z), (74, ii G), (75, ii U), (104, .bool false), (109, ii ((aPn2 B U).2.2)), (114, ii ((aPn7 C U).2.2))] ?_
  refine XU.run E0_ok 1 2 [5, 7, 9, 13, 14, 38, 39, 40, 74, 75, 116] rfl (σ' := [(5, pp 1 0), (7, pp 2 0), aPn0, (aPn4 C), (aPn5 B), (aPn3 Y), (39, ii A), (40, ii Z), (74, ii G), (75, ii U), (116, .bool (((aPn2 B U).2.2) != ((aPn7 C U).2.2)))]) (by kernel_rfl) ?_
  refine XU.done (by kernel_rfl) ?_
  show XQ _ _ _ _ _ _ _ _
  cases b6 : (((aPn2 B U).2.2) != ((aPn7 C U).2.2) : Bool)
  case true => cases (cT b6 h)
  have h := cF b6 h
  refine iK 116 id ?_
  refine rQ ?_
  refine rS 2 [(5, pp 1 0), (7, pp 2 0), aPn0, (aPn4 C), (aPn5 B), (aPn3 Y), (39, ii A), (40, ii Z), (74, ii G), (75, ii (w64 (U + 1)))] ?_
  refine dQ ?_
  show XL _ _ _ _ _ _ _ _ _
  refine nL [(5, pp 1 0), (7, pp 2 0), aPn0, (aPn4 C), (aPn5 B), (aPn3 Y), (39, ii A), (40, ii Z), (74, ii G), (75, ii (w64 (U + 1)))] [(6, rc encS Y 0 9 1), (5, rc encL B 0 74 3), (4, rc encL C 0 74 3), (aPn9 b), (2, .ext (bookX Tb)), (1, .ext (bookX Tc)), (0, rc encD W z0 y0 4)] 7 [0, 1, 2, 3, 4, 5, 6] ?_
  refine XL.conv (f13_2_ok m fuel z0 y0 W b A Z Y G (w64 (U + 1)) Tc Tb C B o h Q hQ) (by first | with_reducible rfl | simp | rfl)
def f13_1 (m : Nat) : Nat → List (Int × Int × Int × Int) → Int → Int → Int → BkS → BkS → List ByteArray → Option (BkS × BkS)
 | 0, _, _, _, _, _, _, _ => none
 | fuel + 1, W, b, A, Z, Ta, T, Y =>
  cond (decide (Z < A)) (
   cond (inRow Z Y.length) (
    cond (Nat.ble (List.getD Y (Int.toNat Z) (bs [])).size 1000000 && Nat.beq (bs [32]).size 1) (
     (
      cond (decide ((((splitV (List.getD Y (Int.toNat Z) (bs [])) (bs [32])).length : Nat) : Int) > 2)) (
       cond (inRow 1 ((splitV (List.getD Y (Int.toNat Z) (bs [])) (bs [32])).length)) (
        (f45 m (List.getD (splitV (List.getD Y (Int.toNat Z) (bs [])) (bs [32])) 1 (bs [])) b).bind fun r23 =>
         some (List.getD Y (Int.toNat Z) (bs []), List.set (splitV (List.getD Y (Int.toNat Z) (bs [])) (bs [32])) 1 r23)
       ) none
      ) (
       some (List.getD Y (Int.toNat Z) (bs []), splitV (List.getD Y (Int.toNat Z) (bs [])) (bs [32]))
      )
     ).bind fun oj3 =>
      (tellS m Ta oj3.1).bind fun r24 =>
       cond (joinOk oj3.2 (bs [32])) (
        (tellS m T (joinV oj3.2 (bs [32]))).bind fun r25 =>
         cond (r24.1 != r25.1) (
          none
         ) (
          (balesS m r24.2).bind fun r26 =>
           (balesS m r25.2).bind fun r27 =>
            cond (((r26.length : Nat) : Int) != ((r27.length : Nat) : Int)) (
             none
            ) (
             (f13_2 m m W b A Z Y ((r26.length : Nat) : Int) 0 r24.2 r25.2 r26 r27).bind fun o2 =>
              f13_1 m fuel W b A (w64 (Z + 1)) o2.1 o2.2 Y
            )
         )
       ) none
    ) none
   ) none
  ) (
   some (Ta, T)
  )
abbrev aPn1 (Y : List ByteArray) (Z : Int) := (splitV (List.getD Y (Int.toNat Z) (bs [])) (bs [32]))
abbrev aPn6 (Y : List ByteArray) (Z : Int) : Nat × Value := (11, .string (List.getD Y (Int.toNat Z) (bs [])))
theorem f13_1_ok (m : Nat) : ∀ (fuel : Nat) (z0 : Nat) (y0 : Nat) (W : List (Int × Int × Int × Int)) (b : Int) (A : Int) (Z : Int) (Ta : BkS) (T : BkS) (Y : List ByteArray) (o : (BkS × BkS)), f13_1 m fuel W b A Z Ta T Y = some o → ∀ Q : QP, Q (.exit 0) [(5, pp 1 0), (7, pp 2 0)] [(2, .ext (bookX o.2)), (1, .ext (bookX o.1)), (0, rc encD W z0 y0 4)] 3 → XL E0 170 1 fuel f13_L1 [(5, pp 1 0), (7, pp 2 0), (9, .func (.func 45) #[] #[pp 3 0]), (38, s0 4 Y.length), (39, ii A), (40, ii Z)] [(4, rc encS Y 0 9 1), (3, .cells [.int .u8 b] 0 5 0), (2, .ext (bookX T)), (1, .ext (bookX Ta)), (0, rc encD W z0 y0 4)] 5 Q
 | 0, z0, y0, W, b, A, Z, Ta, T, Y, o, h, Q, hQ => by cases h
 | fuel + 1, z0, y0, W, b, A, Z, Ta, T, Y, o, h, Q, hQ => by
  unfold f13_1 at h
  refine XL.succ E0_ok ?_
  refine qE 1 [(5, pp 1 0), (7, pp 2 0), aPn0, (aPn8 Y), (39, ii A), (40, ii Z), (41, .bool (decide (Z < A)))] id ?_
  refine sQ ?_
  cases b1 : (decide (Z < A) : Bool)
  case false =>
   have h := cF b1 h
   refine iF 41 ?_
   refine nR [(5, pp 1 0), (7, pp 2 0)] [(2, .ext (bookX T)), (1, .ext (bookX Ta)), (0, rc encD W z0 y0 4)] 3 [0, 1, 2] ?_
   refine XQ.exit (i := 0) (by kernel_rfl) ?_
   cases h
   exact hQ
  have h := cT b1 h
  refine iT 41 ?_
  refine kQ ?_
  show XQ _ _ _ _ _ _ _ _
  refine sQ ?_
  refine XQ.block (id := 1) (by kernel_rfl) ?_
  refine qQ ?_
  obtain ⟨b2, h⟩ := oC h
  refine rR (pp 4 ((Int.toNat Z) * 1)) (iV 38 (.tmp 40) 42 1 0 b2) [(5, pp 1 0), (7, pp 2 0), aPn0, (aPn8 Y), (39, ii A), (40, ii Z), (42, pp 4 ((Int.toNat Z) * 1))] ?_
  refine rR _ (lV encS_ok 42 43 4 ((Int.toNat Z) * 1) Y 0 9 1 (Int.toNat Z) 0 (bs []) (rl b2 (by first | rfl | simp))) [(5, pp 1 0), (7, pp 2 0), aPn0, (aPn8 Y), (39, ii A), (40, ii Z), (43, .string (List.getD Y (Int.toNat Z) (bs [])))] ?_
  refine rS 1 [(5, pp 1 0), (7, pp 2 0), aPn0, (aPn6 Y Z), (aPn8 Y), (39, ii A), (40, ii Z)] ?_
  refine nQ id ?_
  refine rS 1 [(5, pp 1 0), (7, pp 2 0), aPn0, (aPn6 Y Z), (aPn8 Y), (39, ii A), (40, ii Z), (44, .string (List.getD Y (Int.toNat Z) (bs [])))] ?_
  obtain ⟨b3, h⟩ := oC h
  refine cA [5, 7, 9, 11, 38, 39, 40, 45] 45 [.string (List.getD Y (Int.toNat Z) (bs [])), .string (bs [32])] (split_c b3) ?_
  refine rE 1 [(5, pp 1 0), (7, pp 2 0), aPn0, (aPn6 Y Z), (12, s0 5 ((aPn1 Y Z).length)), (aPn8 Y), (39, ii A), (40, ii Z)] id ?_
  refine sQ ?_
  obtain ⟨oj3, oj3_h, h⟩ := bS h
  refine XQ.mono (Q := fun xe xσ xh xc => xe = .normal ∧ SubI xσ [(5, pp 1 0), (7, pp 2 0), aPn0, (11, .string oj3.1), (12, s0 5 oj3.2.length), (aPn8 Y), (39, ii A), (40, ii Z)] ∧ (xh, xc) = ([(5, rc encS oj3.2 0 9 1), (4, rc encS Y 0 9 1), (aPn9 b), (2, .ext (bookX T)), (1, .ext (bookX Ta)), (0, rc encD W z0 y0 4)], 6)) ?_ ?_
  ·rintro _ _ _ _ ⟨rfl, hs, q⟩
   cases q
   show XQ _ _ _ _ _ _ _ _
   refine XQ.drop hs ?_
   refine sQ ?_
   refine qQ ?_
   refine rS 2 [(5, pp 1 0), (7, pp 2 0), aPn0, (12, s0 5 oj3.2.length), (aPn8 Y), (39, ii A), (40, ii Z), (56, pp 1 0), (57, .string oj3.1)] ?_
   obtain ⟨r24, r24_h, h⟩ := bS h
   refine cQ [5, 7, 9, 12, 38, 39, 40, 58] 58 (KC.ofX rfl rfl (tell_cx r24_h) (i := 1) (by kernel_rfl) rfl) ?_
   refine rS 2 [(5, pp 1 0), (7, pp 2 0), aPn0, (aPn8 Y), (39, ii A), (40, ii Z), (58, ii r24.1), (59, pp 2 0), (60, s0 5 oj3.2.length)] ?_
   obtain ⟨b6, h⟩ := oC h
   refine cA [5, 7, 9, 38, 39, 40, 58, 59, 61] 61 [s0 5 oj3.2.length, .string (bs [32])] (join_c (j := 5) (fz := 0) (e := 9) (xs := oj3.2) (by kernel_rfl) b6 (by simp)) ?_
   obtain ⟨r25, r25_h, h⟩ := bS h
   refine cQ [5, 7, 9, 38, 39, 40, 58, 62] 62 (KC.ofX rfl rfl (tell_cx r25_h) (i := 2) (by kernel_rfl) rfl) ?_
   refine rE 1 [(5, pp 1 0), (7, pp 2 0), aPn0, (aPn8 Y), (39, ii A), (40, ii Z), (63, .bool (r24.1 != r25.1))] id ?_
   cases b7 : (r24.1 != r25.1 : Bool)
   case true => cases (cT b7 h)
   have h := cF b7 h
   refine iK 63 id ?_
   refine qQ ?_
   refine rS 1 [(5, pp 1 0), (7, pp 2 0), aPn0, (aPn8 Y), (39, ii A), (40, ii Z), (64, pp 1 0)] ?_
   obtain ⟨r26, r26_h, h⟩ := bS h
   refine cQ [5, 7, 9, 38, 39, 40, 65] 65 (KC.ofRX (p := bookX r24.2) (f := encL) (el := 74) (s := 3) (xs := r26) encL_ok rfl (bales_cr r26_h) (i := 1) (by kernel_rfl)) ?_
   refine rS 1 [(5, pp 1 0), (7, pp 2 0), aPn0, (aPn8 Y), (39, ii A), (40, ii Z), (65, s0 6 r26.length), (66, pp 2 0)] ?_
   obtain ⟨r27, r27_h, h⟩ := bS h
   refine cQ [5, 7, 9, 38, 39, 40, 65, 67] 67 (KC.ofRX (p := bookX r25.2) (f := encL) (el := 74) (s := 3) (xs := r27) encL_ok rfl (bales_cr r27_h) (i := 2) (by kernel_rfl)) ?_
   refine rE 2 [(5, pp 1 0), (7, pp 2 0), aPn0, (13, s0 6 r26.length), (14, s0 7 r27.length), (aPn8 Y), (39, ii A), (40, ii Z)] id ?_
   refine sQ ?_
   refine qE 5 [(5, pp 1 0), (7, pp 2 0), aPn0, (13, s0 6 r26.length), (14, s0 7 r27.length), (aPn8 Y), (39, ii A), (40, ii Z), (72, .bool (((r26.length : Nat) : Int) != ((r27.length : Nat) : Int)))] id ?_
   cases b8 : (((r26.length : Nat) : Int) != ((r27.length : Nat) : Int) : Bool)
   case true => cases (cT b8 h)
   have h := cF b8 h
   refine iK 72 id ?_
   refine qE 3 [(5, pp 1 0), (7, pp 2 0), aPn0, (13, s0 6 r26.length), (14, s0 7 r27.length), (aPn8 Y), (39, ii A), (40, ii Z), (74, ii ((r26.length : Nat) : Int)), (75, ii 0)] id ?_
   refine XQ.block (id := 2) (by kernel_rfl) ?_
   refine XQ.loop m (by kernel_rfl) ?_
   obtain ⟨o2, o2_h, h⟩ := bS h
   refine nL [(5, pp 1 0), (7, pp 2 0), aPn0, (13, s0 4 r26.length), (14, s0 5 r27.length), (aPn3 Y), (39, ii A), (40, ii Z), (74, ii ((r26.length : Nat) : Int)), (75, ii 0)] [(6, rc encS Y 0 9 1), (5, rc encL r27 0 74 3), (4, rc encL r26 0 74 3), (aPn9 b), (2, .ext (bookX r25.2)), (1, .ext (bookX r24.2)), (0, rc encD W z0 y0 4)] 7 [0, 1, 2, 3, 6, 7, 4] ?_
   refine XL.conv (f13_2_ok m m z0 y0 W b A Z Y ((r26.length : Nat) : Int) 0 r24.2 r25.2 r26 r27 o2 o2_h _ ?_) (by first | with_reducible rfl | simp | rfl)
   show XQ _ _ _ _ _ _ _ _
   refine rQ ?_
   refine rS 2 [(5, pp 1 0), (7, pp 2 0), aPn0, (aPn8 Y), (39, ii A), (40, ii (w64 (Z + 1)))] ?_
   refine dQ ?_
   show XL _ _ _ _ _ _ _ _ _
   refine nL [(5, pp 1 0), (7, pp 2 0), aPn0, (aPn8 Y), (39, ii A), (40, ii (w64 (Z + 1)))] [(4, rc encS Y 0 9 1), (aPn9 b), (2, .ext (bookX o2.2)), (1, .ext (bookX o2.1)), (0, rc encD W z0 y0 4)] 5 [0, 1, 2, 3, 4] ?_
   refine XL.conv (f13_1_ok m fuel z0 y0 W b A (w64 (Z + 1)) o2.1 o2.2 Y o h Q hQ) (by first | with_reducible rfl | simp | rfl)
  ·have h := oj3_h
   refine qE 3 [(5, pp 1 0), (7, pp 2 0), aPn0, (aPn6 Y Z), (12, s0 5 ((aPn1 Y Z).length)), (aPn8 Y), (39, ii A), (40, ii Z), (48, .bool (decide ((((aPn1 Y Z).length : Nat) : Int) > 2)))] id ?_
   cases b4 : (decide ((((aPn1 Y Z).length : Nat) : Int) > 2) : Bool)
   case false =>
    have h := cF b4 h
    refine iF 48 ?_
    refine kQ ?_
    cases h
    exact ⟨rfl, ⟨by kernel_rfl, by kernel_rfl, by kernel_rfl, by kernel_rfl, by kernel_rfl, by kernel_rfl, by kernel_rfl, by kernel_rfl, trivial⟩, rfl⟩
   have h := cT b4 h
   refine iT 48 ?_
   refine rQ ?_
   refine rS 3 [(5, pp 1 0), (7, pp 2 0), aPn0, (aPn6 Y Z), (12, s0 5 ((aPn1 Y Z).length)), (aPn8 Y), (39, ii A), (40, ii Z), (49, s0 5 ((aPn1 Y Z).length)), (50, .func (.func 45) #[] #[pp 3 0]), (51, s0 5 ((aPn1 Y Z).length))] ?_
   obtain ⟨b5, h⟩ := oC h
   refine rR (pp 5 (1 * 1)) (iV 51 (.const (ii 1)) 52 1 0 b5) [(5, pp 1 0), (7, pp 2 0), aPn0, (aPn6 Y Z), (12, s0 5 ((aPn1 Y Z).length)), (aPn8 Y), (39, ii A), (40, ii Z), (49, s0 5 ((aPn1 Y Z).length)), (50, .func (.func 45) #[] #[pp 3 0]), (52, pp 5 (1 * 1))] ?_
   refine rR _ (lV encS_ok 52 53 5 (1 * 1) (aPn1 Y Z) 0 9 1 1 0 (bs []) (rl b5 (by first | rfl | simp))) [(5, pp 1 0), (7, pp 2 0), aPn0, (aPn6 Y Z), (12, s0 5 ((aPn1 Y Z).length)), (aPn8 Y), (39, ii A), (40, ii Z), (49, s0 5 ((aPn1 Y Z).length)), (50, .func (.func 45) #[] #[pp 3 0]), (53, .string (List.getD (aPn1 Y Z) 1 (bs [])))] ?_
   obtain ⟨r23, r23_h, h⟩ := bS h
   refine cA [5, 7, 9, 11, 12, 38, 39, 40, 49, 54] 54 [.string (List.getD (aPn1 Y Z) 1 (bs [])), pp 3 0] (KQ.call (KC.quiet E0_ok (args0 := [.string (List.getD (aPn1 Y Z) 1 (bs [])), pp 0 0]) (h0 := [(0, .cells [.int .u8 b] (0 + (1 + 1)) 5 0)]) (n := 1) (V := .string r23) [3] (f45_ok m (0 + (1 + 1)) (List.getD (aPn1 Y Z) 1 (bs [])) b r23 r23_h) rfl (by rfl) (by decide) rfl (by kernel_rfl) ⟨⟨_, _, rfl, rfl, .inr ⟨_, _, _, _, rfl, rfl⟩⟩, trivial⟩) rfl) ?_
   refine rR (pp 5 (1 * 1)) (iV 49 (.const (ii 1)) 55 1 0 b5) [(5, pp 1 0), (7, pp 2 0), aPn0, (aPn6 Y Z), (12, s0 5 ((aPn1 Y Z).length)), (aPn8 Y), (39, ii A), (40, ii Z), (54, .string r23), (55, pp 5 (1 * 1))] ?_
   refine eR (e_store encS_ok (size := 1) (x := (src 170 (.tmp 55))) (y := (src 170 (.tmp 54))) (b := 5) (off := 1 * 1) (xs := splitV (List.getD Y (Int.toNat Z) (bs [])) (bs [32])) (e := 9) (es := 1) (d := none) (h' := [(5, rc encS (List.set (aPn1 Y Z) 1 r23) 0 9 1), (4, rc encS Y 0 9 1), (aPn9 b), (2, .ext (bookX T)), (1, .ext (bookX Ta)), (0, rc encD W z0 y0 4)]) (w := .string r23) (ws := [.string r23]) (a := r23) (by kernel_rfl) (by kernel_rfl) (by kernel_rfl) 1 0 (bs []) (by first | with_reducible rfl | omega | rfl) (row_len (inRow_toNat b5) (by simp)) (by kernel_rfl) rfl rfl rfl rfl rfl (by kernel_rfl)) [(5, pp 1 0), (7, pp 2 0), aPn0, (aPn6 Y Z), (12, s0 5 ((aPn1 Y Z).length)), (aPn8 Y), (39, ii A), (40, ii Z)] ?_
   refine dQ ?_
   cases h
   rw [List.length_set]
   exact ⟨rfl, ⟨by kernel_rfl, by kernel_rfl, by kernel_rfl, by kernel_rfl, by kernel_rfl, by kernel_rfl, by kernel_rfl, by kernel_rfl, trivial⟩, rfl⟩
inductive Of13_3 where
 | r (kh1_r3 : BkS) (kh2_r3 : BkS) (lh3_r3 : List Int) (lh4_r3 : List Int)
 | x0 (Tg : BkS) (Tf : BkS) (Sk : List Int) (Sj : List Int)
def f13_3 (m : Nat) : Nat → List (Int × Int × Int × Int) → Int → Int → BkS → BkS → List Int → List Int → Option Of13_3
 | 0, _, _, _, _, _, _, _ => none
 | fuel + 1, W, Th, D, Te, Td, Tj, Ti =>
  cond (decide (D < Th)) (
   cond (inRow D Tj.length) (
    cond (inRow D Ti.length) (
     cond ((List.getD Tj (Int.toNat D) 0) != (List.getD Ti (Int.toNat D) 0)) (
      some (.r Te Td Tj Ti)
     ) (
      f13_3 m fuel W Th (w64 (D + 1)) Te Td Tj Ti
     )
    ) none
   ) none
  ) (
   some (.x0 Te Td Tj Ti)
  )
theorem f13_3_ok (m : Nat) : ∀ (fuel : Nat) (z0 : Nat) (y0 : Nat) (W : List (Int × Int × Int × Int)) (Th : Int) (D : Int) (Te : BkS) (Td : BkS) (Tj : List Int) (Ti : List Int) (o : Of13_3), f13_3 m fuel W Th D Te Td Tj Ti = some o → ∀ Q : QP, (match o with | .r kh1_r3 kh2_r3 lh3_r3 lh4_r3 => Q .ret [(4, .bool false)] [(4, rc (encI .i64) lh4_r3 0 3 1), (3, rc (encI .i64) lh3_r3 0 3 1), (2, .ext (bookX kh2_r3)), (1, .ext (bookX kh1_r3)), (0, rc encD W z0 y0 4)] 5 | .x0 Tg Tf Sk Sj => Q (.exit 0) [] [(4, rc (encI .i64) Sj 0 3 1), (3, rc (encI .i64) Sk 0 3 1), (2, .ext (bookX Tf)), (1, .ext (bookX Tg)), (0, rc encD W z0 y0 4)] 5) → XL E0 26 5 fuel f13_L3 [(0, s0 3 Tj.length), (1, s0 4 Ti.length), (12, ii Th), (13, ii D)] [(4, rc (encI .i64) Ti 0 3 1), (3, rc (encI .i64) Tj 0 3 1), (2, .ext (bookX Td)), (1, .ext (bookX Te)), (0, rc encD W z0 y0 4)] 5 Q
 | 0, z0, y0, W, Th, D, Te, Td, Tj, Ti, o, h, Q, hQ => by cases h
 | fuel + 1, z0, y0, W, Th, D, Te, Td, Tj, Ti, o, h, Q, hQ => by
  unfold f13_3 at h
  refine XL.succ E0_ok ?_
  refine qE 1 [(0, s0 3 Tj.length), (1, s0 4 Ti.length), (12, ii Th), (13, ii D), (14, .bool (decide (D < Th)))] id ?_
  refine sQ ?_
  cases b1 : (decide (D < Th) : Bool)
  case false =>
   have h := cF b1 h
   refine iF 14 ?_
   refine nR [] [(4, rc (encI .i64) Ti 0 3 1), (3, rc (encI .i64) Tj 0 3 1), (2, .ext (bookX Td)), (1, .ext (bookX Te)), (0, rc encD W z0 y0 4)] 5 [0, 1, 2, 3, 4] ?_
   refine XQ.exit (i := 0) (by kernel_rfl) ?_
   cases h
   exact hQ
  have h := cT b1 h
  refine iT 14 ?_
  refine kQ ?_
  show XQ _ _ _ _ _ _ _ _
  refine sQ ?_
  refine XQ.block (id := 1) (by kernel_rfl) ?_
  refine qE 2 [(0, s0 3 Tj.length), (1, s0 4 Ti.length), (5, ii D), (12, ii Th), (13, ii D)] id ?_
  refine sQ ?_
  refine XQ.quiet E0_ok (by kernel_rfl) (by kernel_rfl) ?_
  refine XU.run E0_ok 1 2 [0, 1, 5, 12, 13, 16, 17] rfl (σ' := [(0, s0 3 Tj.length), (1, s0 4 Ti.length), (5, ii D), (12, ii Th), (13, ii D), (16, s0 3 Tj.length), (17, ii D)]) (by kernel_rfl) ?_
  obtain ⟨b2, h⟩ := oC h
  refine uR (pp 3 ((Int.toNat D) * 1)) (iV 16 (.tmp 17) 18 1 0 b2) [(0, s0 3 Tj.length), (1, s0 4 Ti.length), (5, ii D), (12, ii Th), (13, ii D), (18, pp 3 ((Int.toNat D) * 1))] ?_
  refine uR _ (lV (encI_ok .i64) 18 19 3 ((Int.toNat D) * 1) Tj 0 3 1 (Int.toNat D) 0 0 (rl b2 (by first | rfl | simp))) [(0, s0 3 Tj.length), (1, s0 4 Ti.length), (5, ii D), (12, ii Th), (13, ii D), (19, ii (List.getD Tj (Int.toNat D) 0))] ?_
  refine XU.run E0_ok 1 2 [0, 1, 12, 13, 19, 20, 21] rfl (σ' := [(0, s0 3 Tj.length), (1, s0 4 Ti.length), (12, ii Th), (13, ii D), (19, ii (List.getD Tj (Int.toNat D) 0)), (20, s0 4 Ti.length), (21, ii D)]) (by kernel_rfl) ?_
  obtain ⟨b3, h⟩ := oC h
  refine uR (pp 4 ((Int.toNat D) * 1)) (iV 20 (.tmp 21) 22 1 0 b3) [(0, s0 3 Tj.length), (1, s0 4 Ti.length), (12, ii Th), (13, ii D), (19, ii (List.getD Tj (Int.toNat D) 0)), (22, pp 4 ((Int.toNat D) * 1))] ?_
  refine uR _ (lV (encI_ok .i64) 22 23 4 ((Int.toNat D) * 1) Ti 0 3 1 (Int.toNat D) 0 0 (rl b3 (by first | rfl | simp))) [(0, s0 3 Tj.length), (1, s0 4 Ti.length), (12, ii Th), (13, ii D), (19, ii (List.getD Tj (Int.toNat D) 0)), (23, ii (List.getD Ti (Int.toNat D) 0))] ?_
  refine XU.run E0_ok 1 1 [0, 1, 12, 13, 24] rfl (σ' := [(0, s0 3 Tj.length), (1, s0 4 Ti.length), (12, ii Th), (13, ii D), (24, .bool ((List.getD Tj (Int.toNat D) 0) != (List.getD Ti (Int.toNat D) 0)))]) (by kernel_rfl) ?_
  refine XU.done (by kernel_rfl) ?_
  show XQ _ _ _ _ _ _ _ _
  cases b4 : ((List.getD Tj (Int.toNat D) 0) != (List.getD Ti (Int.toNat D) 0) : Bool)
  case true =>
   have h := cT b4 h
   refine iT 24 ?_
   refine qE 1 [(4, .bool false)] id ?_
   refine nR [(4, .bool false)] [(4, rc (encI .i64) Ti 0 3 1), (3, rc (encI .i64) Tj 0 3 1), (2, .ext (bookX Td)), (1, .ext (bookX Te)), (0, rc encD W z0 y0 4)] 5 [0, 1, 2, 3, 4] ?_
   refine tQ ?_
   cases h
   exact hQ
  have h := cF b4 h
  refine iK 24 id ?_
  refine rQ ?_
  refine rS 2 [(0, s0 3 Tj.length), (1, s0 4 Ti.length), (12, ii Th), (13, ii (w64 (D + 1)))] ?_
  refine dQ ?_
  show XL _ _ _ _ _ _ _ _ _
  refine nL [(0, s0 3 Tj.length), (1, s0 4 Ti.length), (12, ii Th), (13, ii (w64 (D + 1)))] [(4, rc (encI .i64) Ti 0 3 1), (3, rc (encI .i64) Tj 0 3 1), (2, .ext (bookX Td)), (1, .ext (bookX Te)), (0, rc encD W z0 y0 4)] 5 [0, 1, 2, 3, 4] ?_
  refine XL.conv (f13_3_ok m fuel z0 y0 W Th (w64 (D + 1)) Te Td Tj Ti o h Q hQ) (by first | with_reducible rfl | simp | rfl)
def f13 (m : Nat) (Tk : Int) (W : List (Int × Int × Int × Int)) (b : Int) : Option (Bool) :=
 (f41 m Tk W).bind fun r1 =>
  cond (okN r1) (
   (f41 m Tk W).bind fun r2 =>
    cond (okN r2) (
     (f37 m Tk W true).bind fun r3 =>
      (f13_1 m m W b ((r3.length : Nat) : Int) 0 (newS r1) (newS r2) r3).bind fun o1 =>
       cond (((kilosS o1.1).1) == ((kilosS o1.2).1)) (
        cond (((kilosS o1.1).2) == ((kilosS o1.2).2)) (
         cond (((stampsS o1.1).1) == ((stampsS o1.2).1) && (((stampsS o1.1).2.1) == ((stampsS o1.2).2.1) && (((stampsS o1.1).2.2.1) == ((stampsS o1.2).2.2.1) && (((stampsS o1.1).2.2.2) == ((stampsS o1.2).2.2.2))))) (
          (keysS m o1.1).bind fun r31 =>
           (keysS m o1.2).bind fun r32 =>
            cond (((r31.length : Nat) : Int) != ((r32.length : Nat) : Int)) (
             none
            ) (
             (f13_3 m m W ((r31.length : Nat) : Int) 0 o1.1 o1.2 r31 r32).bind fun o3 =>
              match o3 with
              | .r kh1_r3 kh2_r3 lh3_r3 lh4_r3 =>
               none
              | .x0 Tg Tf Sk Sj =>
               cond ((yearS Tg) == (yearS Tf)) (
                (linesS m Tg).bind fun r33 =>
                 (linesS m Tf).bind fun r34 =>
                  cond (((r33.length : Nat) : Int) == ((r34.length : Nat) : Int)) (
                   some (true)
                  ) none
               ) none
            )
         ) none
        ) none
       ) none
    ) none
  ) none
theorem f13_ok (m : Nat) (z0 : Nat) (y0 : Nat) (Tk : Int) (W : List (Int × Int × Int × Int)) (b : Int) (o : Bool) (h : f13 m Tk W b = some o) : KC E0 13 [.agg #[.int .u8 Tk, s0 0 W.length], .int .u8 b] [(0, rc encD W z0 y0 4)] 1 (fun v _ _ => v = .bool o) := by
 refine kN Proofs.Tryz.f13 f13_C13 170 [.tmp 4] ?_
 unfold f13 at h
 refine qQ ?_
 refine rD 3 [(2, pp 1 0), (3, pp 2 0)] (fun h => (2, .cells [.int .u8 b] 0 5 0) :: (1, .cells [.int .u8 Tk, s0 0 W.length] 0 66 0) :: h) 3 ?_
 refine nQ id ?_
 refine rS 1 [(2, pp 1 0), (3, pp 2 0), (21, .agg #[.int .u8 Tk, s0 0 W.length])] ?_
 refine cK [2, 3, 22] 36 [.agg #[.int .u8 Tk, s0 0 W.length]] 22 ?_
 refine kN Proofs.Tryz.f36 f13_C36 19 [.tmp 2, .tmp 3] ?_
 refine qQ ?_
 refine rD 3 [(1, pp 3 0)] (fun h => (3, .cells [.int .u8 Tk, s0 0 W.length] 0 66 0) :: h) 4 ?_
 refine nQ id ?_
 refine rS 1 [(7, .agg #[.int .u8 Tk, s0 0 W.length])] ?_
 obtain ⟨r1, r1_h, h⟩ := bS h
 refine cA [8] 8 [.agg #[.int .u8 Tk, s0 0 W.length]] (KQ.call (KC.quiet E0_ok (args0 := [.agg #[.int .u8 Tk, s0 0 W.length]]) (h0 := [(0, rc encD W (z0 + ((rowC encD W).length + 1)) y0 4)]) (n := 1) (V := ii r1) [0] (f41_ok m (z0 + ((rowC encD W).length + 1)) y0 Tk W r1 r1_h) rfl (by rfl) (by decide) rfl (by kernel_rfl) ⟨⟨_, _, rfl, rfl, .inl ⟨rfl, rowC_scal encD_ok _⟩⟩, trivial⟩) rfl) ?_
 cases b1 : (okN r1 : Bool)
 case false => exact nomatch (cF b1 h)
 have h := cT b1 h
 refine cQ [9] 9 (KC.ofN (g := fun u => .tuple #[u, ii 0]) (q := bookX (newS r1)) rfl g_ok (new_cn b1)) ?_
 refine rS 5 [(4, pp 4 0), (5, ii 0)] ?_
 refine nQ id ?_
 refine rE 9 [(2, pp 4 0), (3, .bool true)] id ?_
 refine tV (.tuple #[pp 4 0, .bool true]) id ?_
 refine rS 5 [(2, pp 1 0), (3, pp 2 0), (5, pp 4 0), (6, .bool true)] ?_
 refine nQ id ?_
 refine rS 1 [(2, pp 1 0), (3, pp 2 0), (5, pp 4 0), (6, .bool true), (26, .agg #[.int .u8 Tk, s0 0 W.length])] ?_
 refine cK [2, 3, 5, 6, 27] 36 [.agg #[.int .u8 Tk, s0 0 W.length]] 27 ?_
 refine kN Proofs.Tryz.f36 f13_C36 19 [.tmp 2, .tmp 3] ?_
 refine qQ ?_
 refine rD 3 [(1, pp 5 0)] (fun h => (5, .cells [.int .u8 Tk, s0 0 W.length] 0 66 0) :: h) 6 ?_
 refine nQ id ?_
 refine rS 1 [(7, .agg #[.int .u8 Tk, s0 0 W.length])] ?_
 obtain ⟨r2, r2_h, h⟩ := bS h
 refine cA [8] 8 [.agg #[.int .u8 Tk, s0 0 W.length]] (KQ.call (KC.quiet E0_ok (args0 := [.agg #[.int .u8 Tk, s0 0 W.length]]) (h0 := [(0, rc encD W (z0 + ((rowC encD W).length + 1)) y0 4)]) (n := 1) (V := ii r2) [0] (f41_ok m (z0 + ((rowC encD W).length + 1)) y0 Tk W r2 r2_h) rfl (by rfl) (by decide) rfl (by kernel_rfl) ⟨⟨_, _, rfl, rfl, .inl ⟨rfl, rowC_scal encD_ok _⟩⟩, trivial⟩) rfl) ?_
 cases b2 : (okN r2 : Bool)
 case false => exact nomatch (cF b2 h)
 have h := cT b2 h
 refine cQ [9] 9 (KC.ofN (g := fun u => .tuple #[u, ii 0]) (q := bookX (newS r2)) rfl g_ok (new_cn b2)) ?_
 refine rS 5 [(4, pp 6 0), (5, ii 0)] ?_
 refine nQ id ?_
 refine rE 9 [(2, pp 6 0), (3, .bool true)] id ?_
 refine tV (.tuple #[pp 6 0, .bool true]) id ?_
 refine rE 5 [(2, pp 1 0), (3, pp 2 0), (5, pp 4 0), (6, .bool true), (7, pp 6 0), (8, .bool true)] id ?_
 refine sQ ?_
 refine qE 6 [(2, pp 1 0), (3, pp 2 0), (5, pp 4 0), (7, pp 6 0), (35, .bool false)] id ?_
 refine iK 35 id ?_
 refine qE 2 [(2, pp 1 0), (5, pp 4 0), (7, pp 6 0), (9, .func (.func 45) #[] #[pp 2 0])] id ?_
 refine sQ ?_
 refine qQ ?_
 refine rS 1 [(5, pp 4 0), (7, pp 6 0), (9, .func (.func 45) #[] #[pp 2 0]), (37, .agg #[.int .u8 Tk, s0 0 W.length])] ?_
 obtain ⟨r3, r3_h, h⟩ := bS h
 refine cA [5, 7, 9, 38] 38 [.agg #[.int .u8 Tk, s0 0 W.length], .bool true] (KC.liftH (n0 := 1) (m := 1) (args0 := [.agg #[.int .u8 Tk, s0 0 W.length], .bool true]) (h0 := [(0, rc encD W (z0 + ((rowC encD W).length + 1)) y0 4)]) (V := s0 1 r3.length) (V2 := s0 7 r3.length) (H := [(1, rc encS r3 0 9 1)]) (H2 := [(7, rc encS r3 0 9 1)]) [0] [2, 3, 4, 5, 6, 7, 8, 1] (f37_ok m (z0 + ((rowC encD W).length + 1)) y0 Tk W true r3 r3_h) (by rfl) (by decide) rfl (by kernel_rfl) ⟨⟨_, _, rfl, rfl, .inl ⟨rfl, rowC_scal encD_ok _⟩⟩, trivial⟩ (by decide) (by decide) (by kernel_rfl) ⟨⟨_, _, rfl, rfl, .inl ⟨rfl, rowC_scal encS_ok _⟩⟩, trivial⟩ (by rfl)) ?_
 refine rE 2 [(5, pp 4 0), (7, pp 6 0), (9, .func (.func 45) #[] #[pp 2 0]), (38, s0 7 r3.length), (39, ii ((r3.length : Nat) : Int)), (40, ii 0)] id ?_
 refine XQ.block (id := 0) (by kernel_rfl) ?_
 refine XQ.loop m (by kernel_rfl) ?_
 obtain ⟨o1, o1_h, h⟩ := bS h
 refine nL [(5, pp 1 0), (7, pp 2 0), aPn0, (38, s0 4 r3.length), (39, ii ((r3.length : Nat) : Int)), (40, ii 0)] [(4, rc encS r3 0 9 1), (aPn9 b), (2, .ext (bookX (newS r2))), (1, .ext (bookX (newS r1))), (0, rc encD W z0 y0 4)] 5 [0, 4, 6, 2, 7] ?_
 refine XL.conv (f13_1_ok m m z0 y0 W b ((r3.length : Nat) : Int) 0 (newS r1) (newS r2) r3 o1 o1_h _ ?_) (by first | with_reducible rfl | simp | rfl)
 show XQ _ _ _ _ _ _ _ _
 refine qQ ?_
 refine rS 1 [(5, pp 1 0), (7, pp 2 0), (120, pp 1 0)] ?_
 refine cQ [5, 7, 121] 121 (KC.ofV rfl rfl (kilos_cx o1.1) (i := 1) (by kernel_rfl)) ?_
 refine rS 5 [(5, pp 1 0), (7, pp 2 0), (16, ii ((kilosS o1.1).1)), (17, ii ((kilosS o1.1).2))] ?_
 refine nQ id ?_
 refine rS 1 [(5, pp 1 0), (7, pp 2 0), (16, ii ((kilosS o1.1).1)), (17, ii ((kilosS o1.1).2)), (125, pp 2 0)] ?_
 refine cQ [5, 7, 16, 17, 126] 126 (KC.ofV rfl rfl (kilos_cx o1.2) (i := 2) (by kernel_rfl)) ?_
 refine rS 5 [(5, pp 1 0), (7, pp 2 0), (16, ii ((kilosS o1.1).1)), (17, ii ((kilosS o1.1).2)), (18, ii ((kilosS o1.2).1)), (19, ii ((kilosS o1.2).2))] ?_
 refine nQ id ?_
 refine rS 4 [(5, pp 1 0), (7, pp 2 0), (17, ii ((kilosS o1.1).2)), (19, ii ((kilosS o1.2).2)), (132, .bool (((kilosS o1.1).1) == ((kilosS o1.2).1)))] ?_
 cases b4 : (((kilosS o1.1).1) == ((kilosS o1.2).1) : Bool)
 case false => exact nomatch (cF b4 h)
 have h := cT b4 h
 refine rS 5 [(5, pp 1 0), (7, pp 2 0), (137, .bool (((kilosS o1.1).2) == ((kilosS o1.2).2)))] ?_
 cases b5 : (((kilosS o1.1).2) == ((kilosS o1.2).2) : Bool)
 case false => exact nomatch (cF b5 h)
 have h := cT b5 h
 refine rS 1 [(5, pp 1 0), (7, pp 2 0), (137, .bool true), (138, pp 1 0)] ?_
 refine cQ [5, 7, 137, 139] 139 (KC.ofV rfl rfl (stamps_cx o1.1) (i := 1) (by kernel_rfl)) ?_
 refine rS 1 [(5, pp 1 0), (7, pp 2 0), (137, .bool true), (139, .agg #[ii ((stampsS o1.1).1), ii ((stampsS o1.1).2.1), ii ((stampsS o1.1).2.2.1), ii ((stampsS o1.1).2.2.2)]), (140, pp 2 0)] ?_
 refine cQ [5, 7, 137, 139, 141] 141 (KC.ofV rfl rfl (stamps_cx o1.2) (i := 2) (by kernel_rfl)) ?_
 refine rS 3 [(5, pp 1 0), (7, pp 2 0), (144, .bool (((stampsS o1.1).1) == ((stampsS o1.2).1) && (((stampsS o1.1).2.1) == ((stampsS o1.2).2.1) && (((stampsS o1.1).2.2.1) == ((stampsS o1.2).2.2.1) && (((stampsS o1.1).2.2.2) == ((stampsS o1.2).2.2.2))))))] ?_
 cases b6 : (((stampsS o1.1).1) == ((stampsS o1.2).1) && (((stampsS o1.1).2.1) == ((stampsS o1.2).2.1) && (((stampsS o1.1).2.2.1) == ((stampsS o1.2).2.2.1) && (((stampsS o1.1).2.2.2) == ((stampsS o1.2).2.2.2)))) : Bool)
 case false => exact nomatch (cF b6 h)
 have h := cT b6 h
 refine rS 1 [(5, pp 1 0), (7, pp 2 0), (144, .bool true), (145, pp 1 0)] ?_
 obtain ⟨r31, r31_h, h⟩ := bS h
 refine cQ [5, 7, 144, 146] 146 (KC.ofRX (p := bookX o1.1) (f := (encI .i64)) (el := 3) (s := 1) (xs := r31) (encI_ok .i64) rfl (keys_cr r31_h) (i := 1) (by kernel_rfl)) ?_
 refine rS 1 [(5, pp 1 0), (7, pp 2 0), (144, .bool true), (146, s0 3 r31.length), (147, pp 2 0)] ?_
 obtain ⟨r32, r32_h, h⟩ := bS h
 refine cQ [5, 7, 144, 146, 148] 148 (KC.ofRX (p := bookX o1.2) (f := (encI .i64)) (el := 3) (s := 1) (xs := r32) (encI_ok .i64) rfl (keys_cr r32_h) (i := 2) (by kernel_rfl)) ?_
 refine cK [5, 7, 144, 149] 48 [s0 3 r31.length, s0 4 r32.length] 149 ?_
 refine kN Proofs.Tryz.f48 f13_C48 26 [.tmp 4] ?_
 refine qE 1 [(0, s0 3 r31.length), (1, s0 4 r32.length)] id ?_
 refine sQ ?_
 refine qE 5 [(0, s0 3 r31.length), (1, s0 4 r32.length), (10, .bool (((r31.length : Nat) : Int) != ((r32.length : Nat) : Int)))] id ?_
 cases b7 : (((r31.length : Nat) : Int) != ((r32.length : Nat) : Int) : Bool)
 case true => cases (cT b7 h)
 have h := cF b7 h
 refine iK 10 id ?_
 refine sQ ?_
 refine qE 3 [(0, s0 3 r31.length), (1, s0 4 r32.length), (12, ii ((r31.length : Nat) : Int)), (13, ii 0)] id ?_
 refine XQ.block (id := 0) (by kernel_rfl) ?_
 refine XQ.loop m (by kernel_rfl) ?_
 obtain ⟨o3, o3_h, h⟩ := bS h
 refine nL [(0, s0 3 r31.length), (1, s0 4 r32.length), (12, ii ((r31.length : Nat) : Int)), (13, ii 0)] [(4, rc (encI .i64) r32 0 3 1), (3, rc (encI .i64) r31 0 3 1), (2, .ext (bookX o1.2)), (1, .ext (bookX o1.1)), (0, rc encD W z0 y0 4)] 5 [0, 1, 2, 3, 4] ?_
 cases o3 with
 | r kh1_r3 kh2_r3 lh3_r3 lh4_r3 =>
  dsimp only at h
  refine XL.conv (f13_3_ok m m z0 y0 W ((r31.length : Nat) : Int) 0 o1.1 o1.2 r31 r32 (.r kh1_r3 kh2_r3 lh3_r3 lh4_r3) o3_h _ ?_) (by first | with_reducible rfl | simp | rfl)
  cases h
 | x0 Tg Tf Sk Sj =>
  dsimp only at h
  refine XL.conv (f13_3_ok m m z0 y0 W ((r31.length : Nat) : Int) 0 o1.1 o1.2 r31 r32 (.x0 Tg Tf Sk Sj) o3_h _ ?_) (by first | with_reducible rfl | simp | rfl)
  show XQ _ _ _ _ _ _ _ _
  refine qE 1 [(4, .bool true)] id ?_
  refine tV (.bool true) id ?_
  refine rS 3 [(5, pp 1 0), (7, pp 2 0), (151, .bool true), (152, pp 1 0)] ?_
  refine cQ [5, 7, 151, 153] 153 (KC.ofV rfl rfl (year_cx Tg) (i := 1) (by kernel_rfl)) ?_
  refine rS 1 [(5, pp 1 0), (7, pp 2 0), (151, .bool true), (153, ii (yearS Tg)), (154, pp 2 0)] ?_
  refine cQ [5, 7, 151, 153, 155] 155 (KC.ofV rfl rfl (year_cx Tf) (i := 2) (by kernel_rfl)) ?_
  refine rS 3 [(5, pp 1 0), (7, pp 2 0), (158, .bool ((yearS Tg) == (yearS Tf)))] ?_
  cases b9 : ((yearS Tg) == (yearS Tf) : Bool)
  case false => exact nomatch (cF b9 h)
  have h := cT b9 h
  refine rS 1 [(7, pp 2 0), (158, .bool true), (159, pp 1 0)] ?_
  obtain ⟨r33, r33_h, h⟩ := bS h
  refine cQ [7, 158, 160] 160 (KC.ofRX (p := bookX Tg) (f := encS) (el := 9) (s := 1) (xs := r33) encS_ok rfl (lines_cr r33_h) (i := 1) (by kernel_rfl)) ?_
  refine rS 2 [(158, .bool true), (161, ii ((r33.length : Nat) : Int)), (162, pp 2 0)] ?_
  obtain ⟨r34, r34_h, h⟩ := bS h
  refine cQ [158, 161, 163] 163 (KC.ofRX (p := bookX Tf) (f := encS) (el := 9) (s := 1) (xs := r34) encS_ok rfl (lines_cr r34_h) (i := 2) (by kernel_rfl)) ?_
  refine rS 4 [(167, .bool (((r33.length : Nat) : Int) == ((r34.length : Nat) : Int)))] ?_
  cases b10 : (((r33.length : Nat) : Int) == ((r34.length : Nat) : Int) : Bool)
  case false => exact nomatch (cF b10 h)
  have h := cT b10 h
  refine cQ [167, 168] 168 (KC.of_calls E0_ok (F := Proofs.Tryz.f15) (v := .bool true) (by kernel_rfl) rfl rfl (works_ok)) ?_
  refine rE 2 [(4, .bool true)] id ?_
  obtain rfl := sI h
  exact tV (.bool true) id rfl
end Go.Xm
