/- What functions of the program compute, and the proofs. Conditions: the library's variables hold what their texts lay. -/
import Derived.Test.YtglkjlafglpalaaGreatDoorWe
import Derived.Test.YtglkjlafglpalaaGreatDoorPa
namespace Go.Xm
open Go.RowKit
set_option linter.unusedVariables false
set_option linter.unusedSimpArgs false
set_option maxRecDepth 20000
set_option maxHeartbeats 4000000
noncomputable def f175_C175 : Code := Proofs.Tryz.f175.body.getD .skip
def f175 (m : Nat) (a : Int) (b : Int) (c : Int) : Option (Bool) :=
 cond (decide (b ≤ a)) (
  some (decide (a ≤ c))
 ) (
  some (false)
 )
theorem f175_ok (m : Nat) (a : Int) (b : Int) (c : Int) (o : Bool) (h : f175 m a b c = some o) (w : World) (hI : maInv w) : Calls Proofs.Tryz.prog 175 #[ii a, ii b, ii c] w fun e w' => e = .returned (.bool o) ∧ Below w.heap.size w w' := by
 refine KC.calls (E := E0) (args := [ii a, ii b, ii c]) (v := .bool o) rfl rfl (KC.bodyN E0_ok (F := Proofs.Tryz.f175) (by kernel_rfl) (code := f175_C175) (by kernel_rfl) (nt := 15) (by kernel_rfl) (rs := [.tmp 6]) (by kernel_rfl) (by kernel_rfl) (σ := [(0, ii a), (1, ii b), (2, ii c)]) (by kernel_rfl) ?_) w (maInv_size hI) hI
 unfold f175 at h
 refine qQ ?_
 refine rS 1 [(0, ii a), (1, ii b), (2, ii c)] ?_
 refine nQ id ?_
 refine rS 4 [(0, ii a), (2, ii c), (10, .bool (decide (b ≤ a)))] ?_
 cases b1 : (decide (b ≤ a) : Bool)
 case false =>
  have h := cF b1 h
  refine rE 5 [(6, .bool false)] id ?_
  obtain rfl := sI h
  exact tV (.bool false) id rfl
 have h := cT b1 h
 refine rE 5 [(6, .bool (decide (a ≤ c)))] id ?_
 obtain rfl := sI h
 exact tV (.bool (decide (a ≤ c))) id rfl
noncomputable def f246_C246 : Code := Proofs.Tryz.f246.body.getD .skip
noncomputable def f246_L1 : Code := lft (lft (rgt (lft (rgt (rgt (rgt f246_C246))))))
inductive Of246_1 where
 | r (x5_r1 : Int) (Th : Int)
 | x0 (Ti : Int)
def f246_1 (m : Nat) : Nat → Int → List Int → Int → Int → Int → Option Of246_1
 | 0, _, _, _, _, _ => none
 | fuel + 1, a, b, Tj, U, Tk =>
  cond (decide (U < Tj)) (
   cond (inRow U b.length) (
    (f175 m (List.getD b (Int.toNat U) 0) 0 (w64 (a - 1))).bind fun r4 =>
     cond (!r4) (
      some (.r 2 Tk)
     ) (
      cond (decide (0 ≤ List.getD b (Int.toNat U) 0)) (
       cond ((andV .u64 (shV false .u64 Tk (List.getD b (Int.toNat U) 0)) 1) == 1) (
        some (.r 6 Tk)
       ) (
        f246_1 m fuel a b Tj (w64 (U + 1)) (orV .u64 Tk (shV true .u64 1 (List.getD b (Int.toNat U) 0)))
       )
      ) none
     )
   ) none
  ) (
   some (.x0 Tk)
  )
abbrev aPb0 (b : List Int) (U : Int) := (List.getD b (Int.toNat U) 0)
abbrev aPb2 (b : List Int) : Nat × Value := (15, s0 0 b.length)
abbrev aPb3 : Nat × XObj := (1, .cells [ii 0, .int .u64 0] 0 175 0)
abbrev aPb4 (a : Int) (b : List Int) (Tj : Int) (U : Int) (Tk : Int) : List (Nat × Value) := [(0, ii a), (4, pp 1 0), (6, pp 2 0), (aPb2 b), (16, ii Tj), (17, ii U), (37, .int .u64 Tk), (38, ii (aPb0 b U))]
abbrev aPb6 (b : List Int) (z0 : Nat) (y0 : Nat) : Nat × XObj := (0, rc (encI .i64) b z0 y0 1)
theorem f246_1_ok (m : Nat) : ∀ (fuel : Nat) (a : Int) (z0 : Nat) (y0 : Nat) (b : List Int) (Tj : Int) (U : Int) (Tk : Int) (o : Of246_1), f246_1 m fuel a b Tj U Tk = some o → ∀ Q : QP, (match o with | .r x5_r1 Th => Q .ret [(4, pp 1 0), (5, ii x5_r1)] [(1, .cells [ii a, .int .u64 Th] 0 175 0), (0, rc (encI .i64) b z0 y0 1)] 2 | .x0 Ti => Q (.exit 0) [(4, pp 1 0), (6, pp 2 0)] [(2, .cells [ii a, .int .u64 Ti] 0 175 0), (1, .cells [ii 0, .int .u64 0] 0 175 0), (0, rc (encI .i64) b z0 y0 1)] 3) → XL E0 44 1 fuel f246_L1 [(0, ii a), (4, pp 1 0), (6, pp 2 0), (15, s0 0 b.length), (16, ii Tj), (17, ii U)] [(2, .cells [ii a, .int .u64 Tk] 0 175 0), (1, .cells [ii 0, .int .u64 0] 0 175 0), (0, rc (encI .i64) b z0 y0 1)] 3 Q
 | 0, a, z0, y0, b, Tj, U, Tk, o, h, Q, hQ => by cases h
 | fuel + 1, a, z0, y0, b, Tj, U, Tk, o, h, Q, hQ => by
  unfold f246_1 at h
  refine XL.succ E0_ok ?_
  refine qE 1 [(0, ii a), (4, pp 1 0), (6, pp 2 0), (aPb2 b), (16, ii Tj), (17, ii U), (18, .bool (decide (U < Tj)))] id ?_
  refine sQ ?_
  cases b1 : (decide (U < Tj) : Bool)
  case false =>
   have h := cF b1 h
   refine iF 18 ?_
   refine nR [(4, pp 1 0), (6, pp 2 0)] [(2, .cells [ii a, .int .u64 Tk] 0 175 0), aPb3, (aPb6 b z0 y0)] 3 [0, 1, 2] ?_
   refine XQ.exit (i := 0) (by kernel_rfl) ?_
   cases h
   exact hQ
  have h := cT b1 h
  refine iT 18 ?_
  refine kQ ?_
  show XQ _ _ _ _ _ _ _ _
  refine sQ ?_
  refine XQ.block (id := 1) (by kernel_rfl) ?_
  refine qQ ?_
  obtain ⟨b2, h⟩ := oC h
  refine rR (pp 0 ((Int.toNat U) * 1)) (iV 15 (.tmp 17) 19 1 0 b2) [(0, ii a), (4, pp 1 0), (6, pp 2 0), (aPb2 b), (16, ii Tj), (17, ii U), (19, pp 0 ((Int.toNat U) * 1))] ?_
  refine rR (ii (aPb0 b U)) (v_load1 (encI_ok .i64) (x := (src 44 (.tmp 19))) (b := 0) (off := (Int.toNat U) * 1) (xs := b) (fz := z0) (e := y0) (es := 1) (d := (some (path 12 20))) (by kernel_rfl) (by kernel_rfl) (by kernel_rfl) (Int.toNat U) 0 0 (by first | with_reducible rfl | omega | rfl) (row_len (inRow_toNat b2) (by simp)) rfl rfl) [(0, ii a), (4, pp 1 0), (6, pp 2 0), (aPb2 b), (16, ii Tj), (17, ii U), (20, ii (aPb0 b U))] ?_
  refine rE 1 [(0, ii a), (4, pp 1 0), (6, pp 2 0), (8, ii (aPb0 b U)), (aPb2 b), (16, ii Tj), (17, ii U)] id ?_
  refine sQ ?_
  refine XQ.block (id := 2) (by kernel_rfl) ?_
  refine qQ ?_
  refine rS 3 [(0, ii a), (4, pp 1 0), (6, pp 2 0), (8, ii (aPb0 b U)), (aPb2 b), (16, ii Tj), (17, ii U), (22, ii (aPb0 b U)), (24, ii (w64 (a - 1)))] ?_
  obtain ⟨r4, r4_h, h⟩ := bS h
  refine cQ [0, 4, 6, 8, 15, 16, 17, 25] 25 (KC.of_calls E0_ok (F := Proofs.Tryz.f175) (v := .bool r4) (by kernel_rfl) rfl rfl (fun w hI => f175_ok m (aPb0 b U) 0 (w64 (a - 1)) r4 r4_h w hI)) ?_
  refine rE 2 [(0, ii a), (4, pp 1 0), (6, pp 2 0), (8, ii (aPb0 b U)), (aPb2 b), (16, ii Tj), (17, ii U), (21, .bool (!r4))] id ?_
  cases b3 : (!r4 : Bool)
  case true =>
   have h := cT b3 h
   refine iT 21 ?_
   refine qG 3 [(4, pp 1 0), (5, ii 2)] (fun h => hset h 1 (.cells [ii a, .int .u64 Tk] 0 175 0)) 3 id ?_
   refine nR [(4, pp 1 0), (5, ii 2)] [(1, .cells [ii a, .int .u64 Tk] 0 175 0), (aPb6 b z0 y0)] 2 [0, 1] ?_
   refine tQ ?_
   cases h
   exact hQ
  have h := cF b3 h
  refine iF 21 ?_
  refine qQ ?_
  refine rS 3 [(0, ii a), (4, pp 1 0), (6, pp 2 0), (8, ii (aPb0 b U)), (aPb2 b), (16, ii Tj), (17, ii U), (30, .int .u64 Tk), (31, ii (aPb0 b U))] ?_
  obtain ⟨b4, h⟩ := oC h
  refine rR (.int .u64 (shV false .u64 Tk (aPb0 b U))) (mR b4) [(0, ii a), (4, pp 1 0), (6, pp 2 0), (8, ii (aPb0 b U)), (aPb2 b), (16, ii Tj), (17, ii U), (32, .int .u64 (shV false .u64 Tk (aPb0 b U)))] ?_
  refine rE 3 [(0, ii a), (4, pp 1 0), (6, pp 2 0), (8, ii (aPb0 b U)), (aPb2 b), (16, ii Tj), (17, ii U), (28, .bool ((andV .u64 (shV false .u64 Tk (aPb0 b U)) 1) == 1))] id ?_
  cases b6 : ((andV .u64 (shV false .u64 Tk (aPb0 b U)) 1) == 1 : Bool)
  case true =>
   have h := cT b6 h
   refine iT 28 ?_
   refine qG 3 [(4, pp 1 0), (5, ii 6)] (fun h => hset h 1 (.cells [ii a, .int .u64 Tk] 0 175 0)) 3 id ?_
   refine nR [(4, pp 1 0), (5, ii 6)] [(1, .cells [ii a, .int .u64 Tk] 0 175 0), (aPb6 b z0 y0)] 2 [0, 1] ?_
   refine tQ ?_
   cases h
   exact hQ
  have h := cF b6 h
  refine iK 28 id ?_
  refine XQ.tail E0_ok 6 (by kernel_rfl) (by kernel_rfl) ?_
  refine XS.step E0_ok 3 rfl [0, 4, 6, 15, 16, 17, 37, 38] rfl (σ' := (aPb4 a b Tj U Tk)) (by kernel_rfl) ?_
  have e7 : insV (headI ((gsOf E0 44 (opsOf (rgt (rgt (lft (lft (rgt (rgt f246_L1)))))))).drop 3) (trS 44 (aPb4 a b Tj U Tk))) (trS 44 (aPb4 a b Tj U Tk)) [(2, .cells [ii a, .int .u64 Tk] 0 175 0), aPb3, (aPb6 b z0 y0)] = (match (decide (0 ≤ List.getD b (Int.toNat U) 0) : Bool) with | true => some (.int .u64 (shV true .u64 1 (aPb0 b U))) | false => none) := by kernel_rfl
  refine XS.rd E0_ok rfl [0, 4, 6, 15, 16, 17, 37, 39] rfl (e7.trans (by rw [b4])) (σ' := [(0, ii a), (4, pp 1 0), (6, pp 2 0), (aPb2 b), (16, ii Tj), (17, ii U), (37, .int .u64 Tk), (39, .int .u64 (shV true .u64 1 (aPb0 b U)))]) (by kernel_rfl) ?_
  refine XS.step E0_ok 2 rfl [0, 4, 6, 15, 16, 17, 40, 41] rfl (σ' := [(0, ii a), (4, pp 1 0), (6, pp 2 0), (aPb2 b), (16, ii Tj), (17, ii U), (40, .int .u64 (orV .u64 Tk (shV true .u64 1 (aPb0 b U)))), (41, pp 2 1)]) (by kernel_rfl) ?_
  refine XS.done (by kernel_rfl) ?_
  refine rG 1 [(0, ii a), (4, pp 1 0), (6, pp 2 0), (aPb2 b), (16, ii Tj), (17, ii U)] (fun h => hset h 2 (.cells [ii a, .int .u64 (orV .u64 Tk (shV true .u64 1 (aPb0 b U)))] 0 175 0)) 3 id ?_
  refine rQ ?_
  refine rS 2 [(0, ii a), (4, pp 1 0), (6, pp 2 0), (aPb2 b), (16, ii Tj), (17, ii (w64 (U + 1)))] ?_
  refine dQ ?_
  show XL _ _ _ _ _ _ _ _ _
  refine nL [(0, ii a), (4, pp 1 0), (6, pp 2 0), (aPb2 b), (16, ii Tj), (17, ii (w64 (U + 1)))] [(2, .cells [ii a, .int .u64 (orV .u64 Tk (shV true .u64 1 (aPb0 b U)))] 0 175 0), aPb3, (aPb6 b z0 y0)] 3 [0, 1, 2] ?_
  refine XL.conv (f246_1_ok m fuel a z0 y0 b Tj (w64 (U + 1)) (orV .u64 Tk (shV true .u64 1 (aPb0 b U))) o h Q hQ) (by first | with_reducible rfl | simp | rfl)
def f246 (m : Nat) (a : Int) (b : List Int) : Option (Int × Int × Int) :=
 (f175 m a 1 8).bind fun r1 =>
  cond (!r1) (
   some (a, 0, 1)
  ) (
   (f246_1 m m a b ((b.length : Nat) : Int) 0 0).bind fun o1 =>
    match o1 with
    | .r x5_r1 Th =>
     some (a, Th, x5_r1)
    | .x0 Ti =>
     some (a, Ti, 0)
  )
theorem f246_ok (m : Nat) (z0 : Nat) (y0 : Nat) (a : Int) (b : List Int) (o : Int × Int × Int) (h : f246 m a b = some o) : KC E0 246 [ii a, s0 0 b.length] [(0, rc (encI .i64) b z0 y0 1)] 1 (fun v _ _ => v = .tuple #[.agg #[ii o.1, .int .u64 o.2.1], ii o.2.2]) := by
 refine kN Proofs.Tryz.f246 f246_C246 44 [.cell 4 175, .tmp 5] ?_
 unfold f246 at h
 refine qQ ?_
 refine rD 2 [(0, ii a), (1, s0 0 b.length), (4, pp 1 0)] (fun h => aPb3 :: h) 2 ?_
 refine nQ id ?_
 refine rG 4 [(0, ii a), (1, s0 0 b.length), (4, pp 1 0), (6, pp 2 0)] (fun h => (2, .cells [ii a, .int .u64 0] 0 175 0) :: h) 3 id ?_
 refine sQ ?_
 refine qQ ?_
 refine rS 1 [(0, ii a), (1, s0 0 b.length), (4, pp 1 0), (6, pp 2 0), (11, ii a)] ?_
 obtain ⟨r1, r1_h, h⟩ := bS h
 refine cQ [0, 1, 4, 6, 12] 12 (KC.of_calls E0_ok (F := Proofs.Tryz.f175) (v := .bool r1) (by kernel_rfl) rfl rfl (fun w hI => f175_ok m a 1 8 r1 r1_h w hI)) ?_
 refine rE 1 [(0, ii a), (1, s0 0 b.length), (4, pp 1 0), (6, pp 2 0), (13, .bool (!r1))] id ?_
 cases b1 : (!r1 : Bool)
 case true =>
  have h := cT b1 h
  refine iT 13 ?_
  refine qG 3 [(4, pp 1 0), (5, ii 1)] (fun h => hset h 1 (.cells [ii a, .int .u64 0] 0 175 0)) 3 id ?_
  obtain rfl := sI h
  exact tV (.tuple #[.agg #[ii a, .int .u64 0], ii 1]) id rfl
 have h := cF b1 h
 refine iK 13 id ?_
 refine sQ ?_
 refine qE 3 [(0, ii a), (4, pp 1 0), (6, pp 2 0), (aPb2 b), (16, ii ((b.length : Nat) : Int)), (17, ii 0)] id ?_
 refine XQ.block (id := 0) (by kernel_rfl) ?_
 refine XQ.loop m (by kernel_rfl) ?_
 obtain ⟨o1, o1_h, h⟩ := bS h
 refine nL [(0, ii a), (4, pp 1 0), (6, pp 2 0), (aPb2 b), (16, ii ((b.length : Nat) : Int)), (17, ii 0)] [(2, .cells [ii a, .int .u64 0] 0 175 0), aPb3, (aPb6 b z0 y0)] 3 [0, 1, 2] ?_
 cases o1 with
 | r x5_r1 Th =>
  dsimp only at h
  refine XL.conv (f246_1_ok m m a z0 y0 b ((b.length : Nat) : Int) 0 0 (.r x5_r1 Th) o1_h _ ?_) (by first | with_reducible rfl | simp | rfl)
  obtain rfl := sI h
  exact ⟨fun i q => (by cases q), .tuple #[.agg #[ii a, .int .u64 Th], ii x5_r1], (by kernel_rfl), rfl⟩
 | x0 Ti =>
  dsimp only at h
  refine XL.conv (f246_1_ok m m a z0 y0 b ((b.length : Nat) : Int) 0 0 (.x0 Ti) o1_h _ ?_) (by first | with_reducible rfl | simp | rfl)
  show XQ _ _ _ _ _ _ _ _
  refine qG 3 [(4, pp 1 0), (5, ii 0)] (fun h => hset h 1 (.cells [ii a, .int .u64 Ti] 0 175 0)) 3 id ?_
  obtain rfl := sI h
  exact tV (.tuple #[.agg #[ii a, .int .u64 Ti], ii 0]) id rfl
noncomputable def f245_C245 : Code := Proofs.Tryz.f245.body.getD .skip
noncomputable def f245_C108 : Code := Proofs.Tryz.f108.body.getD .skip
def f245 (m : Nat) (a : Int) (b : List Int) (c : Int) : Option (Int × Int) :=
 (f246 m a b).bind fun r1 =>
  cond (r1.2.2 != 0) (
   some (0, r1.2.2)
  ) (
   (f175 m c 0 (w64 (a - 1))).bind fun r2 =>
    cond (!r2) (
     some (0, 2)
    ) (
     cond (decide (0 ≤ c)) (
      cond (decide (0 ≤ r1.1)) (
       cond ((andV .u64 (shV true .u64 (shV false .u64 (xorV .u64 18446744073709551615 r1.2.1) c) c) (IntKind.wrap .u64 ((shV true .u64 1 r1.1) - 1))) == 0) (
        some (0, 12)
       ) (
        (tzS (andV .u64 (shV true .u64 (shV false .u64 (xorV .u64 18446744073709551615 r1.2.1) c) c) (IntKind.wrap .u64 ((shV true .u64 1 r1.1) - 1)))).bind fun r3 =>
         cond (decide (0 ≤ r3)) (
          some (r3, 0)
         ) none
       )
      ) none
     ) none
    )
  )
theorem f245_ok (m : Nat) (z0 : Nat) (y0 : Nat) (a : Int) (b : List Int) (c : Int) (o : Int × Int) (h : f245 m a b c = some o) : KC E0 245 [ii a, s0 0 b.length, ii c] [(0, rc (encI .i64) b z0 y0 1)] 1 (fun v _ _ => v = .tuple #[ii o.1, ii o.2]) := by
 refine kN Proofs.Tryz.f245 f245_C245 37 [.tmp 6, .tmp 7] ?_
 unfold f245 at h
 refine qQ ?_
 refine rS 2 [(0, ii a), (1, s0 0 b.length), (2, ii c)] ?_
 refine nQ id ?_
 refine rS 2 [(0, ii a), (2, ii c), (13, ii a), (14, s0 0 b.length)] ?_
 obtain ⟨r1, r1_h, h⟩ := bS h
 refine cA [0, 2, 15] 15 [ii a, s0 0 b.length] (KQ.call (KC.quiet E0_ok (args0 := [ii a, s0 0 b.length]) (h0 := [(0, rc (encI .i64) b (z0 + ((rowC (encI .i64) b).length + 1)) y0 1)]) (n := 1) (V := .tuple #[.agg #[ii r1.1, .int .u64 r1.2.1], ii r1.2.2]) [0] (f246_ok m (z0 + ((rowC (encI .i64) b).length + 1)) y0 a b r1 r1_h) rfl (by rfl) (by decide) rfl (by kernel_rfl) ⟨⟨_, _, rfl, rfl, .inl ⟨rfl, rowC_scal (encI_ok .i64) _⟩⟩, trivial⟩) rfl) ?_
 refine rG 6 [(0, ii a), (2, ii c), (8, pp 1 0), (9, ii r1.2.2)] (fun h => (1, .cells [ii r1.1, .int .u64 r1.2.1] 0 175 0) :: h) 2 id ?_
 refine sQ ?_
 refine XQ.block (id := 0) (by kernel_rfl) ?_
 refine qE 3 [(0, ii a), (2, ii c), (8, pp 1 0), (9, ii r1.2.2), (18, .bool (r1.2.2 != 0))] id ?_
 cases b1 : (r1.2.2 != 0 : Bool)
 case true =>
  have h := cT b1 h
  refine iT 18 ?_
  refine qE 3 [(6, ii 0), (7, ii r1.2.2)] id ?_
  obtain rfl := sI h
  exact tV (.tuple #[ii 0, ii r1.2.2]) id rfl
 have h := cF b1 h
 refine iF 18 ?_
 refine qQ ?_
 refine rS 3 [(2, ii c), (8, pp 1 0), (23, ii c), (25, ii (w64 (a - 1)))] ?_
 obtain ⟨r2, r2_h, h⟩ := bS h
 refine cQ [2, 8, 26] 26 (KC.of_calls E0_ok (F := Proofs.Tryz.f175) (v := .bool r2) (by kernel_rfl) rfl rfl (fun w hI => f175_ok m c 0 (w64 (a - 1)) r2 r2_h w hI)) ?_
 refine rE 2 [(2, ii c), (8, pp 1 0), (22, .bool (!r2))] id ?_
 cases b2 : (!r2 : Bool)
 case true =>
  have h := cT b2 h
  refine iT 22 ?_
  refine qE 2 [(6, ii 0), (7, ii 2)] id ?_
  obtain rfl := sI h
  exact tV (.tuple #[ii 0, ii 2]) id rfl
 have h := cF b2 h
 refine iK 22 id ?_
 refine sQ ?_
 refine qQ ?_
 refine rS 1 [(8, pp 1 0), (29, ii c)] ?_
 refine cK [30] 108 [pp 1 0, ii c] 30 ?_
 refine kN Proofs.Tryz.f108 f245_C108 44 [.tmp 4] ?_
 refine qE 1 [(0, pp 1 0), (1, ii c)] id ?_
 refine sQ ?_
 refine XQ.quiet E0_ok (by kernel_rfl) (by kernel_rfl) ?_
 refine XU.run E0_ok 1 6 [0, 1, 11, 12] rfl (σ' := [(0, pp 1 0), (1, ii c), (11, .int .u64 (xorV .u64 18446744073709551615 r1.2.1)), (12, ii c)]) (by kernel_rfl) ?_
 obtain ⟨b3, h⟩ := oC h
 have e4 : insV (headI ((gsOf E0 44 (opsOf (lft (rgt f245_C108)))).drop 6) (trS 44 [(0, pp 1 0), (1, ii c), (11, .int .u64 (xorV .u64 18446744073709551615 r1.2.1)), (12, ii c)])) (trS 44 [(0, pp 1 0), (1, ii c), (11, .int .u64 (xorV .u64 18446744073709551615 r1.2.1)), (12, ii c)]) [(1, .cells [ii r1.1, .int .u64 r1.2.1] 0 175 0), (aPb6 b z0 y0)] = (match (decide (0 ≤ c) : Bool) with | true => some (.int .u64 (shV false .u64 (xorV .u64 18446744073709551615 r1.2.1) c)) | false => none) := by kernel_rfl
 refine XU.rd E0_ok [0, 1, 13] rfl (e4.trans (by rw [b3])) (σ' := [(0, pp 1 0), (1, ii c), (13, .int .u64 (shV false .u64 (xorV .u64 18446744073709551615 r1.2.1) c))]) (by kernel_rfl) ?_
 refine XU.run E0_ok 1 1 [0, 1, 13, 14] rfl (σ' := [(0, pp 1 0), (1, ii c), (13, .int .u64 (shV false .u64 (xorV .u64 18446744073709551615 r1.2.1) c)), (14, ii c)]) (by kernel_rfl) ?_
 have e5 : insV (headI ((gsOf E0 44 (opsOf (lft (rgt f245_C108)))).drop 8) (trS 44 [(0, pp 1 0), (1, ii c), (13, .int .u64 (shV false .u64 (xorV .u64 18446744073709551615 r1.2.1) c)), (14, ii c)])) (trS 44 [(0, pp 1 0), (1, ii c), (13, .int .u64 (shV false .u64 (xorV .u64 18446744073709551615 r1.2.1) c)), (14, ii c)]) [(1, .cells [ii r1.1, .int .u64 r1.2.1] 0 175 0), (aPb6 b z0 y0)] = (match (decide (0 ≤ c) : Bool) with | true => some (.int .u64 (shV true .u64 (shV false .u64 (xorV .u64 18446744073709551615 r1.2.1) c) c)) | false => none) := by kernel_rfl
 refine XU.rd E0_ok [0, 1, 15] rfl (e5.trans (by rw [b3])) (σ' := [(0, pp 1 0), (1, ii c), (15, .int .u64 (shV true .u64 (shV false .u64 (xorV .u64 18446744073709551615 r1.2.1) c) c))]) (by kernel_rfl) ?_
 refine XU.run E0_ok 1 4 [0, 1, 15, 19] rfl (σ' := [(0, pp 1 0), (1, ii c), (15, .int .u64 (shV true .u64 (shV false .u64 (xorV .u64 18446744073709551615 r1.2.1) c) c)), (19, ii r1.1)]) (by kernel_rfl) ?_
 obtain ⟨b6, h⟩ := oC h
 have e7 : insV (headI ((gsOf E0 44 (opsOf (lft (rgt f245_C108)))).drop 13) (trS 44 [(0, pp 1 0), (1, ii c), (15, .int .u64 (shV true .u64 (shV false .u64 (xorV .u64 18446744073709551615 r1.2.1) c) c)), (19, ii r1.1)])) (trS 44 [(0, pp 1 0), (1, ii c), (15, .int .u64 (shV true .u64 (shV false .u64 (xorV .u64 18446744073709551615 r1.2.1) c) c)), (19, ii r1.1)]) [(1, .cells [ii r1.1, .int .u64 r1.2.1] 0 175 0), (aPb6 b z0 y0)] = (match (decide (0 ≤ r1.1) : Bool) with | true => some (.int .u64 (shV true .u64 1 r1.1)) | false => none) := by kernel_rfl
 refine XU.rd E0_ok [0, 1, 15, 20] rfl (e7.trans (by rw [b6])) (σ' := [(0, pp 1 0), (1, ii c), (15, .int .u64 (shV true .u64 (shV false .u64 (xorV .u64 18446744073709551615 r1.2.1) c) c)), (20, .int .u64 (shV true .u64 1 r1.1))]) (by kernel_rfl) ?_
 refine XU.run E0_ok 1 3 [0, 1, 5] rfl (σ' := [(0, pp 1 0), (1, ii c), (5, .int .u64 (andV .u64 (shV true .u64 (shV false .u64 (xorV .u64 18446744073709551615 r1.2.1) c) c) (IntKind.wrap .u64 ((shV true .u64 1 r1.1) - 1))))]) (by kernel_rfl) ?_
 refine XU.done (by kernel_rfl) ?_
 show XQ _ _ _ _ _ _ _ _
 refine sQ ?_
 refine qE 2 [(0, pp 1 0), (1, ii c), (5, .int .u64 (andV .u64 (shV true .u64 (shV false .u64 (xorV .u64 18446744073709551615 r1.2.1) c) c) (IntKind.wrap .u64 ((shV true .u64 1 r1.1) - 1)))), (24, .bool ((andV .u64 (shV true .u64 (shV false .u64 (xorV .u64 18446744073709551615 r1.2.1) c) c) (IntKind.wrap .u64 ((shV true .u64 1 r1.1) - 1))) == 0))] id ?_
 cases b8 : ((andV .u64 (shV true .u64 (shV false .u64 (xorV .u64 18446744073709551615 r1.2.1) c) c) (IntKind.wrap .u64 ((shV true .u64 1 r1.1) - 1))) == 0 : Bool)
 case true =>
  have h := cT b8 h
  refine iT 24 ?_
  refine qE 3 [(4, .iface 145 (.agg #[]))] id ?_
  refine tV (.iface 145 (.agg #[])) id ?_
  refine rD 7 [(10, pp 2 0), (11, .bool false)] (fun h => (2, .cells [ii 0, ii 0] 0 144 0) :: h) 3 ?_
  refine nQ id ?_
  refine rE 1 [(10, pp 2 0), (34, .bool false)] id ?_
  refine iK 34 id ?_
  refine qE 2 [(6, ii 0), (7, ii 12)] id ?_
  obtain rfl := sI h
  exact tV (.tuple #[ii 0, ii 12]) id rfl
 have h := cF b8 h
 refine iK 24 id ?_
 refine qQ ?_
 refine rS 1 [(0, pp 1 0), (1, ii c), (27, .int .u64 (andV .u64 (shV true .u64 (shV false .u64 (xorV .u64 18446744073709551615 r1.2.1) c) c) (IntKind.wrap .u64 ((shV true .u64 1 r1.1) - 1))))] ?_
 obtain ⟨r3, r3_h, h⟩ := bS h
 refine cQ [0, 1, 28] 28 (KC.of_calls E0_ok (F := Proofs.Tryz.f135) (v := ii r3) (by kernel_rfl) rfl rfl (fun w hI => tzS_ok r3_h w hI.1)) ?_
 refine rE 1 [(0, pp 1 0), (1, ii c), (6, ii r3)] id ?_
 refine sQ ?_
 refine XQ.tail E0_ok 9 (by kernel_rfl) (by kernel_rfl) ?_
 refine XS.step E0_ok 5 rfl [1, 6, 29, 32, 33] rfl (σ' := [(1, ii c), (6, ii r3), (29, pp 1 0), (32, .int .u64 r1.2.1), (33, ii r3)]) (by kernel_rfl) ?_
 obtain ⟨b9, h⟩ := oC h
 have e10 : insV (headI ((gsOf E0 44 (opsOf (lft (rgt (rgt (rgt (rgt f245_C108))))))).drop 5) (trS 44 [(1, ii c), (6, ii r3), (29, pp 1 0), (32, .int .u64 r1.2.1), (33, ii r3)])) (trS 44 [(1, ii c), (6, ii r3), (29, pp 1 0), (32, .int .u64 r1.2.1), (33, ii r3)]) [(1, .cells [ii r1.1, .int .u64 r1.2.1] 0 175 0), (aPb6 b z0 y0)] = (match (decide (0 ≤ r3) : Bool) with | true => some (.int .u64 (shV true .u64 1 r3)) | false => none) := by kernel_rfl
 refine XS.rd E0_ok rfl [1, 6, 29, 32, 34] rfl (e10.trans (by rw [b9])) (σ' := [(1, ii c), (6, ii r3), (29, pp 1 0), (32, .int .u64 r1.2.1), (34, .int .u64 (shV true .u64 1 r3))]) (by kernel_rfl) ?_
 refine XS.step E0_ok 3 rfl [1, 6, 35, 37] rfl (σ' := [(1, ii c), (6, ii r3), (35, .int .u64 (orV .u64 r1.2.1 (shV true .u64 1 r3))), (37, pp 1 1)]) (by kernel_rfl) ?_
 refine XS.done (by kernel_rfl) ?_
 refine rD 1 [(1, ii c), (6, ii r3)] (fun h => hset h 1 (.cells [ii r1.1, .int .u64 (orV .u64 r1.2.1 (shV true .u64 1 r3))] 0 175 0)) 2 ?_
 refine nQ id ?_
 refine rE 7 [(4, .iface 144 (.agg #[ii r3, ii (w64 (r3 - c))]))] id ?_
 refine tV (.iface 144 (.agg #[ii r3, ii (w64 (r3 - c))])) id ?_
 refine rD 7 [(10, pp 2 0), (11, .bool true)] (fun h => (2, .cells [ii r3, ii (w64 (r3 - c))] 0 144 0) :: h) 3 ?_
 refine nQ id ?_
 refine rE 1 [(10, pp 2 0), (34, .bool true)] id ?_
 refine iT 34 ?_
 refine qE 4 [(6, ii r3), (7, ii 0)] id ?_
 obtain rfl := sI h
 exact tV (.tuple #[ii r3, ii 0]) id rfl
end Go.Xm
