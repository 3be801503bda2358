/- What functions of the program compute, and the proofs. Conditions: the library's variables hold what their texts lay. -/
import Derived.Test.YtglkjlafglpalaaGreatDoorWe
import Derived.Test.YtglkjlafglpalaaGreatDoorPa
import Derived.Test.YtglkjlafglpalaaGreatDoorEk
import Derived.Test.YtglkjlafglpalaaGreatDoorMp
import Derived.Test.YtglkjlafglpalaaGreatDoorNm
namespace Go.Xm
open Go.RowKit
set_option linter.unusedVariables false
set_option linter.unusedSimpArgs false
set_option maxRecDepth 20000
set_option maxHeartbeats 4000000
abbrev qPc0 (b : Bk) : Nat × XObj := (8, .cells [ii b.bays, .map (some 10), ii b.came, ii b.taken, ii b.chest, ii b.bond, ii b.spoilt, ii b.out, .map (some 11), ii b.year] 0 50 0)
abbrev qPc1 (b : Bk) : Nat × XObj := (12, .cells [ii b.bays, .map (some 10), ii b.came, ii b.taken, ii b.chest, ii b.bond, ii b.spoilt, ii b.out, .map (some 11), ii b.year] 0 50 0)
abbrev qPc2 (b : Bk) : Nat × XObj := (9, .cells [ii b.bays, .map (some 10), ii b.came, ii b.taken, ii b.chest, ii b.bond, ii b.spoilt, ii b.out, .map (some 11), ii b.year] 0 50 0)
abbrev qPc3 (b : Bk) : Nat × XObj := (0, .cells [ii b.bays, .map (some 1), ii b.came, ii b.taken, ii b.chest, ii b.bond, ii b.spoilt, ii b.out, .map (some 2), ii b.year, s0 3 b.before.length, s0 4 b.lines.length] 13 53 0)
abbrev qPc4 (b : Bk) : Nat × XObj := (11, .imap (imC Value.bool b.keys))
abbrev qPc5 (b : Bk) : Nat × XObj := (12, .cells [ii b.bays, .map (some 10), ii b.came, ii b.taken, ii b.chest, ii b.bond, ii b.spoilt, ii b.out, .map (some 11), ii b.year] 11 50 0)
abbrev qPc6 (b : Bk) : Nat × XObj := (9, .cells [ii b.bays, .map (some 10), ii b.came, ii b.taken, ii b.chest, ii b.bond, ii b.spoilt, ii b.out, .map (some 11), ii b.year] 11 50 0)
abbrev qPc7 (b : Bk) : Nat × XObj := (8, .cells [ii b.bays, .map (some 10), ii b.came, ii b.taken, ii b.chest, ii b.bond, ii b.spoilt, ii b.out, .map (some 11), ii b.year] 11 50 0)
abbrev qPc8 (b : Bk) : Nat × XObj := (8, .cells [ii b.bays, .map (some 1), ii b.came, ii b.taken, ii b.chest, ii b.bond, ii b.spoilt, ii b.out, .map (some 2), ii b.year] 11 50 0)
abbrev qPc9 : Nat × XObj := (9, .cells [ii 0, .map none, ii 0, ii 0, ii 0, ii 0, ii 0, ii 0, .map none, ii 0] 11 50 0)
abbrev qPc10 : Nat × XObj := (9, .cells [ii 0, .map none, ii 0, ii 0, ii 0, ii 0, ii 0, ii 0, .map none, ii 0] 0 50 0)
abbrev qPc11 (b : Bk) : Nat × XObj := (13, .cells [ii b.bays, .map (some 10), ii b.came, ii b.taken, ii b.chest, ii b.bond, ii b.spoilt, ii b.out, .map (some 11), ii b.year] 0 50 10)
abbrev qPc12 (b : Bk) : Nat × XObj := (14, .cells [ii b.bays, .map (some 10), ii b.came, ii b.taken, ii b.chest, ii b.bond, ii b.spoilt, ii b.out, .map (some 11), ii b.year] 0 50 10)
def doT : Deed → Nat
 | .shut => 150
 | .closed => 151
 | .arrive _ _ _ => 186
 | .move _ _ => 188
 | .take _ _ => 190
 | .count _ _ _ => 192
 | .supply _ => 155
 | .band _ => 156
 | .spoil _ => 157
 | .turn _ => 159
 | .leave _ => 160
 | _ => 0
def doU : Deed → Value
 | .shut => .agg #[]
 | .closed => .agg #[]
 | .arrive d6 d7 d8 => .agg #[.string d6, ii d7, ii d8]
 | .move d15 d16 => .agg #[.string d15, ii d16]
 | .take d20 d21 => .agg #[.string d20, ii d21]
 | .count d28 d29 d30 => .agg #[.string d28, ii d29, ii d30]
 | .supply d34 => .agg #[ii d34]
 | .band d37 => .agg #[ii d37]
 | .spoil d41 => .agg #[ii d41]
 | .turn d45 => .agg #[ii d45]
 | .leave d49 => .agg #[ii d49]
 | _ => ii 0
def doF : Deed → Nat
 | .shut => 234
 | .closed => 235
 | .arrive _ _ _ => 243
 | .move _ _ => 247
 | .take _ _ => 248
 | .count _ _ _ => 249
 | .supply _ => 236
 | .band _ => 237
 | .spoil _ => 239
 | .turn _ => 240
 | .leave _ => 241
 | _ => 0
def isDo : Deed → Bool
 | .nop => false
 | .undo => false
 | _ => true
theorem deed3 (d : Deed) : d = .nop ∨ d = .undo ∨ (isDo d = true ∧ deedV d = .iface (doT d) (doU d)) := by
 cases d with
 | nop => exact .inl rfl
 | undo => exact .inr (.inl rfl)
 | _ => exact .inr (.inr ⟨rfl, rfl⟩)
theorem deedV_ren (s : List Nat) (d : Deed) : renV s (deedV d) = deedV d := by cases d <;> kernel_rfl
theorem nilM_all {d : Deed} (hd : isDo d = true) (u : Value) (o : Oper) (y : Operand) (ev : Operand → Value) (w : World) (ho : o.op = .nilCheck y) (he : ev y = .func (.method "vitola/master.do") #[.iface (doT d) u] #[]) : (execOp ev o).run Proofs.Tryz.prog w = .ok (.value (ev y)) w := by
 cases d with
 | nop => cases hd
 | undo => cases hd
 | shut => exact nilM_shut u o y ev w ho he
 | closed => exact nilM_closed u o y ev w ho he
 | arrive _ _ _ => exact nilM_arrive u o y ev w ho he
 | move _ _ => exact nilM_move u o y ev w ho he
 | take _ _ => exact nilM_take u o y ev w ho he
 | count _ _ _ => exact nilM_count u o y ev w ho he
 | supply _ => exact nilM_supply u o y ev w ho he
 | band _ => exact nilM_band u o y ev w ho he
 | spoil _ => exact nilM_spoil u o y ev w ho he
 | turn _ => exact nilM_turn u o y ev w ho he
 | leave _ => exact nilM_leave u o y ev w ho he
noncomputable def f20_C20 : Code := Proofs.Tryz.f20.body.getD .skip
def f20 (m : Nat) (a : ByteArray) : Option (Int) :=
 (f53 m a).bind fun r1 =>
  match r1 with
  | .nop => some (10)
  | _ => some (0)
set_option maxHeartbeats 8000000 in
theorem f20_ok (m : Nat) (a : ByteArray) (o : Int) (h : f20 m a = some o) (w : World) (hI : maInv w) : Calls Proofs.Tryz.prog 20 #[.string a] w fun e w' => e = .returned (ii o) ∧ Below w.heap.size w w' := by
 refine KC.calls (E := E0) (args := [.string a]) (v := ii o) rfl rfl (KC.bodyN E0_ok (F := Proofs.Tryz.f20) (by kernel_rfl) (code := f20_C20) (by kernel_rfl) (nt := 6) (by kernel_rfl) (rs := [.tmp 2]) (by kernel_rfl) (by kernel_rfl) (σ := [(0, .string a)]) (by kernel_rfl) ?_) w (maInv_size hI) hI
 unfold f20 at h
 refine qE 1 [(0, .string a)] id ?_
 refine sQ ?_
 refine qQ ?_
 refine rS 1 [(3, .string a)] ?_
 obtain ⟨r1, r1_h, h⟩ := bS h
 by_cases hn : r1 = .nop
 ·subst hn
  refine cA [4] 4 [.string a] (KC.lift (V2 := deedV (Deed.nop)) (H2 := []) [] (f53_ok m a (Deed.nop) r1_h) rfl (by decide) (by decide) (by kernel_rfl) trivial (by rfl)) ?_
  refine rE 1 [(5, .bool true)] id ?_
  refine iT 5 ?_
  refine qE 1 [(2, ii 10)] id ?_
  obtain rfl := sI h
  exact tV (ii 10) id rfl
 ·have h : some 0 = some o := by cases r1 <;> first | exact h | exact absurd rfl hn
  refine cA [4] 4 [.string a] (KC.lift (V2 := deedV r1) (H2 := []) [] (f53_ok m a r1 r1_h) rfl (by decide) (by decide) (deedV_ren _ _) trivial (by rfl)) ?_
  refine rS 1 [(5, .bool false)] ?_ rfl (by cases r1 <;> first | exact absurd rfl hn | kernel_rfl)
  refine eQ id ?_
  refine iK 5 id ?_
  refine qE 1 [(2, ii 0)] id ?_
  obtain rfl := sI h
  exact tV (ii 0) id rfl
noncomputable def f19_C19 : Code := Proofs.Tryz.f19.body.getD .skip
noncomputable def f19_C52 : Code := Proofs.Tryz.f52.body.getD .skip
noncomputable def f19_C55 : Code := Proofs.Tryz.f55.body.getD .skip
noncomputable def f19_C234 : Code := Proofs.Tryz.f234.body.getD .skip
noncomputable def f19_C56 : Code := Proofs.Tryz.f56.body.getD .skip
noncomputable def f19_C235 : Code := Proofs.Tryz.f235.body.getD .skip
noncomputable def f19_C54 : Code := Proofs.Tryz.f54.body.getD .skip
noncomputable def f19_C243 : Code := Proofs.Tryz.f243.body.getD .skip
noncomputable def f19_C247 : Code := Proofs.Tryz.f247.body.getD .skip
noncomputable def f19_C248 : Code := Proofs.Tryz.f248.body.getD .skip
noncomputable def f19_C249 : Code := Proofs.Tryz.f249.body.getD .skip
noncomputable def f19_C236 : Code := Proofs.Tryz.f236.body.getD .skip
noncomputable def f19_C237 : Code := Proofs.Tryz.f237.body.getD .skip
noncomputable def f19_C238 : Code := Proofs.Tryz.f238.body.getD .skip
noncomputable def f19_C239 : Code := Proofs.Tryz.f239.body.getD .skip
noncomputable def f19_C240 : Code := Proofs.Tryz.f240.body.getD .skip
noncomputable def f19_C241 : Code := Proofs.Tryz.f241.body.getD .skip
def f19_end (b : Bk) (a : ByteArray) (e : Int) (s_came : Int) (s_taken : Int) (s_chest : Int) (s_bond : Int) (s_spoilt : Int) (s_out : Int) (s_year : Int) (s_bales : List (ByteArray × Bl)) (s_keys : List (Int × Bool)) : Option Out :=
 cond (e != 0) (
  some (.refuse)
 ) (
  cond (fitsB (b.before.length + 1) 80) (
   cond (fitsB (b.lines.length + 1) 16) (
    some (.done s_came s_taken s_chest s_bond s_spoilt s_out s_year s_bales s_keys)
   ) none
  ) none
 )
abbrev eH (b : Bk) (a : ByteArray) (e : Int) (s_came : Int) (s_taken : Int) (s_chest : Int) (s_bond : Int) (s_spoilt : Int) (s_out : Int) (s_year : Int) (s_bales : List (ByteArray × Bl)) (s_keys : List (Int × Bool)) : Heap := [qPc1 b, qPc4 b, (10, .imap (imS blV b.bales)), qPc2 b, qPc0 b, (7, .cells [ii e] 0 26 0), (6, .cells [.string a] 0 9 0), (5, .cells [pp 0 0] 0 25 0), (4, rc encS b.lines 0 9 1), (3, rc encSt b.before 0 50 10), (2, .imap (imC Value.bool s_keys)), (1, .imap (imS blV s_bales)), (0, .cells [ii b.bays, .map (some 1), ii s_came, ii s_taken, ii s_chest, ii s_bond, ii s_spoilt, ii s_out, .map (some 2), ii s_year, s0 3 b.before.length, s0 4 b.lines.length] 0 53 0)]
abbrev aPc1 (b : Bk) : List Value := [ii b.bays, .map (some 10), ii b.came, ii b.taken, ii b.chest, ii b.bond, ii b.spoilt, ii b.out, .map (some 11), ii b.year]
abbrev aPc9 (b : Bk) : Nat × XObj := (10, .imap (imS blV b.bales))
abbrev aPc13 (b : Bk) : Nat × XObj := (3, rc encSt b.before 0 50 10)
abbrev aPc14 (b : Bk) : Nat × XObj := (4, rc encS b.lines 0 9 1)
abbrev aPc16 : Nat × XObj := (5, .cells [pp 0 0] 2 25 0)
abbrev aPc18 (a : ByteArray) : Nat × XObj := (6, .cells [.string a] 2 9 0)
abbrev aPc23 (b : Bk) : Nat × XObj := (15, .cells (rowC encSt b.before ++ (aPc1 b)) 0 50 10)
abbrev aPc24 (b : Bk) : Nat × Value := (22, s0 4 b.lines.length)
abbrev aPc35 (e : Int) : Nat × XObj := (7, .cells [ii e] 2 26 0)
abbrev aPc36 (s_keys : List (Int × Bool)) : Nat × XObj := (2, .imap (imC Value.bool s_keys))
theorem f19_end_ok (b : Bk) (a : ByteArray) (e : Int) (s_came : Int) (s_taken : Int) (s_chest : Int) (s_bond : Int) (s_spoilt : Int) (s_out : Int) (s_year : Int) (s_bales : List (ByteArray × Bl)) (s_keys : List (Int × Bool)) (o : Out) (h : f19_end b a e s_came s_taken s_chest s_bond s_spoilt s_out s_year s_bales s_keys = some o) : KD E0 56 [pp 7 0, pp 12 0, pp 5 0, pp 6 0] (eH b a e s_came s_taken s_chest s_bond s_spoilt s_out s_year s_bales s_keys) 13 (fun h2 c2 => ∃ v, resOf E0 Proofs.Tryz.f19.ntmps (trS Proofs.Tryz.f19.ntmps [(4, pp 7 0)]) h2 Proofs.Tryz.f19.results.toList = some v ∧ v = ii e ∧ OutH b a o h2) := by
 unfold f19_end at h
 refine ⟨Proofs.Tryz.f56, f19_C56, (by kernel_rfl), (by kernel_rfl), (by kernel_rfl), ?_⟩
 refine XQ.conv (σ' := [(0, pp 7 0), (1, pp 12 0), (2, pp 5 0), (3, pp 6 0)]) (h' := (eH b a e s_came s_taken s_chest s_bond s_spoilt s_out s_year s_bales s_keys)) (c' := 13) ?_ (by kernel_rfl)
 refine sQ ?_
 refine qE 2 [(1, pp 12 0), (2, pp 5 0), (3, pp 6 0), (5, .bool (e != 0))] id ?_
 cases b4 : (e != 0 : Bool)
 case true =>
  have h := cT b4 h
  refine iT 5 ?_
  refine qG 5 [] (fun h => hset h 0 (.cells [ii b.bays, .map (some 10), ii b.came, ii b.taken, ii b.chest, ii b.bond, ii b.spoilt, ii b.out, .map (some 11), ii b.year, s0 3 b.before.length, s0 4 b.lines.length] 0 53 0)) 13 id ?_
  refine tQ ?_
  obtain rfl := sI h
  exact ⟨fun i q => (by cases q), ⟨.tuple #[], (by kernel_rfl)⟩, ii e, (by kernel_rfl), rfl, 10, 11, (by decide), (by kernel_rfl), (by kernel_rfl), (by kernel_rfl), (by kernel_rfl), (by kernel_rfl)⟩
 have h := cF b4 h
 refine iK 5 id ?_
 obtain ⟨b5, h⟩ := oC h
 obtain ⟨b6, h⟩ := oC h
 refine hQ 16 [17, 18, 19, 20, 21] 16 [0, 5, 6, 7, 8, 9, 12] [qPc5 b, qPc4 b, (aPc9 b), qPc6 b, qPc7 b, (aPc35 e), (aPc18 a), aPc16, (aPc14 b), (aPc13 b), (aPc36 s_keys), (1, .imap (imS blV s_bales)), (0, .cells [ii b.bays, .map (some 1), ii s_came, ii s_taken, ii s_chest, ii s_bond, ii s_spoilt, ii s_out, .map (some 2), ii s_year, s0 3 b.before.length, s0 4 b.lines.length] 13 53 0)] ?_
 refine hH [0, 1, 2, 3, 4, 5, 6, 9, 10, 11, 12, 13] 4 [(10, pp 0 0), (11, pp 0 0), (15, s0 3 b.before.length), (16, .agg #[ii b.bays, .map (some 10), ii b.came, ii b.taken, ii b.chest, ii b.bond, ii b.spoilt, ii b.out, .map (some 11), ii b.year]), (aPc24 b), (23, .string a)] ?_
 refine uH [7, 14] ⟨?_, ?_, trivial⟩
 ·refine rD 1 [(10, pp 0 0), (11, pp 0 0), (15, s0 3 b.before.length), (17, s0 13 1), (aPc24 b), (23, .string a)] (fun h => (13, .cells (aPc1 b) 0 50 10) :: h) 14 ?_
  refine zH ?_
  refine uH [8, 14] ⟨?_, ?_, trivial⟩
  ·refine eR (e_appendV encSt_ok (bytes := 80) (e := 50) (x := (src 30 (.tmp 15))) (y := (src 30 (.tmp 17))) (b := 3) (len := b.before.length) (cap := b.before.length) (xs := b.before) (m := 0) (vs := (aPc1 b)) (d := (some (path 12 18))) (n' := b.before.length + 1) (h' := [(14, .cells (rowC encSt b.before ++ (aPc1 b)) 0 50 10), qPc11 b, qPc5 b, qPc4 b, (aPc9 b), qPc6 b, qPc7 b, (aPc35 e), (aPc18 a), aPc16, (aPc14 b), (aPc36 s_keys), (1, .imap (imS blV s_bales)), (0, .cells [ii b.bays, .map (some 1), ii s_came, ii s_taken, ii s_chest, ii s_bond, ii s_spoilt, ii s_out, .map (some 2), ii s_year, s0 3 b.before.length, s0 4 b.lines.length] 13 53 0)]) (by kernel_rfl) (by kernel_rfl) (by kernel_rfl) (by kernel_rfl) (by kernel_rfl) rfl rfl rfl b5 rfl (by kernel_rfl)) [(10, pp 0 0), (11, pp 0 0), (18, s0 14 (b.before.length + 1)), (aPc24 b), (23, .string a)] ?_
   refine zH ?_
   refine uH [14] ⟨?_, trivial⟩
   ·refine rD 1 [(10, pp 0 0), (11, pp 0 0), (18, s0 14 (b.before.length + 1)), (aPc24 b), (24, s0 15 1)] (fun h => (15, .cells [.string a] 0 9 1) :: h) 16 ?_
    refine zH ?_
    refine uH [15] ⟨?_, trivial⟩
    ·refine eR (e_append encS_ok (bytes := 16) (e := 9) (x := (src 30 (.tmp 22))) (y := (src 30 (.tmp 24))) (b := 4) (len := b.lines.length) (cap := b.lines.length) (xs := b.lines) (m := 0) (ys := [a]) (d := (some (path 12 25))) (n' := (b.lines ++ [a]).length) (h' := [(16, rc encS (b.lines ++ [a]) 0 9 1), (15, .cells [.string a] 0 9 1), (14, .cells (rowC encSt b.before ++ (aPc1 b)) 0 50 10), qPc11 b, qPc5 b, qPc4 b, (aPc9 b), qPc6 b, qPc7 b, (aPc35 e), (aPc18 a), aPc16, (aPc36 s_keys), (1, .imap (imS blV s_bales)), (0, .cells [ii b.bays, .map (some 1), ii s_came, ii s_taken, ii s_chest, ii s_bond, ii s_spoilt, ii s_out, .map (some 2), ii s_year, s0 3 b.before.length, s0 4 b.lines.length] 13 53 0)]) (by kernel_rfl) (by kernel_rfl) (by kernel_rfl) (by kernel_rfl) rfl (by simp) (by simp) b6 (by simp) (by kernel_rfl)) [(10, pp 0 0), (11, pp 0 0), (18, s0 14 (b.before.length + 1)), (25, s0 16 ((b.lines ++ [a]).length))] ?_
     refine zH ?_
     refine fH ?_
     refine rD 6 [] (fun h => hset h 0 (.cells [ii b.bays, .map (some 1), ii s_came, ii s_taken, ii s_chest, ii s_bond, ii s_spoilt, ii s_out, .map (some 2), ii s_year, s0 14 (b.before.length + 1), s0 16 ((b.lines ++ [a]).length)] 0 53 0)) 17 ?_
     refine dQ ?_
     obtain rfl := sI h
     exact ⟨fun i q => (by cases q), ⟨.tuple #[], (by kernel_rfl)⟩, ii e, (by kernel_rfl), rfl, 14, 16, 10, 11, (by decide), (by kernel_rfl), (by kernel_rfl), (by kernel_rfl), (by kernel_rfl), (by kernel_rfl), (by kernel_rfl), (by kernel_rfl)⟩
  ·refine rD 1 [(10, pp 0 0), (11, pp 0 0), (15, s0 3 b.before.length), (17, s0 13 1), (aPc24 b), (24, s0 14 1)] (fun h => (14, .cells [.string a] 0 9 1) :: h) 15 ?_
   refine zH ?_
   refine uH [8] ⟨?_, trivial⟩
   ·refine eR (e_appendV encSt_ok (bytes := 80) (e := 50) (x := (src 30 (.tmp 15))) (y := (src 30 (.tmp 17))) (b := 3) (len := b.before.length) (cap := b.before.length) (xs := b.before) (m := 0) (vs := (aPc1 b)) (d := (some (path 12 18))) (n' := b.before.length + 1) (h' := [(aPc23 b), (14, .cells [.string a] 0 9 1), qPc11 b, qPc5 b, qPc4 b, (aPc9 b), qPc6 b, qPc7 b, (aPc35 e), (aPc18 a), aPc16, (aPc14 b), (aPc36 s_keys), (1, .imap (imS blV s_bales)), (0, .cells [ii b.bays, .map (some 1), ii s_came, ii s_taken, ii s_chest, ii s_bond, ii s_spoilt, ii s_out, .map (some 2), ii s_year, s0 3 b.before.length, s0 4 b.lines.length] 13 53 0)]) (by kernel_rfl) (by kernel_rfl) (by kernel_rfl) (by kernel_rfl) (by kernel_rfl) rfl rfl rfl b5 rfl (by kernel_rfl)) [(10, pp 0 0), (11, pp 0 0), (18, s0 15 (b.before.length + 1)), (aPc24 b), (24, s0 14 1)] ?_
    refine zH ?_
    refine uH [15] ⟨?_, trivial⟩
    ·refine eR (e_append encS_ok (bytes := 16) (e := 9) (x := (src 30 (.tmp 22))) (y := (src 30 (.tmp 24))) (b := 4) (len := b.lines.length) (cap := b.lines.length) (xs := b.lines) (m := 0) (ys := [a]) (d := (some (path 12 25))) (n' := (b.lines ++ [a]).length) (h' := [(16, rc encS (b.lines ++ [a]) 0 9 1), (aPc23 b), (14, .cells [.string a] 0 9 1), qPc11 b, qPc5 b, qPc4 b, (aPc9 b), qPc6 b, qPc7 b, (aPc35 e), (aPc18 a), aPc16, (aPc36 s_keys), (1, .imap (imS blV s_bales)), (0, .cells [ii b.bays, .map (some 1), ii s_came, ii s_taken, ii s_chest, ii s_bond, ii s_spoilt, ii s_out, .map (some 2), ii s_year, s0 3 b.before.length, s0 4 b.lines.length] 13 53 0)]) (by kernel_rfl) (by kernel_rfl) (by kernel_rfl) (by kernel_rfl) rfl (by simp) (by simp) b6 (by simp) (by kernel_rfl)) [(10, pp 0 0), (11, pp 0 0), (18, s0 15 (b.before.length + 1)), (25, s0 16 ((b.lines ++ [a]).length))] ?_
     refine zH ?_
     refine fH ?_
     refine rD 6 [] (fun h => hset h 0 (.cells [ii b.bays, .map (some 1), ii s_came, ii s_taken, ii s_chest, ii s_bond, ii s_spoilt, ii s_out, .map (some 2), ii s_year, s0 15 (b.before.length + 1), s0 16 ((b.lines ++ [a]).length)] 0 53 0)) 17 ?_
     refine dQ ?_
     obtain rfl := sI h
     exact ⟨fun i q => (by cases q), ⟨.tuple #[], (by kernel_rfl)⟩, ii e, (by kernel_rfl), rfl, 15, 16, 10, 11, (by decide), (by kernel_rfl), (by kernel_rfl), (by kernel_rfl), (by kernel_rfl), (by kernel_rfl), (by kernel_rfl), (by kernel_rfl)⟩
 ·refine rD 1 [(10, pp 0 0), (11, pp 0 0), (15, s0 3 b.before.length), (16, .agg #[ii b.bays, .map (some 10), ii b.came, ii b.taken, ii b.chest, ii b.bond, ii b.spoilt, ii b.out, .map (some 11), ii b.year]), (aPc24 b), (24, s0 13 1)] (fun h => (13, .cells [.string a] 0 9 1) :: h) 14 ?_
  refine zH ?_
  refine uH [7] ⟨?_, trivial⟩
  ·refine rD 1 [(10, pp 0 0), (11, pp 0 0), (15, s0 3 b.before.length), (17, s0 14 1), (aPc24 b), (24, s0 13 1)] (fun h => (14, .cells (aPc1 b) 0 50 10) :: h) 15 ?_
   refine zH ?_
   refine uH [8] ⟨?_, trivial⟩
   ·refine eR (e_appendV encSt_ok (bytes := 80) (e := 50) (x := (src 30 (.tmp 15))) (y := (src 30 (.tmp 17))) (b := 3) (len := b.before.length) (cap := b.before.length) (xs := b.before) (m := 0) (vs := (aPc1 b)) (d := (some (path 12 18))) (n' := b.before.length + 1) (h' := [(aPc23 b), qPc12 b, (13, .cells [.string a] 0 9 1), qPc5 b, qPc4 b, (aPc9 b), qPc6 b, qPc7 b, (aPc35 e), (aPc18 a), aPc16, (aPc14 b), (aPc36 s_keys), (1, .imap (imS blV s_bales)), (0, .cells [ii b.bays, .map (some 1), ii s_came, ii s_taken, ii s_chest, ii s_bond, ii s_spoilt, ii s_out, .map (some 2), ii s_year, s0 3 b.before.length, s0 4 b.lines.length] 13 53 0)]) (by kernel_rfl) (by kernel_rfl) (by kernel_rfl) (by kernel_rfl) (by kernel_rfl) rfl rfl rfl b5 rfl (by kernel_rfl)) [(10, pp 0 0), (11, pp 0 0), (18, s0 15 (b.before.length + 1)), (aPc24 b), (24, s0 13 1)] ?_
    refine zH ?_
    refine uH [15] ⟨?_, trivial⟩
    ·refine eR (e_append encS_ok (bytes := 16) (e := 9) (x := (src 30 (.tmp 22))) (y := (src 30 (.tmp 24))) (b := 4) (len := b.lines.length) (cap := b.lines.length) (xs := b.lines) (m := 0) (ys := [a]) (d := (some (path 12 25))) (n' := (b.lines ++ [a]).length) (h' := [(16, rc encS (b.lines ++ [a]) 0 9 1), (aPc23 b), qPc12 b, (13, .cells [.string a] 0 9 1), qPc5 b, qPc4 b, (aPc9 b), qPc6 b, qPc7 b, (aPc35 e), (aPc18 a), aPc16, (aPc36 s_keys), (1, .imap (imS blV s_bales)), (0, .cells [ii b.bays, .map (some 1), ii s_came, ii s_taken, ii s_chest, ii s_bond, ii s_spoilt, ii s_out, .map (some 2), ii s_year, s0 3 b.before.length, s0 4 b.lines.length] 13 53 0)]) (by kernel_rfl) (by kernel_rfl) (by kernel_rfl) (by kernel_rfl) rfl (by simp) (by simp) b6 (by simp) (by kernel_rfl)) [(10, pp 0 0), (11, pp 0 0), (18, s0 15 (b.before.length + 1)), (25, s0 16 ((b.lines ++ [a]).length))] ?_
     refine zH ?_
     refine fH ?_
     refine rD 6 [] (fun h => hset h 0 (.cells [ii b.bays, .map (some 1), ii s_came, ii s_taken, ii s_chest, ii s_bond, ii s_spoilt, ii s_out, .map (some 2), ii s_year, s0 15 (b.before.length + 1), s0 16 ((b.lines ++ [a]).length)] 0 53 0)) 17 ?_
     refine dQ ?_
     obtain rfl := sI h
     exact ⟨fun i q => (by cases q), ⟨.tuple #[], (by kernel_rfl)⟩, ii e, (by kernel_rfl), rfl, 15, 16, 10, 11, (by decide), (by kernel_rfl), (by kernel_rfl), (by kernel_rfl), (by kernel_rfl), (by kernel_rfl), (by kernel_rfl), (by kernel_rfl)⟩
abbrev kH (b : Bk) (a : ByteArray) : Heap := (qPc1 b :: qPc4 b :: (10, .imap (imS blV b.bales)) :: qPc2 b :: qPc0 b :: (7, .cells [ii 0] 0 26 0) :: (6, .cells [.string a] 0 9 0) :: (5, .cells [pp 0 0] 0 25 0) :: bookH b)
def DoQ (b : Bk) (a : ByteArray) (o : Int × Out) (v : Value) (h : Heap) (c : Nat) : Prop :=
 ∃ e c1 c2 c3 c4 c5 c6 c7 bl ks, v = ii e ∧ ((f19_end b a e c1 c2 c3 c4 c5 c6 c7 bl ks).bind fun r => some (e, r)) = some o ∧ RenH [0, 1, 2, 3, 4, 5, 6, 7, 8, 9, 10, 11, 12] h (eH b a 0 c1 c2 c3 c4 c5 c6 c7 bl ks)
theorem doL {b : Bk} {a : ByteArray} {o : Int × Out} {h : Heap} {c : Nat} {e c1 c2 c3 c4 c5 c6 c7 : Int} {bl : List (ByteArray × Bl)} {ks : List (Int × Bool)} (he : ((f19_end b a e c1 c2 c3 c4 c5 c6 c7 bl ks).bind fun r => some (e, r)) = some o)
 (hR : RenH [0, 1, 2, 3, 4, 5, 6, 7, 8, 9, 10, 11, 12] h (eH b a 0 c1 c2 c3 c4 c5 c6 c7 bl ks) := by repeat first | exact trivial | refine ⟨⟨_, _, rfl, rfl, by first | exact .inr ⟨_, _, _, _, rfl, rfl⟩ | exact .inl ⟨rfl, trivial⟩ | exact .inl ⟨rfl, rowC_scal encS_ok _⟩ | exact .inl ⟨rfl, rowC_scal encSt_ok _⟩⟩, ?_⟩) : DoQ b a o (ii e) h c := ⟨e, c1, c2, c3, c4, c5, c6, c7, bl, ks, rfl, he, hR⟩
abbrev aPc15 (b : Bk) := ((b.keys.length : Nat) : Int)
def f19_do (m : Nat) (b : Bk) (a : ByteArray) : Deed → Option (Int × Out)
 | .nop => none
 | .undo => none
 | .shut =>
  cond ((aPc15 b) == 0) (
   (f19_end b a 20 b.came b.taken b.chest b.bond b.spoilt b.out b.year b.bales b.keys).bind fun r2 =>
    some (20, r2)
  ) (
   (f19_end b a 0 b.came b.taken b.chest b.bond b.spoilt b.out b.year b.bales ([] : List (Int × Bool))).bind fun r3 =>
    some (0, r3)
  )
 | .closed =>
  cond (decide ((aPc15 b) > 0)) (
   (f19_end b a 21 b.came b.taken b.chest b.bond b.spoilt b.out (w64 (b.year + 1)) b.bales b.keys).bind fun r4 =>
    some (21, r4)
  ) (
   (f19_end b a 0 b.came b.taken b.chest b.bond b.spoilt b.out (w64 (b.year + 1)) b.bales b.keys).bind fun r5 =>
    some (0, r5)
  )
 | .arrive d6 d7 d8 =>
  cond (decide (d7 < 1)) (
   (f19_end b a 1 b.came b.taken b.chest b.bond b.spoilt b.out b.year b.bales b.keys).bind fun r9 =>
    some (1, r9)
  ) (
   cond (decide (d7 > 999)) (
    (f19_end b a 1 b.came b.taken b.chest b.bond b.spoilt b.out b.year b.bales b.keys).bind fun r10 =>
     some (1, r10)
   ) (
    cond (hasS b.bales d6) (
     (f19_end b a 6 b.came b.taken b.chest b.bond b.spoilt b.out b.year b.bales b.keys).bind fun r11 =>
      some (6, r11)
    ) (
     (freeV m b.bays (List.map (fun p => p.2.2.1) b.bales) d8).bind fun r12 =>
      cond (r12.2 == 0) (
       (f19_end b a r12.2 (w64 (b.came + d7)) b.taken b.chest b.bond b.spoilt b.out b.year (putS b.bales d6 (d6, r12.1, d7)) b.keys).bind fun r13 =>
        some (r12.2, r13)
      ) (
       (f19_end b a r12.2 b.came b.taken b.chest b.bond b.spoilt b.out b.year b.bales b.keys).bind fun r14 =>
        some (r12.2, r14)
      )
    )
   )
  )
 | .move d15 d16 =>
  cond (!(hasS b.bales d15)) (
   (f19_end b a 8 b.came b.taken b.chest b.bond b.spoilt b.out b.year b.bales b.keys).bind fun r17 =>
    some (8, r17)
  ) (
   (freeV m b.bays (List.map (fun p => p.2.2.1) (delS b.bales d15)) d16).bind fun r18 =>
    (f19_end b a r18.2 b.came b.taken b.chest b.bond b.spoilt b.out b.year (putS (delS b.bales d15) d15 ((getS ((bs []), 0, 0) b.bales d15).1, r18.1, (getS ((bs []), 0, 0) b.bales d15).2.2)) b.keys).bind fun r19 =>
     some (r18.2, r19)
  )
 | .take d20 d21 =>
  cond (!(hasS b.bales d20)) (
   (f19_end b a 8 b.came b.taken b.chest b.bond b.spoilt b.out b.year b.bales b.keys).bind fun r22 =>
    some (8, r22)
  ) (
   cond (decide (d21 < 1)) (
    (f19_end b a 1 b.came b.taken b.chest b.bond b.spoilt b.out b.year b.bales b.keys).bind fun r23 =>
     some (1, r23)
   ) (
    cond (decide (d21 > 999)) (
     (f19_end b a 1 b.came b.taken b.chest b.bond b.spoilt b.out b.year b.bales b.keys).bind fun r24 =>
      some (1, r24)
    ) (
     cond (decide (d21 > ((getS ((bs []), 0, 0) b.bales d20).2.2))) (
      (f19_end b a 15 b.came b.taken b.chest b.bond b.spoilt b.out b.year b.bales b.keys).bind fun r25 =>
       some (15, r25)
     ) (
      cond ((w64 (((getS ((bs []), 0, 0) b.bales d20).2.2) - d21)) == 0) (
       (f19_end b a 0 b.came (w64 (b.taken + d21)) b.chest b.bond b.spoilt b.out b.year (delS (putS b.bales d20 ((getS ((bs []), 0, 0) b.bales d20).1, (getS ((bs []), 0, 0) b.bales d20).2.1, w64 (((getS ((bs []), 0, 0) b.bales d20).2.2) - d21))) d20) b.keys).bind fun r26 =>
        some (0, r26)
      ) (
       (f19_end b a 0 b.came (w64 (b.taken + d21)) b.chest b.bond b.spoilt b.out b.year (putS b.bales d20 ((getS ((bs []), 0, 0) b.bales d20).1, (getS ((bs []), 0, 0) b.bales d20).2.1, w64 (((getS ((bs []), 0, 0) b.bales d20).2.2) - d21))) b.keys).bind fun r27 =>
        some (0, r27)
      )
     )
    )
   )
  )
 | .count d28 d29 d30 =>
  cond (!(hasS b.bales d28)) (
   (f19_end b a 8 b.came b.taken b.chest b.bond b.spoilt b.out b.year b.bales b.keys).bind fun r31 =>
    some (8, r31)
  ) (
   cond (((getS ((bs []), 0, 0) b.bales d28).2.2) != d30) (
    (f19_end b a 17 b.came b.taken b.chest b.bond b.spoilt b.out b.year b.bales b.keys).bind fun r32 =>
     some (17, r32)
   ) (
    (f19_end b a 0 b.came b.taken b.chest b.bond b.spoilt b.out b.year b.bales b.keys).bind fun r33 =>
     some (0, r33)
   )
  )
 | .supply d34 =>
  cond (d34 == 0) (
   (f19_end b a 1 b.came b.taken b.chest b.bond b.spoilt b.out b.year b.bales b.keys).bind fun r35 =>
    some (1, r35)
  ) (
   (f19_end b a 0 b.came b.taken (w64 (b.chest + d34)) b.bond b.spoilt b.out b.year b.bales b.keys).bind fun r36 =>
    some (0, r36)
  )
 | .band d37 =>
  cond (d37 == 0) (
   (f19_end b a 1 b.came b.taken (w64 (b.chest - d37)) (w64 (b.bond + d37)) b.spoilt b.out b.year b.bales b.keys).bind fun r38 =>
    some (1, r38)
  ) (
   cond (decide ((w64 (b.chest - d37)) < 0)) (
    (f19_end b a 15 b.came b.taken (w64 (b.chest - d37)) (w64 (b.bond + d37)) b.spoilt b.out b.year b.bales b.keys).bind fun r39 =>
     some (15, r39)
   ) (
    (f19_end b a 0 b.came b.taken (w64 (b.chest - d37)) (w64 (b.bond + d37)) b.spoilt b.out b.year b.bales b.keys).bind fun r40 =>
     some (0, r40)
   )
  )
 | .spoil d41 =>
  cond (d41 == 0) (
   (f19_end b a 1 b.came b.taken (w64 (b.chest - d41)) b.bond (w64 (b.spoilt + d41)) b.out b.year b.bales b.keys).bind fun r42 =>
    some (1, r42)
  ) (
   cond (decide ((w64 (b.chest - d41)) < 0)) (
    (f19_end b a 15 b.came b.taken (w64 (b.chest - d41)) b.bond (w64 (b.spoilt + d41)) b.out b.year b.bales b.keys).bind fun r43 =>
     some (15, r43)
   ) (
    (f19_end b a 0 b.came b.taken (w64 (b.chest - d41)) b.bond (w64 (b.spoilt + d41)) b.out b.year b.bales b.keys).bind fun r44 =>
     some (0, r44)
   )
  )
 | .turn d45 =>
  cond (decide (d45 ≥ 3)) (
   (f19_end b a 2 b.came b.taken b.chest b.bond b.spoilt b.out b.year b.bales b.keys).bind fun r46 =>
    some (2, r46)
  ) (
   cond (getM false b.keys d45) (
    (f19_end b a 6 b.came b.taken b.chest b.bond b.spoilt b.out b.year b.bales b.keys).bind fun r47 =>
     some (6, r47)
   ) (
    (f19_end b a 0 b.came b.taken b.chest b.bond b.spoilt b.out b.year b.bales (putM b.keys d45 true)).bind fun r48 =>
     some (0, r48)
   )
  )
 | .leave d49 =>
  cond (decide (d49 > 0)) (
   cond (decide ((aPc15 b) < 2)) (
    (f19_end b a 20 b.came b.taken b.chest b.bond b.spoilt b.out b.year b.bales b.keys).bind fun r50 =>
     some (20, r50)
   ) (
    cond (d49 == 0) (
     (f19_end b a 1 b.came b.taken b.chest (w64 (b.bond - d49)) b.spoilt (w64 (b.out + d49)) b.year b.bales b.keys).bind fun r51 =>
      some (1, r51)
    ) (
     cond (decide ((w64 (b.bond - d49)) < 0)) (
      (f19_end b a 15 b.came b.taken b.chest (w64 (b.bond - d49)) b.spoilt (w64 (b.out + d49)) b.year b.bales b.keys).bind fun r52 =>
       some (15, r52)
     ) (
      (f19_end b a 0 b.came b.taken b.chest (w64 (b.bond - d49)) b.spoilt (w64 (b.out + d49)) b.year b.bales b.keys).bind fun r53 =>
       some (0, r53)
     )
    )
   )
  ) (
   cond (d49 == 0) (
    (f19_end b a 1 b.came b.taken b.chest (w64 (b.bond - d49)) b.spoilt (w64 (b.out + d49)) b.year b.bales b.keys).bind fun r54 =>
     some (1, r54)
   ) (
    cond (decide ((w64 (b.bond - d49)) < 0)) (
     (f19_end b a 15 b.came b.taken b.chest (w64 (b.bond - d49)) b.spoilt (w64 (b.out + d49)) b.year b.bales b.keys).bind fun r55 =>
      some (15, r55)
    ) (
     (f19_end b a 0 b.came b.taken b.chest (w64 (b.bond - d49)) b.spoilt (w64 (b.out + d49)) b.year b.bales b.keys).bind fun r56 =>
      some (0, r56)
    )
   )
  )
theorem f19_shut (m : Nat) (b : Bk) (a : ByteArray) (o : Int × Out) (h : f19_do m b a (.shut) = some o) : KC E0 234 [.agg #[], pp 0 0] (kH b a) 13 (DoQ b a o) := by
 unfold f19_do at h
 refine kN Proofs.Tryz.f234 f19_C234 15 [.tmp 4] ?_
 refine qG 2 [(1, pp 0 0)] (fun h => (13, .cells [] 0 150 0) :: h) 14 id ?_
 refine sQ ?_
 refine qQ ?_
 refine rS 4 [(1, pp 0 0), (8, .map (some 2))] ?_
 refine rR (ii (aPc15 b)) (v_mlen (x := (src 15 (.tmp 8))) (d := (some (path 12 9))) (b := 2) (es := imC Value.bool b.keys) (n := b.keys.length) (by kernel_rfl) (by kernel_rfl) (by kernel_rfl) (imC_len _ _)) [(1, pp 0 0), (9, ii (aPc15 b))] ?_
 refine rE 1 [(1, pp 0 0), (10, .bool ((aPc15 b) == 0))] id ?_
 cases b3 : ((aPc15 b) == 0 : Bool)
 case true =>
  have h := cT b3 h
  refine iT 10 ?_
  refine qE 1 [(4, ii 20)] id ?_
  exact tV (ii 20) id (doL h)
 have h := cF b3 h
 refine iK 10 id ?_
 refine qQ ?_
 refine rD 5 [] (fun h => hset h 2 (.imap (imC Value.bool []))) 14 ?_
 refine nQ id ?_
 refine rE 1 [(4, ii 0)] id ?_
 exact tV (ii 0) id (doL h)
theorem f19_closed (m : Nat) (b : Bk) (a : ByteArray) (o : Int × Out) (h : f19_do m b a (.closed) = some o) : KC E0 235 [.agg #[], pp 0 0] (kH b a) 13 (DoQ b a o) := by
 unfold f19_do at h
 refine kN Proofs.Tryz.f235 f19_C235 18 [.tmp 4] ?_
 refine qG 2 [(1, pp 0 0)] (fun h => (13, .cells [] 0 151 0) :: h) 14 id ?_
 refine sQ ?_
 refine qQ ?_
 refine rD 8 [(1, pp 0 0)] (fun h => hset h 0 (.cells [ii b.bays, .map (some 1), ii b.came, ii b.taken, ii b.chest, ii b.bond, ii b.spoilt, ii b.out, .map (some 2), ii (w64 (b.year + 1)), s0 3 b.before.length, s0 4 b.lines.length] 0 53 0)) 14 ?_
 refine nQ id ?_
 refine rS 4 [(15, .map (some 2))] ?_
 refine rR (ii (aPc15 b)) (v_mlen (x := (src 18 (.tmp 15))) (d := (some (path 12 16))) (b := 2) (es := imC Value.bool b.keys) (n := b.keys.length) (by kernel_rfl) (by kernel_rfl) (by kernel_rfl) (imC_len _ _)) [(16, ii (aPc15 b))] ?_
 refine rE 1 [(17, .bool (decide ((aPc15 b) > 0)))] id ?_
 cases b8 : (decide ((aPc15 b) > 0) : Bool)
 case true =>
  have h := cT b8 h
  refine iT 17 ?_
  refine qE 1 [(4, ii 21)] id ?_
  exact tV (ii 21) id (doL h)
 have h := cF b8 h
 refine iK 17 id ?_
 refine qE 1 [(4, ii 0)] id ?_
 exact tV (ii 0) id (doL h)
abbrev aPc5 (b : Bk) : List Value := [ii b.bays, .map (some 1), ii b.came, ii b.taken, ii b.chest, ii b.bond, ii b.spoilt, ii b.out, .map (some 2), ii b.year, s0 3 b.before.length, s0 4 b.lines.length]
abbrev aPc6 (b : Bk) (d6 : ByteArray) := (getS ((bs []), 0, 0) b.bales d6)
abbrev aPc11 : Nat × XObj := (14, .cells [.string (bs []), ii 0, ii 0] 0 74 0)
abbrev aPc12 (b : Bk) : Nat × XObj := (2, .imap (imC Value.bool b.keys))
abbrev aPc17 : Nat × XObj := (5, .cells [pp 0 0] 0 25 0)
abbrev aPc19 (a : ByteArray) : Nat × XObj := (6, .cells [.string a] 0 9 0)
abbrev aPc20 : Nat × XObj := (7, .cells [ii 0] 0 26 0)
abbrev aPc21 : List (Nat × Value) := [(1, pp 0 0), (2, pp 13 0)]
abbrev aPc22 (b : Bk) : Nat × XObj := (1, .imap (imS blV b.bales))
abbrev aPc28 : Nat × XObj := (7, .cells [ii 0] 2 26 0)
abbrev aPc29 (b : Bk) (d6 : ByteArray) : Nat × Value := (17, .agg #[.string ((aPc6 b d6).1), ii ((aPc6 b d6).2.1), ii ((aPc6 b d6).2.2)])
theorem f19_arrive (m : Nat) (b : Bk) (a : ByteArray) (d6 : ByteArray) (d7 : Int) (d8 : Int) (o : Int × Out) (h : f19_do m b a (.arrive d6 d7 d8) = some o) : KC E0 243 [.agg #[.string d6, ii d7, ii d8], pp 0 0] (kH b a) 13 (DoQ b a o) := by
 unfold f19_do at h
 refine kN Proofs.Tryz.f243 f19_C243 61 [.tmp 4] ?_
 refine qG 2 aPc21 (fun h => (13, .cells [.string d6, ii d7, ii d8] 0 186 0) :: h) 14 id ?_
 refine sQ ?_
 refine XQ.postC (σ' := [(1, pp 0 0), (2, pp 13 0), (6, .bool (hasS b.bales d6))]) (h' := ((14, .cells [.string ((aPc6 b d6).1), ii ((aPc6 b d6).2.1), ii ((aPc6 b d6).2.2)] 0 74 0) :: (13, .cells [.string d6, ii d7, ii d8] 0 186 0) :: qPc1 b :: qPc4 b :: (aPc9 b) :: qPc2 b :: qPc0 b :: aPc20 :: (aPc19 a) :: aPc17 :: bookH b)) (c' := 15) ?_ ?_
 ·show XQ _ _ _ _ _ _ _ _
  refine sQ ?_
  refine XQ.block (id := 0) (by kernel_rfl) ?_
  refine qQ ?_
  refine rS 4 [(1, pp 0 0), (2, pp 13 0), (6, .bool (hasS b.bales d6)), (23, .bool (decide (d7 < 1)))] ?_
  cases b14 : (decide (d7 < 1) : Bool)
  case true =>
   have h := cT b14 h
   refine rE 5 [(1, pp 0 0), (2, pp 13 0), (6, .bool (hasS b.bales d6)), (19, .bool true)] id ?_
   refine iT 19 ?_
   refine qE 1 [(4, ii 1)] id ?_
   exact tV (ii 1) id (doL h)
  have h := cF b14 h
  refine rE 5 [(1, pp 0 0), (2, pp 13 0), (6, .bool (hasS b.bales d6)), (19, .bool (decide (d7 > 999)))] id ?_
  cases b15 : (decide (d7 > 999) : Bool)
  case true =>
   have h := cT b15 h
   refine iT 19 ?_
   refine qE 1 [(4, ii 1)] id ?_
   exact tV (ii 1) id (doL h)
  have h := cF b15 h
  refine iF 19 ?_
  refine qE 2 [(1, pp 0 0), (2, pp 13 0), (28, .bool (hasS b.bales d6))] id ?_
  cases b16 : (hasS b.bales d6 : Bool)
  case true =>
   have h := cT b16 h
   refine iT 28 ?_
   refine qE 1 [(4, ii 6)] id ?_
   exact tV (ii 6) id (doL h)
  have h := cF b16 h
  refine iK 28 id ?_
  refine qQ ?_
  refine rS 3 [(1, pp 0 0), (2, pp 13 0), (31, pp 0 0), (33, ii d8)] ?_
  obtain ⟨r12, r12_h, h⟩ := bS h
  refine cA [1, 2, 34] 34 [pp 0 0, ii d8] (free_c (i := 0) (j := 1) (M := b.bales) (fz := 0) (e := 53) (cs := (aPc5 b)) r12_h (by kernel_rfl) rfl rfl (by kernel_rfl)) ?_
  refine rE 5 [(1, pp 0 0), (2, pp 13 0), (7, ii r12.1), (8, ii r12.2)] id ?_
  refine sQ ?_
  refine qE 2 [(1, pp 0 0), (2, pp 13 0), (7, ii r12.1), (8, ii r12.2), (38, .bool (r12.2 == 0))] id ?_
  cases b17 : (r12.2 == 0 : Bool)
  case false =>
   have h := cF b17 h
   refine iK 38 id ?_
   refine qE 2 [(4, ii r12.2)] id ?_
   exact tV (ii r12.2) id (doL h)
  have h := cT b17 h
  refine iT 38 ?_
  refine sQ ?_
  refine XQ.tail E0_ok 12 (by kernel_rfl) (by kernel_rfl) ?_
  refine XS.step E0_ok 12 rfl [1, 2, 8, 42, 44, 50] rfl (σ' := [(1, pp 0 0), (2, pp 13 0), (8, ii r12.2), (42, .map (some 1)), (44, .string d6), (50, .agg #[.string d6, ii r12.1, ii d7])]) (by kernel_rfl) ?_
  refine XS.done (by kernel_rfl) ?_
  refine eR (e_mputS blV (m := (src 61 (.tmp 42))) (i := (src 61 (.tmp 44))) (x := (src 61 (.tmp 50))) (d := none) (b := 1) (k := d6) (l := b.bales) (a := (d6, r12.1, d7)) (h' := [(14, .cells [.string ((aPc6 b d6).1), ii ((aPc6 b d6).2.1), ii ((aPc6 b d6).2.2)] 0 74 0), (13, .cells [.string d6, ii d7, ii d8] 0 186 0), qPc1 b, qPc4 b, (aPc9 b), qPc2 b, qPc0 b, aPc20, (aPc19 a), aPc17, (aPc14 b), (aPc13 b), (aPc12 b), (1, .imap (imS blV (putS b.bales d6 (d6, r12.1, d7)))), (0, .cells (aPc5 b) 0 53 0)]) (by kernel_rfl) (by kernel_rfl) (by kernel_rfl) (by kernel_rfl) (by kernel_rfl) rfl rfl) [(1, pp 0 0), (2, pp 13 0), (8, ii r12.2)] ?_
  refine eQ id ?_
  refine XQ.tail E0_ok 9 (by kernel_rfl) (by kernel_rfl) ?_
  refine XS.step E0_ok 9 rfl [8, 57, 59] rfl (σ' := [(8, ii r12.2), (57, ii (w64 (b.came + d7))), (59, pp 0 2)]) (by kernel_rfl) ?_
  refine XS.done (by kernel_rfl) ?_
  refine rD 1 [(8, ii r12.2)] (fun h => hset h 0 (.cells [ii b.bays, .map (some 1), ii (w64 (b.came + d7)), ii b.taken, ii b.chest, ii b.bond, ii b.spoilt, ii b.out, .map (some 2), ii b.year, s0 3 b.before.length, s0 4 b.lines.length] 0 53 0)) 15 ?_
  refine nQ id ?_
  refine rE 2 [(4, ii r12.2)] id ?_
  exact tV (ii r12.2) id (doL h)
 ·refine hQ 11 [12] 11 [0, 5, 6, 7, 8, 9, 12, 13] [(13, .cells [.string d6, ii d7, ii d8] 4 186 0), qPc5 b, qPc4 b, (aPc9 b), qPc6 b, qPc7 b, aPc28, (aPc18 a), aPc16, (aPc14 b), (aPc13 b), (aPc12 b), (aPc22 b), qPc3 b] ?_
  refine hH [0, 1, 2, 3, 4, 5] 5 [(1, pp 0 0), (2, pp 13 0), (13, .map (some 1)), (15, .string d6)] ?_
  refine uH [6, 10] ⟨?_, ?_, trivial⟩
  ·refine rR (.tuple #[.agg #[.string ((aPc6 b d6).1), ii ((aPc6 b d6).2.1), ii ((aPc6 b d6).2.2)], .bool (hasS b.bales d6)]) (v_mgetSo blV (x := (src 61 (.tmp 13))) (i := (src 61 (.tmp 15))) (z := .agg #[.string (bs []), .int .i64 0, .int .i64 0]) (d := (some (path 12 16))) (b := 1) (k := d6) (l := b.bales) (d0 := ((bs []), 0, 0)) (by kernel_rfl) (by kernel_rfl) (by kernel_rfl) (by kernel_rfl) rfl rfl rfl) [(1, pp 0 0), (2, pp 13 0), (16, .tuple #[.agg #[.string ((aPc6 b d6).1), ii ((aPc6 b d6).2.1), ii ((aPc6 b d6).2.2)], .bool (hasS b.bales d6)])] ?_
   refine zH ?_
   refine hH [7, 8, 9] 1 [(1, pp 0 0), (2, pp 13 0), (aPc29 b d6), (18, .bool (hasS b.bales d6))] ?_
   refine uH [10] ⟨?_, trivial⟩
   ·refine rD 1 [(1, pp 0 0), (2, pp 13 0), (5, pp 14 0), (aPc29 b d6), (18, .bool (hasS b.bales d6))] (fun h => aPc11 :: h) 15 ?_
    refine zH ?_
    refine fH ?_
    refine rD 2 [(1, pp 0 0), (2, pp 13 0), (6, .bool (hasS b.bales d6))] (fun h => hset h 14 (.cells [.string ((aPc6 b d6).1), ii ((aPc6 b d6).2.1), ii ((aPc6 b d6).2.2)] 0 74 0)) 15 ?_
    refine dQ ?_
    exact ⟨rfl, rfl⟩
  ·refine rD 1 [(1, pp 0 0), (2, pp 13 0), (5, pp 14 0), (13, .map (some 1)), (15, .string d6)] (fun h => aPc11 :: h) 15 ?_
   refine zH ?_
   refine uH [6] ⟨?_, trivial⟩
   ·refine rR (.tuple #[.agg #[.string ((aPc6 b d6).1), ii ((aPc6 b d6).2.1), ii ((aPc6 b d6).2.2)], .bool (hasS b.bales d6)]) (v_mgetSo blV (x := (src 61 (.tmp 13))) (i := (src 61 (.tmp 15))) (z := .agg #[.string (bs []), .int .i64 0, .int .i64 0]) (d := (some (path 12 16))) (b := 1) (k := d6) (l := b.bales) (d0 := ((bs []), 0, 0)) (by kernel_rfl) (by kernel_rfl) (by kernel_rfl) (by kernel_rfl) rfl rfl rfl) [(1, pp 0 0), (2, pp 13 0), (5, pp 14 0), (16, .tuple #[.agg #[.string ((aPc6 b d6).1), ii ((aPc6 b d6).2.1), ii ((aPc6 b d6).2.2)], .bool (hasS b.bales d6)])] ?_
    refine zH ?_
    refine hH [7, 8, 9] 0 [(1, pp 0 0), (2, pp 13 0), (5, pp 14 0), (aPc29 b d6), (18, .bool (hasS b.bales d6))] ?_
    refine fH ?_
    refine rD 2 [(1, pp 0 0), (2, pp 13 0), (6, .bool (hasS b.bales d6))] (fun h => hset h 14 (.cells [.string ((aPc6 b d6).1), ii ((aPc6 b d6).2.1), ii ((aPc6 b d6).2.2)] 0 74 0)) 15 ?_
    refine dQ ?_
    exact ⟨rfl, rfl⟩
abbrev aPc3 (b : Bk) (d15 : ByteArray) := (getS ((bs []), 0, 0) b.bales d15)
abbrev aPc25 (b : Bk) (d15 : ByteArray) : Nat × Value := (17, .agg #[.string ((aPc3 b d15).1), ii ((aPc3 b d15).2.1), ii ((aPc3 b d15).2.2)])
abbrev aPc30 : List (Nat × Value) := [(1, pp 0 0), (2, pp 13 0), (5, pp 14 0)]
abbrev aPc33 (b : Bk) (d15 : ByteArray) : List (Nat × Value) := [(1, pp 0 0), (2, pp 13 0), (5, pp 14 0), (6, .bool (hasS b.bales d15))]
theorem f19_move (m : Nat) (b : Bk) (a : ByteArray) (d15 : ByteArray) (d16 : Int) (o : Int × Out) (h : f19_do m b a (.move d15 d16) = some o) : KC E0 247 [.agg #[.string d15, ii d16], pp 0 0] (kH b a) 13 (DoQ b a o) := by
 unfold f19_do at h
 refine kN Proofs.Tryz.f247 f19_C247 44 [.tmp 4] ?_
 refine qG 2 aPc21 (fun h => (13, .cells [.string d15, ii d16] 0 188 0) :: h) 14 id ?_
 refine sQ ?_
 refine XQ.postC (σ' := (aPc33 b d15)) (h' := ((14, .cells [.string ((aPc3 b d15).1), ii ((aPc3 b d15).2.1), ii ((aPc3 b d15).2.2)] 0 74 0) :: (13, .cells [.string d15, ii d16] 0 188 0) :: qPc1 b :: qPc4 b :: (aPc9 b) :: qPc2 b :: qPc0 b :: aPc20 :: (aPc19 a) :: aPc17 :: bookH b)) (c' := 15) ?_ ?_
 ·show XQ _ _ _ _ _ _ _ _
  refine sQ ?_
  refine qE 2 [(1, pp 0 0), (2, pp 13 0), (5, pp 14 0), (20, .bool (!(hasS b.bales d15)))] id ?_
  cases b19 : (!(hasS b.bales d15) : Bool)
  case true =>
   have h := cT b19 h
   refine iT 20 ?_
   refine qE 1 [(4, ii 8)] id ?_
   exact tV (ii 8) id (doL h)
  have h := cF b19 h
  refine iK 20 id ?_
  refine sQ ?_
  refine XQ.tail E0_ok 6 (by kernel_rfl) (by kernel_rfl) ?_
  refine XS.step E0_ok 6 rfl [1, 2, 5, 24, 26] rfl (σ' := [(1, pp 0 0), (2, pp 13 0), (5, pp 14 0), (24, .map (some 1)), (26, .string d15)]) (by kernel_rfl) ?_
  refine XS.done (by kernel_rfl) ?_
  refine eR (e_mdelS blV (m := (src 44 (.tmp 24))) (i := (src 44 (.tmp 26))) (d := none) (b := 1) (k := d15) (l := b.bales) (h' := [(14, .cells [.string ((aPc3 b d15).1), ii ((aPc3 b d15).2.1), ii ((aPc3 b d15).2.2)] 0 74 0), (13, .cells [.string d15, ii d16] 0 188 0), qPc1 b, qPc4 b, (aPc9 b), qPc2 b, qPc0 b, aPc20, (aPc19 a), aPc17, (aPc14 b), (aPc13 b), (aPc12 b), (1, .imap (imS blV (delS b.bales d15))), (0, .cells (aPc5 b) 0 53 0)]) (by kernel_rfl) (by kernel_rfl) (by kernel_rfl) rfl rfl) aPc30 ?_
  refine nQ id ?_
  refine rS 3 [(1, pp 0 0), (2, pp 13 0), (5, pp 14 0), (28, pp 0 0), (30, ii d16)] ?_
  obtain ⟨r18, r18_h, h⟩ := bS h
  refine cA [1, 2, 5, 31] 31 [pp 0 0, ii d16] (free_c (i := 0) (j := 1) (M := delS b.bales d15) (fz := 0) (e := 53) (cs := (aPc5 b)) r18_h (by kernel_rfl) rfl rfl (by kernel_rfl)) ?_
  refine rS 5 [(1, pp 0 0), (2, pp 13 0), (5, pp 14 0), (7, ii r18.1), (8, ii r18.2)] ?_
  refine nQ id ?_
  refine rG 3 [(1, pp 0 0), (2, pp 13 0), (5, pp 14 0), (8, ii r18.2)] (fun h => hset h 14 (.cells [.string ((aPc3 b d15).1), ii r18.1, ii ((aPc3 b d15).2.2)] 0 74 0)) 15 id ?_
  refine sQ ?_
  refine XQ.tail E0_ok 7 (by kernel_rfl) (by kernel_rfl) ?_
  refine XS.step E0_ok 7 rfl [8, 39, 41, 42] rfl (σ' := [(8, ii r18.2), (39, .map (some 1)), (41, .string d15), (42, .agg #[.string ((aPc3 b d15).1), ii r18.1, ii ((aPc3 b d15).2.2)])]) (by kernel_rfl) ?_
  refine XS.done (by kernel_rfl) ?_
  refine eR (e_mputS blV (m := (src 44 (.tmp 39))) (i := (src 44 (.tmp 41))) (x := (src 44 (.tmp 42))) (d := none) (b := 1) (k := d15) (l := delS b.bales d15) (a := ((aPc3 b d15).1, r18.1, (aPc3 b d15).2.2)) (h' := [(14, .cells [.string ((aPc3 b d15).1), ii r18.1, ii ((aPc3 b d15).2.2)] 0 74 0), (13, .cells [.string d15, ii d16] 0 188 0), qPc1 b, qPc4 b, (aPc9 b), qPc2 b, qPc0 b, aPc20, (aPc19 a), aPc17, (aPc14 b), (aPc13 b), (aPc12 b), (1, .imap (imS blV (putS (delS b.bales d15) d15 ((aPc3 b d15).1, r18.1, (aPc3 b d15).2.2)))), (0, .cells (aPc5 b) 0 53 0)]) (by kernel_rfl) (by kernel_rfl) (by kernel_rfl) (by kernel_rfl) (by kernel_rfl) rfl rfl) [(8, ii r18.2)] ?_
  refine nQ id ?_
  refine rE 2 [(4, ii r18.2)] id ?_
  exact tV (ii r18.2) id (doL h)
 ·refine hQ 11 [12] 11 [0, 5, 6, 7, 8, 9, 12, 13] [(13, .cells [.string d15, ii d16] 3 188 0), qPc5 b, qPc4 b, (aPc9 b), qPc6 b, qPc7 b, aPc28, (aPc18 a), aPc16, (aPc14 b), (aPc13 b), (aPc12 b), (aPc22 b), qPc3 b] ?_
  refine hH [0, 1, 2, 3, 4, 5] 5 [(1, pp 0 0), (2, pp 13 0), (13, .map (some 1)), (15, .string d15)] ?_
  refine uH [6, 10] ⟨?_, ?_, trivial⟩
  ·refine rR (.tuple #[.agg #[.string ((aPc3 b d15).1), ii ((aPc3 b d15).2.1), ii ((aPc3 b d15).2.2)], .bool (hasS b.bales d15)]) (v_mgetSo blV (x := (src 44 (.tmp 13))) (i := (src 44 (.tmp 15))) (z := .agg #[.string (bs []), .int .i64 0, .int .i64 0]) (d := (some (path 12 16))) (b := 1) (k := d15) (l := b.bales) (d0 := ((bs []), 0, 0)) (by kernel_rfl) (by kernel_rfl) (by kernel_rfl) (by kernel_rfl) rfl rfl rfl) [(1, pp 0 0), (2, pp 13 0), (16, .tuple #[.agg #[.string ((aPc3 b d15).1), ii ((aPc3 b d15).2.1), ii ((aPc3 b d15).2.2)], .bool (hasS b.bales d15)])] ?_
   refine zH ?_
   refine hH [7, 8, 9] 1 [(1, pp 0 0), (2, pp 13 0), (aPc25 b d15), (18, .bool (hasS b.bales d15))] ?_
   refine uH [10] ⟨?_, trivial⟩
   ·refine rD 1 [(1, pp 0 0), (2, pp 13 0), (5, pp 14 0), (aPc25 b d15), (18, .bool (hasS b.bales d15))] (fun h => aPc11 :: h) 15 ?_
    refine zH ?_
    refine fH ?_
    refine rD 2 (aPc33 b d15) (fun h => hset h 14 (.cells [.string ((aPc3 b d15).1), ii ((aPc3 b d15).2.1), ii ((aPc3 b d15).2.2)] 0 74 0)) 15 ?_
    refine dQ ?_
    exact ⟨rfl, rfl⟩
  ·refine rD 1 [(1, pp 0 0), (2, pp 13 0), (5, pp 14 0), (13, .map (some 1)), (15, .string d15)] (fun h => aPc11 :: h) 15 ?_
   refine zH ?_
   refine uH [6] ⟨?_, trivial⟩
   ·refine rR (.tuple #[.agg #[.string ((aPc3 b d15).1), ii ((aPc3 b d15).2.1), ii ((aPc3 b d15).2.2)], .bool (hasS b.bales d15)]) (v_mgetSo blV (x := (src 44 (.tmp 13))) (i := (src 44 (.tmp 15))) (z := .agg #[.string (bs []), .int .i64 0, .int .i64 0]) (d := (some (path 12 16))) (b := 1) (k := d15) (l := b.bales) (d0 := ((bs []), 0, 0)) (by kernel_rfl) (by kernel_rfl) (by kernel_rfl) (by kernel_rfl) rfl rfl rfl) [(1, pp 0 0), (2, pp 13 0), (5, pp 14 0), (16, .tuple #[.agg #[.string ((aPc3 b d15).1), ii ((aPc3 b d15).2.1), ii ((aPc3 b d15).2.2)], .bool (hasS b.bales d15)])] ?_
    refine zH ?_
    refine hH [7, 8, 9] 0 [(1, pp 0 0), (2, pp 13 0), (5, pp 14 0), (aPc25 b d15), (18, .bool (hasS b.bales d15))] ?_
    refine fH ?_
    refine rD 2 (aPc33 b d15) (fun h => hset h 14 (.cells [.string ((aPc3 b d15).1), ii ((aPc3 b d15).2.1), ii ((aPc3 b d15).2.2)] 0 74 0)) 15 ?_
    refine dQ ?_
    exact ⟨rfl, rfl⟩
abbrev aPc2 (b : Bk) (d20 : ByteArray) := (getS ((bs []), 0, 0) b.bales d20)
abbrev aPc10 (b : Bk) (d21 : Int) : List Value := [ii b.bays, .map (some 1), ii b.came, ii (w64 (b.taken + d21)), ii b.chest, ii b.bond, ii b.spoilt, ii b.out, .map (some 2), ii b.year, s0 3 b.before.length, s0 4 b.lines.length]
abbrev aPc26 (b : Bk) (d20 : ByteArray) : Nat × Value := (15, .agg #[.string ((aPc2 b d20).1), ii ((aPc2 b d20).2.1), ii ((aPc2 b d20).2.2)])
abbrev aPc31 (b : Bk) (d20 : ByteArray) (d21 : Int) := ((aPc2 b d20).1, (aPc2 b d20).2.1, w64 (((aPc2 b d20).2.2) - d21))
abbrev aPc34 (b : Bk) (d20 : ByteArray) : List (Nat × Value) := [(1, pp 0 0), (2, pp 13 0), (5, pp 14 0), (6, .bool (hasS b.bales d20))]
theorem f19_take (m : Nat) (b : Bk) (a : ByteArray) (d20 : ByteArray) (d21 : Int) (o : Int × Out) (h : f19_do m b a (.take d20 d21) = some o) : KC E0 248 [.agg #[.string d20, ii d21], pp 0 0] (kH b a) 13 (DoQ b a o) := by
 unfold f19_do at h
 refine kN Proofs.Tryz.f248 f19_C248 66 [.tmp 4] ?_
 refine qG 2 aPc21 (fun h => (13, .cells [.string d20, ii d21] 0 190 0) :: h) 14 id ?_
 refine sQ ?_
 refine XQ.postC (σ' := (aPc34 b d20)) (h' := ((14, .cells [.string ((aPc2 b d20).1), ii ((aPc2 b d20).2.1), ii ((aPc2 b d20).2.2)] 0 74 0) :: (13, .cells [.string d20, ii d21] 0 190 0) :: qPc1 b :: qPc4 b :: (aPc9 b) :: qPc2 b :: qPc0 b :: aPc20 :: (aPc19 a) :: aPc17 :: bookH b)) (c' := 15) ?_ ?_
 ·show XQ _ _ _ _ _ _ _ _
  refine sQ ?_
  refine XQ.block (id := 0) (by kernel_rfl) ?_
  refine qE 3 [(1, pp 0 0), (2, pp 13 0), (5, pp 14 0), (17, .bool (!(hasS b.bales d20)))] id ?_
  cases b21 : (!(hasS b.bales d20) : Bool)
  case true =>
   have h := cT b21 h
   refine iT 17 ?_
   refine qE 1 [(4, ii 8)] id ?_
   exact tV (ii 8) id (doL h)
  have h := cF b21 h
  refine iF 17 ?_
  refine qQ ?_
  refine rS 4 [(1, pp 0 0), (2, pp 13 0), (5, pp 14 0), (24, .bool (decide (d21 < 1)))] ?_
  cases b22 : (decide (d21 < 1) : Bool)
  case true =>
   have h := cT b22 h
   refine rE 5 [(1, pp 0 0), (2, pp 13 0), (5, pp 14 0), (20, .bool true)] id ?_
   refine iT 20 ?_
   refine qE 1 [(4, ii 1)] id ?_
   exact tV (ii 1) id (doL h)
  have h := cF b22 h
  refine rE 5 [(1, pp 0 0), (2, pp 13 0), (5, pp 14 0), (20, .bool (decide (d21 > 999)))] id ?_
  cases b23 : (decide (d21 > 999) : Bool)
  case true =>
   have h := cT b23 h
   refine iT 20 ?_
   refine qE 1 [(4, ii 1)] id ?_
   exact tV (ii 1) id (doL h)
  have h := cF b23 h
  refine iF 20 ?_
  refine qE 6 [(1, pp 0 0), (2, pp 13 0), (5, pp 14 0), (29, .bool (decide (d21 > ((aPc2 b d20).2.2))))] id ?_
  cases b24 : (decide (d21 > ((aPc2 b d20).2.2)) : Bool)
  case true =>
   have h := cT b24 h
   refine iT 29 ?_
   refine qE 1 [(4, ii 15)] id ?_
   exact tV (ii 15) id (doL h)
  have h := cF b24 h
  refine iK 29 id ?_
  refine sQ ?_
  refine XQ.tail E0_ok 9 (by kernel_rfl) (by kernel_rfl) ?_
  refine XS.step E0_ok 9 rfl [1, 2, 5, 41, 43] rfl (σ' := [(1, pp 0 0), (2, pp 13 0), (5, pp 14 0), (41, ii (w64 (b.taken + d21))), (43, pp 0 3)]) (by kernel_rfl) ?_
  refine XS.done (by kernel_rfl) ?_
  refine rD 1 aPc30 (fun h => hset h 0 (.cells (aPc10 b d21) 0 53 0)) 15 ?_
  refine nQ id ?_
  refine rG 7 aPc30 (fun h => hset h 14 (.cells [.string ((aPc2 b d20).1), ii ((aPc2 b d20).2.1), ii (w64 (((aPc2 b d20).2.2) - d21))] 0 74 0)) 15 id ?_
  refine sQ ?_
  refine XQ.tail E0_ok 7 (by kernel_rfl) (by kernel_rfl) ?_
  refine XS.step E0_ok 7 rfl [1, 2, 5, 53, 55, 56] rfl (σ' := [(1, pp 0 0), (2, pp 13 0), (5, pp 14 0), (53, .map (some 1)), (55, .string d20), (56, .agg #[.string ((aPc2 b d20).1), ii ((aPc2 b d20).2.1), ii (w64 (((aPc2 b d20).2.2) - d21))])]) (by kernel_rfl) ?_
  refine XS.done (by kernel_rfl) ?_
  refine eR (e_mputS blV (m := (src 66 (.tmp 53))) (i := (src 66 (.tmp 55))) (x := (src 66 (.tmp 56))) (d := none) (b := 1) (k := d20) (l := b.bales) (a := (aPc31 b d20 d21)) (h' := [(14, .cells [.string ((aPc2 b d20).1), ii ((aPc2 b d20).2.1), ii (w64 (((aPc2 b d20).2.2) - d21))] 0 74 0), (13, .cells [.string d20, ii d21] 0 190 0), qPc1 b, qPc4 b, (aPc9 b), qPc2 b, qPc0 b, aPc20, (aPc19 a), aPc17, (aPc14 b), (aPc13 b), (aPc12 b), (1, .imap (imS blV (putS b.bales d20 (aPc31 b d20 d21)))), (0, .cells (aPc10 b d21) 0 53 0)]) (by kernel_rfl) (by kernel_rfl) (by kernel_rfl) (by kernel_rfl) (by kernel_rfl) rfl rfl) aPc30 ?_
  refine eQ id ?_
  refine sQ ?_
  refine qE 3 [(1, pp 0 0), (2, pp 13 0), (59, .bool ((w64 (((aPc2 b d20).2.2) - d21)) == 0))] id ?_
  cases b25 : ((w64 (((aPc2 b d20).2.2) - d21)) == 0 : Bool)
  case false =>
   have h := cF b25 h
   refine iK 59 id ?_
   refine qE 1 [(4, ii 0)] id ?_
   exact tV (ii 0) id (doL h)
  have h := cT b25 h
  refine iT 59 ?_
  refine XQ.tail E0_ok 6 (by kernel_rfl) (by kernel_rfl) ?_
  refine XS.step E0_ok 6 rfl [63, 65] rfl (σ' := [(63, .map (some 1)), (65, .string d20)]) (by kernel_rfl) ?_
  refine XS.done (by kernel_rfl) ?_
  refine eR (e_mdelS blV (m := (src 66 (.tmp 63))) (i := (src 66 (.tmp 65))) (d := none) (b := 1) (k := d20) (l := putS b.bales d20 (aPc31 b d20 d21)) (h' := [(14, .cells [.string ((aPc2 b d20).1), ii ((aPc2 b d20).2.1), ii (w64 (((aPc2 b d20).2.2) - d21))] 0 74 0), (13, .cells [.string d20, ii d21] 0 190 0), qPc1 b, qPc4 b, (aPc9 b), qPc2 b, qPc0 b, aPc20, (aPc19 a), aPc17, (aPc14 b), (aPc13 b), (aPc12 b), (1, .imap (imS blV (delS (putS b.bales d20 (aPc31 b d20 d21)) d20))), (0, .cells (aPc10 b d21) 0 53 0)]) (by kernel_rfl) (by kernel_rfl) (by kernel_rfl) rfl rfl) [] ?_
  refine nQ id ?_
  refine rE 1 [(4, ii 0)] id ?_
  exact tV (ii 0) id (doL h)
 ·refine hQ 11 [12] 11 [0, 5, 6, 7, 8, 9, 12, 13] [(13, .cells [.string d20, ii d21] 3 190 0), qPc5 b, qPc4 b, (aPc9 b), qPc6 b, qPc7 b, aPc28, (aPc18 a), aPc16, (aPc14 b), (aPc13 b), (aPc12 b), (aPc22 b), qPc3 b] ?_
  refine hH [0, 1, 2, 3, 4, 5] 5 [(1, pp 0 0), (2, pp 13 0), (11, .map (some 1)), (13, .string d20)] ?_
  refine uH [6, 10] ⟨?_, ?_, trivial⟩
  ·refine rR (.tuple #[.agg #[.string ((aPc2 b d20).1), ii ((aPc2 b d20).2.1), ii ((aPc2 b d20).2.2)], .bool (hasS b.bales d20)]) (v_mgetSo blV (x := (src 66 (.tmp 11))) (i := (src 66 (.tmp 13))) (z := .agg #[.string (bs []), .int .i64 0, .int .i64 0]) (d := (some (path 12 14))) (b := 1) (k := d20) (l := b.bales) (d0 := ((bs []), 0, 0)) (by kernel_rfl) (by kernel_rfl) (by kernel_rfl) (by kernel_rfl) rfl rfl rfl) [(1, pp 0 0), (2, pp 13 0), (14, .tuple #[.agg #[.string ((aPc2 b d20).1), ii ((aPc2 b d20).2.1), ii ((aPc2 b d20).2.2)], .bool (hasS b.bales d20)])] ?_
   refine zH ?_
   refine hH [7, 8, 9] 1 [(1, pp 0 0), (2, pp 13 0), (aPc26 b d20), (16, .bool (hasS b.bales d20))] ?_
   refine uH [10] ⟨?_, trivial⟩
   ·refine rD 1 [(1, pp 0 0), (2, pp 13 0), (5, pp 14 0), (aPc26 b d20), (16, .bool (hasS b.bales d20))] (fun h => aPc11 :: h) 15 ?_
    refine zH ?_
    refine fH ?_
    refine rD 2 (aPc34 b d20) (fun h => hset h 14 (.cells [.string ((aPc2 b d20).1), ii ((aPc2 b d20).2.1), ii ((aPc2 b d20).2.2)] 0 74 0)) 15 ?_
    refine dQ ?_
    exact ⟨rfl, rfl⟩
  ·refine rD 1 [(1, pp 0 0), (2, pp 13 0), (5, pp 14 0), (11, .map (some 1)), (13, .string d20)] (fun h => aPc11 :: h) 15 ?_
   refine zH ?_
   refine uH [6] ⟨?_, trivial⟩
   ·refine rR (.tuple #[.agg #[.string ((aPc2 b d20).1), ii ((aPc2 b d20).2.1), ii ((aPc2 b d20).2.2)], .bool (hasS b.bales d20)]) (v_mgetSo blV (x := (src 66 (.tmp 11))) (i := (src 66 (.tmp 13))) (z := .agg #[.string (bs []), .int .i64 0, .int .i64 0]) (d := (some (path 12 14))) (b := 1) (k := d20) (l := b.bales) (d0 := ((bs []), 0, 0)) (by kernel_rfl) (by kernel_rfl) (by kernel_rfl) (by kernel_rfl) rfl rfl rfl) [(1, pp 0 0), (2, pp 13 0), (5, pp 14 0), (14, .tuple #[.agg #[.string ((aPc2 b d20).1), ii ((aPc2 b d20).2.1), ii ((aPc2 b d20).2.2)], .bool (hasS b.bales d20)])] ?_
    refine zH ?_
    refine hH [7, 8, 9] 0 [(1, pp 0 0), (2, pp 13 0), (5, pp 14 0), (aPc26 b d20), (16, .bool (hasS b.bales d20))] ?_
    refine fH ?_
    refine rD 2 (aPc34 b d20) (fun h => hset h 14 (.cells [.string ((aPc2 b d20).1), ii ((aPc2 b d20).2.1), ii ((aPc2 b d20).2.2)] 0 74 0)) 15 ?_
    refine dQ ?_
    exact ⟨rfl, rfl⟩
abbrev aPc7 (b : Bk) (d28 : ByteArray) := (getS ((bs []), 0, 0) b.bales d28)
abbrev aPc27 (b : Bk) (d28 : ByteArray) : Nat × Value := (16, .agg #[.string ((aPc7 b d28).1), ii ((aPc7 b d28).2.1), ii ((aPc7 b d28).2.2)])
theorem f19_count (m : Nat) (b : Bk) (a : ByteArray) (d28 : ByteArray) (d29 : Int) (d30 : Int) (o : Int × Out) (h : f19_do m b a (.count d28 d29 d30) = some o) : KC E0 249 [.agg #[.string d28, ii d29, ii d30], pp 0 0] (kH b a) 13 (DoQ b a o) := by
 unfold f19_do at h
 refine kN Proofs.Tryz.f249 f19_C249 28 [.tmp 4] ?_
 refine qG 2 aPc21 (fun h => (13, .cells [.string d28, ii d29, ii d30] 0 192 0) :: h) 14 id ?_
 refine sQ ?_
 refine XQ.postC (σ' := [(2, pp 13 0), (5, pp 14 0), (6, .bool (hasS b.bales d28))]) (h' := ((14, .cells [.string ((aPc7 b d28).1), ii ((aPc7 b d28).2.1), ii ((aPc7 b d28).2.2)] 0 74 0) :: (13, .cells [.string d28, ii d29, ii d30] 0 192 0) :: qPc1 b :: qPc4 b :: (aPc9 b) :: qPc2 b :: qPc0 b :: aPc20 :: (aPc19 a) :: aPc17 :: bookH b)) (c' := 15) ?_ ?_
 ·show XQ _ _ _ _ _ _ _ _
  refine sQ ?_
  refine XQ.block (id := 0) (by kernel_rfl) ?_
  refine qE 3 [(2, pp 13 0), (5, pp 14 0), (18, .bool (!(hasS b.bales d28)))] id ?_
  cases b27 : (!(hasS b.bales d28) : Bool)
  case true =>
   have h := cT b27 h
   refine iT 18 ?_
   refine qE 1 [(4, ii 8)] id ?_
   exact tV (ii 8) id (doL h)
  have h := cF b27 h
  refine iF 18 ?_
  refine qE 7 [(21, .bool (((aPc7 b d28).2.2) != d30))] id ?_
  cases b28 : (((aPc7 b d28).2.2) != d30 : Bool)
  case true =>
   have h := cT b28 h
   refine iT 21 ?_
   refine qE 1 [(4, ii 17)] id ?_
   exact tV (ii 17) id (doL h)
  have h := cF b28 h
  refine iK 21 id ?_
  refine qE 1 [(4, ii 0)] id ?_
  exact tV (ii 0) id (doL h)
 ·refine hQ 12 [13] 12 [0, 5, 6, 7, 8, 9, 12, 13] [(13, .cells [.string d28, ii d29, ii d30] 4 192 0), qPc5 b, qPc4 b, (aPc9 b), qPc6 b, qPc7 b, aPc28, (aPc18 a), aPc16, (aPc14 b), (aPc13 b), (aPc12 b), (aPc22 b), qPc3 b] ?_
  refine hH [0, 1, 2, 3, 4, 5, 6] 5 [(2, pp 13 0), (11, .map (some 1)), (14, .string d28)] ?_
  refine uH [7, 11] ⟨?_, ?_, trivial⟩
  ·refine rR (.tuple #[.agg #[.string ((aPc7 b d28).1), ii ((aPc7 b d28).2.1), ii ((aPc7 b d28).2.2)], .bool (hasS b.bales d28)]) (v_mgetSo blV (x := (src 28 (.tmp 11))) (i := (src 28 (.tmp 14))) (z := .agg #[.string (bs []), .int .i64 0, .int .i64 0]) (d := (some (path 12 15))) (b := 1) (k := d28) (l := b.bales) (d0 := ((bs []), 0, 0)) (by kernel_rfl) (by kernel_rfl) (by kernel_rfl) (by kernel_rfl) rfl rfl rfl) [(2, pp 13 0), (15, .tuple #[.agg #[.string ((aPc7 b d28).1), ii ((aPc7 b d28).2.1), ii ((aPc7 b d28).2.2)], .bool (hasS b.bales d28)])] ?_
   refine zH ?_
   refine hH [8, 9, 10] 1 [(2, pp 13 0), (aPc27 b d28), (17, .bool (hasS b.bales d28))] ?_
   refine uH [11] ⟨?_, trivial⟩
   ·refine rD 1 [(2, pp 13 0), (5, pp 14 0), (aPc27 b d28), (17, .bool (hasS b.bales d28))] (fun h => aPc11 :: h) 15 ?_
    refine zH ?_
    refine fH ?_
    refine rD 2 [(2, pp 13 0), (5, pp 14 0), (6, .bool (hasS b.bales d28))] (fun h => hset h 14 (.cells [.string ((aPc7 b d28).1), ii ((aPc7 b d28).2.1), ii ((aPc7 b d28).2.2)] 0 74 0)) 15 ?_
    refine dQ ?_
    exact ⟨rfl, rfl⟩
  ·refine rD 1 [(2, pp 13 0), (5, pp 14 0), (11, .map (some 1)), (14, .string d28)] (fun h => aPc11 :: h) 15 ?_
   refine zH ?_
   refine uH [7] ⟨?_, trivial⟩
   ·refine rR (.tuple #[.agg #[.string ((aPc7 b d28).1), ii ((aPc7 b d28).2.1), ii ((aPc7 b d28).2.2)], .bool (hasS b.bales d28)]) (v_mgetSo blV (x := (src 28 (.tmp 11))) (i := (src 28 (.tmp 14))) (z := .agg #[.string (bs []), .int .i64 0, .int .i64 0]) (d := (some (path 12 15))) (b := 1) (k := d28) (l := b.bales) (d0 := ((bs []), 0, 0)) (by kernel_rfl) (by kernel_rfl) (by kernel_rfl) (by kernel_rfl) rfl rfl rfl) [(2, pp 13 0), (5, pp 14 0), (15, .tuple #[.agg #[.string ((aPc7 b d28).1), ii ((aPc7 b d28).2.1), ii ((aPc7 b d28).2.2)], .bool (hasS b.bales d28)])] ?_
    refine zH ?_
    refine hH [8, 9, 10] 0 [(2, pp 13 0), (5, pp 14 0), (aPc27 b d28), (17, .bool (hasS b.bales d28))] ?_
    refine fH ?_
    refine rD 2 [(2, pp 13 0), (5, pp 14 0), (6, .bool (hasS b.bales d28))] (fun h => hset h 14 (.cells [.string ((aPc7 b d28).1), ii ((aPc7 b d28).2.1), ii ((aPc7 b d28).2.2)] 0 74 0)) 15 ?_
    refine dQ ?_
    exact ⟨rfl, rfl⟩
theorem f19_supply (m : Nat) (b : Bk) (a : ByteArray) (d34 : Int) (o : Int × Out) (h : f19_do m b a (.supply d34) = some o) : KC E0 236 [.agg #[ii d34], pp 0 0] (kH b a) 13 (DoQ b a o) := by
 unfold f19_do at h
 refine kN Proofs.Tryz.f236 f19_C236 19 [.tmp 4] ?_
 refine qG 2 aPc21 (fun h => (13, .cells [ii d34] 0 155 0) :: h) 14 id ?_
 refine sQ ?_
 refine qE 3 [(1, pp 0 0), (2, pp 13 0), (7, .bool (d34 == 0))] id ?_
 cases b30 : (d34 == 0 : Bool)
 case true =>
  have h := cT b30 h
  refine iT 7 ?_
  refine qE 1 [(4, ii 1)] id ?_
  exact tV (ii 1) id (doL h)
 have h := cF b30 h
 refine iK 7 id ?_
 refine sQ ?_
 refine XQ.tail E0_ok 11 (by kernel_rfl) (by kernel_rfl) ?_
 refine XS.step E0_ok 11 rfl [15, 18] rfl (σ' := [(15, ii (w64 (b.chest + d34))), (18, pp 0 4)]) (by kernel_rfl) ?_
 refine XS.done (by kernel_rfl) ?_
 refine rD 1 [] (fun h => hset h 0 (.cells [ii b.bays, .map (some 1), ii b.came, ii b.taken, ii (w64 (b.chest + d34)), ii b.bond, ii b.spoilt, ii b.out, .map (some 2), ii b.year, s0 3 b.before.length, s0 4 b.lines.length] 0 53 0)) 14 ?_
 refine nQ id ?_
 refine rE 1 [(4, ii 0)] id ?_
 exact tV (ii 0) id (doL h)
theorem f19_band (m : Nat) (b : Bk) (a : ByteArray) (d37 : Int) (o : Int × Out) (h : f19_do m b a (.band d37) = some o) : KC E0 237 [.agg #[ii d37], pp 0 0] (kH b a) 13 (DoQ b a o) := by
 unfold f19_do at h
 refine kN Proofs.Tryz.f237 f19_C237 16 [.tmp 4] ?_
 refine qG 2 aPc21 (fun h => (13, .cells [ii d37] 0 156 0) :: h) 14 id ?_
 refine sQ ?_
 refine XQ.tail E0_ok 10 (by kernel_rfl) (by kernel_rfl) ?_
 refine XS.step E0_ok 10 rfl [8, 12, 14] rfl (σ' := [(8, pp 0 4), (12, pp 0 5), (14, ii d37)]) (by kernel_rfl) ?_
 refine XS.done (by kernel_rfl) ?_
 refine cK [15] 238 [pp 0 4, pp 0 5, ii d37] 15 ?_
 refine kN Proofs.Tryz.f238 f19_C238 27 [.tmp 6] ?_
 refine qQ ?_
 refine rS 1 [(0, pp 0 4), (1, pp 0 5), (2, ii d37)] ?_
 refine nQ id ?_
 refine rD 7 [(0, pp 0 4), (1, pp 0 5), (2, ii d37)] (fun h => hset h 0 (.cells [ii b.bays, .map (some 1), ii b.came, ii b.taken, ii (w64 (b.chest - d37)), ii b.bond, ii b.spoilt, ii b.out, .map (some 2), ii b.year, s0 3 b.before.length, s0 4 b.lines.length] 0 53 0)) 14 ?_
 refine nQ id ?_
 refine rG 7 [(0, pp 0 4), (2, ii d37)] (fun h => hset h 0 (.cells [ii b.bays, .map (some 1), ii b.came, ii b.taken, ii (w64 (b.chest - d37)), ii (w64 (b.bond + d37)), ii b.spoilt, ii b.out, .map (some 2), ii b.year, s0 3 b.before.length, s0 4 b.lines.length] 0 53 0)) 14 id ?_
 refine sQ ?_
 refine XQ.block (id := 0) (by kernel_rfl) ?_
 refine qE 3 [(0, pp 0 4), (19, .bool (d37 == 0))] id ?_
 cases b32 : (d37 == 0 : Bool)
 case true =>
  have h := cT b32 h
  refine iT 19 ?_
  refine qE 1 [(6, ii 1)] id ?_
  refine tV (ii 1) id ?_
  refine rE 1 [(4, ii 1)] id ?_
  exact tV (ii 1) id (doL h)
 have h := cF b32 h
 refine iF 19 ?_
 refine qE 5 [(22, .bool (decide ((w64 (b.chest - d37)) < 0)))] id ?_
 cases b33 : (decide ((w64 (b.chest - d37)) < 0) : Bool)
 case true =>
  have h := cT b33 h
  refine iT 22 ?_
  refine qE 1 [(6, ii 15)] id ?_
  refine tV (ii 15) id ?_
  refine rE 1 [(4, ii 15)] id ?_
  exact tV (ii 15) id (doL h)
 have h := cF b33 h
 refine iK 22 id ?_
 refine qE 1 [(6, ii 0)] id ?_
 refine tV (ii 0) id ?_
 refine rE 1 [(4, ii 0)] id ?_
 exact tV (ii 0) id (doL h)
theorem f19_spoil (m : Nat) (b : Bk) (a : ByteArray) (d41 : Int) (o : Int × Out) (h : f19_do m b a (.spoil d41) = some o) : KC E0 239 [.agg #[ii d41], pp 0 0] (kH b a) 13 (DoQ b a o) := by
 unfold f19_do at h
 refine kN Proofs.Tryz.f239 f19_C239 16 [.tmp 4] ?_
 refine qG 2 aPc21 (fun h => (13, .cells [ii d41] 0 157 0) :: h) 14 id ?_
 refine sQ ?_
 refine XQ.tail E0_ok 10 (by kernel_rfl) (by kernel_rfl) ?_
 refine XS.step E0_ok 10 rfl [8, 12, 14] rfl (σ' := [(8, pp 0 4), (12, pp 0 6), (14, ii d41)]) (by kernel_rfl) ?_
 refine XS.done (by kernel_rfl) ?_
 refine cK [15] 238 [pp 0 4, pp 0 6, ii d41] 15 ?_
 refine kN Proofs.Tryz.f238 f19_C238 27 [.tmp 6] ?_
 refine qQ ?_
 refine rS 1 [(0, pp 0 4), (1, pp 0 6), (2, ii d41)] ?_
 refine nQ id ?_
 refine rD 7 [(0, pp 0 4), (1, pp 0 6), (2, ii d41)] (fun h => hset h 0 (.cells [ii b.bays, .map (some 1), ii b.came, ii b.taken, ii (w64 (b.chest - d41)), ii b.bond, ii b.spoilt, ii b.out, .map (some 2), ii b.year, s0 3 b.before.length, s0 4 b.lines.length] 0 53 0)) 14 ?_
 refine nQ id ?_
 refine rG 7 [(0, pp 0 4), (2, ii d41)] (fun h => hset h 0 (.cells [ii b.bays, .map (some 1), ii b.came, ii b.taken, ii (w64 (b.chest - d41)), ii b.bond, ii (w64 (b.spoilt + d41)), ii b.out, .map (some 2), ii b.year, s0 3 b.before.length, s0 4 b.lines.length] 0 53 0)) 14 id ?_
 refine sQ ?_
 refine XQ.block (id := 0) (by kernel_rfl) ?_
 refine qE 3 [(0, pp 0 4), (19, .bool (d41 == 0))] id ?_
 cases b35 : (d41 == 0 : Bool)
 case true =>
  have h := cT b35 h
  refine iT 19 ?_
  refine qE 1 [(6, ii 1)] id ?_
  refine tV (ii 1) id ?_
  refine rE 1 [(4, ii 1)] id ?_
  exact tV (ii 1) id (doL h)
 have h := cF b35 h
 refine iF 19 ?_
 refine qE 5 [(22, .bool (decide ((w64 (b.chest - d41)) < 0)))] id ?_
 cases b36 : (decide ((w64 (b.chest - d41)) < 0) : Bool)
 case true =>
  have h := cT b36 h
  refine iT 22 ?_
  refine qE 1 [(6, ii 15)] id ?_
  refine tV (ii 15) id ?_
  refine rE 1 [(4, ii 15)] id ?_
  exact tV (ii 15) id (doL h)
 have h := cF b36 h
 refine iK 22 id ?_
 refine qE 1 [(6, ii 0)] id ?_
 refine tV (ii 0) id ?_
 refine rE 1 [(4, ii 0)] id ?_
 exact tV (ii 0) id (doL h)
theorem f19_turn (m : Nat) (b : Bk) (a : ByteArray) (d45 : Int) (o : Int × Out) (h : f19_do m b a (.turn d45) = some o) : KC E0 240 [.agg #[ii d45], pp 0 0] (kH b a) 13 (DoQ b a o) := by
 unfold f19_do at h
 refine kN Proofs.Tryz.f240 f19_C240 23 [.tmp 4] ?_
 refine qG 2 aPc21 (fun h => (13, .cells [ii d45] 0 159 0) :: h) 14 id ?_
 refine sQ ?_
 refine XQ.block (id := 0) (by kernel_rfl) ?_
 refine qE 4 [(1, pp 0 0), (2, pp 13 0), (5, .bool (decide (d45 ≥ 3)))] id ?_
 cases b38 : (decide (d45 ≥ 3) : Bool)
 case true =>
  have h := cT b38 h
  refine iT 5 ?_
  refine qE 1 [(4, ii 2)] id ?_
  exact tV (ii 2) id (doL h)
 have h := cF b38 h
 refine iF 5 ?_
 refine sQ ?_
 refine XQ.quiet E0_ok (by kernel_rfl) (by kernel_rfl) ?_
 refine XU.run E0_ok 1 6 [1, 2, 13, 15] rfl (σ' := [(1, pp 0 0), (2, pp 13 0), (13, .map (some 2)), (15, ii d45)]) (by kernel_rfl) ?_
 refine uR (.bool (getM false b.keys d45)) (v_mget Value.bool (x := (src 23 (.tmp 13))) (i := (src 23 (.tmp 15))) (z := .bool false) (d := (some (path 12 16))) (b := 2) (k := d45) (l := b.keys) (d0 := false) (by kernel_rfl) (by kernel_rfl) (by kernel_rfl) (by kernel_rfl) rfl rfl rfl) [(1, pp 0 0), (2, pp 13 0), (16, .bool (getM false b.keys d45))] ?_
 refine XU.run E0_ok 1 1 [1, 2, 9] rfl (σ' := [(1, pp 0 0), (2, pp 13 0), (9, .bool (getM false b.keys d45))]) (by kernel_rfl) ?_
 refine XU.done (by kernel_rfl) ?_
 show XQ _ _ _ _ _ _ _ _
 cases b39 : (getM false b.keys d45 : Bool)
 case true =>
  have h := cT b39 h
  refine iT 9 ?_
  refine qE 1 [(4, ii 6)] id ?_
  exact tV (ii 6) id (doL h)
 have h := cF b39 h
 refine iK 9 id ?_
 refine sQ ?_
 refine XQ.tail E0_ok 6 (by kernel_rfl) (by kernel_rfl) ?_
 refine XS.step E0_ok 6 rfl [20, 22] rfl (σ' := [(20, .map (some 2)), (22, ii d45)]) (by kernel_rfl) ?_
 refine XS.done (by kernel_rfl) ?_
 refine eR (e_mput Value.bool (m := (src 23 (.tmp 20))) (i := (src 23 (.tmp 22))) (x := (src 23 (.const (.bool true)))) (d := none) (b := 2) (k := d45) (l := b.keys) (a := true) (h' := [(13, .cells [ii d45] 0 159 0), qPc1 b, qPc4 b, (aPc9 b), qPc2 b, qPc0 b, aPc20, (aPc19 a), aPc17, (aPc14 b), (aPc13 b), (2, .imap (imC Value.bool (putM b.keys d45 true))), (aPc22 b), (0, .cells (aPc5 b) 0 53 0)]) (by kernel_rfl) (by kernel_rfl) (by kernel_rfl) (by kernel_rfl) (by kernel_rfl) rfl rfl) [] ?_
 refine nQ id ?_
 refine rE 1 [(4, ii 0)] id ?_
 exact tV (ii 0) id (doL h)
theorem f19_leave (m : Nat) (b : Bk) (a : ByteArray) (d49 : Int) (o : Int × Out) (h : f19_do m b a (.leave d49) = some o) : KC E0 241 [.agg #[ii d49], pp 0 0] (kH b a) 13 (DoQ b a o) := by
 unfold f19_do at h
 refine kN Proofs.Tryz.f241 f19_C241 27 [.tmp 4] ?_
 refine qG 2 aPc21 (fun h => (13, .cells [ii d49] 0 160 0) :: h) 14 id ?_
 refine sQ ?_
 refine qQ ?_
 refine rS 4 [(1, pp 0 0), (2, pp 13 0), (8, .bool (decide (d49 > 0)))] ?_
 cases b41 : (decide (d49 > 0) : Bool)
 case false =>
  have h := cF b41 h
  refine rE 7 [(1, pp 0 0), (2, pp 13 0), (15, .bool false)] id ?_
  refine iK 15 id ?_
  refine sQ ?_
  refine XQ.tail E0_ok 10 (by kernel_rfl) (by kernel_rfl) ?_
  refine XS.step E0_ok 10 rfl [19, 23, 25] rfl (σ' := [(19, pp 0 5), (23, pp 0 7), (25, ii d49)]) (by kernel_rfl) ?_
  refine XS.done (by kernel_rfl) ?_
  refine cK [26] 238 [pp 0 5, pp 0 7, ii d49] 26 ?_
  refine kN Proofs.Tryz.f238 f19_C238 27 [.tmp 6] ?_
  refine qQ ?_
  refine rS 1 [(0, pp 0 5), (1, pp 0 7), (2, ii d49)] ?_
  refine nQ id ?_
  refine rD 7 [(0, pp 0 5), (1, pp 0 7), (2, ii d49)] (fun h => hset h 0 (.cells [ii b.bays, .map (some 1), ii b.came, ii b.taken, ii b.chest, ii (w64 (b.bond - d49)), ii b.spoilt, ii b.out, .map (some 2), ii b.year, s0 3 b.before.length, s0 4 b.lines.length] 0 53 0)) 14 ?_
  refine nQ id ?_
  refine rG 7 [(0, pp 0 5), (2, ii d49)] (fun h => hset h 0 (.cells [ii b.bays, .map (some 1), ii b.came, ii b.taken, ii b.chest, ii (w64 (b.bond - d49)), ii b.spoilt, ii (w64 (b.out + d49)), .map (some 2), ii b.year, s0 3 b.before.length, s0 4 b.lines.length] 0 53 0)) 14 id ?_
  refine sQ ?_
  refine XQ.block (id := 0) (by kernel_rfl) ?_
  refine qE 3 [(0, pp 0 5), (19, .bool (d49 == 0))] id ?_
  cases b45 : (d49 == 0 : Bool)
  case true =>
   have h := cT b45 h
   refine iT 19 ?_
   refine qE 1 [(6, ii 1)] id ?_
   refine tV (ii 1) id ?_
   refine rE 1 [(4, ii 1)] id ?_
   exact tV (ii 1) id (doL h)
  have h := cF b45 h
  refine iF 19 ?_
  refine qE 5 [(22, .bool (decide ((w64 (b.bond - d49)) < 0)))] id ?_
  cases b46 : (decide ((w64 (b.bond - d49)) < 0) : Bool)
  case true =>
   have h := cT b46 h
   refine iT 22 ?_
   refine qE 1 [(6, ii 15)] id ?_
   refine tV (ii 15) id ?_
   refine rE 1 [(4, ii 15)] id ?_
   exact tV (ii 15) id (doL h)
  have h := cF b46 h
  refine iK 22 id ?_
  refine qE 1 [(6, ii 0)] id ?_
  refine tV (ii 0) id ?_
  refine rE 1 [(4, ii 0)] id ?_
  exact tV (ii 0) id (doL h)
 have h := cT b41 h
 refine rS 4 [(1, pp 0 0), (2, pp 13 0), (8, .bool true), (12, .map (some 2))] ?_
 refine rR (ii (aPc15 b)) (v_mlen (x := (src 27 (.tmp 12))) (d := (some (path 12 13))) (b := 2) (es := imC Value.bool b.keys) (n := b.keys.length) (by kernel_rfl) (by kernel_rfl) (by kernel_rfl) (imC_len _ _)) [(1, pp 0 0), (2, pp 13 0), (8, .bool true), (13, ii (aPc15 b))] ?_
 refine rE 2 [(1, pp 0 0), (2, pp 13 0), (15, .bool (decide ((aPc15 b) < 2)))] id ?_
 cases b42 : (decide ((aPc15 b) < 2) : Bool)
 case true =>
  have h := cT b42 h
  refine iT 15 ?_
  refine qE 1 [(4, ii 20)] id ?_
  exact tV (ii 20) id (doL h)
 have h := cF b42 h
 refine iK 15 id ?_
 refine sQ ?_
 refine XQ.tail E0_ok 10 (by kernel_rfl) (by kernel_rfl) ?_
 refine XS.step E0_ok 10 rfl [19, 23, 25] rfl (σ' := [(19, pp 0 5), (23, pp 0 7), (25, ii d49)]) (by kernel_rfl) ?_
 refine XS.done (by kernel_rfl) ?_
 refine cK [26] 238 [pp 0 5, pp 0 7, ii d49] 26 ?_
 refine kN Proofs.Tryz.f238 f19_C238 27 [.tmp 6] ?_
 refine qQ ?_
 refine rS 1 [(0, pp 0 5), (1, pp 0 7), (2, ii d49)] ?_
 refine nQ id ?_
 refine rD 7 [(0, pp 0 5), (1, pp 0 7), (2, ii d49)] (fun h => hset h 0 (.cells [ii b.bays, .map (some 1), ii b.came, ii b.taken, ii b.chest, ii (w64 (b.bond - d49)), ii b.spoilt, ii b.out, .map (some 2), ii b.year, s0 3 b.before.length, s0 4 b.lines.length] 0 53 0)) 14 ?_
 refine nQ id ?_
 refine rG 7 [(0, pp 0 5), (2, ii d49)] (fun h => hset h 0 (.cells [ii b.bays, .map (some 1), ii b.came, ii b.taken, ii b.chest, ii (w64 (b.bond - d49)), ii b.spoilt, ii (w64 (b.out + d49)), .map (some 2), ii b.year, s0 3 b.before.length, s0 4 b.lines.length] 0 53 0)) 14 id ?_
 refine sQ ?_
 refine XQ.block (id := 0) (by kernel_rfl) ?_
 refine qE 3 [(0, pp 0 5), (19, .bool (d49 == 0))] id ?_
 cases b43 : (d49 == 0 : Bool)
 case true =>
  have h := cT b43 h
  refine iT 19 ?_
  refine qE 1 [(6, ii 1)] id ?_
  refine tV (ii 1) id ?_
  refine rE 1 [(4, ii 1)] id ?_
  exact tV (ii 1) id (doL h)
 have h := cF b43 h
 refine iF 19 ?_
 refine qE 5 [(22, .bool (decide ((w64 (b.bond - d49)) < 0)))] id ?_
 cases b44 : (decide ((w64 (b.bond - d49)) < 0) : Bool)
 case true =>
  have h := cT b44 h
  refine iT 22 ?_
  refine qE 1 [(6, ii 15)] id ?_
  refine tV (ii 15) id ?_
  refine rE 1 [(4, ii 15)] id ?_
  exact tV (ii 15) id (doL h)
 have h := cF b44 h
 refine iK 22 id ?_
 refine qE 1 [(6, ii 0)] id ?_
 refine tV (ii 0) id ?_
 refine rE 1 [(4, ii 0)] id ?_
 exact tV (ii 0) id (doL h)
theorem f19_do_ok (m : Nat) (b : Bk) (a : ByteArray) (o : Int × Out) : ∀ d : Deed, isDo d = true → f19_do m b a d = some o → KC E0 (doF d) [doU d, pp 0 0] (kH b a) 13 (DoQ b a o)
 | .nop, q, _ => by cases q
 | .undo, q, _ => by cases q
 | .shut, _, h => f19_shut m b a o h
 | .closed, _, h => f19_closed m b a o h
 | .arrive d6 d7 d8, _, h => f19_arrive m b a d6 d7 d8 o h
 | .move d15 d16, _, h => f19_move m b a d15 d16 o h
 | .take d20 d21, _, h => f19_take m b a d20 d21 o h
 | .count d28 d29 d30, _, h => f19_count m b a d28 d29 d30 o h
 | .supply d34, _, h => f19_supply m b a d34 o h
 | .band d37, _, h => f19_band m b a d37 o h
 | .spoil d41, _, h => f19_spoil m b a d41 o h
 | .turn d45, _, h => f19_turn m b a d45 o h
 | .leave d49, _, h => f19_leave m b a d49 o h
abbrev aPc8 (b : Bk) := ((b.lines.length : Nat) : Int)
abbrev aPc32 (b : Bk) := (w64 ((aPc8 b) - 1))
abbrev aPc0 (b : Bk) := (Int.toNat (aPc32 b))
abbrev aPc4 (b : Bk) := (List.getD b.before (aPc0 b) Bst.nil)
def f19 (m : Nat) (b : Bk) (a : ByteArray) : Option (Int × Out) :=
 cond (b.bays == 0) (
  some (11, .same)
 ) (
  (f53 m a).bind fun r1 =>
   match r1 with
   | .nop =>
    some (10, .same)
   | .undo =>
    cond ((aPc8 b) == 0) (
     some (4, .same)
    ) (
     cond (inRow (aPc32 b) b.before.length) (
      cond (cutOK 0 (aPc32 b) ((b.before.length : Nat) : Int) b.before.length) (
       cond (cutOK 0 (aPc32 b) (aPc8 b) b.lines.length) (
        some (0, .back (aPc4 b) (aPc0 b) b.before.length (aPc0 b) b.lines.length)
       ) none
      ) none
     ) none
    )
   | d => cond ((aPc8 b) == 200) (some (19, .same)) (f19_do m b a d)
 )
theorem f19_ok (m : Nat) (b : Bk) (a : ByteArray) (o : Int × Out) (h : f19 m b a = some o) : KC E0 19 [pp 0 0, .string a] (bookH b) 5 (fun v h' _ => v = ii o.1 ∧ OutH b a o.2 h') := by
 refine KC.bodyD E0_ok (F := Proofs.Tryz.f19) (by kernel_rfl) (code := f19_C19) (by kernel_rfl) (by kernel_rfl) ?_
 unfold f19 at h
 refine XF.seq E0_ok (by kernel_rfl) ?_
 refine rQ ?_
 refine rD 3 [(2, pp 5 0), (3, pp 6 0), (4, pp 7 0)] (fun h => aPc20 :: (aPc19 a) :: aPc17 :: h) 8 ?_
 refine dQ ?_
 show XF _ _ _ _ _ _ _ _ _
 refine XF.seq E0_ok (by kernel_rfl) ?_
 refine qQ ?_
 refine rS 1 [(2, pp 5 0), (3, pp 6 0), (4, pp 7 0), (7, pp 0 0)] ?_
 refine cK [2, 3, 4, 8] 52 [pp 0 0] 8 ?_
 refine kN Proofs.Tryz.f52 f19_C52 13 [.tmp 2] ?_
 refine qQ ?_
 refine rS 1 [(0, pp 0 0)] ?_
 refine nQ id ?_
 refine rE 11 [(2, .bool (b.bays == 0))] id ?_
 refine tV (.bool (b.bays == 0)) id ?_
 refine eQ id ?_
 cases b1 : (b.bays == 0 : Bool)
 case true =>
  have h := cT b1 h
  refine iT 8 ?_
  refine qG 1 [(4, pp 7 0)] (fun h => hset h 7 (.cells [ii 11] 0 26 0)) 8 id ?_
  obtain rfl := sI h
  exact tV (ii 11) id ⟨rfl, by kernel_rfl, by kernel_rfl, by kernel_rfl, by kernel_rfl, by kernel_rfl⟩
 have h := cF b1 h
 refine iF 8 ?_
 refine kQ ?_
 show XF _ _ _ _ _ _ _ _ _
 refine XF.seq E0_ok (by kernel_rfl) ?_
 refine rQ ?_
 refine rS 1 [(2, pp 5 0), (3, pp 6 0), (4, pp 7 0), (9, .string a)] ?_
 obtain ⟨r1, r1_h, h⟩ := bS h
 rcases deed3 r1 with rfl | rfl | ⟨hd, hu⟩
 ·refine cA [2, 3, 4, 10] 10 [.string a] (KC.lift (V2 := deedV (Deed.nop)) (H2 := []) [0, 1, 2, 3, 4, 5, 6, 7] (f53_ok m a (Deed.nop) r1_h) rfl (by decide) (by decide) (by kernel_rfl) trivial (by rfl)) ?_
  refine rS 1 [(2, pp 5 0), (3, pp 6 0), (4, pp 7 0), (5, .nilIface)] ?_
  refine dQ ?_
  show XF _ _ _ _ _ _ _ _ _
  refine XF.seq E0_ok (by kernel_rfl) ?_
  refine qE 1 [(2, pp 5 0), (3, pp 6 0), (4, pp 7 0), (5, .nilIface), (11, .nilIface)] id ?_
  refine XQ.block (id := 0) (by kernel_rfl) ?_
  refine qE 1 [(2, pp 5 0), (3, pp 6 0), (4, pp 7 0), (5, .nilIface), (11, .nilIface), (12, .bool true)] id ?_
  refine iT 12 ?_
  refine qG 1 [(4, pp 7 0)] (fun h => hset h 7 (.cells [ii 10] 0 26 0)) 8 id ?_
  obtain rfl := sI h
  exact tV (ii 10) id ⟨rfl, by kernel_rfl, by kernel_rfl, by kernel_rfl, by kernel_rfl, by kernel_rfl⟩
 ·refine cA [2, 3, 4, 10] 10 [.string a] (KC.lift (V2 := deedV (Deed.undo)) (H2 := []) [0, 1, 2, 3, 4, 5, 6, 7] (f53_ok m a (Deed.undo) r1_h) rfl (by decide) (by decide) (by kernel_rfl) trivial (by rfl)) ?_
  refine rS 1 [(2, pp 5 0), (3, pp 6 0), (4, pp 7 0), (5, .iface 104 (.agg #[]))] ?_
  refine dQ ?_
  show XF _ _ _ _ _ _ _ _ _
  refine XF.seq E0_ok (by kernel_rfl) ?_
  refine qE 1 [(2, pp 5 0), (3, pp 6 0), (4, pp 7 0), (5, .iface 104 (.agg #[])), (11, .iface 104 (.agg #[]))] id ?_
  refine XQ.block (id := 0) (by kernel_rfl) ?_
  refine qE 1 [(2, pp 5 0), (3, pp 6 0), (4, pp 7 0), (5, .iface 104 (.agg #[])), (11, .iface 104 (.agg #[])), (12, .bool false)] id ?_
  refine iF 12 ?_
  refine qE 3 [(2, pp 5 0), (3, pp 6 0), (4, pp 7 0), (5, .iface 104 (.agg #[])), (14, .bool true)] id ?_
  refine iT 14 ?_
  refine qQ ?_
  refine rS 1 [(4, pp 7 0), (16, pp 0 0)] ?_
  refine cK [4, 17] 54 [pp 0 0] 17 ?_
  refine kN Proofs.Tryz.f54 f19_C54 42 [.tmp 2] ?_
  refine qQ ?_
  refine rS 1 [(0, pp 0 0)] ?_
  refine nQ id ?_
  refine rE 6 [(0, pp 0 0), (3, ii (aPc8 b))] id ?_
  refine sQ ?_
  refine qE 2 [(0, pp 0 0), (3, ii (aPc8 b)), (10, .bool ((aPc8 b) == 0))] id ?_
  cases b9 : ((aPc8 b) == 0 : Bool)
  case true =>
   have h := cT b9 h
   refine iT 10 ?_
   refine qE 1 [(2, ii 4)] id ?_
   refine tV (ii 4) id ?_
   refine rG 1 [(4, pp 7 0)] (fun h => hset h 7 (.cells [ii 4] 0 26 0)) 8 id ?_
   obtain rfl := sI h
   exact tV (ii 4) id ⟨rfl, by kernel_rfl, by kernel_rfl, by kernel_rfl, by kernel_rfl, by kernel_rfl⟩
  have h := cF b9 h
  refine iK 10 id ?_
  refine sQ ?_
  obtain ⟨b10, h⟩ := oC h
  obtain ⟨b11, h⟩ := oC h
  obtain ⟨b12, h⟩ := oC h
  refine XQ.postC (σ' := []) (h' := [aPc20, (aPc19 a), aPc17, (aPc14 b), (aPc13 b), (aPc12 b), (aPc22 b), (0, .cells [ii ((aPc4 b).bays), .chan (some ((aPc4 b).t1 + 2)), ii ((aPc4 b).came), ii ((aPc4 b).taken), ii ((aPc4 b).chest), ii ((aPc4 b).bond), ii ((aPc4 b).spoilt), ii ((aPc4 b).out), .chan (some ((aPc4 b).t2 + 2)), ii ((aPc4 b).year), sl 3 0 (aPc0 b) b.before.length, sl 4 0 (aPc0 b) b.lines.length] 0 53 0)]) (c' := 8) ?_ ?_
  ·show XQ _ _ _ _ _ _ _ _
   refine qE 1 [(2, ii 0)] id ?_
   refine tV (ii 0) id ?_
   refine rE 1 [(4, pp 7 0)] id ?_
   obtain rfl := sI h
   exact tV (ii 0) id ⟨rfl, by kernel_rfl, by kernel_rfl, by kernel_rfl⟩
  ·refine hQ 25 [26, 27, 28, 29, 30, 31, 32, 33] 25 [0, 5, 6, 7] [aPc28, (aPc18 a), aPc16, (aPc14 b), (aPc13 b), (aPc12 b), (aPc22 b), qPc3 b] ?_
   refine hH [0, 1, 2, 3, 4, 5, 6, 7, 8] 16 [(0, pp 0 0), (3, ii (aPc8 b)), (11, pp 0 0), (12, pp 0 0), (13, pp 0 0), (17, s0 3 b.before.length), (19, ii (aPc32 b))] ?_
   refine XH.pure E0_ok 9 (by kernel_rfl) (by kernel_rfl) ?_
   refine XP.rd E0_ok (by kernel_rfl) [0, 3, 11, 12, 13, 20] rfl rfl (v := pp 3 ((aPc0 b) * 10)) (v_idx (s := 10) (x := (src 42 (.tmp 17))) (y := (src 42 (.tmp 19))) (b := 3) (o := 0) (len := b.before.length) (cap := b.before.length) (ik := .i64) (i := w64 ((aPc8 b) - 1)) (off := (aPc0 b) * 10) (d := (some (path 12 20))) (by kernel_rfl) (by kernel_rfl) (by kernel_rfl) b10 (by first | omega | exact Nat.zero_add _)) (σ' := [(0, pp 0 0), (3, ii (aPc8 b)), (11, pp 0 0), (12, pp 0 0), (13, pp 0 0), (20, pp 3 ((aPc0 b) * 10))]) (by kernel_rfl) ?_
   refine XP.done (by kernel_rfl) ?_
   show XH _ _ _ _ _ _ _ _ _ _ _ _ _
   refine hH [11, 12, 13, 14, 15, 16] 9 [(0, pp 0 0), (3, ii (aPc8 b)), (11, pp 0 0), (12, pp 0 0), (13, pp 0 0), (20, pp 3 ((aPc0 b) * 10)), (25, s0 3 b.before.length), (27, ii (aPc32 b))] ?_
   refine XH.cut E0_ok 17 (by kernel_rfl) (by kernel_rfl) (t := 51) (x := 25) (d := 28) (s := 10) (lo := none) (hi := (some (.tmp 27))) (v := sl 3 0 (aPc0 b) b.before.length) [0, 3, 11, 12, 13, 20, 28] (by kernel_rfl) (by kernel_rfl) (v_cut (nt := 42) (s := 10) (x := (src 42 (.tmp 25))) (lo := none) (hi := (some (.tmp 27))) (mx := none) (b := 3) (o := 0) (len := b.before.length) (cap := b.before.length) (l := none) (u := (some (aPc32 b))) (m := none) (cs := rowC encSt b.before) (fz := 0) (e := 50) (es := 10) (o' := 0) (len' := Int.toNat (aPc32 b)) (cap' := b.before.length) (d := (some (path 12 28))) (by kernel_rfl) (by kernel_rfl) (by kernel_rfl) (by kernel_rfl) (by kernel_rfl) (by kernel_rfl) (by kernel_rfl) rfl b11 (by simp only [Option.getD_none, Option.getD_some] <;> omega) (by simp only [Option.getD_none, Option.getD_some] <;> omega) (by simp only [Option.getD_none, Option.getD_some] <;> omega)) rfl (by kernel_rfl) (σ' := [(0, pp 0 0), (3, ii (aPc8 b)), (11, pp 0 0), (12, pp 0 0), (13, pp 0 0), (20, pp 3 ((aPc0 b) * 10)), (28, sl 3 0 (aPc0 b) b.before.length)]) (by kernel_rfl) ?_
   refine hH [18, 19, 20, 21, 22, 23] 2 [(11, pp 0 0), (12, pp 0 0), (13, pp 0 0), (20, pp 3 ((aPc0 b) * 10)), (28, sl 3 0 (aPc0 b) b.before.length), (32, s0 4 b.lines.length), (34, ii (aPc32 b))] ?_
   refine XH.cut E0_ok 24 (by kernel_rfl) (by kernel_rfl) (t := 22) (x := 32) (d := 35) (s := 1) (lo := none) (hi := (some (.tmp 34))) (v := sl 4 0 (aPc0 b) b.lines.length) [11, 12, 13, 20, 28, 35] (by kernel_rfl) (by kernel_rfl) (v_cut (nt := 42) (s := 1) (x := (src 42 (.tmp 32))) (lo := none) (hi := (some (.tmp 34))) (mx := none) (b := 4) (o := 0) (len := b.lines.length) (cap := b.lines.length) (l := none) (u := (some (aPc32 b))) (m := none) (cs := rowC encS b.lines) (fz := 0) (e := 9) (es := 1) (o' := 0) (len' := Int.toNat (aPc32 b)) (cap' := b.lines.length) (d := (some (path 12 35))) (by kernel_rfl) (by kernel_rfl) (by kernel_rfl) (by kernel_rfl) (by kernel_rfl) (by kernel_rfl) (by kernel_rfl) rfl b12 (by simp only [Option.getD_none, Option.getD_some] <;> omega) (by simp only [Option.getD_none, Option.getD_some] <;> omega) (by simp only [Option.getD_none, Option.getD_some] <;> omega)) rfl (by kernel_rfl) (σ' := [(11, pp 0 0), (12, pp 0 0), (13, pp 0 0), (20, pp 3 ((aPc0 b) * 10)), (28, sl 3 0 (aPc0 b) b.before.length), (35, sl 4 0 (aPc0 b) b.lines.length)]) (by kernel_rfl) ?_
   refine uH [10] ⟨?_, trivial⟩
   ·refine rR _ (LV encSt_ok 20 21 3 ((aPc0 b) * 10) b.before 0 50 10 (aPc0 b) Bst.nil (rl b10)) [(11, pp 0 0), (12, pp 0 0), (13, pp 0 0), (21, .agg #[ii ((aPc4 b).bays), .chan (some ((aPc4 b).t1 + 2)), ii ((aPc4 b).came), ii ((aPc4 b).taken), ii ((aPc4 b).chest), ii ((aPc4 b).bond), ii ((aPc4 b).spoilt), ii ((aPc4 b).out), .chan (some ((aPc4 b).t2 + 2)), ii ((aPc4 b).year)]), (28, sl 3 0 (aPc0 b) b.before.length), (35, sl 4 0 (aPc0 b) b.lines.length)] ?_
    refine zH ?_
    refine fH ?_
    refine rD 9 [] (fun h => hset h 0 (.cells [ii ((aPc4 b).bays), .chan (some ((aPc4 b).t1 + 2)), ii ((aPc4 b).came), ii ((aPc4 b).taken), ii ((aPc4 b).chest), ii ((aPc4 b).bond), ii ((aPc4 b).spoilt), ii ((aPc4 b).out), .chan (some ((aPc4 b).t2 + 2)), ii ((aPc4 b).year), sl 3 0 (aPc0 b) b.before.length, sl 4 0 (aPc0 b) b.lines.length] 0 53 0)) 8 ?_
    refine dQ ?_
    exact ⟨rfl, rfl⟩
 ·have h : cond ((aPc8 b) == 200) (some (19, .same)) (f19_do m b a r1) = some o := by cases r1 <;> first | exact h | cases hd
  refine cA [2, 3, 4, 10] 10 [.string a] (KC.lift (V2 := deedV r1) (H2 := []) [0, 1, 2, 3, 4, 5, 6, 7] (f53_ok m a r1 r1_h) rfl (by decide) (by decide) (deedV_ren _ _) trivial (by rfl)) ?_
  refine rS 1 [(2, pp 5 0), (3, pp 6 0), (4, pp 7 0), (5, deedV r1)] ?_
  refine dQ ?_
  show XF _ _ _ _ _ _ _ _ _
  refine XF.seq E0_ok (by kernel_rfl) ?_
  refine qE 1 [(2, pp 5 0), (3, pp 6 0), (4, pp 7 0), (5, deedV r1), (11, deedV r1)] id ?_
  refine XQ.block (id := 0) (by kernel_rfl) ?_
  refine qQ ?_
  refine rS 1 [(2, pp 5 0), (3, pp 6 0), (4, pp 7 0), (5, deedV r1), (11, deedV r1), (12, .bool false)] ?_ rfl (by cases r1 <;> first | exact absurd hd (by decide) | kernel_rfl)
  refine eQ id ?_
  refine iF 12 ?_
  refine qQ ?_
  refine rS 3 [(2, pp 5 0), (3, pp 6 0), (4, pp 7 0), (5, deedV r1), (14, .bool false)] ?_ rfl (by cases r1 <;> first | exact absurd hd (by decide) | kernel_rfl)
  refine eQ id ?_
  refine iF 14 ?_
  refine kQ ?_
  show XF _ _ _ _ _ _ _ _ _
  refine XF.seq E0_ok (by kernel_rfl) ?_
  refine qE 6 [(2, pp 5 0), (3, pp 6 0), (4, pp 7 0), (5, deedV r1), (23, .bool ((aPc8 b) == 200))] id ?_
  cases b2 : ((aPc8 b) == 200 : Bool)
  case true =>
   have h := cT b2 h
   refine iT 23 ?_
   refine qG 1 [(4, pp 7 0)] (fun h => hset h 7 (.cells [ii 19] 0 26 0)) 8 id ?_
   obtain rfl := sI h
   exact tV (ii 19) id ⟨rfl, by kernel_rfl, by kernel_rfl, by kernel_rfl, by kernel_rfl, by kernel_rfl⟩
  have h := cF b2 h
  refine iF 23 ?_
  refine kQ ?_
  show XF _ _ _ _ _ _ _ _ _
  refine XF.seq E0_ok (by kernel_rfl) ?_
  refine rQ ?_
  refine rS 4 [(2, pp 5 0), (3, pp 6 0), (4, pp 7 0), (5, deedV r1), (27, .agg #[ii b.bays, .map (some 1), ii b.came, ii b.taken, ii b.chest, ii b.bond, ii b.spoilt, ii b.out, .map (some 2), ii b.year])] ?_
  refine cK [2, 3, 4, 5, 28] 55 [.agg #[ii b.bays, .map (some 1), ii b.came, ii b.taken, ii b.chest, ii b.bond, ii b.spoilt, ii b.out, .map (some 2), ii b.year]] 28 ?_
  refine kN Proofs.Tryz.f55 f19_C55 12 [.cell 2 50] ?_
  refine qG 2 [(1, pp 8 0), (2, pp 9 0)] (fun h => (9, .cells [ii 0, .map none, ii 0, ii 0, ii 0, ii 0, ii 0, ii 0, .map none, ii 0] 0 50 0) :: (8, .cells [ii b.bays, .map (some 1), ii b.came, ii b.taken, ii b.chest, ii b.bond, ii b.spoilt, ii b.out, .map (some 2), ii b.year] 0 50 0) :: h) 10 id ?_
  refine sQ ?_
  refine XQ.postC (σ' := [(1, pp 8 0), (2, pp 9 0)]) (h' := (qPc4 b :: (aPc9 b) :: qPc10 :: qPc0 b :: aPc20 :: (aPc19 a) :: aPc17 :: bookH b)) (c' := 12) ?_ ?_
  ·show XQ _ _ _ _ _ _ _ _
   refine qG 2 [(2, pp 9 0)] (fun h => hset h 9 (.cells (aPc1 b) 0 50 0)) 12 id ?_
   refine tV (.agg #[ii b.bays, .map (some 10), ii b.came, ii b.taken, ii b.chest, ii b.bond, ii b.spoilt, ii b.out, .map (some 11), ii b.year]) id ?_
   refine rD 2 [(2, pp 5 0), (3, pp 6 0), (4, pp 7 0), (5, deedV r1), (6, pp 12 0)] (fun h => (12, .cells (aPc1 b) 0 50 0) :: h) 13 ?_
   refine dQ ?_
   show XF _ _ _ _ _ _ _ _ _
   refine XF.defer E0_ok 1 (by kernel_rfl) (by kernel_rfl) 1 (t := 29) [2, 4, 5, 29] (σ' := [(2, pp 5 0), (4, pp 7 0), (5, deedV r1), (29, .func (.func 56) #[] #[pp 7 0, pp 12 0, pp 5 0, pp 6 0])]) (h' := (qPc1 b :: qPc4 b :: (aPc9 b) :: qPc2 b :: qPc0 b :: aPc20 :: (aPc19 a) :: aPc17 :: bookH b)) (c' := 13) (fn := 56) (cap := [pp 7 0, pp 12 0, pp 5 0, pp 6 0]) (by kernel_rfl) (by kernel_rfl) (by kernel_rfl) (by kernel_rfl) (by kernel_rfl) (by kernel_rfl) (by kernel_rfl) ?_
   refine sQ ?_
   refine hQ 7 [8] 7 [0, 5, 6, 7, 8, 9, 12] [qPc5 b, qPc4 b, (aPc9 b), qPc6 b, qPc7 b, aPc28, (aPc18 a), aPc16, (aPc14 b), (aPc13 b), (aPc12 b), (aPc22 b), qPc3 b] ?_
   refine hH [0, 1, 2, 3, 4] 2 [(4, pp 7 0), (30, deedV r1), (33, pp 0 0), (34, .func (.method "vitola/master.do") #[deedV r1] #[])] ?_
   rw [hu]
   refine XH.nilM E0_ok 5 (by kernel_rfl) (by kernel_rfl) (x := 34) (d := 35) (t := doT r1) (name := "vitola/master.do") (u := doU r1) [4, 30, 33] (by kernel_rfl) (by kernel_rfl) (nilM_all hd) rfl (by kernel_rfl) (σ' := [(4, pp 7 0), (30, (.iface (doT r1) (doU r1))), (33, pp 0 0)]) (by kernel_rfl) ?_
   refine hH [6] 0 [(4, pp 7 0), (33, pp 0 0), (36, .iface (doT r1) (doU r1))] ?_
   refine fH ?_
   refine cK [4, 37] (doF r1) [doU r1, pp 0 0] 37 ?_ rfl (by cases r1 <;> first | exact absurd hd (by decide) | kernel_rfl)
   refine KC.mono ?_ (f19_do_ok m b a o r1 hd h)
   rintro v h' c' ⟨e, c1, c2, c3, c4, c5, c6, c7, bl, ks, rfl, h, hR⟩
   refine XR.ren (σ' := [(4, pp 7 0), (37, ii e)]) (h' := eH b a 0 c1 c2 c3 c4 c5 c6 c7 bl ks) (c' := 13) [0, 1, 2, 3, 4, 5, 6, 7, 8, 9, 10, 11, 12] (by decide) rfl ⟨by kernel_rfl, by kernel_rfl, trivial⟩ hR rfl ?_
   refine rG 1 [(4, pp 7 0)] (fun h => hset h 7 (.cells [ii e] 0 26 0)) 13 id ?_
   refine XQ.conv (σ' := [(4, pp 7 0)]) (h' := eH b a e c1 c2 c3 c4 c5 c6 c7 bl ks) (c' := 13) ?_ (by kernel_rfl)
   refine tQ ?_
   obtain ⟨r, r_h, h⟩ := bS h
   obtain rfl := sI h
   exact ⟨fun i q => (by cases q), f19_end_ok b a e c1 c2 c3 c4 c5 c6 c7 bl ks r r_h⟩
  ·refine hQ 7 [8, 9] 7 [0, 5, 6, 7, 8, 9] [qPc9, qPc8 b, aPc28, (aPc18 a), aPc16, (aPc14 b), (aPc13 b), (aPc12 b), (aPc22 b), qPc3 b] ?_
   refine hH [0, 1, 3, 4] 3 [(1, pp 8 0), (2, pp 9 0), (4, .map (some 1)), (7, .map (some 2))] ?_
   refine uH [2] ⟨?_, trivial⟩
   ·refine cA [1, 2, 5, 7] 5 [.map (some 1)] (clone_cB (j := 1) (es := (imS blV b.bales)) (by kernel_rfl)) ?_
    refine zH ?_
    refine hH [6] 1 [(1, pp 8 0), (2, pp 9 0), (5, .map (some 10)), (7, .map (some 2)), (9, pp 8 1)] ?_
    refine uH [5] ⟨?_, trivial⟩
    ·refine cA [1, 2, 5, 8, 9] 8 [.map (some 2)] (clone_cK (j := 2) (es := (imC Value.bool b.keys)) (by kernel_rfl)) ?_
     refine zH ?_
     refine fH ?_
     refine rD 3 [(1, pp 8 0), (2, pp 9 0)] (fun h => hset h 8 (.cells (aPc1 b) 0 50 0)) 12 ?_
     refine dQ ?_
     exact ⟨rfl, rfl⟩
end Go.Xm
