/-
  TopChance: the statement, out of the walk that is proved in another text: the arguments opened and shut, the frame. Conditions: those of the given statement.
-/
import Derived.Test.YtcpagojealaigaaGreatDoorRows
import Derived.Test.YtcpagojealaigaaGreatDoorFg
import Derived.WalkKit
import Derived.ProofKit
import Derived.OpenShut
import Derived.ShutString
import Derived.ChangeOld
import Derived.Below
import Derived.HandedShaped
import Derived.Shelf.Vars
import Derived.Test.YtcpagojealaigaaGreatDoorCards
import Derived.Test.YtcpagojealaigaaGreatDoorTie
import Derived.Deep.DeepHandedRow
import Derived.Lib.LaidTab
namespace Go.Xm
open Go.RowKit
set_option maxRecDepth 100000
set_option linter.unusedVariables false
set_option linter.unusedSimpArgs false

theorem w64_id {x : Int} (h1 : -9223372036854775808 ≤ x) (h2 : x ≤ 9223372036854775807) : w64 x = x := IntWalk.i64_in _ ⟨h1, h2⟩
theorem w64n (x : Nat) (h : x ≤ 9223372036854775807) : w64 (Int.ofNat x) = Int.ofNat x := w64_id (Int.le_trans (by decide) (Int.natCast_nonneg x)) (by show ((x : Nat) : Int) ≤ _; omega)

theorem within_ok (t : Int) (h0 : 0 ≤ t) (h1 : t ≤ 100000) : f29 200 t 0 100000 = some true := by
  have e1 : decide ((0 : Int) ≤ t) = true := decide_eq_true h0
  have e2 : decide (t ≤ (100000 : Int)) = true := decide_eq_true h1
  simp only [f29, e1, e2, cond_true]

theorem f16_a0 (t : Int) (h : f29 200 t 0 100000 = some true) : f16 200 t [2, 4] = some ([w64 (Int.tdiv t 2), w64 (Int.tdiv t 4)], w64 (Int.tdiv (w64 (w64 (0 + w64 (Int.tmod t 2 * 4)) + w64 (Int.tmod t 4 * 2))) 8), 0) := by
  unfold f16
  rw [h]
  kernel_rfl

theorem f16_b0 (t : Int) (h : f29 200 t 0 100000 = some true) : f16 200 t [2, 11, 594] = some ([w64 (Int.tdiv t 2), w64 (Int.tdiv t 11), w64 (Int.tdiv t 594)], w64 (Int.tdiv (w64 (w64 (w64 (0 + w64 (Int.tmod t 2 * 6534)) + w64 (Int.tmod t 11 * 1188)) + w64 (Int.tmod t 594 * 22))) 13068), 0) := by
  unfold f16
  rw [h]
  kernel_rfl

theorem f16_a (k : Nat) (hk : k ≤ 100000) : f16 200 (.ofNat k) [2, 4] = some ([.ofNat (k / 2), .ofNat (k / 4)], .ofNat ((k % 2 * 4 + k % 4 * 2) / 8), 0) := by
  rw [f16_a0 (.ofNat k) (within_ok _ (Int.natCast_nonneg k) (by show ((k : Nat) : Int) ≤ _; omega))]
  have m2 : k % 2 < 2 := Nat.mod_lt _ (by omega)
  have m4 : k % 4 < 4 := Nat.mod_lt _ (by omega)
  have e1 : w64 (Int.tdiv (Int.ofNat k) 2) = .ofNat (k / 2) := w64n (k / 2) (by omega)
  have e2 : w64 (Int.tdiv (Int.ofNat k) 4) = .ofNat (k / 4) := w64n (k / 4) (by omega)
  have e3 : w64 (Int.tmod (Int.ofNat k) 2 * 4) = .ofNat (k % 2 * 4) := w64n (k % 2 * 4) (by omega)
  have e4 : w64 (Int.tmod (Int.ofNat k) 4 * 2) = .ofNat (k % 4 * 2) := w64n (k % 4 * 2) (by omega)
  have e5 : w64 (0 + Int.ofNat (k % 2 * 4)) = .ofNat (k % 2 * 4) := by
    rw [Int.zero_add]
    exact w64n _ (by omega)
  have e6 : w64 (Int.ofNat (k % 2 * 4) + Int.ofNat (k % 4 * 2)) = .ofNat (k % 2 * 4 + k % 4 * 2) := w64n (k % 2 * 4 + k % 4 * 2) (by omega)
  have e7 : w64 (Int.tdiv (Int.ofNat (k % 2 * 4 + k % 4 * 2)) 8) = .ofNat ((k % 2 * 4 + k % 4 * 2) / 8) := w64n ((k % 2 * 4 + k % 4 * 2) / 8) (by omega)
  rw [e1, e2, e3, e4, e5, e6, e7]

theorem f16_b (k : Nat) (hk : k ≤ 100000) : f16 200 (.ofNat k) [2, 11, 594] = some ([.ofNat (k / 2), .ofNat (k / 11), .ofNat (k / 594)], .ofNat ((k % 2 * 6534 + k % 11 * 1188 + k % 594 * 22) / 13068), 0) := by
  rw [f16_b0 (.ofNat k) (within_ok _ (Int.natCast_nonneg k) (by show ((k : Nat) : Int) ≤ _; omega))]
  have m2 : k % 2 < 2 := Nat.mod_lt _ (by omega)
  have m11 : k % 11 < 11 := Nat.mod_lt _ (by omega)
  have m594 : k % 594 < 594 := Nat.mod_lt _ (by omega)
  have e1 : w64 (Int.tdiv (Int.ofNat k) 2) = .ofNat (k / 2) := w64n (k / 2) (by omega)
  have e2 : w64 (Int.tdiv (Int.ofNat k) 11) = .ofNat (k / 11) := w64n (k / 11) (by omega)
  have e2' : w64 (Int.tdiv (Int.ofNat k) 594) = .ofNat (k / 594) := w64n (k / 594) (by omega)
  have e3 : w64 (Int.tmod (Int.ofNat k) 2 * 6534) = .ofNat (k % 2 * 6534) := w64n (k % 2 * 6534) (by omega)
  have e4 : w64 (Int.tmod (Int.ofNat k) 11 * 1188) = .ofNat (k % 11 * 1188) := w64n (k % 11 * 1188) (by omega)
  have e4' : w64 (Int.tmod (Int.ofNat k) 594 * 22) = .ofNat (k % 594 * 22) := w64n (k % 594 * 22) (by omega)
  have e5 : w64 (0 + Int.ofNat (k % 2 * 6534)) = .ofNat (k % 2 * 6534) := by
    rw [Int.zero_add]
    exact w64n _ (by omega)
  have e6 : w64 (Int.ofNat (k % 2 * 6534) + Int.ofNat (k % 11 * 1188)) = .ofNat (k % 2 * 6534 + k % 11 * 1188) := w64n (k % 2 * 6534 + k % 11 * 1188) (by omega)
  have e6' : w64 (Int.ofNat (k % 2 * 6534 + k % 11 * 1188) + Int.ofNat (k % 594 * 22)) = .ofNat (k % 2 * 6534 + k % 11 * 1188 + k % 594 * 22) := w64n (k % 2 * 6534 + k % 11 * 1188 + k % 594 * 22) (by omega)
  have e7 : w64 (Int.tdiv (Int.ofNat (k % 2 * 6534 + k % 11 * 1188 + k % 594 * 22)) 13068) = .ofNat ((k % 2 * 6534 + k % 11 * 1188 + k % 594 * 22) / 13068) := w64n ((k % 2 * 6534 + k % 11 * 1188 + k % 594 * 22) / 13068) (by omega)
  rw [e1, e2, e2', e3, e4, e4', e5, e6, e6', e7]

/-- What follows Cents. -/
def tailC (al c t n : Int) (L : List Int) (r6 : List Int × Int × Int) : Option Bool :=
  cond (r6.2.2 != 0) (some false) (cond (((r6.1.length : Nat) : Int) != n) (some false)
    ((f4_1 200 200 al c t r6.2.1 r6.2.1 ((r6.1.length : Nat) : Int) 0 L r6.1).bind fun o1 =>
      cond (o1.1 != 0) (cond (o1.2.2.2.2.1 == (w64 (Int.tdiv (w64 (o1.2.2.1 * o1.2.1)) o1.1))) (cond (decide (o1.2.2.2.1 ≥ 0)) (cond (decide (o1.2.2.2.1 < ((o1.2.2.2.2.2.length : Nat) : Int))) (some true) (some false)) (some false)) (some false)) none))

theorem f4_a (b : Int) : f4 200 false b = (f16 200 (Int.tmod (w64 b) 100001) [2, 4]).bind (tailC 4 3 (Int.tmod (w64 b) 100001) 2 [2, 4]) := by kernel_rfl
theorem f4_b (b : Int) : f4 200 true b = (f16 200 (Int.tmod (w64 b) 100001) [2, 11, 594]).bind (tailC 27 16 (Int.tmod (w64 b) 100001) 3 [2, 11, 594]) := by kernel_rfl

theorem tail_a (t x y z : Int) : tailC 4 3 t 2 [2, 4] ([x, y], z, 0) = cond (w64 (w64 (z + x) + y) == w64 (Int.tdiv (w64 (t * 3)) 4)) (cond (decide (z ≥ 0)) (cond (decide (z < 2)) (some true) (some false)) (some false)) (some false) := by kernel_rfl
theorem tail_b (t x y y' z : Int) : tailC 27 16 t 3 [2, 11, 594] ([x, y, y'], z, 0) = cond (w64 (w64 (w64 (z + x) + y) + y') == w64 (Int.tdiv (w64 (t * 16)) 27)) (cond (decide (z ≥ 0)) (cond (decide (z < 3)) (some true) (some false)) (some false)) (some false) := by kernel_rfl

theorem cents_t (k : Nat) (hk : k < 4294967296) : Int.tmod (w64 (Int.ofNat k)) 100001 = .ofNat (k % 100001) := by
  rw [w64n k (by omega)]
  rfl

theorem nn (x : Nat) : (Int.ofNat x ≥ 0) := Int.natCast_nonneg x

theorem f4_true_a (k : Nat) (hk : k < 4294967296) : f4 200 false (.ofNat k) = some true := by
  rw [f4_a, cents_t k hk]
  have ht : k % 100001 < 100001 := Nat.mod_lt _ (by omega)
  generalize k % 100001 = t at ht
  rw [f16_a t (by omega)]
  show tailC 4 3 (.ofNat t) 2 [2, 4] ([.ofNat (t / 2), .ofNat (t / 4)], .ofNat ((t % 2 * 4 + t % 4 * 2) / 8), 0) = some true
  rw [tail_a]
  generalize hz : (t % 2 * 4 + t % 4 * 2) / 8 = z
  have e1 : w64 (Int.ofNat z + Int.ofNat (t / 2)) = .ofNat (z + t / 2) := w64n (z + t / 2) (by omega)
  have e2 : w64 (Int.ofNat (z + t / 2) + Int.ofNat (t / 4)) = .ofNat (z + t / 2 + t / 4) := w64n (z + t / 2 + t / 4) (by omega)
  have e3 : w64 (Int.ofNat t * 3) = .ofNat (t * 3) := w64n (t * 3) (by omega)
  have e4 : w64 (Int.tdiv (Int.ofNat (t * 3)) 4) = .ofNat (t * 3 / 4) := w64n (t * 3 / 4) (by omega)
  have e5 : z + t / 2 + t / 4 = t * 3 / 4 := by omega
  have e6 : decide (Int.ofNat z ≥ 0) = true := decide_eq_true (nn z)
  have e7 : decide (Int.ofNat z < 2) = true := decide_eq_true (by show ((z : Nat) : Int) < 2; omega)
  rw [e1, e2, e3, e4, e5, e6, e7]
  have e8 : (Int.ofNat (t * 3 / 4) == Int.ofNat (t * 3 / 4)) = true := by simp
  rw [e8]
  rfl

theorem f4_true_b (k : Nat) (hk : k < 4294967296) : f4 200 true (.ofNat k) = some true := by
  rw [f4_b, cents_t k hk]
  have ht : k % 100001 < 100001 := Nat.mod_lt _ (by omega)
  generalize k % 100001 = t at ht
  rw [f16_b t (by omega)]
  show tailC 27 16 (.ofNat t) 3 [2, 11, 594] ([.ofNat (t / 2), .ofNat (t / 11), .ofNat (t / 594)], .ofNat ((t % 2 * 6534 + t % 11 * 1188 + t % 594 * 22) / 13068), 0) = some true
  rw [tail_b]
  generalize hz : (t % 2 * 6534 + t % 11 * 1188 + t % 594 * 22) / 13068 = z
  have e1 : w64 (Int.ofNat z + Int.ofNat (t / 2)) = .ofNat (z + t / 2) := w64n (z + t / 2) (by omega)
  have e2 : w64 (Int.ofNat (z + t / 2) + Int.ofNat (t / 11)) = .ofNat (z + t / 2 + t / 11) := w64n (z + t / 2 + t / 11) (by omega)
  have e2' : w64 (Int.ofNat (z + t / 2 + t / 11) + Int.ofNat (t / 594)) = .ofNat (z + t / 2 + t / 11 + t / 594) := w64n (z + t / 2 + t / 11 + t / 594) (by omega)
  have e3 : w64 (Int.ofNat t * 16) = .ofNat (t * 16) := w64n (t * 16) (by omega)
  have e4 : w64 (Int.tdiv (Int.ofNat (t * 16)) 27) = .ofNat (t * 16 / 27) := w64n (t * 16 / 27) (by omega)
  have e5 : z + t / 2 + t / 11 + t / 594 = t * 16 / 27 := by omega
  have e6 : decide (Int.ofNat z ≥ 0) = true := decide_eq_true (nn z)
  have e7 : decide (Int.ofNat z < 3) = true := decide_eq_true (by show ((z : Nat) : Int) < 3; omega)
  rw [e1, e2, e2', e3, e4, e5, e6, e7]
  have e8 : (Int.ofNat (t * 16 / 27) == Int.ofNat (t * 16 / 27)) = true := by simp
  rw [e8]
  rfl

end Go.Xm

namespace Go.Proofs.YtcpagojealaigaaGreatDoor.topChance
open Go.Xm Go.RowKit

theorem walk (a0 : Bool) (a1 : Int) (w : World) (hI : Go.Xm.seatInv w) (w1 : (Lit.int .u32 a1).wf = true) :
    Calls Tryz.prog 4 #[.bool a0, .int .u32 a1] w fun e w' => e = .returned (.bool true) ∧ Below w.heap.size w w' := by
  have h : 0 ≤ a1 ∧ a1 ≤ 4294967295 := by
    simp [Lit.wf, IntKind.min, IntKind.max, IntKind.signed, IntKind.bits] at w1
    omega
  obtain ⟨k, rfl⟩ := Int.eq_ofNat_of_zero_le h.1
  have hk : k < 4294967296 := by omega
  cases a0 with
  | false => exact f4_ok 200 false _ true (f4_true_a k hk) w hI
  | true => exact f4_ok 200 true _ true (f4_true_b k hk) w hI

end Go.Proofs.YtcpagojealaigaaGreatDoor.topChance

namespace Go.Proofs.YtcpagojealaigaaGreatDoor.topChance
open Go.ChangeShapes Go.WideShapes Go.ChangeAt Go.RowKit
open Go.ChangeMaps (open_string shut_string)
set_option linter.unusedVariables false

theorem own : ownKnob Tryz.prog.godebug = none := by kernel_rfl

set_option maxRecDepth 100000 in
theorem laid_met (os : Os) : laidMet Tryz.prog Rows.topChanceRow.laid ((Go.Xm.laidWorld os).forCall (fun _ _ => 0) ⟨#[], #[.bool false, .int .u32 0], []⟩).memory :=
  laidMet_of_run' 8 (by kernel_rfl) (by kernel_rfl)
set_option maxRecDepth 100000 in
theorem reads (os : Os) {H : Type} (enc : TypeId × Value → H) : ∃ places, DataW.whole enc Tryz.prog ((Go.Xm.laidWorld os).forCall (fun _ _ => 0) ⟨#[], #[.bool false, .int .u32 0], []⟩).memory Tryz.f4.params.toList Rows.topChanceSpec.vars false (#[.bool false, .int .u32 0] : Array Value).toList 8 = some ([.lit (.bool false), .lit (.int .u32 0)], [], places) :=
  ⟨[], by kernel_rfl⟩

set_option maxRecDepth 100000 in
theorem lifted (os : Os) (started : os.Started) (H : Type) (enc : TypeId × Value → H) (F : Stop.Interp) :
    ReturnsInHanded {} Tryz.checked os 4 .any ((OpenSpec.ofChange Rows.topChanceSpec).preRow enc Tryz.prog Tryz.f4 Rows.topChanceRow.domain false Rows.topChanceRow.laid) (((OpenSpec.ofChange Rows.topChanceSpec).at F).post enc Tryz.prog Tryz.f4 false true false false) := by
  obtain ⟨places, hx⟩ := reads os enc
  refine returnsInHanded_of_row (C := Tryz.checked) (s := OpenSpec.ofChange Rows.topChanceSpec) own started (by kernel_rfl) Tryz.func4
    (witness_row_at (enc := enc) (C := Tryz.checked) false (Go.Xm.laidWorld os) #[.bool false, .int .u32 0] rfl (by kernel_rfl) (by kernel_rfl) (by kernel_rfl)
      (OpenSpec.preRow_of_cond 8 hx (by kernel_rfl) (fun k hk => by cases hk) (by kernel_rfl) (laid_met os))) ?_
  intro W base args ds gs before hval0 hW _ _ _ hL _ _
  have hI : Go.Xm.seatInv W := Go.Xm.seatInv_of hL (by first | exact .head _ | exact .tail _ (.head _) | exact .tail _ (.tail _ (.head _)) | exact .tail _ (.tail _ (.tail _ (.head _)))) (by first | exact .head _ | exact .tail _ (.head _) | exact .tail _ (.tail _ (.head _)) | exact .tail _ (.tail _ (.tail _ (.head _)))) (by first | exact .head _ | exact .tail _ (.head _) | exact .tail _ (.tail _ (.head _)) | exact .tail _ (.tail _ (.tail _ (.head _))))
  have hval : ∀ (j : Nat) t v, Tryz.f4.params[j]? = some t → args[j]? = some v → Value.okWide Tryz.prog W .any base t v := hval0
  have hW' := hW
  obtain ⟨p, q, hA0, hV, rfl, hfz, hnd⟩ := hW
  have hA : DataW.TrodAll enc Tryz.prog W 0 (fun _ => true) true Tryz.f4.params.toList args.toList ds p := hA0
  rw [Tryz.params4] at hA hval
  obtain ⟨v0, vs0, d0, ds0, p0, q0, hargs, rfl, rfl, h0, r0⟩ := trodAll_cons hA
  obtain ⟨v1, vs1, d1, ds1, p1, q1, rfl, rfl, rfl, h1, r1⟩ := trodAll_cons r0
  obtain ⟨rfl, rfl, rfl⟩ := trodAll_nil r1
  obtain rfl : args = #[v0, v1] := by cases args; simp_all
  obtain ⟨rfl, rfl⟩ := trodVars_none hV
  obtain ⟨a0, rfl, rfl, rfl⟩ := open_bool Tryz.underlying4 (hval 0 4 v0 rfl rfl) h0
  obtain ⟨a1, rfl, rfl, rfl, w1⟩ := open_int Tryz.underlying39 (hval 1 39 v1 rfl rfl) h1
  clear hA0 hval0
  refine (walk a0 a1 W hI w1).mono fun e W' ⟨he, bel⟩ => ?_
  subst he
  exact ⟨_, rfl, _, _, _, [], _, [], hW', trodAll_mk1 (shut_bool Tryz.underlying4 _), (trodAll_cons_mk (shut_bool Tryz.underlying4 _) (trodAll_cons_mk (shut_int Tryz.underlying39 w1) trodAll_mk0)), rfl, bel.frame _, fun h => by cases h⟩

theorem over : Rows.TopChanceSaid :=
  OpenClaim.holds_of_cond 4 Tryz.f4 rfl rfl rfl rfl rfl rfl rfl ⟨rfl, rfl, rfl, rfl, rfl⟩ rfl rfl rfl rfl rfl (by kernel_rfl) Tryz.func4 (by kernel_rfl)
    (of_decide_eq_true (by kernel_rfl)) (by unfold Func.isWrapper; first | (rw [if_pos (by decide +kernel)]; kernel_rfl) | (rw [if_neg (by decide +kernel)]; exact ⟨rfl, rfl⟩))
    (fun os started H enc _ F => by rw [OpenClaim.pre_eq_preRow]; exact lifted os started H enc F)

theorem plain (f : FuncId) (fn : Func) (hf : Tryz.pinned.checked.prog.funcNamed Rows.topChanceRow.func = some f) (hfn : Tryz.pinned.checked.prog.funcs[f]? = some fn) :
    Rows.topChanceCard.stood.looks = Tryz.pinned.checked.prog.looks [] ∧ ∀ (j : Nat) t, fn.params[j]? = some t → Tryz.pinned.checked.prog.wantsStandIn t = false := by
  obtain rfl : f = 4 := Option.some.inj ((show Tryz.prog.funcNamed Rows.topChanceRow.func = some 4 by kernel_rfl).symm.trans hf) |>.symm
  obtain rfl : fn = Tryz.f4 := (Option.some.inj (Tryz.func4.symm.trans hfn)).symm
  refine ⟨by kernel_rfl, fun j t ht => ?_⟩
  have hall : (Tryz.f4.params.toList.all fun t => !Tryz.prog.wantsStandIn t) = true := by kernel_rfl
  have hm : (!Tryz.prog.wantsStandIn t) = true := List.all_eq_true.1 hall t (Array.mem_toList_iff.2 (Array.mem_of_getElem? ht))
  cases hw : Tryz.prog.wantsStandIn t with
  | false => exact hw
  | true => rw [hw] at hm; cases hm

/-- THE STATEMENT. -/
theorem proved : Rows.TopChanceCardSaid :=
  Claim7.holds_tied_plain_at .later [] _ _ _ _ over (fun _ h => by cases h) (by kernel_rfl) (fun _ h => by cases h) topChance_row_tie rfl ⟨rfl, rfl⟩ (by kernel_rfl) rfl plain (by kernel_rfl)
#print axioms proved
end Go.Proofs.YtcpagojealaigaaGreatDoor.topChance
