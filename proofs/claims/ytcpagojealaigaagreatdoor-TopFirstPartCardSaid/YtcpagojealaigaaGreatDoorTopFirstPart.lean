/-
  TopFirstPart: the statement, out of the walk that is proved in another text: the arguments opened and shut, the frame. Conditions: those of the given statement.
-/
import Derived.Test.YtcpagojealaigaaGreatDoorRows
import Derived.Test.YtcpagojealaigaaGreatDoorFf
import Derived.WalkKit
import Derived.ProofKit
import Derived.OpenShut
import Derived.ShutString
import Derived.ChangeOld
import Derived.Below
import Derived.HandedShaped
import Derived.Shelf.Vars
import Derived.Test.YtcpagojealaigaaGreatDoorCards
import Derived.Test.YtcpagojealaigaaGreatDoorTie
import Derived.Deep.DeepHandedRow
import Derived.Lib.LaidTab
namespace Go.Xm
open Go.RowKit
set_option maxRecDepth 100000
set_option linter.unusedVariables false
set_option linter.unusedSimpArgs false

theorem w64_id {x : Int} (h1 : -9223372036854775808 ≤ x) (h2 : x ≤ 9223372036854775807) : w64 x = x := IntWalk.i64_in _ ⟨h1, h2⟩
theorem w64n (x : Nat) (h : x ≤ 9223372036854775807) : w64 (Int.ofNat x) = Int.ofNat x := w64_id (Int.le_trans (by decide) (Int.natCast_nonneg x)) (by show ((x : Nat) : Int) ≤ _; omega)

def okB (x : Option Bool) : Bool := match x with
  | some true => true
  | _ => false

theorem okB_eq {x : Option Bool} (h : okB x = true) : x = some true := by
  unfold okB at h
  split at h
  · rfl
  · cases h

/-- The number below, and the one above, by numbers. -/
def belowN (b : Int) : Int := w64 (2 + Int.tmod (w64 b) 29)
def aboveN (a b : Int) : Int := w64 (1 + Int.tmod (w64 a) (w64 (belowN b - 1)))

theorem f3_cong {a a' b b' : Int} (h1 : belowN b = belowN b') (h2 : aboveN a b = aboveN a' b') : f3 200 a b = f3 200 a' b' := by
  unfold aboveN at h2
  unfold belowN at h1 h2
  unfold f3
  rw [h2, h1]

theorem below_ok (k : Nat) (hk : k < 256) : belowN (.ofNat k) = .ofNat (k % 29 + 2) := by
  unfold belowN
  rw [w64n k (by omega)]
  have : 2 + Int.tmod (Int.ofNat k) 29 = Int.ofNat (2 + k % 29) := rfl
  rw [this, w64n _ (by omega), Nat.add_comm]

theorem above_ok (j k : Nat) (hj : j < 256) (hk : k < 256) : aboveN (.ofNat j) (.ofNat k) = .ofNat (j % (k % 29 + 1) + 1) := by
  unfold aboveN
  rw [below_ok k hk, w64n j (by omega)]
  have e : Int.ofNat (k % 29 + 2) - 1 = Int.ofNat (k % 29 + 1) := by
    show ((k % 29 + 2 : Nat) : Int) - 1 = ((k % 29 + 1 : Nat) : Int)
    omega
  rw [e, w64n (k % 29 + 1) (by omega)]
  have e2 : 1 + Int.tmod (Int.ofNat j) (Int.ofNat (k % 29 + 1)) = Int.ofNat (1 + j % (k % 29 + 1)) := rfl
  have : j % (k % 29 + 1) < k % 29 + 1 := Nat.mod_lt _ (by omega)
  rw [e2, w64n _ (by omega), Nat.add_comm]

noncomputable def firT (k : Nat) : Bool := (List.range (k + 1)).all fun j => okB (f3 200 (.ofNat j) (.ofNat k))

theorem firT_0 : firT 0 = true := by kernel_rfl
theorem firT_1 : firT 1 = true := by kernel_rfl
theorem firT_2 : firT 2 = true := by kernel_rfl
theorem firT_3 : firT 3 = true := by kernel_rfl
theorem firT_4 : firT 4 = true := by kernel_rfl
theorem firT_5 : firT 5 = true := by kernel_rfl
theorem firT_6 : firT 6 = true := by kernel_rfl
theorem firT_7 : firT 7 = true := by kernel_rfl
theorem firT_8 : firT 8 = true := by kernel_rfl
theorem firT_9 : firT 9 = true := by kernel_rfl
theorem firT_10 : firT 10 = true := by kernel_rfl
theorem firT_11 : firT 11 = true := by kernel_rfl
theorem firT_12 : firT 12 = true := by kernel_rfl
theorem firT_13 : firT 13 = true := by kernel_rfl
theorem firT_14 : firT 14 = true := by kernel_rfl
theorem firT_15 : firT 15 = true := by kernel_rfl
theorem firT_16 : firT 16 = true := by kernel_rfl
theorem firT_17 : firT 17 = true := by kernel_rfl
theorem firT_18 : firT 18 = true := by kernel_rfl
theorem firT_19 : firT 19 = true := by kernel_rfl
theorem firT_20 : firT 20 = true := by kernel_rfl
theorem firT_21 : firT 21 = true := by kernel_rfl
theorem firT_22 : firT 22 = true := by kernel_rfl
theorem firT_23 : firT 23 = true := by kernel_rfl
theorem firT_24 : firT 24 = true := by kernel_rfl
theorem firT_25 : firT 25 = true := by kernel_rfl
theorem firT_26 : firT 26 = true := by kernel_rfl
theorem firT_27 : firT 27 = true := by kernel_rfl
theorem firT_28 : firT 28 = true := by kernel_rfl

theorem fir_all (k : Nat) (h : k < 29) : firT k = true := by
  have : k = 0 ∨ k = 1 ∨ k = 2 ∨ k = 3 ∨ k = 4 ∨ k = 5 ∨ k = 6 ∨ k = 7 ∨ k = 8 ∨ k = 9 ∨ k = 10 ∨ k = 11 ∨ k = 12 ∨ k = 13 ∨ k = 14 ∨ k = 15 ∨ k = 16 ∨ k = 17 ∨ k = 18 ∨ k = 19 ∨ k = 20 ∨ k = 21 ∨ k = 22 ∨ k = 23 ∨ k = 24 ∨ k = 25 ∨ k = 26 ∨ k = 27 ∨ k = 28 := by omega
  rcases this with rfl | rfl | rfl | rfl | rfl | rfl | rfl | rfl | rfl | rfl | rfl | rfl | rfl | rfl | rfl | rfl | rfl | rfl | rfl | rfl | rfl | rfl | rfl | rfl | rfl | rfl | rfl | rfl | rfl
  · exact firT_0
  · exact firT_1
  · exact firT_2
  · exact firT_3
  · exact firT_4
  · exact firT_5
  · exact firT_6
  · exact firT_7
  · exact firT_8
  · exact firT_9
  · exact firT_10
  · exact firT_11
  · exact firT_12
  · exact firT_13
  · exact firT_14
  · exact firT_15
  · exact firT_16
  · exact firT_17
  · exact firT_18
  · exact firT_19
  · exact firT_20
  · exact firT_21
  · exact firT_22
  · exact firT_23
  · exact firT_24
  · exact firT_25
  · exact firT_26
  · exact firT_27
  · exact firT_28

theorem f3_true (j k : Nat) (hj : j < 256) (hk : k < 256) : f3 200 (.ofNat j) (.ofNat k) = some true := by
  have hk' : k % 29 < 29 := Nat.mod_lt _ (by omega)
  have hj' : j % (k % 29 + 1) < k % 29 + 1 := Nat.mod_lt _ (by omega)
  refine (f3_cong (a' := .ofNat (j % (k % 29 + 1))) (b' := .ofNat (k % 29)) ?_ ?_).trans (okB_eq (List.all_eq_true.1 (fir_all _ hk') _ (List.mem_range.2 hj')))
  · rw [below_ok k hk, below_ok (k % 29) (by omega), Nat.mod_mod]
  · rw [above_ok j k hj hk, above_ok _ (k % 29) (by omega) (by omega), Nat.mod_mod, Nat.mod_mod]

end Go.Xm

namespace Go.Proofs.YtcpagojealaigaaGreatDoor.topFirstPart
open Go.Xm Go.RowKit

theorem byteN {a : Int} (h : (Lit.int .u8 a).wf = true) : ∃ k : Nat, a = .ofNat k ∧ k < 256 := by
  have : 0 ≤ a ∧ a ≤ 255 := by
    simp [Lit.wf, IntKind.min, IntKind.max, IntKind.signed, IntKind.bits] at h
    omega
  obtain ⟨k, rfl⟩ := Int.eq_ofNat_of_zero_le this.1
  exact ⟨k, rfl, by omega⟩

theorem walk (a0 : Int) (a1 : Int) (w : World) (hI : Go.Xm.seatInv w) (w0 : (Lit.int .u8 a0).wf = true) (w1 : (Lit.int .u8 a1).wf = true) :
    Calls Tryz.prog 3 #[.int .u8 a0, .int .u8 a1] w fun e w' => e = .returned (.bool true) ∧ Below w.heap.size w w' := by
  obtain ⟨j, rfl, hj⟩ := byteN w0
  obtain ⟨k, rfl, hk⟩ := byteN w1
  exact f3_ok 200 _ _ true (f3_true j k hj hk) w hI

end Go.Proofs.YtcpagojealaigaaGreatDoor.topFirstPart

namespace Go.Proofs.YtcpagojealaigaaGreatDoor.topFirstPart
open Go.ChangeShapes Go.WideShapes Go.ChangeAt Go.RowKit
open Go.ChangeMaps (open_string shut_string)
set_option linter.unusedVariables false

theorem own : ownKnob Tryz.prog.godebug = none := by kernel_rfl

set_option maxRecDepth 100000 in
theorem laid_met (os : Os) : laidMet Tryz.prog Rows.topFirstPartRow.laid ((Go.Xm.laidWorld os).forCall (fun _ _ => 0) ⟨#[], #[.int .u8 0, .int .u8 0], []⟩).memory :=
  laidMet_of_run' 8 (by kernel_rfl) (by kernel_rfl)
set_option maxRecDepth 100000 in
theorem reads (os : Os) {H : Type} (enc : TypeId × Value → H) : ∃ places, DataW.whole enc Tryz.prog ((Go.Xm.laidWorld os).forCall (fun _ _ => 0) ⟨#[], #[.int .u8 0, .int .u8 0], []⟩).memory Tryz.f3.params.toList Rows.topFirstPartSpec.vars false (#[.int .u8 0, .int .u8 0] : Array Value).toList 8 = some ([.lit (.int .u8 0), .lit (.int .u8 0)], [], places) :=
  ⟨[], by kernel_rfl⟩

set_option maxRecDepth 100000 in
theorem lifted (os : Os) (started : os.Started) (H : Type) (enc : TypeId × Value → H) (F : Stop.Interp) :
    ReturnsInHanded {} Tryz.checked os 3 .any ((OpenSpec.ofChange Rows.topFirstPartSpec).preRow enc Tryz.prog Tryz.f3 Rows.topFirstPartRow.domain false Rows.topFirstPartRow.laid) (((OpenSpec.ofChange Rows.topFirstPartSpec).at F).post enc Tryz.prog Tryz.f3 false true false false) := by
  obtain ⟨places, hx⟩ := reads os enc
  refine returnsInHanded_of_row (C := Tryz.checked) (s := OpenSpec.ofChange Rows.topFirstPartSpec) own started (by kernel_rfl) Tryz.func3
    (witness_row_at (enc := enc) (C := Tryz.checked) false (Go.Xm.laidWorld os) #[.int .u8 0, .int .u8 0] rfl (by kernel_rfl) (by kernel_rfl) (by kernel_rfl)
      (OpenSpec.preRow_of_cond 8 hx (by kernel_rfl) (fun k hk => by cases hk) (by kernel_rfl) (laid_met os))) ?_
  intro W base args ds gs before hval0 hW _ _ _ hL _ _
  have hI : Go.Xm.seatInv W := Go.Xm.seatInv_of hL (by first | exact .head _ | exact .tail _ (.head _) | exact .tail _ (.tail _ (.head _)) | exact .tail _ (.tail _ (.tail _ (.head _)))) (by first | exact .head _ | exact .tail _ (.head _) | exact .tail _ (.tail _ (.head _)) | exact .tail _ (.tail _ (.tail _ (.head _)))) (by first | exact .head _ | exact .tail _ (.head _) | exact .tail _ (.tail _ (.head _)) | exact .tail _ (.tail _ (.tail _ (.head _))))
  have hval : ∀ (j : Nat) t v, Tryz.f3.params[j]? = some t → args[j]? = some v → Value.okWide Tryz.prog W .any base t v := hval0
  have hW' := hW
  obtain ⟨p, q, hA0, hV, rfl, hfz, hnd⟩ := hW
  have hA : DataW.TrodAll enc Tryz.prog W 0 (fun _ => true) true Tryz.f3.params.toList args.toList ds p := hA0
  rw [Tryz.params3] at hA hval
  obtain ⟨v0, vs0, d0, ds0, p0, q0, hargs, rfl, rfl, h0, r0⟩ := trodAll_cons hA
  obtain ⟨v1, vs1, d1, ds1, p1, q1, rfl, rfl, rfl, h1, r1⟩ := trodAll_cons r0
  obtain ⟨rfl, rfl, rfl⟩ := trodAll_nil r1
  obtain rfl : args = #[v0, v1] := by cases args; simp_all
  obtain ⟨rfl, rfl⟩ := trodVars_none hV
  obtain ⟨a0, rfl, rfl, rfl, w0⟩ := open_int Tryz.underlying5 (hval 0 5 v0 rfl rfl) h0
  obtain ⟨a1, rfl, rfl, rfl, w1⟩ := open_int Tryz.underlying5 (hval 1 5 v1 rfl rfl) h1
  clear hA0 hval0
  refine (walk a0 a1 W hI w0 w1).mono fun e W' ⟨he, bel⟩ => ?_
  subst he
  exact ⟨_, rfl, _, _, _, [], _, [], hW', trodAll_mk1 (shut_bool Tryz.underlying4 _), (trodAll_cons_mk (shut_int Tryz.underlying5 w0) (trodAll_cons_mk (shut_int Tryz.underlying5 w1) trodAll_mk0)), rfl, bel.frame _, fun h => by cases h⟩

theorem over : Rows.TopFirstPartSaid :=
  OpenClaim.holds_of_cond 3 Tryz.f3 rfl rfl rfl rfl rfl rfl rfl ⟨rfl, rfl, rfl, rfl, rfl⟩ rfl rfl rfl rfl rfl (by kernel_rfl) Tryz.func3 (by kernel_rfl)
    (of_decide_eq_true (by kernel_rfl)) (by unfold Func.isWrapper; first | (rw [if_pos (by decide +kernel)]; kernel_rfl) | (rw [if_neg (by decide +kernel)]; exact ⟨rfl, rfl⟩))
    (fun os started H enc _ F => by rw [OpenClaim.pre_eq_preRow]; exact lifted os started H enc F)

theorem plain (f : FuncId) (fn : Func) (hf : Tryz.pinned.checked.prog.funcNamed Rows.topFirstPartRow.func = some f) (hfn : Tryz.pinned.checked.prog.funcs[f]? = some fn) :
    Rows.topFirstPartCard.stood.looks = Tryz.pinned.checked.prog.looks [] ∧ ∀ (j : Nat) t, fn.params[j]? = some t → Tryz.pinned.checked.prog.wantsStandIn t = false := by
  obtain rfl : f = 3 := Option.some.inj ((show Tryz.prog.funcNamed Rows.topFirstPartRow.func = some 3 by kernel_rfl).symm.trans hf) |>.symm
  obtain rfl : fn = Tryz.f3 := (Option.some.inj (Tryz.func3.symm.trans hfn)).symm
  refine ⟨by kernel_rfl, fun j t ht => ?_⟩
  have hall : (Tryz.f3.params.toList.all fun t => !Tryz.prog.wantsStandIn t) = true := by kernel_rfl
  have hm : (!Tryz.prog.wantsStandIn t) = true := List.all_eq_true.1 hall t (Array.mem_toList_iff.2 (Array.mem_of_getElem? ht))
  cases hw : Tryz.prog.wantsStandIn t with
  | false => exact hw
  | true => rw [hw] at hm; cases hm

/-- THE STATEMENT. -/
theorem proved : Rows.TopFirstPartCardSaid :=
  Claim7.holds_tied_plain_at .later [] _ _ _ _ over (fun _ h => by cases h) (by kernel_rfl) (fun _ h => by cases h) topFirstPart_row_tie rfl ⟨rfl, rfl⟩ (by kernel_rfl) rfl plain (by kernel_rfl)
#print axioms proved
end Go.Proofs.YtcpagojealaigaaGreatDoor.topFirstPart
