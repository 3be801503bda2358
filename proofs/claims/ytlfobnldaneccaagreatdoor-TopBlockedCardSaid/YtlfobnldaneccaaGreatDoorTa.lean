/- Tables of the library that lie in variables: what a row's list gives, and the numbers of trailing zeros by contract. Conditions: those that each theorem names. -/
import Derived.Test.YtlfobnldaneccaaGreatDoorMj
import Derived.Test.YtlfobnldaneccaaGreatDoorChecked
import Derived.Lib.LaidTab
import Derived.WalkKit
namespace Go.Xm
open Go.RowKit
def tz64Tab : List Int := [0, 1, 56, 2, 57, 49, 28, 3, 61, 58, 42, 50, 38, 29, 17, 4, 62, 47, 59, 36, 45, 43, 51, 22, 53, 39, 33, 30, 24, 18, 12, 5, 63, 55, 48, 27, 60, 41, 37, 16, 46, 35, 44, 21, 52, 32, 23, 11, 54, 26, 40, 15, 34, 20, 31, 10, 25, 14, 19, 9, 13, 8, 7, 6]
def tz32Tab : List Int := [0, 1, 28, 2, 29, 14, 24, 3, 30, 22, 20, 15, 25, 17, 4, 8, 31, 27, 13, 23, 21, 19, 16, 7, 26, 12, 18, 6, 11, 5, 10, 9]
def seatTabs (w : World) : Prop := (∀ i, i < 32 → w.cell? ⟨0, i, none⟩ = some (.int .u8 (tz32Tab.getD i 0))) ∧ ∀ i, i < 64 → w.cell? ⟨1, i, none⟩ = some (.int .u8 (tz64Tab.getD i 0))
def seatInv (w : World) : Prop := seatTabs w
theorem seatInv.tabs {w : World} (h : seatInv w) : seatTabs w := h
def seatG : Nat := Nat.max 0 1 + 1
theorem seatTabs_keeps (w w' : World) (h : seatTabs w) (hk : ∀ k, k < seatG → w'.heap[k]? = w.heap[k]?) : seatTabs w' :=
  ⟨fun i hi => by rw [← h.1 i hi]; exact World.cell?_of_block (w := w) (hk 0 (by decide)), fun i hi => by rw [← h.2 i hi]; exact World.cell?_of_block (w := w) (hk 1 (by decide))⟩
theorem seatInv_keeps (w w' : World) (h : seatInv w) (hk : ∀ k, k < seatG → w'.heap[k]? = w.heap[k]?) : seatInv w' :=
  seatTabs_keeps w w' h hk
theorem cell_lt {w : World} {g : Nat} {v : Value} (hm : w.cell? ⟨g, 0, none⟩ = some v) : g < w.heap.size := by
  unfold World.cell? at hm
  split at hm
  · rename_i h1
    exact (Array.getElem?_eq_some_iff.1 h1).1
  · cases hm
theorem seatInv_size {w : World} (h : seatInv w) : seatG ≤ w.heap.size := by
  have h1 := cell_lt (h.tabs.1 0 (by decide))
  have h2 := cell_lt (h.tabs.2 0 (by decide))
  unfold seatG
  exact Nat.succ_le_of_lt (Nat.max_lt.2 ⟨h1, h2⟩)
def tzIx (x : Int) : Int := IntKind.u64.wrap (bits BinOp.and IntKind.u64 x (IntKind.u64.wrap (-x)) * 285870213051353865) / 288230376151711744
def tzJx (x : Int) : Int := bits BinOp.and IntKind.u32 x (-x % 4294967296) * 125613361 % 4294967296 / 134217728
set_option maxHeartbeats 1000000 in
theorem tz64 {x : Int} (hx0 : (x == 0) = false) (idx k : Nat) (w : World) (key : IntKind.u64.wrap (bits BinOp.and IntKind.u64 x (IntKind.u64.wrap (-x)) * 285870213051353865) / 288230376151711744 = (idx : Int)) (hi : idx < 64) (hk : k < 64)
    (hcell : w.cell? ⟨1, idx, none⟩ = some (.int .u8 k)) :
    Calls Proofs.Tryz.prog 76 #[.int .u64 x] w fun e w' => e = .returned (.int .i64 k) ∧ w' = w := by
  refine calls_of_wp Proofs.Tryz.func76 rfl ?_
  simp only [Proofs.Tryz.ntmps76, List.size_toArray, List.length_cons, List.length_nil, Nat.reduceAdd, Nat.reduceSub, Array.replicate_succ, Array.replicate_zero, List.push_toArray, List.append_toArray, List.nil_append, List.cons_append]
  go_wp2_with (simp only [key])
  go_ret
  exact ⟨rfl, rfl⟩
set_option maxHeartbeats 1000000 in
theorem tz32 {x : Int} (hx0 : (x == 0) = false) (idx k : Nat) (w : World) (key : bits BinOp.and IntKind.u32 x (-x % 4294967296) * 125613361 % 4294967296 / 134217728 = (idx : Int)) (hi : idx < 32) (hk : k < 32)
    (hcell : w.cell? ⟨0, idx, none⟩ = some (.int .u8 k)) :
    Calls Proofs.Tryz.prog 39 #[.int .u32 x] w fun e w' => e = .returned (.int .i64 k) ∧ w' = w := by
  refine calls_of_wp Proofs.Tryz.func39 rfl ?_
  simp only [Proofs.Tryz.ntmps39, List.size_toArray, List.length_cons, List.length_nil, Nat.reduceAdd, Nat.reduceSub, Array.replicate_succ, Array.replicate_zero, List.push_toArray, List.append_toArray, List.nil_append, List.cons_append]
  go_wp2_with (simp only [key])
  go_ret
  exact ⟨rfl, rfl⟩
set_option maxHeartbeats 1000000 in
theorem tz {x : Int} (hx0 : (x == 0) = false) (idx k : Nat) (w : World) (key : IntKind.u64.wrap (bits BinOp.and IntKind.u64 x (IntKind.u64.wrap (-x)) * 285870213051353865) / 288230376151711744 = (idx : Int)) (hi : idx < 64) (hk : k < 64)
    (hcell : w.cell? ⟨1, idx, none⟩ = some (.int .u8 k)) :
    Calls Proofs.Tryz.prog 57 #[.int .u64 x] w fun e w' => e = .returned (.int .i64 k) ∧ w' = w := by
  have c := tz64 hx0 idx k w key hi hk hcell
  refine calls_of_wp Proofs.Tryz.func57 rfl ?_
  simp only [Proofs.Tryz.ntmps57, List.size_toArray, List.length_cons, List.length_nil, Nat.reduceAdd, Nat.reduceSub, Array.replicate_succ, Array.replicate_zero, List.push_toArray, List.append_toArray, List.nil_append, List.cons_append]
  go_wp2_with (go_at_call 76; refine c.mono ?_; rintro e w' ⟨rfl, rfl⟩)
  go_ret
  exact ⟨rfl, rfl⟩
theorem small64 : ∀ i, i < 64 → ∃ k : Nat, tz64Tab.getD i 0 = (k : Int) ∧ k < 64 := fun i hi => by
  have h : ∀ i : Fin 64, ∃ k : Fin 64, tz64Tab.getD i.val 0 = ((k.val : Nat) : Int) := by decide +kernel
  obtain ⟨k, hk⟩ := h ⟨i, hi⟩
  exact ⟨k.val, hk, k.isLt⟩
theorem small32 : ∀ i, i < 32 → ∃ k : Nat, tz32Tab.getD i 0 = (k : Int) ∧ k < 32 := fun i hi => by
  have h : ∀ i : Fin 32, ∃ k : Fin 32, tz32Tab.getD i.val 0 = ((k.val : Nat) : Int) := by decide +kernel
  obtain ⟨k, hk⟩ := h ⟨i, hi⟩
  exact ⟨k.val, hk, k.isLt⟩
def pTz (args : List Value) : Option Value :=
  match args with
  | [.int .u64 x] => match (!(x == 0) && (decide (0 ≤ tzIx x) && decide (tzIx x < 64))) with
    | true => some (.int .i64 (tz64Tab.getD (tzIx x).toNat 0))
    | false => none
  | _ => none
def pTz32 (args : List Value) : Option Value :=
  match args with
  | [.int .u32 x] => match (!(x == 0) && (decide (0 ≤ tzJx x) && decide (tzJx x < 32))) with
    | true => some (.int .i64 (tz32Tab.getD (tzJx x).toNat 0))
    | false => none
  | _ => none
def tzPrim (k : Nat) : Option (List Value → Option Value) :=
  match Nat.beq k 57 with
  | true => some pTz
  | false => match Nat.beq k 39 with
    | true => some pTz32
    | false => none
theorem tzPrim_ok : ∀ k g, tzPrim k = some g → (∃ F, Proofs.Tryz.prog.funcs[k]? = some F ∧ (F.name == "runtime.NumGoroutine") = false ∧ F.body.isSome = true) ∧
    ∀ args v, g args = some v → args.all plain = true ∧ plain v = true ∧ ∀ w, seatInv w → Calls Proofs.Tryz.prog k args.toArray w (fun e w' => e = .returned v ∧ Below w.heap.size w w') := by
  intro k g h
  unfold tzPrim at h
  split at h
  · rename_i hk
    have hk := Nat.eq_of_beq_eq_true hk
    subst hk
    cases h
    refine ⟨⟨_, Proofs.Tryz.func57, by kernel_rfl, by kernel_rfl⟩, ?_⟩
    intro args v hv
    unfold pTz at hv
    split at hv
    · rename_i x
      split at hv
      · rename_i hs
        simp only [Bool.and_eq_true, Bool.not_eq_true', decide_eq_true_eq] at hs
        cases hv
        refine ⟨rfl, rfl, fun w hI => ?_⟩
        obtain ⟨hs0, hs1, hs2⟩ := hs
        obtain ⟨k, hk, hk2⟩ := small64 (tzIx x).toNat (by omega)
        have hc := hI.tabs.2 (tzIx x).toNat (by omega)
        rw [hk] at hc ⊢
        exact (tz hs0 (tzIx x).toNat k w (by show tzIx x = _; omega) (by omega) hk2 hc).mono (fun e w' ⟨he, hw⟩ => ⟨he, hw ▸ Below.refl _ _⟩)
      · cases hv
    · cases hv
  · split at h
    · rename_i hk
      have hk := Nat.eq_of_beq_eq_true hk
      subst hk
      cases h
      refine ⟨⟨_, Proofs.Tryz.func39, by kernel_rfl, by kernel_rfl⟩, ?_⟩
      intro args v hv
      unfold pTz32 at hv
      split at hv
      · rename_i x
        split at hv
        · rename_i hs
          simp only [Bool.and_eq_true, Bool.not_eq_true', decide_eq_true_eq] at hs
          cases hv
          refine ⟨rfl, rfl, fun w hI => ?_⟩
          obtain ⟨hs0, hs1, hs2⟩ := hs
          obtain ⟨k, hk, hk2⟩ := small32 (tzJx x).toNat (by omega)
          have hc := hI.tabs.1 (tzJx x).toNat (by omega)
          rw [hk] at hc ⊢
          exact (tz32 hs0 (tzJx x).toNat k w (by show tzJx x = _; omega) (by omega) hk2 hc).mono (fun e w' ⟨he, hw⟩ => ⟨he, hw ▸ Below.refl _ _⟩)
        · cases hv
      · cases hv
    · cases h
end Go.Xm
