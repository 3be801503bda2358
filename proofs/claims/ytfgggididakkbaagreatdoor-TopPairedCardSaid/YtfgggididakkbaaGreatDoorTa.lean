/- Tables of the library that lie in variables: what a row's list gives, and the numbers of trailing zeros by contract. Conditions: those that each theorem names. -/
import Derived.Test.YtfgggididakkbaaGreatDoorMj
import Derived.Test.YtfgggididakkbaaGreatDoorChecked
import Derived.Lib.LaidTab
import Derived.WalkKit
namespace Go.Xm
open Go.RowKit

theorem laidVars_tab {P : Program} {W : World} {name : String} {k : IntKind} {zs : List Int} {g : Nat} {t e : TypeId} {n : Nat}
    (hg : P.globalNamed name = some g) (hty : (P.globals[g]?).map (·.type) = some t) (ht : P.underlying t = some (.array n e)) (he : P.underlying e = some (.int k)) (hce : P.cellsOf e = 1) (hct : P.cellsOf t = n) :
    ∀ {l : List (String × DataW Unit)} {ps : List MemPlace}, DataW.LaidVars P W l ps → (name, Lib.tabData k zs) ∈ l → Lib.TabIs P W name k zs
  | [], _, _, h => by cases h
  | (m, d) :: r, ps, hl, hm => by
    obtain ⟨g', t', cs, fuel, p, q, hg', ht', hvar, hd, hr, _⟩ := hl
    rcases List.mem_cons.1 hm with e1 | e1
    · obtain ⟨rfl, rfl⟩ := Prod.mk.inj e1
      obtain rfl := Option.some.inj (hg.symm.trans hg')
      obtain rfl := Option.some.inj (hty.symm.trans ht')
      unfold Lib.TabIs
      rw [hvar, ← Lib.cells_of_tab ht he hce hct hd]
    · exact laidVars_tab hg hty ht he hce hct hr e1

def tz64Tab : List Int := [0, 1, 56, 2, 57, 49, 28, 3, 61, 58, 42, 50, 38, 29, 17, 4, 62, 47, 59, 36, 45, 43, 51, 22, 53, 39, 33, 30, 24, 18, 12, 5, 63, 55, 48, 27, 60, 41, 37, 16, 46, 35, 44, 21, 52, 32, 23, 11, 54, 26, 40, 15, 34, 20, 31, 10, 25, 14, 19, 9, 13, 8, 7, 6]
def tz32Tab : List Int := [0, 1, 28, 2, 29, 14, 24, 3, 30, 22, 20, 15, 25, 17, 4, 8, 31, 27, 13, 23, 21, 19, 16, 7, 26, 12, 18, 6, 11, 5, 10, 9]

/-- The tables lie in their variables. -/
def seatTabs (w : World) : Prop := (∀ i, i < 32 → w.cell? ⟨0, i, none⟩ = some (.int .u8 (tz32Tab.getD i 0))) ∧ ∀ i, i < 64 → w.cell? ⟨1, i, none⟩ = some (.int .u8 (tz64Tab.getD i 0))
def seatInv (w : World) : Prop := seatTabs w
theorem seatInv.tabs {w : World} (h : seatInv w) : seatTabs w := h

def seatG : Nat := Nat.max 0 1 + 1

theorem seatTabs_keeps (w w' : World) (h : seatTabs w) (hk : ∀ k, k < seatG → w'.heap[k]? = w.heap[k]?) : seatTabs w' :=
  ⟨fun i hi => by rw [← h.1 i hi]; exact World.cell?_of_block (w := w) (hk 0 (by decide)), fun i hi => by rw [← h.2 i hi]; exact World.cell?_of_block (w := w) (hk 1 (by decide))⟩
theorem seatInv_keeps (w w' : World) (h : seatInv w) (hk : ∀ k, k < seatG → w'.heap[k]? = w.heap[k]?) : seatInv w' :=
  seatTabs_keeps w w' h hk

theorem cell_lt {w : World} {g : Nat} {v : Value} (hm : w.cell? ⟨g, 0, none⟩ = some v) : g < w.heap.size := by
  unfold World.cell? at hm
  split at hm
  · rename_i h1
    exact (Array.getElem?_eq_some_iff.1 h1).1
  · cases hm

theorem seatInv_size {w : World} (h : seatInv w) : seatG ≤ w.heap.size := by
  have h1 := cell_lt (h.tabs.1 0 (by decide))
  have h2 := cell_lt (h.tabs.2 0 (by decide))
  unfold seatG
  exact Nat.succ_le_of_lt (Nat.max_lt.2 ⟨h1, h2⟩)

theorem seatTabs_of {W : World} {l : List (String × DataW Unit)} (h : laidMet Proofs.Tryz.prog l W) (h32 : ("math/bits.deBruijn32tab", Lib.tabData .u8 tz32Tab) ∈ l) (h64 : ("math/bits.deBruijn64tab", Lib.tabData .u8 tz64Tab) ∈ l) : seatTabs W := by
  obtain ⟨ps, hl, _, _⟩ := h
  have g32 : Proofs.Tryz.prog.globalNamed "math/bits.deBruijn32tab" = some 0 := by kernel_rfl
  have g64 : Proofs.Tryz.prog.globalNamed "math/bits.deBruijn64tab" = some 1 := by kernel_rfl
  have t32 := laidVars_tab (t := 119) (e := 5) (n := 32) g32 (by kernel_rfl) (by kernel_rfl) (by kernel_rfl) (by kernel_rfl) (by kernel_rfl) hl h32
  have t64 := laidVars_tab (t := 120) (e := 5) (n := 64) g64 (by kernel_rfl) (by kernel_rfl) (by kernel_rfl) (by kernel_rfl) (by kernel_rfl) hl h64
  exact ⟨fun i hi => t32.cell g32 i hi, fun i hi => t64.cell g64 i hi⟩

theorem seatInv_of {W : World} {l : List (String × DataW Unit)} (h : laidMet Proofs.Tryz.prog l W) (h32 : ("math/bits.deBruijn32tab", Lib.tabData .u8 tz32Tab) ∈ l) (h64 : ("math/bits.deBruijn64tab", Lib.tabData .u8 tz64Tab) ∈ l) : seatInv W := seatTabs_of h h32 h64

/-- A world in which the tables lie. -/
noncomputable def putTab (tab : List Int) : Obj → Obj
  | .cells _ t frozen => .cells (tab.map (Value.int .u8)).toArray t frozen
  | o => o
noncomputable def laidWorld (os : Go.Os) : World :=
  { World.holding Proofs.Tryz.prog os ⟨#[], #[], []⟩ with heap := ((World.holding Proofs.Tryz.prog os ⟨#[], #[], []⟩).heap.modify 0 (putTab tz32Tab)).modify 1 (putTab tz64Tab) }

/-! ### Trailing zeros -/
def tzIx (x : Int) : Int := IntKind.u64.wrap (bits BinOp.and IntKind.u64 x (IntKind.u64.wrap (-x)) * 285870213051353865) / 288230376151711744
def tzJx (x : Int) : Int := bits BinOp.and IntKind.u32 x (-x % 4294967296) * 125613361 % 4294967296 / 134217728

set_option maxHeartbeats 1000000 in
theorem tz64 {x : Int} (hx0 : (x == 0) = false) (idx k : Nat) (w : World) (key : IntKind.u64.wrap (bits BinOp.and IntKind.u64 x (IntKind.u64.wrap (-x)) * 285870213051353865) / 288230376151711744 = (idx : Int)) (hi : idx < 64) (hk : k < 64)
    (hcell : w.cell? ⟨1, idx, none⟩ = some (.int .u8 k)) :
    Calls Proofs.Tryz.prog 59 #[.int .u64 x] w fun e w' => e = .returned (.int .i64 k) ∧ w' = w := by
  refine calls_of_wp Proofs.Tryz.func59 rfl ?_
  simp only [Proofs.Tryz.ntmps59, List.size_toArray, List.length_cons, List.length_nil, Nat.reduceAdd, Nat.reduceSub, Array.replicate_succ, Array.replicate_zero, List.push_toArray, List.append_toArray, List.nil_append, List.cons_append]
  go_wp2_with (simp only [key])
  go_ret
  exact ⟨rfl, rfl⟩

set_option maxHeartbeats 1000000 in
theorem tz32 {x : Int} (hx0 : (x == 0) = false) (idx k : Nat) (w : World) (key : bits BinOp.and IntKind.u32 x (-x % 4294967296) * 125613361 % 4294967296 / 134217728 = (idx : Int)) (hi : idx < 32) (hk : k < 32)
    (hcell : w.cell? ⟨0, idx, none⟩ = some (.int .u8 k)) :
    Calls Proofs.Tryz.prog 58 #[.int .u32 x] w fun e w' => e = .returned (.int .i64 k) ∧ w' = w := by
  refine calls_of_wp Proofs.Tryz.func58 rfl ?_
  simp only [Proofs.Tryz.ntmps58, List.size_toArray, List.length_cons, List.length_nil, Nat.reduceAdd, Nat.reduceSub, Array.replicate_succ, Array.replicate_zero, List.push_toArray, List.append_toArray, List.nil_append, List.cons_append]
  go_wp2_with (simp only [key])
  go_ret
  exact ⟨rfl, rfl⟩

set_option maxHeartbeats 1000000 in
theorem tz {x : Int} (hx0 : (x == 0) = false) (idx k : Nat) (w : World) (key : IntKind.u64.wrap (bits BinOp.and IntKind.u64 x (IntKind.u64.wrap (-x)) * 285870213051353865) / 288230376151711744 = (idx : Int)) (hi : idx < 64) (hk : k < 64)
    (hcell : w.cell? ⟨1, idx, none⟩ = some (.int .u8 k)) :
    Calls Proofs.Tryz.prog 46 #[.int .u64 x] w fun e w' => e = .returned (.int .i64 k) ∧ w' = w := by
  have c := tz64 hx0 idx k w key hi hk hcell
  refine calls_of_wp Proofs.Tryz.func46 rfl ?_
  simp only [Proofs.Tryz.ntmps46, List.size_toArray, List.length_cons, List.length_nil, Nat.reduceAdd, Nat.reduceSub, Array.replicate_succ, Array.replicate_zero, List.push_toArray, List.append_toArray, List.nil_append, List.cons_append]
  go_wp2_with (go_at_call 59; refine c.mono ?_; rintro e w' ⟨rfl, rfl⟩)
  go_ret
  exact ⟨rfl, rfl⟩

theorem small64 : ∀ i, i < 64 → ∃ k : Nat, tz64Tab.getD i 0 = (k : Int) ∧ k < 64 := fun i hi => by
  have h : ∀ i : Fin 64, ∃ k : Fin 64, tz64Tab.getD i.val 0 = ((k.val : Nat) : Int) := by decide +kernel
  obtain ⟨k, hk⟩ := h ⟨i, hi⟩
  exact ⟨k.val, hk, k.isLt⟩
theorem small32 : ∀ i, i < 32 → ∃ k : Nat, tz32Tab.getD i 0 = (k : Int) ∧ k < 32 := fun i hi => by
  have h : ∀ i : Fin 32, ∃ k : Fin 32, tz32Tab.getD i.val 0 = ((k.val : Nat) : Int) := by decide +kernel
  obtain ⟨k, hk⟩ := h ⟨i, hi⟩
  exact ⟨k.val, hk, k.isLt⟩

def pTz (args : List Value) : Option Value :=
  match args with
  | [.int .u64 x] => match (!(x == 0) && (decide (0 ≤ tzIx x) && decide (tzIx x < 64))) with
    | true => some (.int .i64 (tz64Tab.getD (tzIx x).toNat 0))
    | false => none
  | _ => none
def pTz32 (args : List Value) : Option Value :=
  match args with
  | [.int .u32 x] => match (!(x == 0) && (decide (0 ≤ tzJx x) && decide (tzJx x < 32))) with
    | true => some (.int .i64 (tz32Tab.getD (tzJx x).toNat 0))
    | false => none
  | _ => none

def tzPrim (k : Nat) : Option (List Value → Option Value) :=
  match Nat.beq k 46 with
  | true => some pTz
  | false => match Nat.beq k 58 with
    | true => some pTz32
    | false => none

theorem tzPrim_ok : ∀ k g, tzPrim k = some g → (∃ F, Proofs.Tryz.prog.funcs[k]? = some F ∧ (F.name == "runtime.NumGoroutine") = false ∧ F.body.isSome = true) ∧
    ∀ args v, g args = some v → args.all plain = true ∧ plain v = true ∧ ∀ w, seatInv w → Calls Proofs.Tryz.prog k args.toArray w (fun e w' => e = .returned v ∧ Below w.heap.size w w') := by
  intro k g h
  unfold tzPrim at h
  split at h
  · rename_i hk
    have hk := Nat.eq_of_beq_eq_true hk
    subst hk
    cases h
    refine ⟨⟨_, Proofs.Tryz.func46, by kernel_rfl, by kernel_rfl⟩, ?_⟩
    intro args v hv
    unfold pTz at hv
    split at hv
    · rename_i x
      split at hv
      · rename_i hs
        simp only [Bool.and_eq_true, Bool.not_eq_true', decide_eq_true_eq] at hs
        cases hv
        refine ⟨rfl, rfl, fun w hI => ?_⟩
        obtain ⟨hs0, hs1, hs2⟩ := hs
        obtain ⟨k, hk, hk2⟩ := small64 (tzIx x).toNat (by omega)
        have hc := hI.tabs.2 (tzIx x).toNat (by omega)
        rw [hk] at hc ⊢
        exact (tz hs0 (tzIx x).toNat k w (by show tzIx x = _; omega) (by omega) hk2 hc).mono (fun e w' ⟨he, hw⟩ => ⟨he, hw ▸ Below.refl _ _⟩)
      · cases hv
    · cases hv
  · split at h
    · rename_i hk
      have hk := Nat.eq_of_beq_eq_true hk
      subst hk
      cases h
      refine ⟨⟨_, Proofs.Tryz.func58, by kernel_rfl, by kernel_rfl⟩, ?_⟩
      intro args v hv
      unfold pTz32 at hv
      split at hv
      · rename_i x
        split at hv
        · rename_i hs
          simp only [Bool.and_eq_true, Bool.not_eq_true', decide_eq_true_eq] at hs
          cases hv
          refine ⟨rfl, rfl, fun w hI => ?_⟩
          obtain ⟨hs0, hs1, hs2⟩ := hs
          obtain ⟨k, hk, hk2⟩ := small32 (tzJx x).toNat (by omega)
          have hc := hI.tabs.1 (tzJx x).toNat (by omega)
          rw [hk] at hc ⊢
          exact (tz32 hs0 (tzJx x).toNat k w (by show tzJx x = _; omega) (by omega) hk2 hc).mono (fun e w' ⟨he, hw⟩ => ⟨he, hw ▸ Below.refl _ _⟩)
        · cases hv
      · cases hv
    · cases h

end Go.Xm
