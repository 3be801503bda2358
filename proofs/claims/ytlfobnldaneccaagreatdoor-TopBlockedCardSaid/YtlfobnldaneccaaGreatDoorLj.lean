/- TopBlocked: sick bits; the law's function depends on the remainders and on the low bits. Conditions: none. -/
import Derived.Test.YtlfobnldaneccaaGreatDoorHd
import Derived.Test.YtlfobnldaneccaaGreatDoorLa
import Derived.Test.YtlfobnldaneccaaGreatDoorLb
import Derived.Test.YtlfobnldaneccaaGreatDoorLc
import Derived.Test.YtlfobnldaneccaaGreatDoorLd
import Derived.Test.YtlfobnldaneccaaGreatDoorLe
import Derived.Test.YtlfobnldaneccaaGreatDoorLf
import Derived.Test.YtlfobnldaneccaaGreatDoorLg
import Derived.Test.YtlfobnldaneccaaGreatDoorLh
namespace Go.Xm
open Go.RowKit
set_option maxRecDepth 100000
def bitS (c : Int) (i : Nat) : Bool := andV .u16 (shV false .u16 c (.ofNat i)) 1 == 1
def numB : List Bool → Nat
  | [] => 0
  | b :: l => cond b 1 0 + 2 * numB l
def allB : Nat → List (List Bool)
  | 0 => [[]]
  | n + 1 => (allB n).flatMap fun l => [false :: l, true :: l]
theorem mem_allB : ∀ l : List Bool, l ∈ allB l.length
  | [] => List.mem_singleton.2 rfl
  | b :: l => List.mem_flatMap.2 ⟨l, mem_allB l, by cases b <;> simp⟩
theorem numB_lt : ∀ l : List Bool, numB l < 2 ^ l.length
  | [] => by decide
  | b :: l => by
    have h := numB_lt l
    simp only [numB, List.length_cons, Nat.pow_succ]
    cases b <;> simp only [cond_true, cond_false] <;> omega
theorem num_tab : ((List.range 10).all fun n => (allB n).all fun l => (List.range n).all fun i => bitS (.ofNat (numB l)) i == l.getD i false) = true := by kernel_rfl
theorem num_bit (l : List Bool) (h : l.length ≤ 9) (i : Nat) (hi : i < l.length) : bitS (.ofNat (numB l)) i = l.getD i false :=
  eq_of_beq (List.all_eq_true.1 (List.all_eq_true.1 (List.all_eq_true.1 num_tab l.length (List.mem_range.2 (by omega))) l (mem_allB l)) i (List.mem_range.2 hi))
theorem step_tab : (List.range 10).all (fun n => decide (w64 (Int.ofNat n + 1) = Int.ofNat (n + 1))) = true := by kernel_rfl
theorem step_ok (n : Nat) (h : n ≤ 9) : w64 (Int.ofNat n + 1) = Int.ofNat (n + 1) := of_decide_eq_true (List.all_eq_true.1 step_tab n (List.mem_range.2 (by omega)))
theorem f5_1_bits (m : Nat) {c c' : Int} {n : Nat} (hn : n ≤ 9) (h : ∀ i, i < n → bitS c i = bitS c' i) : ∀ (fuel : Nat) (x y p q : Int) (k : Nat) (l : List Int), f5_1 m fuel c x y (.ofNat n) (.ofNat k) p q l = f5_1 m fuel c' x y (.ofNat n) (.ofNat k) p q l
  | 0, x, y, p, q, k, l => rfl
  | fuel + 1, x, y, p, q, k, l => by
    unfold f5_1
    by_cases hk : k < n
    · have hb := h k hk
      unfold bitS at hb
      rw [hb, step_ok k (by omega), f5_1_bits m hn h fuel, f5_1_bits m hn h fuel]
    · have e : decide (Int.ofNat k < Int.ofNat n) = false := decide_eq_false (fun q => hk (Int.ofNat_lt.1 q))
      rw [e]
      rfl
def sideT (a : Int) : Int := w64 (1 + Int.tmod (w64 a) 3)
theorem sideT_tab : (List.range 256).all (fun k => decide (sideT (Int.ofNat k) = Int.ofNat (k % 3 + 1))) = true := by kernel_rfl
theorem sideT_ok (k : Nat) (hk : k < 256) : sideT (Int.ofNat k) = Int.ofNat (k % 3 + 1) := of_decide_eq_true (List.all_eq_true.1 sideT_tab k (List.mem_range.2 hk))
theorem area_tab : ((List.range 4).all fun a => (List.range 4).all fun b => decide (w64 (Int.ofNat a * Int.ofNat b) = Int.ofNat (a * b))) = true := by kernel_rfl
theorem area_ok (a b : Nat) (ha : a ≤ 3) (hb : b ≤ 3) : w64 (Int.ofNat a * Int.ofNat b) = Int.ofNat (a * b) := of_decide_eq_true (List.all_eq_true.1 (List.all_eq_true.1 area_tab a (List.mem_range.2 (by omega))) b (List.mem_range.2 (by omega)))
theorem f5_cong {a a' b b' c c' : Int} (ha : sideT a = sideT a') (hb : sideT b = sideT b') (h : f5_1 200 200 c (sideT a') (sideT b') (w64 (sideT a' * sideT b')) 0 (sideT a') (sideT b') [] = f5_1 200 200 c' (sideT a') (sideT b') (w64 (sideT a' * sideT b')) 0 (sideT a') (sideT b') []) :
    f5 200 a b c = f5 200 a' b' c' := by
  unfold sideT at ha hb h
  unfold f5
  rw [ha, hb, h]
theorem f5_small (a b : Nat) (c : Int) (ha : a < 256) (hb : b < 256) : ∃ k, k < 2 ^ ((a % 3 + 1) * (b % 3 + 1)) ∧ f5 200 (.ofNat a) (.ofNat b) c = f5 200 (.ofNat (a % 3)) (.ofNat (b % 3)) (.ofNat k) := by
  have m3 : a % 3 < 3 := Nat.mod_lt _ (by omega)
  have m4 : b % 3 < 3 := Nat.mod_lt _ (by omega)
  have h1 := sideT_ok a ha
  have h2 := sideT_ok b hb
  have h3 := sideT_ok (a % 3) (by omega)
  have h4 := sideT_ok (b % 3) (by omega)
  rw [Nat.mod_mod] at h3 h4
  obtain ⟨r, hr⟩ : ∃ r, r = a % 3 + 1 := ⟨_, rfl⟩
  obtain ⟨s, hs⟩ : ∃ s, s = b % 3 + 1 := ⟨_, rfl⟩
  rw [← hr] at h1 h3 ⊢
  rw [← hs] at h2 h4 ⊢
  have hN := area_ok r s (by omega) (by omega)
  have h9 : r * s ≤ 9 := Nat.mul_le_mul (show r ≤ 3 by omega) (show s ≤ 3 by omega)
  obtain ⟨l, hl⟩ : ∃ l : List Bool, l = (List.range (r * s)).map (bitS c) := ⟨_, rfl⟩
  have ll : l.length = r * s := by rw [hl, List.length_map, List.length_range]
  refine ⟨numB l, by have := numB_lt l; rwa [ll] at this, ?_⟩
  refine f5_cong (h1.trans h3.symm) (h2.trans h4.symm) ?_
  rw [h3, h4, hN]
  refine f5_1_bits 200 h9 (fun i hi => ?_) 200 _ _ _ _ 0 _
  rw [num_bit l (by omega) i (by omega), hl, List.getD_eq_getElem?_getD, List.getElem?_map, List.getElem?_range hi]
  rfl
end Go.Xm
namespace Go.Xm
open Go.RowKit
set_option maxRecDepth 100000
theorem nine (c : Nat) (h : c < 512) : good5 2 2 c = true := by
  have e : c = 16 * (c / 16) + c % 16 := (Nat.div_add_mod c 16).symm
  have m : c % 16 ∈ List.range 16 := List.mem_range.2 (Nat.mod_lt _ (by omega))
  have q : c / 16 < 32 := by omega
  rw [e]
  revert m q
  generalize c % 16 = y
  generalize c / 16 = x
  intro m q
  match x, q with
  | 0, _ => exact List.all_eq_true.1 nine_0 y m
  | 1, _ => exact List.all_eq_true.1 nine_1 y m
  | 2, _ => exact List.all_eq_true.1 nine_2 y m
  | 3, _ => exact List.all_eq_true.1 nine_3 y m
  | 4, _ => exact List.all_eq_true.1 nine_4 y m
  | 5, _ => exact List.all_eq_true.1 nine_5 y m
  | 6, _ => exact List.all_eq_true.1 nine_6 y m
  | 7, _ => exact List.all_eq_true.1 nine_7 y m
  | 8, _ => exact List.all_eq_true.1 nine_8 y m
  | 9, _ => exact List.all_eq_true.1 nine_9 y m
  | 10, _ => exact List.all_eq_true.1 nine_10 y m
  | 11, _ => exact List.all_eq_true.1 nine_11 y m
  | 12, _ => exact List.all_eq_true.1 nine_12 y m
  | 13, _ => exact List.all_eq_true.1 nine_13 y m
  | 14, _ => exact List.all_eq_true.1 nine_14 y m
  | 15, _ => exact List.all_eq_true.1 nine_15 y m
  | 16, _ => exact List.all_eq_true.1 nine_16 y m
  | 17, _ => exact List.all_eq_true.1 nine_17 y m
  | 18, _ => exact List.all_eq_true.1 nine_18 y m
  | 19, _ => exact List.all_eq_true.1 nine_19 y m
  | 20, _ => exact List.all_eq_true.1 nine_20 y m
  | 21, _ => exact List.all_eq_true.1 nine_21 y m
  | 22, _ => exact List.all_eq_true.1 nine_22 y m
  | 23, _ => exact List.all_eq_true.1 nine_23 y m
  | 24, _ => exact List.all_eq_true.1 nine_24 y m
  | 25, _ => exact List.all_eq_true.1 nine_25 y m
  | 26, _ => exact List.all_eq_true.1 nine_26 y m
  | 27, _ => exact List.all_eq_true.1 nine_27 y m
  | 28, _ => exact List.all_eq_true.1 nine_28 y m
  | 29, _ => exact List.all_eq_true.1 nine_29 y m
  | 30, _ => exact List.all_eq_true.1 nine_30 y m
  | 31, _ => exact List.all_eq_true.1 nine_31 y m
  | n + 32, q => exact absurd q (by omega)
theorem sm_0_0 (c : Nat) (h : c < 2) : good5 0 0 c = true := by
  have := List.all_eq_true.1 small_0_0_0 c (List.mem_range.2 h)
  rwa [Nat.zero_add] at this
theorem sm_0_1 (c : Nat) (h : c < 4) : good5 0 1 c = true := by
  have := List.all_eq_true.1 small_0_1_0 c (List.mem_range.2 h)
  rwa [Nat.zero_add] at this
theorem sm_0_2 (c : Nat) (h : c < 8) : good5 0 2 c = true := by
  have := List.all_eq_true.1 small_0_2_0 c (List.mem_range.2 h)
  rwa [Nat.zero_add] at this
theorem sm_1_0 (c : Nat) (h : c < 4) : good5 1 0 c = true := by
  have := List.all_eq_true.1 small_1_0_0 c (List.mem_range.2 h)
  rwa [Nat.zero_add] at this
theorem sm_1_1 (c : Nat) (h : c < 16) : good5 1 1 c = true := by
  have := List.all_eq_true.1 small_1_1_0 c (List.mem_range.2 h)
  rwa [Nat.zero_add] at this
theorem sm_1_2 (c : Nat) (h : c < 64) : good5 1 2 c = true := by
  have e : c = 16 * (c / 16) + c % 16 := (Nat.div_add_mod c 16).symm
  have m : c % 16 ∈ List.range 16 := List.mem_range.2 (Nat.mod_lt _ (by omega))
  have q : c / 16 < 4 := by omega
  rw [e]
  revert m q
  generalize c % 16 = y
  generalize c / 16 = x
  intro m q
  match x, q with
  | 0, _ => exact List.all_eq_true.1 small_1_2_0 y m
  | 1, _ => exact List.all_eq_true.1 small_1_2_1 y m
  | 2, _ => exact List.all_eq_true.1 small_1_2_2 y m
  | 3, _ => exact List.all_eq_true.1 small_1_2_3 y m
  | n + 4, q => exact absurd q (by omega)
theorem sm_2_0 (c : Nat) (h : c < 8) : good5 2 0 c = true := by
  have := List.all_eq_true.1 small_2_0_0 c (List.mem_range.2 h)
  rwa [Nat.zero_add] at this
theorem sm_2_1 (c : Nat) (h : c < 64) : good5 2 1 c = true := by
  have e : c = 16 * (c / 16) + c % 16 := (Nat.div_add_mod c 16).symm
  have m : c % 16 ∈ List.range 16 := List.mem_range.2 (Nat.mod_lt _ (by omega))
  have q : c / 16 < 4 := by omega
  rw [e]
  revert m q
  generalize c % 16 = y
  generalize c / 16 = x
  intro m q
  match x, q with
  | 0, _ => exact List.all_eq_true.1 small_2_1_0 y m
  | 1, _ => exact List.all_eq_true.1 small_2_1_1 y m
  | 2, _ => exact List.all_eq_true.1 small_2_1_2 y m
  | 3, _ => exact List.all_eq_true.1 small_2_1_3 y m
  | n + 4, q => exact absurd q (by omega)
theorem f5_true (a b : Nat) (c : Int) (ha : a < 256) (hb : b < 256) : f5 200 (.ofNat a) (.ofNat b) c = some true := by
  obtain ⟨k, hk, he⟩ := f5_small a b c ha hb
  rw [he]
  have m3 : a % 3 < 3 := Nat.mod_lt _ (by omega)
  have m4 : b % 3 < 3 := Nat.mod_lt _ (by omega)
  revert hk m3 m4
  generalize a % 3 = x
  generalize b % 3 = y
  intro hk m3 m4
  refine okB_eq (show good5 x y k = true from ?_)
  match x, y, m3, m4, hk with
  | 0, 0, _, _, hk => exact sm_0_0 k hk
  | 0, 1, _, _, hk => exact sm_0_1 k hk
  | 0, 2, _, _, hk => exact sm_0_2 k hk
  | 1, 0, _, _, hk => exact sm_1_0 k hk
  | 1, 1, _, _, hk => exact sm_1_1 k hk
  | 1, 2, _, _, hk => exact sm_1_2 k hk
  | 2, 0, _, _, hk => exact sm_2_0 k hk
  | 2, 1, _, _, hk => exact sm_2_1 k hk
  | 2, 2, _, _, hk => exact nine k hk
  | n + 3, _, q, _, _ => exact absurd q (by omega)
  | 0, n + 3, _, q, _ => exact absurd q (by omega)
  | 1, n + 3, _, q, _ => exact absurd q (by omega)
  | 2, n + 3, _, q, _ => exact absurd q (by omega)
theorem laidVars_tab {P : Program} {W : World} {name : String} {k : IntKind} {zs : List Int} {g : Nat} {t e : TypeId} {n : Nat}
    (hg : P.globalNamed name = some g) (hty : (P.globals[g]?).map (·.type) = some t) (ht : P.underlying t = some (.array n e)) (he : P.underlying e = some (.int k)) (hce : P.cellsOf e = 1) (hct : P.cellsOf t = n) :
    ∀ {l : List (String × DataW Unit)} {ps : List MemPlace}, DataW.LaidVars P W l ps → (name, Lib.tabData k zs) ∈ l → Lib.TabIs P W name k zs
  | [], _, _, h => by cases h
  | (m, d) :: r, ps, hl, hm => by
    obtain ⟨g', t', cs, fuel, p, q, hg', ht', hvar, hd, hr, _⟩ := hl
    rcases List.mem_cons.1 hm with e1 | e1
    · obtain ⟨rfl, rfl⟩ := Prod.mk.inj e1
      obtain rfl := Option.some.inj (hg.symm.trans hg')
      obtain rfl := Option.some.inj (hty.symm.trans ht')
      unfold Lib.TabIs
      rw [hvar, ← Lib.cells_of_tab ht he hce hct hd]
    · exact laidVars_tab hg hty ht he hce hct hr e1


theorem seatTabs_of {W : World} {l : List (String × DataW Unit)} (h : laidMet Proofs.Tryz.prog l W) (h32 : ("math/bits.deBruijn32tab", Lib.tabData .u8 tz32Tab) ∈ l) (h64 : ("math/bits.deBruijn64tab", Lib.tabData .u8 tz64Tab) ∈ l) : seatTabs W := by
  obtain ⟨ps, hl, _, _⟩ := h
  have g32 : Proofs.Tryz.prog.globalNamed "math/bits.deBruijn32tab" = some 0 := by kernel_rfl
  have g64 : Proofs.Tryz.prog.globalNamed "math/bits.deBruijn64tab" = some 1 := by kernel_rfl
  have t32 := laidVars_tab (t := 111) (e := 5) (n := 32) g32 (by kernel_rfl) (by kernel_rfl) (by kernel_rfl) (by kernel_rfl) (by kernel_rfl) hl h32
  have t64 := laidVars_tab (t := 152) (e := 5) (n := 64) g64 (by kernel_rfl) (by kernel_rfl) (by kernel_rfl) (by kernel_rfl) (by kernel_rfl) hl h64
  exact ⟨fun i hi => t32.cell g32 i hi, fun i hi => t64.cell g64 i hi⟩


theorem seatInv_of {W : World} {l : List (String × DataW Unit)} (h : laidMet Proofs.Tryz.prog l W) (h32 : ("math/bits.deBruijn32tab", Lib.tabData .u8 tz32Tab) ∈ l) (h64 : ("math/bits.deBruijn64tab", Lib.tabData .u8 tz64Tab) ∈ l) : seatInv W := seatTabs_of h h32 h64


noncomputable def putTab (tab : List Int) : Obj → Obj
  | .cells _ t frozen => .cells (tab.map (Value.int .u8)).toArray t frozen
  | o => o

noncomputable def laidWorld (os : Go.Os) : World :=
  { World.holding Proofs.Tryz.prog os ⟨#[], #[], []⟩ with heap := ((World.holding Proofs.Tryz.prog os ⟨#[], #[], []⟩).heap.modify 0 (putTab tz32Tab)).modify 1 (putTab tz64Tab) }

/-! ### Trailing zeros -/

end Go.Xm
namespace Go.Proofs.YtlfobnldaneccaaGreatDoor.topBlocked
open Go.Xm Go.RowKit
theorem byteN {a : Int} (h : (Lit.int .u8 a).wf = true) : ∃ k : Nat, a = .ofNat k ∧ k < 256 := by
  have : 0 ≤ a ∧ a ≤ 255 := by
    simp [Lit.wf, IntKind.min, IntKind.max, IntKind.signed, IntKind.bits] at h
    omega
  obtain ⟨k, rfl⟩ := Int.eq_ofNat_of_zero_le this.1
  exact ⟨k, rfl, by omega⟩
theorem walk (a0 a1 a2 : Int) (w : World) (hI : Go.Xm.seatInv w) (w0 : (Lit.int .u8 a0).wf = true) (w1 : (Lit.int .u8 a1).wf = true) (_w2 : (Lit.int .u16 a2).wf = true) :
    Calls Tryz.prog 5 #[.int .u8 a0, .int .u8 a1, .int .u16 a2] w fun e w' => e = .returned (.bool true) ∧ Below w.heap.size w w' := by
  obtain ⟨k0, rfl, h0⟩ := byteN w0
  obtain ⟨k1, rfl, h1⟩ := byteN w1
  exact f5_ok 200 _ _ _ true (f5_true k0 k1 a2 h0 h1) w hI
end Go.Proofs.YtlfobnldaneccaaGreatDoor.topBlocked
