/- TopSeparable: all orders of bales; the walk, as the statement's shell wants it. Conditions: the library's tables lie in their variables. -/
import Derived.Test.YtlfobnldaneccaaGreatDoorJb
import Derived.Test.YtlfobnldaneccaaGreatDoorAq
namespace Go.Xm
open Go.RowKit
set_option maxRecDepth 100000

theorem sepT5_4 : ((List.range 4).all fun c1 => (List.range 3).all fun c2 => (List.range 2).all fun c3 => okB (f4 200 4 (.ofNat 4) (.ofNat c1) (.ofNat c2) (.ofNat c3) (.ofNat 0))) = true := by kernel_rfl
theorem sepT1 : okB (f4 200 0 (.ofNat 0) (.ofNat 0) (.ofNat 0) (.ofNat 0) (.ofNat 0)) = true := by kernel_rfl
theorem sepT2 : ((List.range 2).all fun c0 => okB (f4 200 1 (.ofNat c0) (.ofNat 0) (.ofNat 0) (.ofNat 0) (.ofNat 0))) = true := by kernel_rfl
theorem sepT3 : ((List.range 3).all fun c0 => (List.range 2).all fun c1 => okB (f4 200 2 (.ofNat c0) (.ofNat c1) (.ofNat 0) (.ofNat 0) (.ofNat 0))) = true := by kernel_rfl
theorem sepT4 : ((List.range 4).all fun c0 => (List.range 3).all fun c1 => (List.range 2).all fun c2 => okB (f4 200 3 (.ofNat c0) (.ofNat c1) (.ofNat c2) (.ofNat 0) (.ofNat 0))) = true := by kernel_rfl

theorem code1 (b0 b1 b2 b3 b4 : Int) : f4_1 200 200 1 1 0 [b0, b1, b2, b3, b4] [] = some (1, [Int.tmod (w64 b0) 1]) := by kernel_rfl
theorem code2 (b0 b1 b2 b3 b4 : Int) : f4_1 200 200 2 2 0 [b0, b1, b2, b3, b4] [] = some (2, [Int.tmod (w64 b0) 2, Int.tmod (w64 b1) 1]) := by kernel_rfl
theorem code3 (b0 b1 b2 b3 b4 : Int) : f4_1 200 200 3 3 0 [b0, b1, b2, b3, b4] [] = some (3, [Int.tmod (w64 b0) 3, Int.tmod (w64 b1) 2, Int.tmod (w64 b2) 1]) := by kernel_rfl
theorem code4 (b0 b1 b2 b3 b4 : Int) : f4_1 200 200 4 4 0 [b0, b1, b2, b3, b4] [] = some (4, [Int.tmod (w64 b0) 4, Int.tmod (w64 b1) 3, Int.tmod (w64 b2) 2, Int.tmod (w64 b3) 1]) := by kernel_rfl
theorem code5 (b0 b1 b2 b3 b4 : Int) : f4_1 200 200 5 5 0 [b0, b1, b2, b3, b4] [] = some (5, [Int.tmod (w64 b0) 5, Int.tmod (w64 b1) 4, Int.tmod (w64 b2) 3, Int.tmod (w64 b3) 2, Int.tmod (w64 b4) 1]) := by kernel_rfl

/-- The side of a store, by a number. -/
def sideN (a : Int) : Int := w64 (1 + Int.tmod (w64 a) 5)

theorem side_tab : (List.range 256).all (fun k => decide (sideN (Int.ofNat k) = Int.ofNat (k % 5 + 1))) = true := by kernel_rfl
theorem side_ok (k : Nat) (hk : k < 256) : sideN (Int.ofNat k) = Int.ofNat (k % 5 + 1) := of_decide_eq_true (List.all_eq_true.1 side_tab k (List.mem_range.2 hk))

theorem byte_tab : (List.range 256).all (fun k => decide (w64 (Int.ofNat k) = Int.ofNat k)) = true := by kernel_rfl
theorem tm (b d : Nat) (hb : b < 256) : Int.tmod (w64 (Int.ofNat b)) (Int.ofNat d) = Int.ofNat (b % d) := by
  rw [of_decide_eq_true (List.all_eq_true.1 byte_tab b (List.mem_range.2 hb))]
  rfl
theorem tm2 (b d : Nat) (hb : b < 256) (hd : 0 < d) (hd2 : d < 10) : Int.tmod (w64 (Int.ofNat b)) (Int.ofNat d) = Int.tmod (w64 (Int.ofNat (b % d))) (Int.ofNat d) := by
  have : b % d < d := Nat.mod_lt _ hd
  rw [tm b d hb, tm (b % d) d (by omega), Nat.mod_mod]
theorem tm1 (b : Nat) (hb : b < 256) : Int.tmod (w64 (Int.ofNat b)) 1 = Int.tmod (w64 (Int.ofNat 0)) 1 := by
  have h := tm b 1 hb
  rw [Nat.mod_one] at h
  exact h

theorem f4_cong {a a' b0 b1 b2 b3 b4 c0 c1 c2 c3 c4 : Int} (h : f4_1 200 200 (sideN a) (sideN a) 0 [b0, b1, b2, b3, b4] [] = f4_1 200 200 (sideN a') (sideN a') 0 [c0, c1, c2, c3, c4] []) :
    f4 200 a b0 b1 b2 b3 b4 = f4 200 a' c0 c1 c2 c3 c4 := by
  unfold sideN at h
  unfold f4
  rw [h]

theorem f4_true (k b0 b1 b2 b3 b4 : Nat) (hk : k < 256) (h0 : b0 < 256) (h1 : b1 < 256) (h2 : b2 < 256) (h3 : b3 < 256) (h4 : b4 < 256) :
    f4 200 (.ofNat k) (.ofNat b0) (.ofNat b1) (.ofNat b2) (.ofNat b3) (.ofNat b4) = some true := by
  have hs := side_ok k hk
  have h5 : k % 5 = 0 ∨ k % 5 = 1 ∨ k % 5 = 2 ∨ k % 5 = 3 ∨ k % 5 = 4 := by omega
  have m5 : b0 % 5 < 5 := Nat.mod_lt _ (by omega)
  have m4 : b1 % 4 < 4 := Nat.mod_lt _ (by omega)
  have m3 : b2 % 3 < 3 := Nat.mod_lt _ (by omega)
  have m2 : b3 % 2 < 2 := Nat.mod_lt _ (by omega)
  have n4 : b0 % 4 < 4 := Nat.mod_lt _ (by omega)
  have n3 : b1 % 3 < 3 := Nat.mod_lt _ (by omega)
  have n2 : b2 % 2 < 2 := Nat.mod_lt _ (by omega)
  have o3 : b0 % 3 < 3 := Nat.mod_lt _ (by omega)
  have o2 : b1 % 2 < 2 := Nat.mod_lt _ (by omega)
  have p2 : b0 % 2 < 2 := Nat.mod_lt _ (by omega)
  rcases h5 with e | e | e | e | e
  · rw [e] at hs
    refine (f4_cong (a' := .ofNat 0) (c0 := .ofNat 0) (c1 := .ofNat 0) (c2 := .ofNat 0) (c3 := .ofNat 0) (c4 := .ofNat 0) ?_).trans (okB_eq sepT1)
    rw [hs, side_ok 0 (by omega)]
    refine (code1 _ _ _ _ _).trans (Eq.trans ?_ (code1 _ _ _ _ _).symm)
    rw [tm1 b0 h0]
  · rw [e] at hs
    refine (f4_cong (a' := .ofNat 1) (c0 := .ofNat (b0 % 2)) (c1 := .ofNat 0) (c2 := .ofNat 0) (c3 := .ofNat 0) (c4 := .ofNat 0) ?_).trans (okB_eq (List.all_eq_true.1 sepT2 _ (List.mem_range.2 p2)))
    rw [hs, side_ok 1 (by omega)]
    refine (code2 _ _ _ _ _).trans (Eq.trans ?_ (code2 _ _ _ _ _).symm)
    have e0 : Int.tmod (w64 (Int.ofNat b0)) 2 = Int.tmod (w64 (Int.ofNat (b0 % 2))) 2 := tm2 b0 2 h0 (by omega) (by omega)
    rw [e0, tm1 b1 h1]
  · rw [e] at hs
    refine (f4_cong (a' := .ofNat 2) (c0 := .ofNat (b0 % 3)) (c1 := .ofNat (b1 % 2)) (c2 := .ofNat 0) (c3 := .ofNat 0) (c4 := .ofNat 0) ?_).trans (okB_eq (List.all_eq_true.1 (List.all_eq_true.1 sepT3 _ (List.mem_range.2 o3)) _ (List.mem_range.2 o2)))
    rw [hs, side_ok 2 (by omega)]
    refine (code3 _ _ _ _ _).trans (Eq.trans ?_ (code3 _ _ _ _ _).symm)
    have e0 : Int.tmod (w64 (Int.ofNat b0)) 3 = Int.tmod (w64 (Int.ofNat (b0 % 3))) 3 := tm2 b0 3 h0 (by omega) (by omega)
    have e1 : Int.tmod (w64 (Int.ofNat b1)) 2 = Int.tmod (w64 (Int.ofNat (b1 % 2))) 2 := tm2 b1 2 h1 (by omega) (by omega)
    rw [e0, e1, tm1 b2 h2]
  · rw [e] at hs
    refine (f4_cong (a' := .ofNat 3) (c0 := .ofNat (b0 % 4)) (c1 := .ofNat (b1 % 3)) (c2 := .ofNat (b2 % 2)) (c3 := .ofNat 0) (c4 := .ofNat 0) ?_).trans (okB_eq (List.all_eq_true.1 (List.all_eq_true.1 (List.all_eq_true.1 sepT4 _ (List.mem_range.2 n4)) _ (List.mem_range.2 n3)) _ (List.mem_range.2 n2)))
    rw [hs, side_ok 3 (by omega)]
    refine (code4 _ _ _ _ _).trans (Eq.trans ?_ (code4 _ _ _ _ _).symm)
    have e0 : Int.tmod (w64 (Int.ofNat b0)) 4 = Int.tmod (w64 (Int.ofNat (b0 % 4))) 4 := tm2 b0 4 h0 (by omega) (by omega)
    have e1 : Int.tmod (w64 (Int.ofNat b1)) 3 = Int.tmod (w64 (Int.ofNat (b1 % 3))) 3 := tm2 b1 3 h1 (by omega) (by omega)
    have e2 : Int.tmod (w64 (Int.ofNat b2)) 2 = Int.tmod (w64 (Int.ofNat (b2 % 2))) 2 := tm2 b2 2 h2 (by omega) (by omega)
    rw [e0, e1, e2, tm1 b3 h3]
  · rw [e] at hs
    have hT : ∀ c0, c0 < 5 → ((List.range 4).all fun c1 => (List.range 3).all fun c2 => (List.range 2).all fun c3 => okB (f4 200 4 (.ofNat c0) (.ofNat c1) (.ofNat c2) (.ofNat c3) (.ofNat 0))) = true := by
      intro c0 hc
      have : c0 = 0 ∨ c0 = 1 ∨ c0 = 2 ∨ c0 = 3 ∨ c0 = 4 := by omega
      rcases this with rfl | rfl | rfl | rfl | rfl
      · exact sepT5_0
      · exact sepT5_1
      · exact sepT5_2
      · exact sepT5_3
      · exact sepT5_4
    refine (f4_cong (a' := .ofNat 4) (c0 := .ofNat (b0 % 5)) (c1 := .ofNat (b1 % 4)) (c2 := .ofNat (b2 % 3)) (c3 := .ofNat (b3 % 2)) (c4 := .ofNat 0) ?_).trans (okB_eq (List.all_eq_true.1 (List.all_eq_true.1 (List.all_eq_true.1 (hT _ m5) _ (List.mem_range.2 m4)) _ (List.mem_range.2 m3)) _ (List.mem_range.2 m2)))
    rw [hs, side_ok 4 (by omega)]
    refine (code5 _ _ _ _ _).trans (Eq.trans ?_ (code5 _ _ _ _ _).symm)
    have e0 : Int.tmod (w64 (Int.ofNat b0)) 5 = Int.tmod (w64 (Int.ofNat (b0 % 5))) 5 := tm2 b0 5 h0 (by omega) (by omega)
    have e1 : Int.tmod (w64 (Int.ofNat b1)) 4 = Int.tmod (w64 (Int.ofNat (b1 % 4))) 4 := tm2 b1 4 h1 (by omega) (by omega)
    have e2 : Int.tmod (w64 (Int.ofNat b2)) 3 = Int.tmod (w64 (Int.ofNat (b2 % 3))) 3 := tm2 b2 3 h2 (by omega) (by omega)
    have e3 : Int.tmod (w64 (Int.ofNat b3)) 2 = Int.tmod (w64 (Int.ofNat (b3 % 2))) 2 := tm2 b3 2 h3 (by omega) (by omega)
    rw [e0, e1, e2, e3, tm1 b4 h4]

end Go.Xm

namespace Go.Proofs.YtlfobnldaneccaaGreatDoor.topSeparable
open Go.Xm Go.RowKit

theorem byteN {a : Int} (h : (Lit.int .u8 a).wf = true) : ∃ k : Nat, a = .ofNat k ∧ k < 256 := by
  have : 0 ≤ a ∧ a ≤ 255 := by
    simp [Lit.wf, IntKind.min, IntKind.max, IntKind.signed, IntKind.bits] at h
    omega
  obtain ⟨k, rfl⟩ := Int.eq_ofNat_of_zero_le this.1
  exact ⟨k, rfl, by omega⟩

theorem walk (a0 : Int) (z1 : List Int) (w : World) (hI : Go.Xm.seatInv w) (w0 : (Lit.int .u8 a0).wf = true) (l1 : z1.length = 5) (w1 : ∀ z ∈ z1, (Lit.int .u8 z).wf = true) :
    Calls Tryz.prog 4 #[.int .u8 a0, .agg (z1.map (.int .u8)).toArray] w fun e w' => e = .returned (.bool true) ∧ Below w.heap.size w w' := by
  match z1, l1, w1 with
  | [b0, b1, b2, b3, b4], _, w1 =>
    obtain ⟨k, rfl, hk⟩ := byteN w0
    obtain ⟨c0, rfl, h0⟩ := byteN (w1 b0 (by simp))
    obtain ⟨c1, rfl, h1⟩ := byteN (w1 b1 (by simp))
    obtain ⟨c2, rfl, h2⟩ := byteN (w1 b2 (by simp))
    obtain ⟨c3, rfl, h3⟩ := byteN (w1 b3 (by simp))
    obtain ⟨c4, rfl, h4⟩ := byteN (w1 b4 (by simp))
    exact f4_ok 200 _ _ _ _ _ _ true (f4_true k c0 c1 c2 c3 c4 hk h0 h1 h2 h3 h4) w hI

end Go.Proofs.YtlfobnldaneccaaGreatDoor.topSeparable
