/- TopRow: the walk, as the statement's shell wants it. Conditions: the library's tables lie in their variables. -/
import Derived.Test.YtlfobnldaneccaaGreatDoorKb
import Derived.Test.YtlfobnldaneccaaGreatDoorKc
import Derived.Test.YtlfobnldaneccaaGreatDoorKd
import Derived.Test.YtlfobnldaneccaaGreatDoorAq
namespace Go.Xm
open Go.RowKit
set_option maxRecDepth 100000

/-- The number of bays. -/
def sideN (a : Int) : Int := w64 (1 + Int.tmod (w64 a) 5)

theorem side_tab : (List.range 256).all (fun k => decide (sideN (Int.ofNat k) = Int.ofNat (k % 5 + 1))) = true := by kernel_rfl
theorem side_ok (k : Nat) (hk : k < 256) : sideN (Int.ofNat k) = Int.ofNat (k % 5 + 1) := of_decide_eq_true (List.all_eq_true.1 side_tab k (List.mem_range.2 hk))

theorem byte_tab : (List.range 256).all (fun k => decide (w64 (Int.ofNat k) = Int.ofNat k)) = true := by kernel_rfl
theorem tm (b d : Nat) (hb : b < 256) : Int.tmod (w64 (Int.ofNat b)) (Int.ofNat d) = Int.ofNat (b % d) := by
  rw [of_decide_eq_true (List.all_eq_true.1 byte_tab b (List.mem_range.2 hb))]
  rfl

theorem succ_tab : (List.range 6).all (fun n => decide (w64 (Int.ofNat n + 1) = Int.ofNat (n + 1))) = true := by kernel_rfl
theorem succ_ok (n : Nat) (h : n ≤ 5) : w64 (Int.ofNat n + 1) = Int.ofNat (n + 1) := of_decide_eq_true (List.all_eq_true.1 succ_tab n (List.mem_range.2 (by omega)))

theorem park_all (n : Nat) (h0 : 1 ≤ n) (h5 : n ≤ 5) (l : List Nat) (hl : l.length ≤ n) (hx : ∀ x ∈ l, x < n) : parkOk n l = true := by
  by_cases e : n = 5
  · subst e
    by_cases e2 : l.length = 5
    · match l, e2, hx with
      | x :: l, e2, hx =>
        have e3 : l.length = 4 := by simpa using e2
        have hm := mem_words (n := 5) l (fun y hy => hx y (List.mem_cons_of_mem _ hy))
        rw [e3] at hm
        have h : x < 5 := hx x (List.mem_cons_self ..)
        have : x = 0 ∨ x = 1 ∨ x = 2 ∨ x = 3 ∨ x = 4 := by omega
        rcases this with rfl | rfl | rfl | rfl | rfl
        · exact List.all_eq_true.1 park5_0 l hm
        · exact List.all_eq_true.1 park5_1 l hm
        · exact List.all_eq_true.1 park5_2 l hm
        · exact List.all_eq_true.1 park5_3 l hm
        · exact List.all_eq_true.1 park5_4 l hm
    · exact List.all_eq_true.1 (List.all_eq_true.1 park5_s l.length (List.mem_range.2 (by omega))) l (mem_words l hx)
  · obtain ⟨n, rfl⟩ : ∃ k, n = k + 1 := ⟨n - 1, by omega⟩
    exact List.all_eq_true.1 (List.all_eq_true.1 (List.all_eq_true.1 park4 n (List.mem_range.2 (by omega))) l.length (List.mem_range.2 (by omega))) l (mem_words l hx)

theorem rest_all (n : Nat) (h0 : 1 ≤ n) (h5 : n ≤ 5) (t : List Nat) (hl : t.length ≤ n) (hx : t ∈ permL n t.length) : restR (.ofNat n) (ints t) = some true := by
  obtain ⟨n, rfl⟩ : ∃ k, n = k + 1 := ⟨n - 1, by omega⟩
  exact okB_eq (List.all_eq_true.1 (List.all_eq_true.1 (List.all_eq_true.1 restT n (List.mem_range.2 (by omega))) t.length (List.mem_range.2 (by omega))) t hx)

theorem f3_true (a b b0 b1 b2 b3 b4 : Nat) (ha : a < 256) (hb : b < 256) (h0 : b0 < 256) (h1 : b1 < 256) (h2 : b2 < 256) (h3 : b3 < 256) (h4 : b4 < 256) :
    f3 200 (.ofNat a) (.ofNat b) (.ofNat b0) (.ofNat b1) (.ofNat b2) (.ofNat b3) (.ofNat b4) = some true := by
  have hN := side_ok a ha
  obtain ⟨n, hn⟩ : ∃ n, n = a % 5 + 1 := ⟨_, rfl⟩
  rw [← hn] at hN
  have n1 : 1 ≤ n := by omega
  have n5 : n ≤ 5 := by omega
  clear hn
  have hS := succ_ok n n5
  obtain ⟨k, hk⟩ : ∃ k, k = b % (n + 1) := ⟨_, rfl⟩
  have kn : k ≤ n := by have := Nat.mod_lt b (show 0 < n + 1 by omega); omega
  have hC : Int.tmod (w64 (.ofNat b)) (w64 (Int.ofNat n + 1)) = .ofNat k := by rw [hS, tm b (n + 1) hb, hk]
  have hz : (w64 (Int.ofNat n + 1) != 0) = true := by
    rw [hS]
    rfl
  obtain ⟨l, hl⟩ : ∃ l : List Nat, l = (List.take k [b0, b1, b2, b3, b4]).map (· % n) := ⟨_, rfl⟩
  have hr : f3_1 200 200 (.ofNat n) (.ofNat k) 0 [.ofNat b0, .ofNat b1, .ofNat b2, .ofNat b3, .ofNat b4] [] = some (.ofNat n, ints l) := by
    rw [rem_all n k n1 n5 kn]
    have e : ([Int.ofNat b0, .ofNat b1, .ofNat b2, .ofNat b3, .ofNat b4] : List Int) = [b0, b1, b2, b3, b4].map Int.ofNat := rfl
    rw [e, ← List.map_take, List.map_map, hl]
    unfold ints
    rw [List.map_map]
    refine congrArg (fun x => some (Int.ofNat n, x)) (List.map_congr_left fun c hc => ?_)
    have hc := List.mem_of_mem_take hc
    have : c < 256 := by
      simp only [List.mem_cons, List.not_mem_nil, or_false] at hc
      omega
    exact tm c n this
  have ll : l.length = k := by
    rw [hl, List.length_map, List.length_take]
    simp only [List.length_cons, List.length_nil]
    omega
  have hx : ∀ x ∈ l, x < n := by
    intro x hx
    rw [hl] at hx
    obtain ⟨y, _, rfl⟩ := List.mem_map.1 hx
    exact Nat.mod_lt _ (by omega)
  obtain ⟨p, ts, q1, q2, q3, q4, q5⟩ := park_ok (park_all n n1 n5 l (by omega) hx)
  have q2' : p.length = (ints l).length := by rw [q2]; unfold ints; rw [List.length_map]
  have q3' : f3_2 200 200 (.ofNat n) ((p.length : Nat) : Int) 0 [] p = some (.ofNat n, ints ts) := by rw [q2]; exact q3
  exact f3_of hN hz hC hr q1 q2' q3' (rest_all n n1 n5 ts q4 q5)

end Go.Xm

namespace Go.Proofs.YtlfobnldaneccaaGreatDoor.topRow
open Go.Xm Go.RowKit

theorem byteN {a : Int} (h : (Lit.int .u8 a).wf = true) : ∃ k : Nat, a = .ofNat k ∧ k < 256 := by
  have : 0 ≤ a ∧ a ≤ 255 := by
    simp [Lit.wf, IntKind.min, IntKind.max, IntKind.signed, IntKind.bits] at h
    omega
  obtain ⟨k, rfl⟩ := Int.eq_ofNat_of_zero_le this.1
  exact ⟨k, rfl, by omega⟩

theorem walk (a0 a1 : Int) (z2 : List Int) (w : World) (hI : Go.Xm.seatInv w) (w0 : (Lit.int .u8 a0).wf = true) (w1 : (Lit.int .u8 a1).wf = true) (l2 : z2.length = 5) (w2 : ∀ z ∈ z2, (Lit.int .u8 z).wf = true) :
    Calls Tryz.prog 3 #[.int .u8 a0, .int .u8 a1, .agg (z2.map (.int .u8)).toArray] w fun e w' => e = .returned (.bool true) ∧ Below w.heap.size w w' := by
  match z2, l2, w2 with
  | [b0, b1, b2, b3, b4], _, w2 =>
    obtain ⟨k0, rfl, h0⟩ := byteN w0
    obtain ⟨k1, rfl, h1⟩ := byteN w1
    obtain ⟨c0, rfl, g0⟩ := byteN (w2 b0 (by simp))
    obtain ⟨c1, rfl, g1⟩ := byteN (w2 b1 (by simp))
    obtain ⟨c2, rfl, g2⟩ := byteN (w2 b2 (by simp))
    obtain ⟨c3, rfl, g3⟩ := byteN (w2 b3 (by simp))
    obtain ⟨c4, rfl, g4⟩ := byteN (w2 b4 (by simp))
    exact f3_ok 200 _ _ _ _ _ _ _ true (f3_true k0 k1 c0 c1 c2 c3 c4 h0 h1 g0 g1 g2 g3 g4) w hI

end Go.Proofs.YtlfobnldaneccaaGreatDoor.topRow
