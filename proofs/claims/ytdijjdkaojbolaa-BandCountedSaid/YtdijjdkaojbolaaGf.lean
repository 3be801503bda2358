/- BandCounted: all words are tried; the parts of the even words of 16 boxes are tried. Conditions: none. -/
import Derived.Test.YtdijjdkaojbolaaGe
import Derived.Test.YtdijjdkaojbolaaG7
import Derived.Test.YtdijjdkaojbolaaDs
namespace Go.Xm
set_option linter.unusedVariables false
set_option linter.unusedSimpArgs false

/-- How many of k words, from number x on, are straight. -/
def cntT (n : Nat) : Nat → Nat → Nat → Nat
  | 0, _, acc => acc
  | k + 1, x, acc => cond (stW n x) (cntT n k (x + 1) (acc + 1)) (cntT n k (x + 1) acc)

theorem u16_id {x : Int} (h1 : 0 ≤ x) (h2 : x ≤ 65535) : IntKind.wrap .u16 x = x := IntWalk.u16_in _ ⟨h1, h2⟩

theorem f10_1_eq (m : Nat) (b c d : Int) (n : Nat) (h0 : 0 < n) (hn : n ≤ 11) (T : Nat) (hT : T ≤ 2048) (hm : 100 < m) : ∀ (k x acc fuel : Nat), x + k = T → k < fuel → acc ≤ x →
    f10_1 m fuel b c d n acc T x = some (.x0 n (cntT n k x acc))
  | 0, x, acc, fuel + 1, h1, _, _ => by
    have : ¬ ((x : Int) < (T : Int)) := by omega
    simp only [f10_1, decide_eq_false this, cond_false, cntT]
  | k + 1, x, acc, fuel + 1, h1, h2, h3 => by
    have q1 : ((x : Int) < (T : Int)) := by omega
    have q2 : IntKind.wrap .u16 ((x : Int) + 1) = ((x + 1 : Nat) : Int) := by rw [u16_id (by omega) (by omega)]; rfl
    have q3 : w64 ((acc : Int) + 1) = ((acc + 1 : Nat) : Int) := by rw [w64_id (by omega) (by omega)]; rfl
    have hs := spl_size n (x : Int)
    have hc := spl_chk n (x : Int) h0 (by omega)
    have r1 := f37_eq m n (x : Int) (by omega) (by omega)
    have r2 := f42_eq m (a := spl n (x : Int)) (by omega) (by omega) hm
    have r3 := f33_eq m (spl n (x : Int)) hm (by omega)
    rw [if_pos hc] at r3
    have e := stW_eq n x (by omega) h0 (by omega)
    rw [← e] at r2 r3
    have q4 : cond (stW n x) (w64 ((acc : Int) + 1)) (acc : Int) = ((cond (stW n x) (acc + 1) acc : Nat) : Int) := by
      rw [q3]
      cases stW n x <;> rfl
    have ih := f10_1_eq m b c d n h0 hn T hT hm k (x + 1) (cond (stW n x) (acc + 1) acc) fuel (by omega) (by omega) (by cases stW n x <;> simp only [cond_true, cond_false] <;> omega)
    have e2 : cntT n k (x + 1) (cond (stW n x) (acc + 1) acc) = cntT n (k + 1) x acc := by
      simp only [cntT]
      cases stW n x <;> rfl
    rw [e2] at ih
    simp only [f10_1, decide_eq_true q1, r1, r2, r3, q2, q4, cond_true, Option.bind_some, ih, bne_self_eq_false, cond_false, beq_self_eq_true, Bool.not_true]
    cases (Int.tmod (x : Int) 5 == Int.tmod (IntKind.wrap .u16 c) 5) <;> rfl
  | _, _, _, 0, _, h, _ => by omega

theorem f10_3_ind (m : Nat) (b c d : Int) : ∀ (fuel : Nat) (x9 x10 x16 x17 x19 x18 x20 : Int), f10_3 m fuel b c d x9 x10 x16 x17 x19 x18 x20 = f10_3 m fuel 0 0 0 x9 x10 x16 x17 x19 x18 x20
  | 0, _, _, _, _, _, _, _ => rfl
  | fuel + 1, x9, x10, x16, x17, x19, x18, x20 => by
    simp only [f10_3, f10_3_ind m b c d fuel]

theorem f10_2_ind (m : Nat) (b c d : Int) : ∀ (fuel : Nat) (x9 x10 x16 x17 x18 x19 : Int), f10_2 m fuel b c d x9 x10 x16 x17 x18 x19 = f10_2 m fuel 0 0 0 x9 x10 x16 x17 x18 x19
  | 0, _, _, _, _, _, _ => rfl
  | fuel + 1, x9, x10, x16, x17, x18, x19 => by
    simp only [f10_2, f10_2_ind m b c d fuel, f10_3_ind m b c d m]

def cntA (i : Nat) : Nat := cntT (i + 1) (2 ^ (i + 1)) 0 0

theorem count_all : (List.range 11).all (fun i => (f35 2100 ((i + 1 : Nat) : Int) == some ((cntA i : Int), 0)) && (f10_2 2100 2100 0 0 0 ((i + 1 : Nat) : Int) (cntA i : Int) (cntA i : Int) 0 1 1 == some ((cntA i : Int), 0, (cntA i : Int))) && (shV true .u16 1 ((i + 1 : Nat) : Int) == ((2 ^ (i + 1) : Nat) : Int))) = true := by kernel_rfl

/-- A part of the even word of 16 boxes is straight. -/
def partOK (k a l : Nat) : Bool :=
  match f21 2100 16 (k : Int) with
  | some (w, e) => (e == 0) && (Nat.beq w.size 16) && (cutOk (a : Int) ((a + 1 + l : Nat) : Int) w.size) && (chk (cutT w (a : Int) ((a + 1 + l : Nat) : Int)) == 0) && (Nat.blt 0 (cutT w (a : Int) ((a + 1 + l : Nat) : Int)).size) &&
      winOK (cutT w (a : Int) ((a + 1 + l : Nat) : Int)).size (List.replicate (cutT w (a : Int) ((a + 1 + l : Nat) : Int)).size 0) (bitsA (cutT w (a : Int) ((a + 1 + l : Nat) : Int)))
  | none => false

theorem parts_all : (List.range 17).all (fun k => (List.range 16).all (fun a => (List.range (16 - a)).all (fun l => partOK k a l))) = true := by kernel_rfl

theorem part_ok {k a l : Nat} (h : partOK k a l = true) : ∃ w : ByteArray, f21 2100 16 (k : Int) = some (w, 0) ∧ w.size = 16 ∧ cutOk (a : Int) ((a + 1 + l : Nat) : Int) w.size = true ∧ f33 2100 (cutT w (a : Int) ((a + 1 + l : Nat) : Int)) = some (true, 0) := by
  unfold partOK at h
  split at h
  · rename_i w e he
    simp only [Bool.and_eq_true, beq_iff_eq] at h
    obtain ⟨⟨⟨⟨⟨h1, h2⟩, h3⟩, h4⟩, h5⟩, h6⟩ := h
    subst h1
    have h2 := Nat.eq_of_beq_eq_true h2
    refine ⟨w, he, h2, h3, ?_⟩
    have h7 := (chk_ok h4).2.1
    rw [f33_eq 2100 _ (by omega) (by omega), if_pos h4, ← stA_eq (Nat.blt_eq ▸ h5), h6]
  · cases h

theorem f10_eq (a b c d : Nat) (ha : a < 256) (hb : b < 256) (hc : c < 256) (hd : d < 256) : f10 2100 a b c d = some true := by
  have h64 : ∀ x : Int, 0 ≤ x → x ≤ 1000 → w64 x = x := fun x h1 h2 => w64_id (by omega) (by omega)
  have hm : a % 11 < 11 := Nat.mod_lt _ (by omega)
  have t1 : Int.tmod (a : Int) 11 = ((a % 11 : Nat) : Int) := rfl
  have eN : w64 (1 + Int.tmod (w64 (a : Int)) 11) = ((a % 11 + 1 : Nat) : Int) := by
    rw [h64 (a : Int) (by omega) (by omega), t1, h64 _ (by omega) (by omega)]
    omega
  have c0 : (0 : Int) ≤ ((a % 11 + 1 : Nat) : Int) := by omega
  have t := List.all_eq_true.1 count_all (a % 11) (List.mem_range.2 hm)
  simp only [Bool.and_eq_true, beq_iff_eq] at t
  obtain ⟨⟨t1, t2⟩, t3⟩ := t
  have hpow : 2 ^ (a % 11 + 1) ≤ 2048 := Nat.pow_le_pow_right (n := 2) (by omega) (show a % 11 + 1 ≤ 11 by omega)
  have r := f10_1_eq 2100 b c d (a % 11 + 1) (by omega) (by omega) (2 ^ (a % 11 + 1)) hpow (by omega) (2 ^ (a % 11 + 1)) 0 0 2100 (by omega) (by omega) (by omega)
  have e0 : ((0 : Nat) : Int) = 0 := rfl
  rw [e0] at r
  have eb : Int.tmod (w64 (b : Int)) 17 = ((b % 17 : Nat) : Int) := by rw [h64 (b : Int) (by omega) (by omega)]; rfl
  have ec : Int.tmod (w64 (c : Int)) 16 = ((c % 16 : Nat) : Int) := by rw [h64 (c : Int) (by omega) (by omega)]; rfl
  have hc16 : c % 16 < 16 := Nat.mod_lt _ (by omega)
  have e16 : w64 (16 - ((c % 16 : Nat) : Int)) = ((16 - c % 16 : Nat) : Int) := by rw [h64 _ (by omega) (by omega)]; omega
  have ed : Int.tmod (w64 (d : Int)) ((16 - c % 16 : Nat) : Int) = ((d % (16 - c % 16) : Nat) : Int) := by rw [h64 (d : Int) (by omega) (by omega)]; rfl
  have hd16 : d % (16 - c % 16) < 16 - c % 16 := Nat.mod_lt _ (by omega)
  have ee : w64 (w64 (((c % 16 : Nat) : Int) + 1) + ((d % (16 - c % 16) : Nat) : Int)) = ((c % 16 + 1 + d % (16 - c % 16) : Nat) : Int) := by
    rw [h64 (((c % 16 : Nat) : Int) + 1) (by omega) (by omega), h64 _ (by omega) (by omega)]
    omega
  have p := List.all_eq_true.1 parts_all (b % 17) (List.mem_range.2 (Nat.mod_lt _ (by omega)))
  have p := List.all_eq_true.1 p (c % 16) (List.mem_range.2 hc16)
  have p := List.all_eq_true.1 p (d % (16 - c % 16)) (List.mem_range.2 hd16)
  obtain ⟨w, p1, p2, p3, p4⟩ := part_ok p
  have n16 : (((16 - c % 16 : Nat) : Int) != 0) = true := by rw [bne_iff_ne]; omega
  have s16 : (((w.size : Nat) : Int) != 16) = false := by rw [p2]; rfl
  unfold f10
  rw [eN, decide_eq_true c0, t3, r]
  have hcnt : (cntT (a % 11 + 1) (2 ^ (a % 11 + 1)) 0 0) = cntA (a % 11) := rfl
  simp only [cond_true, Option.bind_some, hcnt, t1, f10_2_ind 2100 b c d, t2, bne_self_eq_false, cond_false, eb, p1, s16, ec, e16, n16, ed, ee, p3, p4, beq_self_eq_true]

end Go.Xm

namespace Go.Proofs.Ytdijjdkaojbolaa.bandCounted
open Go.Xm Go.RowKit
set_option linter.unusedVariables false

theorem walk (a0 : Int) (a1 : Int) (a2 : Int) (a3 : Int) (w : World) (hI : ∃ m, w.cell? ⟨0, 0, none⟩ = some (.int .i64 m)) (w0 : (Lit.int .u8 a0).wf = true) (w1 : (Lit.int .u8 a1).wf = true) (w2 : (Lit.int .u8 a2).wf = true) (w3 : (Lit.int .u8 a3).wf = true) :
    Calls Try.prog 10 #[.int .u8 a0, .int .u8 a1, .int .u8 a2, .int .u8 a3] w fun e w' => e = .returned (.bool true) ∧ Below w.heap.size w w' := by
  have h0 : 0 ≤ a0 ∧ a0 ≤ 255 := by simpa [Lit.wf, IntKind.min, IntKind.max, IntKind.signed, IntKind.bits] using w0
  have h1 : 0 ≤ a1 ∧ a1 ≤ 255 := by simpa [Lit.wf, IntKind.min, IntKind.max, IntKind.signed, IntKind.bits] using w1
  have h2 : 0 ≤ a2 ∧ a2 ≤ 255 := by simpa [Lit.wf, IntKind.min, IntKind.max, IntKind.signed, IntKind.bits] using w2
  have h3 : 0 ≤ a3 ∧ a3 ≤ 255 := by simpa [Lit.wf, IntKind.min, IntKind.max, IntKind.signed, IntKind.bits] using w3
  obtain ⟨a, rfl⟩ : ∃ k : Nat, a0 = k := ⟨a0.toNat, by omega⟩
  obtain ⟨b, rfl⟩ : ∃ k : Nat, a1 = k := ⟨a1.toNat, by omega⟩
  obtain ⟨c, rfl⟩ : ∃ k : Nat, a2 = k := ⟨a2.toNat, by omega⟩
  obtain ⟨d, rfl⟩ : ∃ k : Nat, a3 = k := ⟨a3.toNat, by omega⟩
  exact f10_ok 2100 a b c d true (f10_eq a b c d (by omega) (by omega) (by omega) (by omega)) w hI

end Go.Proofs.Ytdijjdkaojbolaa.bandCounted
