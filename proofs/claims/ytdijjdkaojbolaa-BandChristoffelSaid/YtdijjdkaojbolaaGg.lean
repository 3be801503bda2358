/- BandChristoffel: all words are tried. Conditions: none. -/
import Derived.Test.YtdijjdkaojbolaaGe
import Derived.Test.YtdijjdkaojbolaaG5
import Derived.Test.YtdijjdkaojbolaaDt
namespace Go.Xm
set_option linter.unusedVariables false
set_option linter.unusedSimpArgs false

theorem u16_id2 {x : Int} (h1 : 0 ≤ x) (h2 : x ≤ 65535) : IntKind.wrap .u16 x = x := IntWalk.u16_in _ ⟨h1, h2⟩

/-- The loop over all words, with the quick test. -/
def g11 (m : Nat) : Nat → Int → Int → Int → List ByteArray → List Int → Option Of11_1
  | 0, _, _, _, _, _ => none
  | fuel + 1, x3_1, x29_1, x30_1, lh0_1, lh1_1 =>
    cond (decide (x30_1 < x29_1)) (
      cond (evW x3_1.toNat x30_1.toNat) ((fun r13 => (f43 m x30_1).bind fun r16 => cond (inRow r16 lh1_1.length) ( cond (inRow r16 lh0_1.length) ( cond ((List.getD lh0_1 (Int.toNat r16) (bs [])).data.toList == []) ( (f31 m (List.getD (List.set lh0_1 (Int.toNat r16) r13) (Int.toNat r16) (bs [])) r13).bind fun r17 => cond (r17.2 != 0) ( some (.r) ) ( cond (decide (r17.1 < 0)) ( some (.r) ) ( cond (decide (r17.1 ≥ x3_1)) ( some (.r) ) ( cond (cutOk r17.1 ((List.getD (List.set lh0_1 (Int.toNat r16) r13) (Int.toNat r16) (bs [])).size : Int) (List.getD (List.set lh0_1 (Int.toNat r16) r13) (Int.toNat r16) (bs [])).size) ( cond (cutOk 0 r17.1 (List.getD (List.set lh0_1 (Int.toNat r16) r13) (Int.toNat r16) (bs [])).size) ( cond (Nat.ble ((cutT (List.getD (List.set lh0_1 (Int.toNat r16) r13) (Int.toNat r16) (bs [])) r17.1 ((List.getD (List.set lh0_1 (Int.toNat r16) r13) (Int.toNat r16) (bs [])).size : Int)).size + (cutT (List.getD (List.set lh0_1 (Int.toNat r16) r13) (Int.toNat r16) (bs [])) 0 r17.1).size) 9223372036854775807) ( cond (!((catS (cutT (List.getD (List.set lh0_1 (Int.toNat r16) r13) (Int.toNat r16) (bs [])) r17.1 ((List.getD (List.set lh0_1 (Int.toNat r16) r13) (Int.toNat r16) (bs [])).size : Int)) (cutT (List.getD (List.set lh0_1 (Int.toNat r16) r13) (Int.toNat r16) (bs [])) 0 r17.1)).data.toList == r13.data.toList)) ( some (.r) ) ( g11 m fuel x3_1 x29_1 (IntKind.wrap .u16 (x30_1 + 1)) (List.set lh0_1 (Int.toNat r16) r13) (List.set lh1_1 (Int.toNat r16) (w64 ((List.getD lh1_1 (Int.toNat r16) 0) + 1))) ) ) none ) none ) none ) ) ) ) ( (f31 m (List.getD lh0_1 (Int.toNat r16) (bs [])) r13).bind fun r18 => cond (r18.2 != 0) ( some (.r) ) ( cond (decide (r18.1 < 0)) ( some (.r) ) ( cond (decide (r18.1 ≥ x3_1)) ( some (.r) ) ( cond (cutOk r18.1 ((List.getD lh0_1 (Int.toNat r16) (bs [])).size : Int) (List.getD lh0_1 (Int.toNat r16) (bs [])).size) ( cond (cutOk 0 r18.1 (List.getD lh0_1 (Int.toNat r16) (bs [])).size) ( cond (Nat.ble ((cutT (List.getD lh0_1 (Int.toNat r16) (bs [])) r18.1 ((List.getD lh0_1 (Int.toNat r16) (bs [])).size : Int)).size + (cutT (List.getD lh0_1 (Int.toNat r16) (bs [])) 0 r18.1).size) 9223372036854775807) ( cond (!((catS (cutT (List.getD lh0_1 (Int.toNat r16) (bs [])) r18.1 ((List.getD lh0_1 (Int.toNat r16) (bs [])).size : Int)) (cutT (List.getD lh0_1 (Int.toNat r16) (bs [])) 0 r18.1)).data.toList == r13.data.toList)) ( some (.r) ) ( g11 m fuel x3_1 x29_1 (IntKind.wrap .u16 (x30_1 + 1)) lh0_1 (List.set lh1_1 (Int.toNat r16) (w64 ((List.getD lh1_1 (Int.toNat r16) 0) + 1))) ) ) none ) none ) none ) ) ) ) ) none ) none) (spl x3_1.toNat x30_1)) (g11 m fuel x3_1 x29_1 (IntKind.wrap .u16 (x30_1 + 1)) lh0_1 lh1_1)
    ) ( some (.x0 x3_1 lh0_1 lh1_1) )

def f11G (m : Nat) (a : Int) : Option (Bool) :=
  cond (mkOK (w64 ((w64 (1 + (Int.tmod (w64 a) 10))) + 1)) (w64 ((w64 (1 + (Int.tmod (w64 a) 10))) + 1)) 16) (
    cond (mkOK (w64 ((w64 (1 + (Int.tmod (w64 a) 10))) + 1)) (w64 ((w64 (1 + (Int.tmod (w64 a) 10))) + 1)) 8) (
      cond (decide (0 ≤ w64 (1 + (Int.tmod (w64 a) 10)))) (
        (g11 m m (w64 (1 + (Int.tmod (w64 a) 10))) (shV true .u16 1 (w64 (1 + (Int.tmod (w64 a) 10)))) 0 (List.replicate (Int.toNat (w64 ((w64 (1 + (Int.tmod (w64 a) 10))) + 1))) (bs [])) (List.replicate (Int.toNat (w64 ((w64 (1 + (Int.tmod (w64 a) 10))) + 1))) 0)).bind fun o1 =>
          match o1 with
          | .r =>
            some (false)
          | .x0 x3_x01 lh0_x01 lh1_x01 =>
            (f11_2 m m x3_x01 lh0_x01 lh1_x01 (w64 (x3_x01 + 1)) 0).bind fun o2 =>
              match o2 with
              | .r =>
                some (false)
              | .x2 =>
                some (true)
      ) none
    ) none
  ) none

theorem g11_eq (m : Nat) (n T : Nat) (h0 : 0 < n) (hn : n ≤ 10) (hT : T ≤ 1024) (hm : 100 < m) : ∀ (k x fuel : Nat) (l0 : List ByteArray) (l1 : List Int), x + k = T → f11_1 m fuel n T x l0 l1 = g11 m fuel n T x l0 l1
  | _, x, 0, l0, l1, _ => rfl
  | 0, x, fuel + 1, l0, l1, h1 => by
    have : ¬ ((x : Int) < (T : Int)) := by omega
    simp only [f11_1, g11, decide_eq_false this, cond_false]
  | k + 1, x, fuel + 1, l0, l1, h1 => by
    have q1 : ((x : Int) < (T : Int)) := by omega
    have q2 : IntKind.wrap .u16 ((x : Int) + 1) = ((x + 1 : Nat) : Int) := by rw [u16_id2 (by omega) (by omega)]; rfl
    have hs := spl_size n (x : Int)
    have hc := spl_chk n (x : Int) h0 (by omega)
    have r1 := f37_eq m n (x : Int) (by omega) (by omega)
    have r2 := f39_eq m (a := spl n (x : Int)) (by omega) (by omega) hm
    have r3 := f13_eq m (spl n (x : Int)) hm (by omega)
    rw [if_pos hc] at r3
    have e := evW_eq n x (by omega) h0 (by omega)
    rw [← e] at r2 r3
    have ih := fun l0 l1 => g11_eq m n T h0 hn hT hm k (x + 1) fuel l0 l1 (by omega)
    simp only [f11_1, g11, decide_eq_true q1, r1, r2, r3, q2, cond_true, Option.bind_some, bne_self_eq_false, cond_false, beq_self_eq_true, Bool.not_true, Int.toNat_natCast, ih]
    cases evW n x with
    | true => rfl
    | false => rfl

theorem even_table : (List.range 10).all (fun i => (f11G 1100 (i : Int) == some true) && (shV true .u16 1 ((i + 1 : Nat) : Int) == ((2 ^ (i + 1) : Nat) : Int))) = true := by kernel_rfl

theorem f11_eq (a : Nat) (ha : a < 256) : f11 1100 a = some true := by
  have h64 : ∀ x : Int, 0 ≤ x → x ≤ 1000 → w64 x = x := fun x h1 h2 => w64_id (by omega) (by omega)
  have hm : a % 10 < 10 := Nat.mod_lt _ (by omega)
  have t1 : Int.tmod (a : Int) 10 = ((a % 10 : Nat) : Int) := rfl
  have t2 : Int.tmod ((a % 10 : Nat) : Int) 10 = ((a % 10 : Nat) : Int) := by
    have : Int.tmod ((a % 10 : Nat) : Int) 10 = ((a % 10 % 10 : Nat) : Int) := rfl
    rw [this, Nat.mod_mod]
  have eA : w64 (1 + Int.tmod (w64 (a : Int)) 10) = ((a % 10 + 1 : Nat) : Int) := by
    rw [h64 (a : Int) (by omega) (by omega), t1, h64 _ (by omega) (by omega)]
    omega
  have eB : w64 (1 + Int.tmod (w64 ((a % 10 : Nat) : Int)) 10) = ((a % 10 + 1 : Nat) : Int) := by
    rw [h64 ((a % 10 : Nat) : Int) (by omega) (by omega), t2, h64 _ (by omega) (by omega)]
    omega
  have t := List.all_eq_true.1 even_table (a % 10) (List.mem_range.2 hm)
  simp only [Bool.and_eq_true, beq_iff_eq] at t
  obtain ⟨t3, t4⟩ := t
  have hpow : 2 ^ (a % 10 + 1) ≤ 1024 := Nat.pow_le_pow_right (n := 2) (by omega) (show a % 10 + 1 ≤ 10 by omega)
  have r := fun l0 l1 => g11_eq 1100 (a % 10 + 1) (2 ^ (a % 10 + 1)) (by omega) (by omega) hpow (by omega) (2 ^ (a % 10 + 1)) 0 1100 l0 l1 (by omega)
  have e0 : ((0 : Nat) : Int) = 0 := rfl
  rw [e0] at r
  rw [← t3]
  unfold f11 f11G
  rw [eA, eB, t4]
  simp only [r]
  rfl

end Go.Xm

namespace Go.Proofs.Ytdijjdkaojbolaa.bandChristoffel
open Go.Xm Go.RowKit
set_option linter.unusedVariables false

theorem walk (a0 : Int) (w : World) (hI : ∃ m, w.cell? ⟨0, 0, none⟩ = some (.int .i64 m)) (w0 : (Lit.int .u8 a0).wf = true) :
    Calls Try.prog 11 #[.int .u8 a0] w fun e w' => e = .returned (.bool true) ∧ Below w.heap.size w w' := by
  have h0 : 0 ≤ a0 ∧ a0 ≤ 255 := by simpa [Lit.wf, IntKind.min, IntKind.max, IntKind.signed, IntKind.bits] using w0
  obtain ⟨a, rfl⟩ : ∃ k : Nat, a0 = k := ⟨a0.toNat, by omega⟩
  exact f11_ok 1100 a true (f11_eq a (by omega)) w hI

end Go.Proofs.Ytdijjdkaojbolaa.bandChristoffel
