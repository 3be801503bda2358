/- BandSplit: all boxes and bands are tried. Conditions: none. -/
import Derived.Test.YtdijjdkaojbolaaDq
namespace Go.Xm
set_option linter.unusedVariables false
set_option linter.unusedSimpArgs false

theorem split_table : (List.range 16).all (fun a => (List.range (a + 2)).all (fun b => f9 101 (a : Int) (b : Int) == some true)) = true := by kernel_rfl

theorem f9_eq (a b : Nat) (ha : a < 256) (hb : b < 256) : f9 101 a b = some true := by
  have h64 : ∀ x : Int, 0 ≤ x → x ≤ 1000 → w64 x = x := fun x h1 h2 => IntWalk.i64_in _ (by omega)
  have hm : a % 16 < 16 := Nat.mod_lt _ (by omega)
  have hk : b % (a % 16 + 2) < a % 16 + 2 := Nat.mod_lt _ (by omega)
  have t1 : Int.tmod (a : Int) 16 = ((a % 16 : Nat) : Int) := rfl
  have t2 : Int.tmod ((a % 16 : Nat) : Int) 16 = ((a % 16 : Nat) : Int) := by
    have : Int.tmod ((a % 16 : Nat) : Int) 16 = ((a % 16 % 16 : Nat) : Int) := rfl
    rw [this, Nat.mod_mod]
  have eN : w64 (1 + Int.tmod (w64 (a : Int)) 16) = w64 (1 + Int.tmod (w64 ((a % 16 : Nat) : Int)) 16) := by
    rw [h64 (a : Int) (by omega) (by omega), h64 ((a % 16 : Nat) : Int) (by omega) (by omega), t1, t2]
  have eM : w64 (w64 (1 + Int.tmod (w64 ((a % 16 : Nat) : Int)) 16) + 1) = ((a % 16 + 2 : Nat) : Int) := by
    rw [h64 ((a % 16 : Nat) : Int) (by omega) (by omega), t2, h64 (1 + _) (by omega) (by omega), h64 _ (by omega) (by omega)]
    omega
  have eK : Int.tmod (w64 (b : Int)) (w64 (w64 (1 + Int.tmod (w64 ((a % 16 : Nat) : Int)) 16) + 1)) = Int.tmod (w64 ((b % (a % 16 + 2) : Nat) : Int)) (w64 (w64 (1 + Int.tmod (w64 ((a % 16 : Nat) : Int)) 16) + 1)) := by
    rw [eM, h64 (b : Int) (by omega) (by omega), h64 ((b % (a % 16 + 2) : Nat) : Int) (by omega) (by omega)]
    have q1 : Int.tmod (b : Int) ((a % 16 + 2 : Nat) : Int) = ((b % (a % 16 + 2) : Nat) : Int) := rfl
    have q2 : Int.tmod ((b % (a % 16 + 2) : Nat) : Int) ((a % 16 + 2 : Nat) : Int) = ((b % (a % 16 + 2) % (a % 16 + 2) : Nat) : Int) := rfl
    rw [q1, q2, Nat.mod_mod]
  have t := List.all_eq_true.1 split_table (a % 16) (List.mem_range.2 hm)
  have t := List.all_eq_true.1 t (b % (a % 16 + 2)) (List.mem_range.2 hk)
  rw [← beq_iff_eq.1 t]
  unfold f9
  rw [eN, eK]

end Go.Xm

namespace Go.Proofs.Ytdijjdkaojbolaa.bandSplit
open Go.Xm Go.RowKit
set_option linter.unusedVariables false

theorem walk (a0 : Int) (a1 : Int) (w : World) (hI : ∃ m, w.cell? ⟨0, 0, none⟩ = some (.int .i64 m)) (w0 : (Lit.int .u8 a0).wf = true) (w1 : (Lit.int .u8 a1).wf = true) :
    Calls Try.prog 9 #[.int .u8 a0, .int .u8 a1] w fun e w' => e = .returned (.bool true) ∧ Below w.heap.size w w' := by
  have h0 : 0 ≤ a0 ∧ a0 ≤ 255 := by simpa [Lit.wf, IntKind.min, IntKind.max, IntKind.signed, IntKind.bits] using w0
  have h1 : 0 ≤ a1 ∧ a1 ≤ 255 := by simpa [Lit.wf, IntKind.min, IntKind.max, IntKind.signed, IntKind.bits] using w1
  obtain ⟨a, rfl⟩ : ∃ k : Nat, a0 = k := ⟨a0.toNat, by omega⟩
  obtain ⟨b, rfl⟩ : ∃ k : Nat, a1 = k := ⟨a1.toNat, by omega⟩
  exact f9_ok 101 a b true (f9_eq a b (by omega) (by omega)) w hI

end Go.Proofs.Ytdijjdkaojbolaa.bandSplit
