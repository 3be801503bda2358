/- TopPaired: the walk, as the statement's shell wants it. Conditions: the library's tables lie in their variables. -/
import Derived.Test.YtfgggididakkbaaGreatDoorPh
namespace Go.Xm
open Go.RowKit
set_option linter.unusedVariables false
set_option maxRecDepth 20000

theorem redN : (List.range 256).all (fun k => decide (w64 (2 * w64 (1 + Int.tmod (w64 (Int.ofNat k)) 3)) = Int.ofNat (2 * (1 + k % 3)))) = true := by kernel_rfl
theorem redW : (List.range 256).all (fun k => decide (Int.tmod (w64 (Int.ofNat k)) 3 = 0 ∨ Int.tmod (w64 (Int.ofNat k)) 3 = 1 ∨ Int.tmod (w64 (Int.ofNat k)) 3 = 2)) = true := by kernel_rfl

theorem f3_true (k w : Nat) (hk : k < 256) (hw : w < 256) : KC Es 3 [.int .u8 (.ofNat k), .int .u8 (.ofNat w)] [] 0 (fun v _ _ => v = .bool true) := by
  have eN := of_decide_eq_true (List.all_eq_true.1 redN k (List.mem_range.2 hk))
  have eW := of_decide_eq_true (List.all_eq_true.1 redW w (List.mem_range.2 hw))
  refine KC.bodyN Es_ok (F := Proofs.Tryz.f3) (by kernel_rfl) (code := C3) (by kernel_rfl) (nt := 236) (by kernel_rfl) (rs := [.tmp 4]) (by kernel_rfl) (by kernel_rfl) (σ := [(0, .int .u8 (.ofNat k)), (1, .int .u8 (.ofNat w))]) (by kernel_rfl) ?_
  refine XQ.seq Es_ok (by kernel_rfl) (XQ.region (by kernel_rfl) ?_)
  refine XR.runS Es_ok 1 1 [(0, .int .u8 (.ofNat k)), (1, .int .u8 (.ofNat w))] rfl (by kernel_rfl) (XR.done (by kernel_rfl) ?_)
  show XQ _ _ _ _ _ _ _ _
  refine XQ.seq Es_ok (by kernel_rfl) (XQ.region (by kernel_rfl) ?_)
  refine XR.runT Es_ok 1 7 [(1, .int .u8 (.ofNat w)), (5, pp 0 0)] [(0, .cells [ii (w64 (2 * w64 (1 + Int.tmod (w64 (Int.ofNat k)) 3)))] 0 3 0)] 1 rfl (by kernel_rfl) (XR.done (by kernel_rfl) ?_)
  rw [eN]
  show XQ Es 236 0 (drp 2 C3) _ _ _ QT
  have h3 : k % 3 = 0 ∨ k % 3 = 1 ∨ k % 3 = 2 := by omega
  rcases h3 with e | e | e <;> rw [e]
  · exact half_2 _ eW
  · exact half_4 _ eW
  · exact half_6 _ eW

end Go.Xm

namespace Go.Proofs.YtfgggididakkbaaGreatDoor.topPaired
open Go.Xm Go.RowKit

theorem walk (a0 a1 : Int) (w : World) (hI : seatInv w) (w0 : (Lit.int .u8 a0).wf = true) (w1 : (Lit.int .u8 a1).wf = true) :
    Calls Tryz.prog 3 #[.int .u8 a0, .int .u8 a1] w fun e w' => e = .returned (.bool true) ∧ Below w.heap.size w w' := by
  have h : ∀ a : Int, (Lit.int .u8 a).wf = true → 0 ≤ a ∧ a ≤ 255 := fun a w0 => by
    simp [Lit.wf, IntKind.min, IntKind.max, IntKind.signed, IntKind.bits] at w0
    omega
  obtain ⟨k, rfl⟩ := Int.eq_ofNat_of_zero_le (h a0 w0).1
  obtain ⟨m, rfl⟩ := Int.eq_ofNat_of_zero_le (h a1 w1).1
  have b0 := (h _ w0).2
  have b1 := (h _ w1).2
  exact KC.calls (E := Es) rfl rfl (f3_true k m (by omega) (by omega)) w (seatInv_size hI) hI

end Go.Proofs.YtfgggididakkbaaGreatDoor.topPaired
