/- ClubHavel: the walk, as the statement's shell wants it. Conditions: the library's tables lie in their variables. -/
import Derived.Test.YtfimbmhannndaaaDoorHf
import Derived.Test.YtfimbmhannndaaaDoorAq
namespace Go.Proofs.YtfimbmhannndaaaDoor.clubHavel
open Go.Xm Go.RowKit

theorem u8b {z : Int} (h : (Lit.int .u8 z).wf = true) : 0 ≤ z ∧ z ≤ 255 := by
  simp [Lit.wf, IntKind.min, IntKind.max, IntKind.signed, IntKind.bits] at h
  omega

theorem list8 {α : Type} {l : List α} (h : l.length = 8) : ∃ a0 a1 a2 a3 a4 a5 a6 a7, l = [a0, a1, a2, a3, a4, a5, a6, a7] := by
  match l, h with
  | [a0, a1, a2, a3, a4, a5, a6, a7], _ => exact ⟨a0, a1, a2, a3, a4, a5, a6, a7, rfl⟩

theorem walk (z0 : List Int) (a1 : Int) (a2 : Int) (w : World) (hI : seatInv w) (l0 : z0.length = 8) (w0 : ∀ z ∈ z0, (Lit.int .u8 z).wf = true) (w1 : (Lit.int .u8 a1).wf = true) (w2 : (Lit.int .u8 a2).wf = true) :
    Calls Tryd.prog 13 #[.agg (z0.map (.int .u8)).toArray, .int .u8 a1, .int .u8 a2] w fun e w' => e = .returned (.bool true) ∧ Below w.heap.size w w' := by
  obtain ⟨b0, b1, b2, b3, b4, b5, b6, b7, rfl⟩ := list8 l0
  exact f13_ok 1001 _ _ _ _ _ _ _ _ _ _ true (f13_true 1001 (by omega) b0 b1 b2 b3 b4 b5 b6 b7 a1 a2 (fun x hx => u8b (w0 x hx)) (u8b w1) (u8b w2)) w hI

end Go.Proofs.YtfimbmhannndaaaDoor.clubHavel
