/- HeapVerified: the walk, as the statement's shell wants it. Conditions: none. -/
import Derived.Test.YtfdeihnkoaihfaaLb
import Derived.Test.YtfdeihnkoaihfaaAq
namespace Go.Proofs.Ytfdeihnkoaihfaa.heapVerified
open Go.Xm Go.RowKit

theorem u8b {z : Int} (h : (Lit.int .u8 z).wf = true) : 0 ≤ z ∧ z ≤ 255 := by
  simp [Lit.wf, IntKind.min, IntKind.max, IntKind.signed, IntKind.bits] at h
  omega

theorem walk (z0 : List Int) (a1 a2 : Int) (z3 : List Int) (a4 : Int) (w : World) (l0 : z0.length = 16) (w0 : ∀ z ∈ z0, (Lit.int .u8 z).wf = true) (w1 : (Lit.int .u8 a1).wf = true) (w2 : (Lit.int .u8 a2).wf = true) (l3 : z3.length = 8) (w3 : ∀ z ∈ z3, (Lit.int .u8 z).wf = true) (_w4 : (Lit.int .u8 a4).wf = true) :
    Calls Try.prog 8 #[.agg (z0.map (.int .u8)).toArray, .int .u8 a1, .int .u8 a2, .agg (z3.map (.int .u8)).toArray, .int .u8 a4] w fun e w' => e = .returned (.bool true) ∧ Below w.heap.size w w' := by
  obtain ⟨a0, b0, a1', b1, a2', b2, a3, b3, a4', b4, a5, b5, a6, b6, a7, b7, rfl⟩ := list16 l0
  obtain ⟨d0, d1, d2, d3, d4, d5, d6, d7, rfl⟩ := list8 l3
  have hy : bytesP [(a0, b0), (a1', b1), (a2', b2), (a3, b3), (a4', b4), (a5, b5), (a6, b6), (a7, b7)] := by
    intro p hp
    have hb : ∀ z, z ∈ [a0, b0, a1', b1, a2', b2, a3, b3, a4', b4, a5, b5, a6, b6, a7, b7] → 0 ≤ z ∧ z ≤ 255 := fun z hz => u8b (w0 z hz)
    simp only [List.mem_cons, List.not_mem_nil, or_false] at hp
    rcases hp with rfl | rfl | rfl | rfl | rfl | rfl | rfl | rfl <;> (refine ⟨(hb _ ?_).1, (hb _ ?_).2, (hb _ ?_).1, (hb _ ?_).2⟩ <;> simp)
  have hd : ∀ x ∈ [d0, d1, d2, d3, d4, d5, d6, d7], 0 ≤ x ∧ x ≤ 255 := fun z hz => u8b (w3 z hz)
  exact f8_ok 40 _ _ _ _ _ _ _ _ _ _ _ _ _ _ _ _ _ _ _ _ _ _ _ _ _ _ _ true (f8_true 40 (by omega) _ _ _ _ _ _ _ _ _ _ _ _ _ _ _ _ _ _ _ _ _ _ _ _ _ _ _ hy hd (u8b w1) (u8b w2)) w trivial

end Go.Proofs.Ytfdeihnkoaihfaa.heapVerified
