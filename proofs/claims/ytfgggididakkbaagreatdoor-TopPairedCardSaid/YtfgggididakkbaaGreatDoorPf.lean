/- TopPaired with two or four boxes, and what follows for all: run by the machine. Conditions: the library's tables lie in their variables. -/
import Derived.Test.YtfgggididakkbaaGreatDoorPe
import Derived.Test.YtfgggididakkbaaGreatDoorPb
namespace Go.Xm
open Go.RowKit
set_option linter.unusedVariables false
set_option maxRecDepth 20000

noncomputable def C3 : Code := Proofs.Tryz.f3.body.getD .skip
noncomputable def QT : QP := fun e σ h' _ => (∀ i, e ≠ .exit i) ∧ ∃ v, resOf Es 236 (trS 236 σ) h' [.tmp 4] = some v ∧ v = .bool true
abbrev cl : Value := .func (.func 10) #[] #[pp 0 0]
noncomputable def fin3 : FB := finB Es 236 [.tmp 4]
theorem good3 : Good 236 QT fin3 := good_fin

theorem end_0 : runR (fastEnv Es) 236 100000 (opsOf (lft (drp 12 C3))) 16 (thenB (runB (fastEnv Es) 236 100000 (rgt (drp 12 C3)) fin3) fin3) (trS 236 [(5, pp 0 0), (13, cl), (155, s0 4 3), (158, ii 0)]) [(4, .cells [ii 4, s0 1 2, ii 4, s0 2 2, ii 4, s0 3 2] 0 30 2), (3, .cells [ii 0, ii 3, ii 1, ii 2] 0 35 2), (2, .cells [ii 0, ii 2, ii 1, ii 3] 0 35 2), (1, .cells [ii 0, ii 1, ii 2, ii 3] 0 35 2), (0, .cells [ii 4] 0 3 0)] 5 = true := by kernel_rfl

theorem end_1 : runR (fastEnv Es) 236 100000 (opsOf (lft (drp 12 C3))) 16 (thenB (runB (fastEnv Es) 236 100000 (rgt (drp 12 C3)) fin3) fin3) (trS 236 [(5, pp 0 0), (13, cl), (155, s0 4 3), (158, ii 1)]) [(4, .cells [ii 4, s0 1 2, ii 4, s0 2 2, ii 4, s0 3 2] 0 30 2), (3, .cells [ii 0, ii 3, ii 1, ii 2] 0 35 2), (2, .cells [ii 0, ii 2, ii 1, ii 3] 0 35 2), (1, .cells [ii 0, ii 1, ii 2, ii 3] 0 35 2), (0, .cells [ii 4] 0 3 0)] 5 = true := by kernel_rfl

theorem end_2 : runR (fastEnv Es) 236 100000 (opsOf (lft (drp 12 C3))) 16 (thenB (runB (fastEnv Es) 236 100000 (rgt (drp 12 C3)) fin3) fin3) (trS 236 [(5, pp 0 0), (13, cl), (155, s0 4 3), (158, ii 2)]) [(4, .cells [ii 4, s0 1 2, ii 4, s0 2 2, ii 4, s0 3 2] 0 30 2), (3, .cells [ii 0, ii 3, ii 1, ii 2] 0 35 2), (2, .cells [ii 0, ii 2, ii 1, ii 3] 0 35 2), (1, .cells [ii 0, ii 1, ii 2, ii 3] 0 35 2), (0, .cells [ii 4] 0 3 0)] 5 = true := by kernel_rfl

theorem tail_ok (w : Int) (hw : Int.tmod (w64 w) 3 = 0 ∨ Int.tmod (w64 w) 3 = 1 ∨ Int.tmod (w64 w) 3 = 2) : XQ Es 236 0 (drp 12 C3) [(1, .int .u8 w), (5, pp 0 0), (13, cl)] [(0, .cells [ii 4] 0 3 0)] 1 QT := by
  refine XQ.seq Es_ok (by kernel_rfl) ?_
  refine XQ.region (by kernel_rfl) ?_
  refine XR.runT Es_ok 100000 16 [(5, pp 0 0), (13, cl), (155, s0 4 3), (158, ii (Int.tmod (w64 w) 3))] [(4, .cells [ii 4, s0 1 2, ii 4, s0 2 2, ii 4, s0 3 2] 0 30 2), (3, .cells [ii 0, ii 3, ii 1, ii 2] 0 35 2), (2, .cells [ii 0, ii 2, ii 1, ii 3] 0 35 2), (1, .cells [ii 0, ii 1, ii 2, ii 3] 0 35 2), (0, .cells [ii 4] 0 3 0)] 5 rfl (by kernel_rfl) ?_
  rcases hw with e | e | e <;> rw [e]
  · exact XR.runR (E := fastEnv Es) (fastEnv_ok Es_ok) 100000 (good_thenI Es_ok 100000 good3) end_0
  · exact XR.runR (E := fastEnv Es) (fastEnv_ok Es_ok) 100000 (good_thenI Es_ok 100000 good3) end_1
  · exact XR.runR (E := fastEnv Es) (fastEnv_ok Es_ok) 100000 (good_thenI Es_ok 100000 good3) end_2

theorem region2_2 (w : Int) {Q : QP} (hx : Q .normal [(1, .int .u8 w), (5, pp 0 0), (6, s0 2 2)] [(2, .cells [ii 1, ii 1] 0 3 1), (1, .cells [ii 1] 0 3 1), (0, .cells [ii 2] 0 3 0)] 3) : XQ Es 236 0 (lft (drp 2 C3)) [(1, .int .u8 w), (5, pp 0 0)] [(0, .cells [ii 2] 0 3 0)] 1 Q := by
  refine XQ.inE (XQ.anyC (fastEnv_ok Es_ok) (by kernel_rfl) (g := 5) (by kernel_rfl) (σ' := [(1, .int .u8 w), (5, pp 0 0), (6, s0 2 2)]) (h' := [(2, .cells [ii 1, ii 1] 0 3 1), (1, .cells [ii 1] 0 3 1), (0, .cells [ii 2] 0 3 0)]) (c' := 3) hx ?_)
  refine XA.step (fastEnv_ok Es_ok) [0, 2] (by kernel_rfl) rfl (by kernel_rfl) ⟨?_, ?_, trivial⟩
  · refine XR.runT (fastEnv_ok Es_ok) 100000 1 [(1, .int .u8 w), (5, pp 0 0), (39, s0 1 1)] [(1, .cells [ii 1] 0 3 1), (0, .cells [ii 2] 0 3 0)] 2 rfl (by kernel_rfl) (XR.done (by kernel_rfl) ⟨rfl, ?_⟩)
    refine XA.step (fastEnv_ok Es_ok) [1, 2] (by kernel_rfl) rfl (by kernel_rfl) ⟨?_, ?_, trivial⟩
    · refine XR.runT (fastEnv_ok Es_ok) 100000 1 [(1, .int .u8 w), (5, pp 0 0), (40, s0 1 1)] [(1, .cells [ii 1] 0 3 1), (0, .cells [ii 2] 0 3 0)] 2 rfl (by kernel_rfl) (XR.done (by kernel_rfl) ⟨rfl, ?_⟩)
      refine XA.step (fastEnv_ok Es_ok) [2] (by kernel_rfl) rfl (by kernel_rfl) ⟨?_, trivial⟩
      · refine XR.runT (fastEnv_ok Es_ok) 100000 1 [(1, .int .u8 w), (5, pp 0 0), (40, s0 1 1), (41, ii 2)] [(1, .cells [ii 1] 0 3 1), (0, .cells [ii 2] 0 3 0)] 2 rfl (by kernel_rfl) (XR.done (by kernel_rfl) ⟨rfl, ?_⟩)
        refine XA.step (fastEnv_ok Es_ok) [3] (by kernel_rfl) rfl (by kernel_rfl) ⟨?_, trivial⟩
        · refine XR.runT (fastEnv_ok Es_ok) 100000 1 [(1, .int .u8 w), (5, pp 0 0), (42, s0 2 2)] [(2, .cells [ii 1, ii 1] 0 3 1), (1, .cells [ii 1] 0 3 1), (0, .cells [ii 2] 0 3 0)] 3 rfl (by kernel_rfl) (XR.done (by kernel_rfl) ⟨rfl, ?_⟩)
          refine XA.step (fastEnv_ok Es_ok) [4] (by kernel_rfl) rfl (by kernel_rfl) ⟨?_, trivial⟩
          · refine XR.runT (fastEnv_ok Es_ok) 100000 1 [(1, .int .u8 w), (5, pp 0 0), (6, s0 2 2)] [(2, .cells [ii 1, ii 1] 0 3 1), (1, .cells [ii 1] 0 3 1), (0, .cells [ii 2] 0 3 0)] 3 rfl (by kernel_rfl) (XR.done (by kernel_rfl) ⟨rfl, ?_⟩)
            exact XA.done (by kernel_rfl) ⟨rfl, rfl⟩
    · refine XR.runT (fastEnv_ok Es_ok) 100000 1 [(1, .int .u8 w), (5, pp 0 0), (39, s0 1 1), (41, ii 2)] [(1, .cells [ii 1] 0 3 1), (0, .cells [ii 2] 0 3 0)] 2 rfl (by kernel_rfl) (XR.done (by kernel_rfl) ⟨rfl, ?_⟩)
      refine XA.step (fastEnv_ok Es_ok) [1] (by kernel_rfl) rfl (by kernel_rfl) ⟨?_, trivial⟩
      · refine XR.runT (fastEnv_ok Es_ok) 100000 1 [(1, .int .u8 w), (5, pp 0 0), (40, s0 1 1), (41, ii 2)] [(1, .cells [ii 1] 0 3 1), (0, .cells [ii 2] 0 3 0)] 2 rfl (by kernel_rfl) (XR.done (by kernel_rfl) ⟨rfl, ?_⟩)
        refine XA.step (fastEnv_ok Es_ok) [3] (by kernel_rfl) rfl (by kernel_rfl) ⟨?_, trivial⟩
        · refine XR.runT (fastEnv_ok Es_ok) 100000 1 [(1, .int .u8 w), (5, pp 0 0), (42, s0 2 2)] [(2, .cells [ii 1, ii 1] 0 3 1), (1, .cells [ii 1] 0 3 1), (0, .cells [ii 2] 0 3 0)] 3 rfl (by kernel_rfl) (XR.done (by kernel_rfl) ⟨rfl, ?_⟩)
          refine XA.step (fastEnv_ok Es_ok) [4] (by kernel_rfl) rfl (by kernel_rfl) ⟨?_, trivial⟩
          · refine XR.runT (fastEnv_ok Es_ok) 100000 1 [(1, .int .u8 w), (5, pp 0 0), (6, s0 2 2)] [(2, .cells [ii 1, ii 1] 0 3 1), (1, .cells [ii 1] 0 3 1), (0, .cells [ii 2] 0 3 0)] 3 rfl (by kernel_rfl) (XR.done (by kernel_rfl) ⟨rfl, ?_⟩)
            exact XA.done (by kernel_rfl) ⟨rfl, rfl⟩
  · refine XR.runT (fastEnv_ok Es_ok) 100000 1 [(1, .int .u8 w), (5, pp 0 0), (41, ii 2)] [(0, .cells [ii 2] 0 3 0)] 1 rfl (by kernel_rfl) (XR.done (by kernel_rfl) ⟨rfl, ?_⟩)
    refine XA.step (fastEnv_ok Es_ok) [0] (by kernel_rfl) rfl (by kernel_rfl) ⟨?_, trivial⟩
    · refine XR.runT (fastEnv_ok Es_ok) 100000 1 [(1, .int .u8 w), (5, pp 0 0), (39, s0 1 1), (41, ii 2)] [(1, .cells [ii 1] 0 3 1), (0, .cells [ii 2] 0 3 0)] 2 rfl (by kernel_rfl) (XR.done (by kernel_rfl) ⟨rfl, ?_⟩)
      refine XA.step (fastEnv_ok Es_ok) [1] (by kernel_rfl) rfl (by kernel_rfl) ⟨?_, trivial⟩
      · refine XR.runT (fastEnv_ok Es_ok) 100000 1 [(1, .int .u8 w), (5, pp 0 0), (40, s0 1 1), (41, ii 2)] [(1, .cells [ii 1] 0 3 1), (0, .cells [ii 2] 0 3 0)] 2 rfl (by kernel_rfl) (XR.done (by kernel_rfl) ⟨rfl, ?_⟩)
        refine XA.step (fastEnv_ok Es_ok) [3] (by kernel_rfl) rfl (by kernel_rfl) ⟨?_, trivial⟩
        · refine XR.runT (fastEnv_ok Es_ok) 100000 1 [(1, .int .u8 w), (5, pp 0 0), (42, s0 2 2)] [(2, .cells [ii 1, ii 1] 0 3 1), (1, .cells [ii 1] 0 3 1), (0, .cells [ii 2] 0 3 0)] 3 rfl (by kernel_rfl) (XR.done (by kernel_rfl) ⟨rfl, ?_⟩)
          refine XA.step (fastEnv_ok Es_ok) [4] (by kernel_rfl) rfl (by kernel_rfl) ⟨?_, trivial⟩
          · refine XR.runT (fastEnv_ok Es_ok) 100000 1 [(1, .int .u8 w), (5, pp 0 0), (6, s0 2 2)] [(2, .cells [ii 1, ii 1] 0 3 1), (1, .cells [ii 1] 0 3 1), (0, .cells [ii 2] 0 3 0)] 3 rfl (by kernel_rfl) (XR.done (by kernel_rfl) ⟨rfl, ?_⟩)
            exact XA.done (by kernel_rfl) ⟨rfl, rfl⟩

theorem go_2 (w : Int) : pickN (runL (fastEnv Es) 236 100000 (spn 9 (drp 3 C3)) (trS 236 [(1, .int .u8 w), (5, pp 0 0), (6, s0 2 2)]) [(2, .cells [ii 1, ii 1] 0 3 1), (1, .cells [ii 1] 0 3 1), (0, .cells [ii 2] 0 3 0)] 3) [1, 5, 13] [0] = some ([.int .u8 w, pp 0 0, cl], [some (.cells [ii 4] 0 3 0)]) := by kernel_rfl

theorem half_2 (w : Int) (hw : Int.tmod (w64 w) 3 = 0 ∨ Int.tmod (w64 w) 3 = 1 ∨ Int.tmod (w64 w) 3 = 2) : XQ Es 236 0 (drp 2 C3) [(1, .int .u8 w), (5, pp 0 0)] [(0, .cells [ii 2] 0 3 0)] 1 QT := by
  refine XQ.seq Es_ok (by kernel_rfl) (region2_2 w ?_)
  show XQ Es 236 0 (drp 3 C3) _ _ _ _
  refine XQ.goL Es_ok 100000 9 [0] [(1, .int .u8 w), (5, pp 0 0), (13, cl)] [(0, .cells [ii 4] 0 3 0)] [.cells [ii 4] 0 3 0] (by decide) rfl (by kernel_rfl) (go_2 w) (fun g hg => by
    simp only [List.map_cons, List.map_nil, List.cons.injEq, and_true] at hg
    have h0 := hg
    exact ⟨⟨0, _, rfl, h0, .inl ⟨rfl, rfl⟩⟩, trivial⟩) (tail_ok w hw)

theorem region2_4 (w : Int) {Q : QP} (hx : Q .normal [(1, .int .u8 w), (5, pp 0 0), (6, s0 2 4)] [(2, .cells [ii 1, ii 1, ii 1, ii 1] 0 3 1), (1, .cells [ii 1] 0 3 1), (0, .cells [ii 4] 0 3 0)] 3) : XQ Es 236 0 (lft (drp 2 C3)) [(1, .int .u8 w), (5, pp 0 0)] [(0, .cells [ii 4] 0 3 0)] 1 Q := by
  refine XQ.inE (XQ.anyC (fastEnv_ok Es_ok) (by kernel_rfl) (g := 5) (by kernel_rfl) (σ' := [(1, .int .u8 w), (5, pp 0 0), (6, s0 2 4)]) (h' := [(2, .cells [ii 1, ii 1, ii 1, ii 1] 0 3 1), (1, .cells [ii 1] 0 3 1), (0, .cells [ii 4] 0 3 0)]) (c' := 3) hx ?_)
  refine XA.step (fastEnv_ok Es_ok) [0, 2] (by kernel_rfl) rfl (by kernel_rfl) ⟨?_, ?_, trivial⟩
  · refine XR.runT (fastEnv_ok Es_ok) 100000 1 [(1, .int .u8 w), (5, pp 0 0), (39, s0 1 1)] [(1, .cells [ii 1] 0 3 1), (0, .cells [ii 4] 0 3 0)] 2 rfl (by kernel_rfl) (XR.done (by kernel_rfl) ⟨rfl, ?_⟩)
    refine XA.step (fastEnv_ok Es_ok) [1, 2] (by kernel_rfl) rfl (by kernel_rfl) ⟨?_, ?_, trivial⟩
    · refine XR.runT (fastEnv_ok Es_ok) 100000 1 [(1, .int .u8 w), (5, pp 0 0), (40, s0 1 1)] [(1, .cells [ii 1] 0 3 1), (0, .cells [ii 4] 0 3 0)] 2 rfl (by kernel_rfl) (XR.done (by kernel_rfl) ⟨rfl, ?_⟩)
      refine XA.step (fastEnv_ok Es_ok) [2] (by kernel_rfl) rfl (by kernel_rfl) ⟨?_, trivial⟩
      · refine XR.runT (fastEnv_ok Es_ok) 100000 1 [(1, .int .u8 w), (5, pp 0 0), (40, s0 1 1), (41, ii 4)] [(1, .cells [ii 1] 0 3 1), (0, .cells [ii 4] 0 3 0)] 2 rfl (by kernel_rfl) (XR.done (by kernel_rfl) ⟨rfl, ?_⟩)
        refine XA.step (fastEnv_ok Es_ok) [3] (by kernel_rfl) rfl (by kernel_rfl) ⟨?_, trivial⟩
        · refine XR.runT (fastEnv_ok Es_ok) 100000 1 [(1, .int .u8 w), (5, pp 0 0), (42, s0 2 4)] [(2, .cells [ii 1, ii 1, ii 1, ii 1] 0 3 1), (1, .cells [ii 1] 0 3 1), (0, .cells [ii 4] 0 3 0)] 3 rfl (by kernel_rfl) (XR.done (by kernel_rfl) ⟨rfl, ?_⟩)
          refine XA.step (fastEnv_ok Es_ok) [4] (by kernel_rfl) rfl (by kernel_rfl) ⟨?_, trivial⟩
          · refine XR.runT (fastEnv_ok Es_ok) 100000 1 [(1, .int .u8 w), (5, pp 0 0), (6, s0 2 4)] [(2, .cells [ii 1, ii 1, ii 1, ii 1] 0 3 1), (1, .cells [ii 1] 0 3 1), (0, .cells [ii 4] 0 3 0)] 3 rfl (by kernel_rfl) (XR.done (by kernel_rfl) ⟨rfl, ?_⟩)
            exact XA.done (by kernel_rfl) ⟨rfl, rfl⟩
    · refine XR.runT (fastEnv_ok Es_ok) 100000 1 [(1, .int .u8 w), (5, pp 0 0), (39, s0 1 1), (41, ii 4)] [(1, .cells [ii 1] 0 3 1), (0, .cells [ii 4] 0 3 0)] 2 rfl (by kernel_rfl) (XR.done (by kernel_rfl) ⟨rfl, ?_⟩)
      refine XA.step (fastEnv_ok Es_ok) [1] (by kernel_rfl) rfl (by kernel_rfl) ⟨?_, trivial⟩
      · refine XR.runT (fastEnv_ok Es_ok) 100000 1 [(1, .int .u8 w), (5, pp 0 0), (40, s0 1 1), (41, ii 4)] [(1, .cells [ii 1] 0 3 1), (0, .cells [ii 4] 0 3 0)] 2 rfl (by kernel_rfl) (XR.done (by kernel_rfl) ⟨rfl, ?_⟩)
        refine XA.step (fastEnv_ok Es_ok) [3] (by kernel_rfl) rfl (by kernel_rfl) ⟨?_, trivial⟩
        · refine XR.runT (fastEnv_ok Es_ok) 100000 1 [(1, .int .u8 w), (5, pp 0 0), (42, s0 2 4)] [(2, .cells [ii 1, ii 1, ii 1, ii 1] 0 3 1), (1, .cells [ii 1] 0 3 1), (0, .cells [ii 4] 0 3 0)] 3 rfl (by kernel_rfl) (XR.done (by kernel_rfl) ⟨rfl, ?_⟩)
          refine XA.step (fastEnv_ok Es_ok) [4] (by kernel_rfl) rfl (by kernel_rfl) ⟨?_, trivial⟩
          · refine XR.runT (fastEnv_ok Es_ok) 100000 1 [(1, .int .u8 w), (5, pp 0 0), (6, s0 2 4)] [(2, .cells [ii 1, ii 1, ii 1, ii 1] 0 3 1), (1, .cells [ii 1] 0 3 1), (0, .cells [ii 4] 0 3 0)] 3 rfl (by kernel_rfl) (XR.done (by kernel_rfl) ⟨rfl, ?_⟩)
            exact XA.done (by kernel_rfl) ⟨rfl, rfl⟩
  · refine XR.runT (fastEnv_ok Es_ok) 100000 1 [(1, .int .u8 w), (5, pp 0 0), (41, ii 4)] [(0, .cells [ii 4] 0 3 0)] 1 rfl (by kernel_rfl) (XR.done (by kernel_rfl) ⟨rfl, ?_⟩)
    refine XA.step (fastEnv_ok Es_ok) [0] (by kernel_rfl) rfl (by kernel_rfl) ⟨?_, trivial⟩
    · refine XR.runT (fastEnv_ok Es_ok) 100000 1 [(1, .int .u8 w), (5, pp 0 0), (39, s0 1 1), (41, ii 4)] [(1, .cells [ii 1] 0 3 1), (0, .cells [ii 4] 0 3 0)] 2 rfl (by kernel_rfl) (XR.done (by kernel_rfl) ⟨rfl, ?_⟩)
      refine XA.step (fastEnv_ok Es_ok) [1] (by kernel_rfl) rfl (by kernel_rfl) ⟨?_, trivial⟩
      · refine XR.runT (fastEnv_ok Es_ok) 100000 1 [(1, .int .u8 w), (5, pp 0 0), (40, s0 1 1), (41, ii 4)] [(1, .cells [ii 1] 0 3 1), (0, .cells [ii 4] 0 3 0)] 2 rfl (by kernel_rfl) (XR.done (by kernel_rfl) ⟨rfl, ?_⟩)
        refine XA.step (fastEnv_ok Es_ok) [3] (by kernel_rfl) rfl (by kernel_rfl) ⟨?_, trivial⟩
        · refine XR.runT (fastEnv_ok Es_ok) 100000 1 [(1, .int .u8 w), (5, pp 0 0), (42, s0 2 4)] [(2, .cells [ii 1, ii 1, ii 1, ii 1] 0 3 1), (1, .cells [ii 1] 0 3 1), (0, .cells [ii 4] 0 3 0)] 3 rfl (by kernel_rfl) (XR.done (by kernel_rfl) ⟨rfl, ?_⟩)
          refine XA.step (fastEnv_ok Es_ok) [4] (by kernel_rfl) rfl (by kernel_rfl) ⟨?_, trivial⟩
          · refine XR.runT (fastEnv_ok Es_ok) 100000 1 [(1, .int .u8 w), (5, pp 0 0), (6, s0 2 4)] [(2, .cells [ii 1, ii 1, ii 1, ii 1] 0 3 1), (1, .cells [ii 1] 0 3 1), (0, .cells [ii 4] 0 3 0)] 3 rfl (by kernel_rfl) (XR.done (by kernel_rfl) ⟨rfl, ?_⟩)
            exact XA.done (by kernel_rfl) ⟨rfl, rfl⟩

theorem go_4 (w : Int) : pickN (runL (fastEnv Es) 236 100000 (spn 9 (drp 3 C3)) (trS 236 [(1, .int .u8 w), (5, pp 0 0), (6, s0 2 4)]) [(2, .cells [ii 1, ii 1, ii 1, ii 1] 0 3 1), (1, .cells [ii 1] 0 3 1), (0, .cells [ii 4] 0 3 0)] 3) [1, 5, 13] [0] = some ([.int .u8 w, pp 0 0, cl], [some (.cells [ii 4] 0 3 0)]) := by kernel_rfl

theorem half_4 (w : Int) (hw : Int.tmod (w64 w) 3 = 0 ∨ Int.tmod (w64 w) 3 = 1 ∨ Int.tmod (w64 w) 3 = 2) : XQ Es 236 0 (drp 2 C3) [(1, .int .u8 w), (5, pp 0 0)] [(0, .cells [ii 4] 0 3 0)] 1 QT := by
  refine XQ.seq Es_ok (by kernel_rfl) (region2_4 w ?_)
  show XQ Es 236 0 (drp 3 C3) _ _ _ _
  refine XQ.goL Es_ok 100000 9 [0] [(1, .int .u8 w), (5, pp 0 0), (13, cl)] [(0, .cells [ii 4] 0 3 0)] [.cells [ii 4] 0 3 0] (by decide) rfl (by kernel_rfl) (go_4 w) (fun g hg => by
    simp only [List.map_cons, List.map_nil, List.cons.injEq, and_true] at hg
    have h0 := hg
    exact ⟨⟨0, _, rfl, h0, .inl ⟨rfl, rfl⟩⟩, trivial⟩) (tail_ok w hw)

end Go.Xm
