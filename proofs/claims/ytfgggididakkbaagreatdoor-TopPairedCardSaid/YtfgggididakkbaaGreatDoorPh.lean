/- TopPaired with six boxes. Conditions: the library's tables lie in their variables. -/
import Derived.Test.YtfgggididakkbaaGreatDoorPg1
import Derived.Test.YtfgggididakkbaaGreatDoorPg2
import Derived.Test.YtfgggididakkbaaGreatDoorPg3
import Derived.Test.YtfgggididakkbaaGreatDoorPg4
namespace Go.Xm
open Go.RowKit
set_option linter.unusedVariables false
set_option maxRecDepth 20000

theorem map_at {α : Type} {f g : Nat → α} {n s i : Nat} (h : (List.range n).map (fun j => f (s + j)) = (List.range n).map (fun j => g (s + j))) (h1 : s ≤ i) (h2 : i < s + n) : f i = g i := by
  have := List.map_inj_left.1 h (i - s) (List.mem_range.2 (by omega))
  rwa [show s + (i - s) = i by omega] at this

theorem round_at (w : Int) (i : Nat) (hi : i < 203) : rdL w i = exL w i := by
  rcases Nat.lt_or_ge i 51 with h | h
  · exact map_at (rounds_1 w) (by omega) (by omega)
  · rcases Nat.lt_or_ge i 102 with h | h
    · exact map_at (rounds_2 w) (by omega) (by omega)
    · rcases Nat.lt_or_ge i 153 with h | h
      · exact map_at (rounds_3 w) (by omega) (by omega)
      · exact map_at (rounds_4 w) (by omega) (by omega)

theorem all_rounds (w : Int) {Q : QP} (hx : XL Es 236 0 1 bodyL (stL w 203) hL 3 Q) : ∀ k i, i + k = 203 → XL Es 236 0 (k + 1) bodyL (stL w i) hL 3 Q
  | 0, i, h => by have : i = 203 := by omega
                  subst this; exact hx
  | k + 1, i, h => by
    refine XL.go Es_ok 100000 [0, 1, 2] (stL w (i + 1)) hL osL (by decide) rfl (round_at w i (by omega)) (fun g hg => by
      simp only [List.map_cons, List.map_nil, List.cons.injEq, and_true] at hg
      obtain ⟨h0, h1, h2⟩ := hg
      exact ⟨⟨2, _, rfl, h2, .inl ⟨rfl, rfl⟩⟩, ⟨1, _, rfl, h1, .inr ⟨[ii 6, s0 2 3], _, _, _, rfl, rfl⟩⟩, ⟨0, _, rfl, h0, .inl ⟨rfl, rfl⟩⟩, trivial⟩) (all_rounds w hx k (i + 1) (by omega))

theorem region2_6 (w : Int) {Q : QP} (hx : Q .normal [(1, .int .u8 w), (5, pp 0 0), (6, s0 2 6)] [(2, .cells [ii 1, ii 1, ii 1, ii 1, ii 1, ii 1] 0 3 1), (1, .cells [ii 1] 0 3 1), (0, .cells [ii 6] 0 3 0)] 3) : XQ Es 236 0 (lft (drp 2 C3)) [(1, .int .u8 w), (5, pp 0 0)] [(0, .cells [ii 6] 0 3 0)] 1 Q := by
  refine XQ.inE (XQ.anyC (fastEnv_ok Es_ok) (by kernel_rfl) (g := 5) (by kernel_rfl) (σ' := [(1, .int .u8 w), (5, pp 0 0), (6, s0 2 6)]) (h' := [(2, .cells [ii 1, ii 1, ii 1, ii 1, ii 1, ii 1] 0 3 1), (1, .cells [ii 1] 0 3 1), (0, .cells [ii 6] 0 3 0)]) (c' := 3) hx ?_)
  refine XA.step (fastEnv_ok Es_ok) [0, 2] (by kernel_rfl) rfl (by kernel_rfl) ⟨?_, ?_, trivial⟩
  · refine XR.runT (fastEnv_ok Es_ok) 100000 1 [(1, .int .u8 w), (5, pp 0 0), (39, s0 1 1)] [(1, .cells [ii 1] 0 3 1), (0, .cells [ii 6] 0 3 0)] 2 rfl (by kernel_rfl) (XR.done (by kernel_rfl) ⟨rfl, ?_⟩)
    refine XA.step (fastEnv_ok Es_ok) [1, 2] (by kernel_rfl) rfl (by kernel_rfl) ⟨?_, ?_, trivial⟩
    · refine XR.runT (fastEnv_ok Es_ok) 100000 1 [(1, .int .u8 w), (5, pp 0 0), (40, s0 1 1)] [(1, .cells [ii 1] 0 3 1), (0, .cells [ii 6] 0 3 0)] 2 rfl (by kernel_rfl) (XR.done (by kernel_rfl) ⟨rfl, ?_⟩)
      refine XA.step (fastEnv_ok Es_ok) [2] (by kernel_rfl) rfl (by kernel_rfl) ⟨?_, trivial⟩
      · refine XR.runT (fastEnv_ok Es_ok) 100000 1 [(1, .int .u8 w), (5, pp 0 0), (40, s0 1 1), (41, ii 6)] [(1, .cells [ii 1] 0 3 1), (0, .cells [ii 6] 0 3 0)] 2 rfl (by kernel_rfl) (XR.done (by kernel_rfl) ⟨rfl, ?_⟩)
        refine XA.step (fastEnv_ok Es_ok) [3] (by kernel_rfl) rfl (by kernel_rfl) ⟨?_, trivial⟩
        · refine XR.runT (fastEnv_ok Es_ok) 100000 1 [(1, .int .u8 w), (5, pp 0 0), (42, s0 2 6)] [(2, .cells [ii 1, ii 1, ii 1, ii 1, ii 1, ii 1] 0 3 1), (1, .cells [ii 1] 0 3 1), (0, .cells [ii 6] 0 3 0)] 3 rfl (by kernel_rfl) (XR.done (by kernel_rfl) ⟨rfl, ?_⟩)
          refine XA.step (fastEnv_ok Es_ok) [4] (by kernel_rfl) rfl (by kernel_rfl) ⟨?_, trivial⟩
          · refine XR.runT (fastEnv_ok Es_ok) 100000 1 [(1, .int .u8 w), (5, pp 0 0), (6, s0 2 6)] [(2, .cells [ii 1, ii 1, ii 1, ii 1, ii 1, ii 1] 0 3 1), (1, .cells [ii 1] 0 3 1), (0, .cells [ii 6] 0 3 0)] 3 rfl (by kernel_rfl) (XR.done (by kernel_rfl) ⟨rfl, ?_⟩)
            exact XA.done (by kernel_rfl) ⟨rfl, rfl⟩
    · refine XR.runT (fastEnv_ok Es_ok) 100000 1 [(1, .int .u8 w), (5, pp 0 0), (39, s0 1 1), (41, ii 6)] [(1, .cells [ii 1] 0 3 1), (0, .cells [ii 6] 0 3 0)] 2 rfl (by kernel_rfl) (XR.done (by kernel_rfl) ⟨rfl, ?_⟩)
      refine XA.step (fastEnv_ok Es_ok) [1] (by kernel_rfl) rfl (by kernel_rfl) ⟨?_, trivial⟩
      · refine XR.runT (fastEnv_ok Es_ok) 100000 1 [(1, .int .u8 w), (5, pp 0 0), (40, s0 1 1), (41, ii 6)] [(1, .cells [ii 1] 0 3 1), (0, .cells [ii 6] 0 3 0)] 2 rfl (by kernel_rfl) (XR.done (by kernel_rfl) ⟨rfl, ?_⟩)
        refine XA.step (fastEnv_ok Es_ok) [3] (by kernel_rfl) rfl (by kernel_rfl) ⟨?_, trivial⟩
        · refine XR.runT (fastEnv_ok Es_ok) 100000 1 [(1, .int .u8 w), (5, pp 0 0), (42, s0 2 6)] [(2, .cells [ii 1, ii 1, ii 1, ii 1, ii 1, ii 1] 0 3 1), (1, .cells [ii 1] 0 3 1), (0, .cells [ii 6] 0 3 0)] 3 rfl (by kernel_rfl) (XR.done (by kernel_rfl) ⟨rfl, ?_⟩)
          refine XA.step (fastEnv_ok Es_ok) [4] (by kernel_rfl) rfl (by kernel_rfl) ⟨?_, trivial⟩
          · refine XR.runT (fastEnv_ok Es_ok) 100000 1 [(1, .int .u8 w), (5, pp 0 0), (6, s0 2 6)] [(2, .cells [ii 1, ii 1, ii 1, ii 1, ii 1, ii 1] 0 3 1), (1, .cells [ii 1] 0 3 1), (0, .cells [ii 6] 0 3 0)] 3 rfl (by kernel_rfl) (XR.done (by kernel_rfl) ⟨rfl, ?_⟩)
            exact XA.done (by kernel_rfl) ⟨rfl, rfl⟩
  · refine XR.runT (fastEnv_ok Es_ok) 100000 1 [(1, .int .u8 w), (5, pp 0 0), (41, ii 6)] [(0, .cells [ii 6] 0 3 0)] 1 rfl (by kernel_rfl) (XR.done (by kernel_rfl) ⟨rfl, ?_⟩)
    refine XA.step (fastEnv_ok Es_ok) [0] (by kernel_rfl) rfl (by kernel_rfl) ⟨?_, trivial⟩
    · refine XR.runT (fastEnv_ok Es_ok) 100000 1 [(1, .int .u8 w), (5, pp 0 0), (39, s0 1 1), (41, ii 6)] [(1, .cells [ii 1] 0 3 1), (0, .cells [ii 6] 0 3 0)] 2 rfl (by kernel_rfl) (XR.done (by kernel_rfl) ⟨rfl, ?_⟩)
      refine XA.step (fastEnv_ok Es_ok) [1] (by kernel_rfl) rfl (by kernel_rfl) ⟨?_, trivial⟩
      · refine XR.runT (fastEnv_ok Es_ok) 100000 1 [(1, .int .u8 w), (5, pp 0 0), (40, s0 1 1), (41, ii 6)] [(1, .cells [ii 1] 0 3 1), (0, .cells [ii 6] 0 3 0)] 2 rfl (by kernel_rfl) (XR.done (by kernel_rfl) ⟨rfl, ?_⟩)
        refine XA.step (fastEnv_ok Es_ok) [3] (by kernel_rfl) rfl (by kernel_rfl) ⟨?_, trivial⟩
        · refine XR.runT (fastEnv_ok Es_ok) 100000 1 [(1, .int .u8 w), (5, pp 0 0), (42, s0 2 6)] [(2, .cells [ii 1, ii 1, ii 1, ii 1, ii 1, ii 1] 0 3 1), (1, .cells [ii 1] 0 3 1), (0, .cells [ii 6] 0 3 0)] 3 rfl (by kernel_rfl) (XR.done (by kernel_rfl) ⟨rfl, ?_⟩)
          refine XA.step (fastEnv_ok Es_ok) [4] (by kernel_rfl) rfl (by kernel_rfl) ⟨?_, trivial⟩
          · refine XR.runT (fastEnv_ok Es_ok) 100000 1 [(1, .int .u8 w), (5, pp 0 0), (6, s0 2 6)] [(2, .cells [ii 1, ii 1, ii 1, ii 1, ii 1, ii 1] 0 3 1), (1, .cells [ii 1] 0 3 1), (0, .cells [ii 6] 0 3 0)] 3 rfl (by kernel_rfl) (XR.done (by kernel_rfl) ⟨rfl, ?_⟩)
            exact XA.done (by kernel_rfl) ⟨rfl, rfl⟩

theorem go_6 (w : Int) : pickN (runL (fastEnv Es) 236 100000 (spn 6 (drp 3 C3)) (trS 236 [(1, .int .u8 w), (5, pp 0 0), (6, s0 2 6)]) [(2, .cells [ii 1, ii 1, ii 1, ii 1, ii 1, ii 1] 0 3 1), (1, .cells [ii 1] 0 3 1), (0, .cells [ii 6] 0 3 0)] 3) [1, 5, 7, 9, 11, 13, 14] [0, 111, 110] = some ([.int .u8 w, pp 0 0, ii 15, pp 111 0, ii 203, cl, ii 0], [some (.cells [ii 6] 0 3 0), some (.cells [ii 6, s0 110 3] 0 30 0), some (.cells [ii 0, ii 1, ii 2, ii 3, ii 4, ii 5] 0 35 2)]) := by kernel_rfl

theorem end_6 (w : Int) : pickN (runL (fastEnv Es) 236 100000 (spn 2 (drp 10 C3)) (trS 236 [(1, .int .u8 w), (5, pp 0 0), (7, ii 15), (13, cl), (14, ii 15)]) hL 3) [1, 5, 13] [0] = some ([.int .u8 w, pp 0 0, cl], [some (.cells [ii 4] 0 3 0)]) := by kernel_rfl

theorem half_6 (w : Int) (hw : Int.tmod (w64 w) 3 = 0 ∨ Int.tmod (w64 w) 3 = 1 ∨ Int.tmod (w64 w) 3 = 2) : XQ Es 236 0 (drp 2 C3) [(1, .int .u8 w), (5, pp 0 0)] [(0, .cells [ii 6] 0 3 0)] 1 QT := by
  refine XQ.seq Es_ok (by kernel_rfl) (region2_6 w ?_)
  show XQ Es 236 0 (drp 3 C3) _ _ _ _
  refine XQ.goL Es_ok 100000 6 [0, 111, 110] [(1, .int .u8 w), (5, pp 0 0), (7, ii 15), (9, pp 1 0), (11, ii 203), (13, cl), (14, ii 0)] hL [.cells [ii 6] 0 3 0, .cells [ii 6, s0 110 3] 0 30 0, .cells [ii 0, ii 1, ii 2, ii 3, ii 4, ii 5] 0 35 2] (by decide) rfl (by kernel_rfl) (go_6 w) (fun g hg => by
    simp only [List.map_cons, List.map_nil, List.cons.injEq, and_true] at hg
    obtain ⟨h0, h1, h2⟩ := hg
    exact ⟨⟨110, _, rfl, h2, .inl ⟨rfl, rfl⟩⟩, ⟨111, _, rfl, h1, .inr ⟨[ii 6, s0 2 3], _, _, _, rfl, rfl⟩⟩, ⟨0, _, rfl, h0, .inl ⟨rfl, rfl⟩⟩, trivial⟩) ?_
  show XQ Es 236 0 (drp 9 C3) [(1, .int .u8 w), (5, pp 0 0), (7, ii 15), (9, pp 1 0), (11, ii 203), (13, cl), (14, ii 0)] hL 3 QT
  refine XQ.seq Es_ok (by kernel_rfl) (XQ.seq Es_ok (by kernel_rfl) ?_)
  refine XQ.region (by kernel_rfl) ?_
  refine XR.runT Es_ok 100000 2 (stL w 0) hL 3 rfl (by kernel_rfl) (XR.done (by kernel_rfl) ?_)
  show XQ Es 236 0 (rgt (lft (drp 9 C3))) (stL w 0) hL 3 _
  refine XQ.block (id := 0) (by kernel_rfl) (XQ.loop 204 (by kernel_rfl) ?_)
  refine all_rounds w ?_ 203 0 rfl
  refine XL.succ Es_ok (XQ.seq Es_ok (by kernel_rfl) (XQ.region (by kernel_rfl) ?_))
  refine XR.runT Es_ok 100000 1 [(1, .int .u8 w), (5, pp 0 0), (7, ii 15), (13, cl), (14, ii 15), (85, .bool false)] hL 3 rfl (by kernel_rfl) (XR.done (by kernel_rfl) ?_)
  show XQ Es 236 0 (rgt bodyL) _ _ _ _
  refine XQ.seq Es_ok (by kernel_rfl) ?_
  refine XQ.cond (s := .tmp 85) (b := false) (by kernel_rfl) (by kernel_rfl) (fun q => by cases q) (fun _ => XQ.exit (i := 0) (by kernel_rfl) ?_)
  show XQ Es 236 0 (drp 10 C3) [(1, .int .u8 w), (5, pp 0 0), (7, ii 15), (13, cl), (14, ii 15), (85, .bool false)] hL 3 QT
  refine XQ.weak (σ' := [(1, .int .u8 w), (5, pp 0 0), (7, ii 15), (13, cl), (14, ii 15)]) (h' := hL) (fun i v hm => ?_) (fun _ _ q => q) ?_
  · simp only [List.mem_cons, List.not_mem_nil, or_false] at hm ⊢
    rcases hm with h | h | h | h | h <;> simp [h]
  exact XQ.goL Es_ok 100000 2 [0] [(1, .int .u8 w), (5, pp 0 0), (13, cl)] [(0, .cells [ii 4] 0 3 0)] [.cells [ii 4] 0 3 0] (by decide) rfl (by kernel_rfl) (end_6 w) (fun g hg => by
    simp only [List.map_cons, List.map_nil, List.cons.injEq, and_true] at hg
    have h0 := hg
    exact ⟨⟨0, _, rfl, h0, .inl ⟨rfl, rfl⟩⟩, trivial⟩) (tail_ok w hw)

end Go.Xm
