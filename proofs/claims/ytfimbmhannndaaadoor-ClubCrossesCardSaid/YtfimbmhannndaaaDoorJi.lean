/- Cross of club: the plan is wrong, or the numbers are. Plain Lean. Conditions: none. -/
import Derived.Test.YtfimbmhannndaaaDoorJh
namespace Go.Xm
set_option linter.unusedVariables false
set_option linter.unusedSimpArgs false
set_option maxRecDepth 20000

theorem f30_bad (m : Nat) (hm : 1001 ≤ m) (n : Int) (T : List (Int × Int)) (hl : T.length ≤ 60) (b c : Int) (d : Bool) (h : cpR n T ≠ 0) : f30 m n T b c d = some (0, [], cpR n T) := by
  unfold f30
  rcases f74_eq m hm n T (by omega) with ⟨_, q⟩ | ⟨q, _⟩
  · rw [q]
    show cond (cpR n T != 0) (some (0, [], cpR n T)) _ = _
    rw [bne_iff_ne.2 h]; rfl
  · exact absurd q h

theorem f30_none (m : Nat) (hm : 1001 ≤ m) (n : Int) (T : List (Int × Int)) (hl : T.length ≤ 60) (b c : Int) (d : Bool) (h : cpR n T = 0) (hbc : ¬ ((0 ≤ b ∧ b ≤ (T.length : Int) - 1) ∧ (0 ≤ c ∧ c ≤ (T.length : Int) - 1))) : f30 m n T b c d = some (0, [], 2) := by
  unfold f30
  rcases f74_eq m hm n T (by omega) with ⟨q, _⟩ | ⟨_, k, r, _, _, _, _, q⟩
  · exact absurd h q
  · rw [q, in65, in65, w64i (by omega) (by omega)]
    by_cases hb : 0 ≤ b ∧ b ≤ (T.length : Int) - 1
    · have hc : ¬ (0 ≤ c ∧ c ≤ (T.length : Int) - 1) := fun q => hbc ⟨hb, q⟩
      rw [dcT hb, dcF hc]; rfl
    · rw [dcF hb]; rfl

theorem ck_of {n : Int} {T : List (Int × Int)} (h : cpR n T = 0) : ckT n [] T = 0 := by
  unfold cpR at h
  split at h
  · omega
  · split at h
    · omega
    · exact h

/-- A table of a plan that may be. -/
theorem tab_of {k : Nat} {T : List (Int × Int)} (h : cpR (k : Int) T = 0) {b : Nat} (hb : b < T.length) : ∃ a d : Nat, T.getD b (0, 0) = ((a : Int), (d : Int)) ∧ T[b]? = some ((a : Int), (d : Int)) ∧ a < k ∧ d < k ∧ a ≠ d := by
  have hd : T = T.take b ++ T[b] :: T.drop (b + 1) := by
    rw [← List.drop_eq_getElem_cons hb, List.take_append_drop]
  obtain ⟨c1, c2, c3, _⟩ := ck_fine (k : Int) T [] (ck_of h) (T.take b) T[b] (T.drop (b + 1)) hd
  have e : T[b]? = some T[b] := List.getElem?_eq_getElem hb
  generalize T[b] = t at c1 c2 c3 e
  obtain ⟨x, y⟩ := t
  have c1 : 0 ≤ x ∧ x ≤ (k : Int) - 1 := c1
  have c2 : 0 ≤ y ∧ y ≤ (k : Int) - 1 := c2
  have c3 : x ≠ y := c3
  refine ⟨x.toNat, y.toNat, ?_, ?_, by omega, by omega, by omega⟩
  · rw [List.getD_eq_getElem?_getD, e, Int.toNat_of_nonneg c1.1, Int.toNat_of_nonneg c2.1]; rfl
  · rw [e, Int.toNat_of_nonneg c1.1, Int.toNat_of_nonneg c2.1]

end Go.Xm
