/- Small laws about ints, first places and counts. Conditions: none. -/
import Derived.Test.YtagagpkjlkoieaaMx
namespace Go.Xm
set_option linter.unusedVariables false
set_option linter.unusedSimpArgs false

theorem w64_id {x : Int} (h1 : -9223372036854775808 ≤ x) (h2 : x ≤ 9223372036854775807) : w64 x = x := IntWalk.i64_in _ ⟨h1, h2⟩

/-- The first of k numbers from i on that has a property. -/
def fnd (p : Nat → Bool) : Nat → Nat → Option Nat
  | 0, _ => none
  | k + 1, i => cond (p i) (some i) (fnd p k (i + 1))

theorem fnd_some {p : Nat → Bool} : ∀ (k i : Nat) {a : Nat}, fnd p k i = some a → i ≤ a ∧ a < i + k ∧ p a = true ∧ ∀ j, i ≤ j → j < a → p j = false
  | 0, _, _, h => by cases h
  | k + 1, i, a, h => by
    simp only [fnd] at h
    cases hp : p i with
    | true =>
      rw [hp] at h
      cases h
      exact ⟨Nat.le_refl _, by omega, hp, fun j h1 h2 => by omega⟩
    | false =>
      rw [hp] at h
      obtain ⟨h1, h2, h3, h4⟩ := fnd_some k (i + 1) h
      refine ⟨by omega, by omega, h3, fun j h5 h6 => ?_⟩
      by_cases e : j = i
      · subst e; exact hp
      · exact h4 j (by omega) h6

theorem fnd_none_iff {p : Nat → Bool} : ∀ (k i : Nat), fnd p k i = none → ∀ j, i ≤ j → j < i + k → p j = false
  | 0, i, _, j, h1, h2 => by omega
  | k + 1, i, h, j, h1, h2 => by
    simp only [fnd] at h
    cases hp : p i with
    | true => rw [hp] at h; cases h
    | false =>
      rw [hp] at h
      by_cases e : j = i
      · subst e; exact hp
      · exact fnd_none_iff k (i + 1) h j (by omega) (by omega)

end Go.Xm
