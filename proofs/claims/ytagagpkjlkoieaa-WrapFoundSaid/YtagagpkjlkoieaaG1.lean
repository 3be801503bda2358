/- Small laws about ints, first places and counts. Conditions: none. -/
import Derived.Test.YtagagpkjlkoieaaMx
namespace Go.Xm
set_option linter.unusedVariables false
set_option linter.unusedSimpArgs false

theorem w64_id {x : Int} (h1 : -9223372036854775808 ≤ x) (h2 : x ≤ 9223372036854775807) : w64 x = x := IntWalk.i64_in _ ⟨h1, h2⟩

/-- The first of k numbers from i on that has a property. -/
def fnd (p : Nat → Bool) : Nat → Nat → Option Nat
  | 0, _ => none
  | k + 1, i => cond (p i) (some i) (fnd p k (i + 1))

theorem fnd_congr {p q : Nat → Bool} : ∀ (k i : Nat), (∀ j, i ≤ j → j < i + k → p j = q j) → fnd p k i = fnd q k i
  | 0, _, _ => rfl
  | k + 1, i, h => by
    simp only [fnd]
    rw [h i (Nat.le_refl _) (by omega), fnd_congr k (i + 1) (fun j h1 h2 => h j (by omega) (by omega))]

theorem fnd_none {p : Nat → Bool} : ∀ (k i : Nat), (∀ j, i ≤ j → j < i + k → p j = false) → fnd p k i = none
  | 0, _, _ => rfl
  | k + 1, i, h => by
    simp only [fnd]
    rw [h i (Nat.le_refl _) (by omega), fnd_none k (i + 1) (fun j h1 h2 => h j (by omega) (by omega))]
    rfl

theorem fnd_some {p : Nat → Bool} : ∀ (k i : Nat) {a : Nat}, fnd p k i = some a → i ≤ a ∧ a < i + k ∧ p a = true ∧ ∀ j, i ≤ j → j < a → p j = false
  | 0, _, _, h => by cases h
  | k + 1, i, a, h => by
    simp only [fnd] at h
    cases hp : p i with
    | true =>
      rw [hp] at h
      cases h
      exact ⟨Nat.le_refl _, by omega, hp, fun j h1 h2 => by omega⟩
    | false =>
      rw [hp] at h
      obtain ⟨h1, h2, h3, h4⟩ := fnd_some k (i + 1) h
      refine ⟨by omega, by omega, h3, fun j h5 h6 => ?_⟩
      by_cases e : j = i
      · subst e; exact hp
      · exact h4 j (by omega) h6

theorem fnd_none_iff {p : Nat → Bool} : ∀ (k i : Nat), fnd p k i = none → ∀ j, i ≤ j → j < i + k → p j = false
  | 0, i, _, j, h1, h2 => by omega
  | k + 1, i, h, j, h1, h2 => by
    simp only [fnd] at h
    cases hp : p i with
    | true => rw [hp] at h; cases h
    | false =>
      rw [hp] at h
      by_cases e : j = i
      · subst e; exact hp
      · exact fnd_none_iff k (i + 1) h j (by omega) (by omega)

/-- More numbers are asked, behind one that has it. -/
theorem fnd_more {p : Nat → Bool} : ∀ (k k' i j : Nat), i ≤ j → j < i + k → j < i + k' → p j = true → fnd p k i = fnd p k' i
  | 0, _, i, j, h1, h2, _, _ => by omega
  | _ + 1, 0, i, j, h1, _, h3, _ => by omega
  | k + 1, k' + 1, i, j, h1, h2, h3, hp => by
    simp only [fnd]
    cases hi : p i with
    | true => rfl
    | false =>
      have : j ≠ i := fun e => by subst e; rw [hp] at hi; cases hi
      exact fnd_more k k' (i + 1) j (by omega) (by omega) (by omega) hp

/-- The first of k numbers from i on for which there is something. -/
def fndM {β : Type} (g : Nat → Option β) : Nat → Nat → Option (Nat × β)
  | 0, _ => none
  | k + 1, i => match g i with
    | some v => some (i, v)
    | none => fndM g k (i + 1)

theorem fndM_congr {β : Type} {g g' : Nat → Option β} : ∀ (k i : Nat), (∀ j, i ≤ j → j < i + k → g j = g' j) → fndM g k i = fndM g' k i
  | 0, _, _ => rfl
  | k + 1, i, h => by
    simp only [fndM]
    rw [h i (Nat.le_refl _) (by omega), fndM_congr k (i + 1) (fun j h1 h2 => h j (by omega) (by omega))]

theorem fndM_none {β : Type} {g : Nat → Option β} : ∀ (k i : Nat), (∀ j, i ≤ j → j < i + k → g j = none) → fndM g k i = none
  | 0, _, _ => rfl
  | k + 1, i, h => by
    simp only [fndM]
    rw [h i (Nat.le_refl _) (by omega), fndM_none k (i + 1) (fun j h1 h2 => h j (by omega) (by omega))]

/-- How many of the first numbers have a property. -/
def cnt (p : Nat → Bool) : Nat → Int
  | 0 => 0
  | k + 1 => cond (p k) (cnt p k + 1) (cnt p k)

theorem cnt_nonneg (p : Nat → Bool) : ∀ k, 0 ≤ cnt p k ∧ cnt p k ≤ k
  | 0 => by simp [cnt]
  | k + 1 => by
    have := cnt_nonneg p k
    simp only [cnt]
    cases p k <;> simp only [cond_true, cond_false] <;> omega

theorem cnt_congr {p q : Nat → Bool} : ∀ k, (∀ j, j < k → p j = q j) → cnt p k = cnt q k
  | 0, _ => rfl
  | k + 1, h => by
    simp only [cnt]
    rw [h k (by omega), cnt_congr k (fun j hj => h j (by omega))]

theorem cnt_add (p : Nat → Bool) (i : Nat) : ∀ k, cnt p (i + k) = cnt p i + cnt (fun j => p (i + j)) k
  | 0 => by simp [cnt]
  | k + 1 => by
    have e : i + (k + 1) = (i + k) + 1 := rfl
    rw [e]
    simp only [cnt]
    rw [cnt_add p i k]
    cases p (i + k) <;> simp only [cond_true, cond_false] <;> omega

end Go.Xm
