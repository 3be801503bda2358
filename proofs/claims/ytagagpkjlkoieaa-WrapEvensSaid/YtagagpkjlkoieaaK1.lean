/- Small laws: checks and marks, as the program computes them. Conditions: none. -/
import Derived.Test.YtagagpkjlkoieaaG1
import Derived.Test.YtagagpkjlkoieaaPa
namespace Go.Xm
set_option linter.unusedVariables false
set_option linter.unusedSimpArgs false

theorem natw {n : Nat} (h : n ≤ 1000000000000) : w64 (n : Int) = (n : Int) := w64_id (by omega) (by omega)
theorem tmN (x y : Nat) : Int.tmod (x : Int) (y : Int) = ((x % y : Nat) : Int) := rfl
theorem tdN (x y : Nat) : Int.tdiv (x : Int) (y : Int) = ((x / y : Nat) : Int) := rfl

theorem f61_eq (m : Nat) (a b : Nat) (t : Int) (x : Nat) (ha : 0 < a) (hb : b ≤ 1000) (hx : x ≤ 1000000) : f61 m a b t x = some (((x * b) % a : Nat) : Int) := by
  unfold f61
  have c1 : ((a : Int) != 0) = true := by simp; omega
  have hxb : x * b ≤ 1000000 * 1000 := Nat.mul_le_mul hx hb
  rw [c1, show (x : Int) * (b : Int) = ((x * b : Nat) : Int) from (Int.natCast_mul x b).symm, w64_id (by omega) (by omega), tmN]
  rfl

theorem w64_succ (x : Nat) (h : x ≤ 1000000000) : w64 ((x : Int) + 1) = ((x + 1 : Nat) : Int) := by rw [w64_id (by omega) (by omega)]; omega

theorem f64_eq (m : Nat) (a b : Int) : f64 m a b = some (decide (1 ≤ a ∧ a ≤ 100 ∧ 0 ≤ b ∧ b < a)) := by
  unfold f64
  by_cases h1 : a ≥ 1
  · by_cases h2 : a ≤ 100
    · by_cases h3 : b ≥ 0
      · rw [decide_eq_true h1, decide_eq_true h2, decide_eq_true h3]
        by_cases h4 : b < a
        · rw [decide_eq_true h4, decide_eq_true (p := 1 ≤ a ∧ a ≤ 100 ∧ 0 ≤ b ∧ b < a) ⟨h1, h2, h3, h4⟩]; rfl
        · rw [decide_eq_false h4, decide_eq_false (p := 1 ≤ a ∧ a ≤ 100 ∧ 0 ≤ b ∧ b < a) (by omega)]; rfl
      · rw [decide_eq_true h1, decide_eq_true h2, decide_eq_false h3, decide_eq_false (p := 1 ≤ a ∧ a ≤ 100 ∧ 0 ≤ b ∧ b < a) (by omega)]; rfl
    · rw [decide_eq_true h1, decide_eq_false h2, decide_eq_false (p := 1 ≤ a ∧ a ≤ 100 ∧ 0 ≤ b ∧ b < a) (by omega)]; rfl
  · rw [decide_eq_false h1, decide_eq_false (p := 1 ≤ a ∧ a ≤ 100 ∧ 0 ≤ b ∧ b < a) (by omega)]; rfl

theorem f66_eq (m : Nat) (a b : Int) : f66 m a b = some (cond (decide (1 ≤ a ∧ a ≤ 100 ∧ 0 ≤ b ∧ b < a)) 0 1) := by
  unfold f66
  by_cases h1 : a ≥ 1
  · have e : a ≤ 100 → w64 (a - 1) = a - 1 := fun h => w64_id (by omega) (by omega)
    by_cases h2 : a ≤ 100
    · rw [e h2]
      by_cases h3 : b ≥ 0 <;> by_cases h4 : b < a
      · rw [decide_eq_true h1, decide_eq_true h2, decide_eq_true h3, decide_eq_true (p := b ≤ a - 1) (by omega), decide_eq_true (p := 1 ≤ a ∧ a ≤ 100 ∧ 0 ≤ b ∧ b < a) ⟨by omega, h2, by omega, h4⟩]; rfl
      · rw [decide_eq_true h1, decide_eq_true h2, decide_eq_true h3, decide_eq_false (p := b ≤ a - 1) (by omega), decide_eq_false (p := 1 ≤ a ∧ a ≤ 100 ∧ 0 ≤ b ∧ b < a) (by omega)]; rfl
      · rw [decide_eq_true h1, decide_eq_true h2, decide_eq_false h3, decide_eq_false (p := 1 ≤ a ∧ a ≤ 100 ∧ 0 ≤ b ∧ b < a) (by omega)]; rfl
      · rw [decide_eq_true h1, decide_eq_true h2, decide_eq_false h3, decide_eq_false (p := 1 ≤ a ∧ a ≤ 100 ∧ 0 ≤ b ∧ b < a) (by omega)]; rfl
    · rw [decide_eq_true h1, decide_eq_false h2, decide_eq_false (p := 1 ≤ a ∧ a ≤ 100 ∧ 0 ≤ b ∧ b < a) (by omega)]; rfl
  · rw [decide_eq_false h1, decide_eq_false (p := 1 ≤ a ∧ a ≤ 100 ∧ 0 ≤ b ∧ b < a) (by omega)]; rfl
end Go.Xm
