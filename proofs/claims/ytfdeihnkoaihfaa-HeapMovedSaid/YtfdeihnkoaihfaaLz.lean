/- Small words for plain laws about decompiled functions. Conditions: none. -/
import Derived.Test.YtfdeihnkoaihfaaBa
namespace Go.Xm
set_option linter.unusedVariables false
set_option linter.unusedSimpArgs false
set_option maxRecDepth 20000
theorem w64_id {x : Int} (h1 : -9223372036854775808 ≤ x) (h2 : x ≤ 9223372036854775807) : w64 x = x := IntWalk.i64_in _ ⟨h1, h2⟩
theorem w64i {x : Int} (h1 : -1000000000000 ≤ x) (h2 : x ≤ 1000000000000) : w64 x = x := w64_id (by omega) (by omega)
theorem inR {i n : Nat} (h : i < n) : inRow (i : Int) n = true := inRow_iff.2 ⟨by omega, by omega⟩
theorem fitsI {n b : Nat} (h : n ≤ 1000) (hb : b ≤ 1000) : fitsB n b = true := by
 have : n * b ≤ 1000 * 1000 := Nat.mul_le_mul h hb
 simp only [fitsB, Bool.and_eq_true, Nat.ble_eq]; omega
theorem tme {a b : Int} (h : 0 ≤ a) : Int.tmod a b = a % b := Int.tmod_eq_emod_of_nonneg h
theorem nat_succ (i : Nat) (h : i ≤ 1000000) : w64 ((i : Int) + 1) = ((i + 1 : Nat) : Int) := by rw [w64i (by omega) (by omega)]; omega
theorem dcT {p : Prop} [Decidable p] (h : p) : decide p = true := decide_eq_true h
theorem dcF {p : Prop} [Decidable p] (h : ¬ p) : decide p = false := decide_eq_false h
theorem iMin_eq (x y : Int) : iMin x y = min x y := by unfold iMin; split <;> omega
theorem f64_eq (m : Nat) (a b c : Int) : f64 m a b c = some (decide (a ≤ b ∧ b ≤ c)) := by
 unfold f64
 by_cases h : a ≤ b
 ·rw [dcT h]; simp [h]
 ·rw [dcF h]; simp [h]
theorem getD_mid {α : Type} (A : List α) (x : α) (R : List α) (d : α) {n : Nat} (h : n = A.length) : List.getD (A ++ x :: R) n d = x := by
 subst h
 simp [List.getD_eq_getElem?_getD]
theorem set_mid {α : Type} (A : List α) (x y : α) (R : List α) {n : Nat} (h : n = A.length) : List.set (A ++ x :: R) n y = A ++ y :: R := by
 subst h
 simp
end Go.Xm
