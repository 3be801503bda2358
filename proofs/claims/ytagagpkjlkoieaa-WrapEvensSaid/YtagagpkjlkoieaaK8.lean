/- Marks one behind the other; equal lists. Conditions: none. -/
import Derived.Test.YtagagpkjlkoieaaK7
import Derived.Test.YtagagpkjlkoieaaPd
namespace Go.Xm
set_option linter.unusedVariables false
set_option linter.unusedSimpArgs false

theorem mrk_succ (M S n : Nat) : mrk M S (n + 1) = (mrk M S n + S) % M := by
  unfold mrk
  rw [Nat.add_mul, Nat.one_mul, Nat.mod_add_mod]

theorem mrk_zero (M S : Nat) : mrk M S 0 = 0 := by
  unfold mrk
  rw [Nat.zero_mul, Nat.zero_mod]

theorem mrk_lt {M S : Nat} (n : Nat) (h : 0 < M) : mrk M S n < M := Nat.mod_lt _ h

theorem f35_1_same (m : Nat) (a : List Int) (ha : a.length ≤ 1000) : ∀ (k x fuel : Nat), x + k = a.length → k < fuel → f35_1 m fuel a a x = some .x0
  | k, x, 0, _, h => by omega
  | 0, x, fuel + 1, hx, _ => by
    unfold f35_1
    rw [decide_eq_false (by omega)]
    rfl
  | k + 1, x, fuel + 1, hx, hf => by
    have hr : inRow (x : Int) a.length = true := inRow_iff.2 ⟨by omega, by omega⟩
    unfold f35_1
    rw [decide_eq_true (by omega), hr, w64_succ x (by omega)]
    simp only [cond_true, bne_self_eq_false, cond_false]
    exact f35_1_same m a ha k (x + 1) fuel (by omega) (by omega)

theorem f35_same (m : Nat) (a : List Int) (ha : a.length ≤ 1000) (hm : 1000 < m) : f35 m a a = some true := by
  unfold f35
  have := f35_1_same m a ha a.length 0 m (by omega) (by omega)
  simp only [bne_self_eq_false, cond_false]
  rw [show ((0 : Int)) = ((0 : Nat) : Int) from rfl, this]
  rfl
end Go.Xm
