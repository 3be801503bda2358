/- The turns beside turn 0: what the program's loops compute. Conditions: none. -/
import Derived.Test.YtagagpkjlkoieaaK1
import Derived.Test.YtagagpkjlkoieaaK2
import Derived.Test.YtagagpkjlkoieaaPi
namespace Go.Xm
set_option linter.unusedVariables false
set_option linter.unusedSimpArgs false

theorem f59_eq (m : Nat) (a b : Nat) (t : Int) (x : Nat) (ha : 0 < a) (hb : b ≤ 1000) (hx : x ≤ 1000000) : f59 m a b t x = some (((x * b) % a : Nat) : Int) := f61_eq m a b t x ha hb hx

def mrk (M S k : Nat) : Nat := (k * S) % M

def stepB (M S n p q : Nat) : Nat × Nat := if n = 1 then (1, 1) else if mrk M S n < mrk M S p then (n, q) else if mrk M S q < mrk M S n then (p, n) else (p, q)

def loopB (M S : Nat) : Nat → Nat → Nat → Nat → Nat × Nat
  | 0, _, p, q => (p, q)
  | k + 1, n, p, q => loopB M S k (n + 1) (stepB M S n p q).1 (stepB M S n p q).2

theorem f29_1_eq (m M S T : Nat) (hM : 0 < M) (hS : S ≤ 1000) (hT : T ≤ 1000) : ∀ (k n p q fuel : Nat), n + k = T → p ≤ 1000 → q ≤ 1000 → k < fuel →
    f29_1 m fuel M S T n p q = some ((T : Int), ((loopB M S k n p q).1 : Int), ((loopB M S k n p q).2 : Int))
  | k, n, p, q, 0, _, _, _, h => by omega
  | 0, n, p, q, fuel + 1, hn, hp, hq, _ => by
    unfold f29_1
    rw [decide_eq_false (by omega)]
    have : n = T := by omega
    subst this
    rfl
  | k + 1, n, p, q, fuel + 1, hn, hp, hq, hf => by
    unfold f29_1
    rw [decide_eq_true (by omega), w64_succ n (by omega)]
    simp only [cond_true]
    have e0 : loopB M S (k + 1) n p q = loopB M S k (n + 1) (stepB M S n p q).1 (stepB M S n p q).2 := rfl
    rw [e0]
    unfold stepB
    by_cases h1 : n = 1
    · subst h1
      rw [if_pos rfl]
      exact f29_1_eq m M S T hM hS hT k 2 1 1 fuel (by omega) (by omega) (by omega) (by omega)
    · have c1 : ((n : Int) == 1) = false := by simp; omega
      rw [c1, if_neg h1, f59_eq m M S _ n hM hS (by omega), f59_eq m M S _ p hM hS (by omega), f59_eq m M S _ q hM hS (by omega)]
      simp only [cond_false, Option.bind_some]
      unfold mrk
      by_cases h2 : (n * S) % M < (p * S) % M
      · rw [decide_eq_true (Int.ofNat_lt.2 h2), if_pos h2]
        exact f29_1_eq m M S T hM hS hT k (n + 1) n q fuel (by omega) (by omega) (by omega) (by omega)
      · rw [decide_eq_false (fun q => h2 (Int.ofNat_lt.1 q)), if_neg h2]
        simp only [cond_false]
        by_cases h3 : (q * S) % M < (n * S) % M
        · rw [decide_eq_true (p := (((n * S) % M : Nat) : Int) > (((q * S) % M : Nat) : Int)) (Int.ofNat_lt.2 h3), if_pos h3]
          exact f29_1_eq m M S T hM hS hT k (n + 1) p n fuel (by omega) (by omega) (by omega) (by omega)
        · rw [decide_eq_false (p := (((n * S) % M : Nat) : Int) > (((q * S) % M : Nat) : Int)) (fun q => h3 (Int.ofNat_lt.1 q)), if_neg h3]
          exact f29_1_eq m M S T hM hS hT k (n + 1) p q fuel (by omega) (by omega) (by omega) (by omega)

theorem stepB_ok {M S n p q : Nat} (hn : 2 ≤ n) (h : Beside n (mrk M S) p q) : Beside (n + 1) (mrk M S) (stepB M S n p q).1 (stepB M S n p q).2 := by
  obtain ⟨h1, h2, h3, h4, h5⟩ := h
  have hpq := h5 p h1 h2
  have hqq := h5 q h3 h4
  unfold stepB
  rw [if_neg (by omega)]
  split
  · rename_i hlt
    refine ⟨by omega, by omega, h3, by omega, fun j j1 j2 => ?_⟩
    by_cases e : j = n
    · subst e; simp only []; omega
    · have := h5 j j1 (by omega); simp only []; omega
  · split
    · refine ⟨h1, by omega, by omega, by omega, fun j j1 j2 => ?_⟩
      by_cases e : j = n
      · subst e; simp only []; omega
      · have := h5 j j1 (by omega); simp only []; omega
    · refine ⟨h1, by omega, h3, by omega, fun j j1 j2 => ?_⟩
      by_cases e : j = n
      · subst e; simp only []; omega
      · have := h5 j j1 (by omega); simp only []; omega

theorem loopB_ok {M S : Nat} : ∀ (k n p q : Nat), 2 ≤ n → Beside n (mrk M S) p q → Beside (n + k) (mrk M S) (loopB M S k n p q).1 (loopB M S k n p q).2
  | 0, n, p, q, _, h => h
  | k + 1, n, p, q, hn, h => by
    have := loopB_ok k (n + 1) _ _ (by omega) (stepB_ok hn h)
    rw [show n + (k + 1) = n + 1 + k by omega]
    exact this

theorem beside_two {M S : Nat} : Beside 2 (mrk M S) 1 1 := ⟨by omega, by omega, by omega, by omega, fun j h1 h2 => by
  have : j = 1 := by omega
  subst this; omega⟩

theorem loopB_all {M S T : Nat} (hT : 2 ≤ T) : Beside T (mrk M S) (loopB M S (T - 1) 1 0 0).1 (loopB M S (T - 1) 1 0 0).2 := by
  obtain ⟨k, rfl⟩ : ∃ k, T = k + 2 := ⟨T - 2, by omega⟩
  have e : loopB M S (k + 2 - 1) 1 0 0 = loopB M S k 2 1 1 := rfl
  rw [e]
  have := loopB_ok (M := M) (S := S) k 2 1 1 (by omega) beside_two
  rw [show k + 2 = 2 + k by omega]
  exact this
end Go.Xm
