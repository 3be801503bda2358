/- The first turn at some marks, as the program finds it; on the small road. Conditions: none. -/
import Derived.Test.YtagagpkjlkoieaaKA
import Derived.Test.YtagagpkjlkoieaaH1
import Derived.Test.YtagagpkjlkoieaaPe
namespace Go.Xm
set_option linter.unusedVariables false
set_option linter.unusedSimpArgs false

def FoundN (a b c d : Nat) (r : Option Int) : Prop := (∃ k : Nat, r = some (k : Int) ∧ Fst (hitP a b c d) k) ∨ (r = some (-1) ∧ ∀ k, ¬ hitP a b c d k)

theorem f62_eq (m : Nat) : ∀ (fuel a b c d : Nat), a ≤ 1000 → b < a → c ≤ d → d < a → b < fuel → FoundN a b c d (f62 m fuel a b c d)
  | 0, _, _, _, _, _, _, _, _, h => by omega
  | fuel + 1, a, b, c, d, ha, hb, hcd, hd, hf => by
    unfold f62
    by_cases hc : c = 0
    · subst hc
      exact .inl ⟨0, rfl, ⟨Nat.zero_le _, by rw [Nat.zero_mul, Nat.zero_mod]; exact Nat.zero_le _⟩, fun j hj => by omega⟩
    have c1 : ((c : Int) == 0) = false := by simpa using hc
    rw [c1]
    simp only [cond_false]
    by_cases hb0 : b = 0
    · subst hb0
      exact .inr ⟨rfl, fun k hh => by have := hh.1; rw [Nat.mul_zero, Nat.zero_mod] at this; omega⟩
    have c2 : ((b : Int) == 0) = false := by simpa using hb0
    have c3 : ((b : Int) != 0) = true := by simpa using hb0
    rw [c2, c3]
    simp only [cond_false, cond_true]
    have hbp : 0 < b := Nat.pos_of_ne_zero hb0
    have e1 : w64 (w64 ((c : Int) + (b : Int)) - 1) = ((c + b - 1 : Nat) : Int) := by
      rw [w64_id (x := (c : Int) + (b : Int)) (by omega) (by omega), w64_id (by omega) (by omega)]; omega
    have fz := fst_zero (d := d) hbp (Nat.pos_of_ne_zero hc) hd
    have nm := no_multiple (d := d) hbp hcd
    have hq : (c + b - 1) / b ≤ c + b - 1 := Nat.div_le_self _ _
    have hqb : (c + b - 1) / b * b ≤ c + b - 1 := Nat.div_mul_le_self _ _
    rw [e1, tdN]
    generalize (c + b - 1) / b = q at fz nm hq hqb ⊢
    have e2 : w64 (q : Int) = (q : Int) := w64_id (by omega) (by omega)
    have e3 : w64 ((q : Int) * (b : Int)) = ((q * b : Nat) : Int) := by
      rw [← Int.natCast_mul]; exact natw (by omega)
    rw [e2, e3]
    by_cases hz : q * b ≤ d
    · rw [decide_eq_true (Int.ofNat_le.2 hz)]
      exact .inl ⟨_, rfl, fz hz⟩
    rw [decide_eq_false (fun q => hz (Int.ofNat_le.1 q))]
    simp only [cond_false]
    obtain ⟨h1, h2, h3⟩ := nm (Nat.lt_of_not_le hz)
    have l1 := Nat.mod_lt c hbp
    have l2 := Nat.mod_lt d hbp
    have m1 := Nat.mod_add_div c b
    have m2 := Nat.mod_add_div d b
    rw [← h3] at m2
    have g1 : Int.tmod (w64 ((b : Int) - Int.tmod (d : Int) (b : Int))) (b : Int) = ((b - d % b : Nat) : Int) := by
      rw [tmN, ← Int.ofNat_sub (Nat.le_of_lt l2), natw (by omega), tmN, Nat.mod_eq_of_lt (a := b - d % b) (by omega)]
    have g2 : Int.tmod (w64 ((b : Int) - Int.tmod (c : Int) (b : Int))) (b : Int) = ((b - c % b : Nat) : Int) := by
      rw [tmN, ← Int.ofNat_sub (Nat.le_of_lt l1), natw (by omega), tmN, Nat.mod_eq_of_lt (a := b - c % b) (by omega)]
    rw [g1, g2, tmN a b]
    have l3 := Nat.mod_lt a hbp
    rcases f62_eq m fuel b (a % b) (b - d % b) (b - c % b) (by omega) l3 (by omega) (by omega) (by omega) with ⟨j, q1, q2⟩ | ⟨q1, q2⟩
    · refine .inl ⟨c / b + j * a / b + 1, ?_, fst_round hbp hcd hd h1 h3 q2⟩
      have hjb := fst_lt hbp q2
      have hu := q2.1.2
      have e4 : (j * (a % b)) % b = (j * a) % b := by rw [Nat.mul_mod, Nat.mod_mod, ← Nat.mul_mod]
      rw [e4] at hu
      have hja : a * j ≤ 1000 * 1000 := Nat.mul_le_mul ha (by omega)
      have hce := ceil_round (a := a) (j := j) hbp h1 (by omega)
      have hk : c / b + j * a / b + 1 ≤ c + a * j + b - 1 := by rw [← hce]; exact Nat.div_le_self _ _
      rw [q1]
      simp only [Option.bind_some]
      rw [decide_eq_false (by omega)]
      simp only [cond_false]
      rw [show (a : Int) * (j : Int) = ((a * j : Nat) : Int) from (Int.natCast_mul a j).symm, w64_id (x := ((a * j : Nat) : Int)) (by omega) (by omega), w64_id (x := (c : Int) + ((a * j : Nat) : Int)) (by omega) (by omega), w64_id (x := (c : Int) + ((a * j : Nat) : Int) + (b : Int)) (by omega) (by omega),
        w64_id (x := (c : Int) + ((a * j : Nat) : Int) + (b : Int) - 1) (by omega) (by omega), show (c : Int) + ((a * j : Nat) : Int) + (b : Int) - 1 = ((c + a * j + b - 1 : Nat) : Int) by omega, tdN, hce, natw (by omega)]
    · refine .inr ⟨?_, none_round hbp hcd hd h1 h3 q2⟩
      rw [q1]
      rfl

theorem hit_back {a b c d o k : Nat} (ho : (o * b) % a = 0) (hk : o ≤ k) (h : hitP a b c d k) : hitP a b c d (k - o) := by
  have e : (k * b) % a = ((k - o) * b) % a := by
    have : k * b = (k - o) * b + o * b := by rw [← Nat.add_mul]; congr 1; omega
    rw [this, Nat.add_mod, ho, Nat.add_zero, Nat.mod_mod]
  unfold hitP at h ⊢
  rw [← e]
  exact h

end Go.Xm
