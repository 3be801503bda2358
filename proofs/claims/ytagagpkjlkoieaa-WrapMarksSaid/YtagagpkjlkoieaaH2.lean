/- WrapFirst: what the program computes, and what the document's answer computes, is the first turn that hits. Conditions: none. -/
import Derived.Test.YtagagpkjlkoieaaH1
import Derived.Test.YtagagpkjlkoieaaDe
namespace Go.Xm
set_option linter.unusedVariables false
set_option linter.unusedSimpArgs false

theorem natw {n : Nat} (h : n ≤ 1000000000000) : w64 (n : Int) = (n : Int) := w64_id (by omega) (by omega)
theorem tmN (x y : Nat) : Int.tmod (x : Int) (y : Int) = ((x % y : Nat) : Int) := rfl
theorem tdN (x y : Nat) : Int.tdiv (x : Int) (y : Int) = ((x / y : Nat) : Int) := rfl

def FoundN (a b c d : Nat) (r : Option Int) : Prop := (∃ k : Nat, r = some (k : Int) ∧ Fst (hitP a b c d) k) ∨ (r = some (-1) ∧ ∀ k, ¬ hitP a b c d k)

theorem f62_eq (m : Nat) : ∀ (fuel a b c d : Nat), a ≤ 1000 → b < a → c ≤ d → d < a → b < fuel → FoundN a b c d (f62 m fuel a b c d)
  | 0, _, _, _, _, _, _, _, _, h => by omega
  | fuel + 1, a, b, c, d, ha, hb, hcd, hd, hf => by
    unfold f62
    by_cases hc : c = 0
    · subst hc
      exact .inl ⟨0, rfl, ⟨Nat.zero_le _, by rw [Nat.zero_mul, Nat.zero_mod]; exact Nat.zero_le _⟩, fun j hj => by omega⟩
    have c1 : ((c : Int) == 0) = false := by simpa using hc
    rw [c1]
    simp only [cond_false]
    by_cases hb0 : b = 0
    · subst hb0
      exact .inr ⟨rfl, fun k hh => by have := hh.1; rw [Nat.mul_zero, Nat.zero_mod] at this; omega⟩
    have c2 : ((b : Int) == 0) = false := by simpa using hb0
    have c3 : ((b : Int) != 0) = true := by simpa using hb0
    rw [c2, c3]
    simp only [cond_false, cond_true]
    have hbp : 0 < b := Nat.pos_of_ne_zero hb0
    have e1 : w64 (w64 ((c : Int) + (b : Int)) - 1) = ((c + b - 1 : Nat) : Int) := by
      rw [w64_id (x := (c : Int) + (b : Int)) (by omega) (by omega), w64_id (by omega) (by omega)]; omega
    have fz := fst_zero (d := d) hbp (Nat.pos_of_ne_zero hc) hd
    have nm := no_multiple (d := d) hbp hcd
    have hq : (c + b - 1) / b ≤ c + b - 1 := Nat.div_le_self _ _
    have hqb : (c + b - 1) / b * b ≤ c + b - 1 := Nat.div_mul_le_self _ _
    rw [e1, tdN]
    generalize (c + b - 1) / b = q at fz nm hq hqb ⊢
    have e2 : w64 (q : Int) = (q : Int) := w64_id (by omega) (by omega)
    have e3 : w64 ((q : Int) * (b : Int)) = ((q * b : Nat) : Int) := by
      rw [← Int.natCast_mul]; exact natw (by omega)
    rw [e2, e3]
    by_cases hz : q * b ≤ d
    · rw [decide_eq_true (Int.ofNat_le.2 hz)]
      exact .inl ⟨_, rfl, fz hz⟩
    rw [decide_eq_false (fun q => hz (Int.ofNat_le.1 q))]
    simp only [cond_false]
    obtain ⟨h1, h2, h3⟩ := nm (Nat.lt_of_not_le hz)
    have l1 := Nat.mod_lt c hbp
    have l2 := Nat.mod_lt d hbp
    have m1 := Nat.mod_add_div c b
    have m2 := Nat.mod_add_div d b
    rw [← h3] at m2
    have g1 : Int.tmod (w64 ((b : Int) - Int.tmod (d : Int) (b : Int))) (b : Int) = ((b - d % b : Nat) : Int) := by
      rw [tmN, ← Int.ofNat_sub (Nat.le_of_lt l2), natw (by omega), tmN, Nat.mod_eq_of_lt (a := b - d % b) (by omega)]
    have g2 : Int.tmod (w64 ((b : Int) - Int.tmod (c : Int) (b : Int))) (b : Int) = ((b - c % b : Nat) : Int) := by
      rw [tmN, ← Int.ofNat_sub (Nat.le_of_lt l1), natw (by omega), tmN, Nat.mod_eq_of_lt (a := b - c % b) (by omega)]
    rw [g1, g2, tmN a b]
    have l3 := Nat.mod_lt a hbp
    rcases f62_eq m fuel b (a % b) (b - d % b) (b - c % b) (by omega) l3 (by omega) (by omega) (by omega) with ⟨j, q1, q2⟩ | ⟨q1, q2⟩
    · refine .inl ⟨c / b + j * a / b + 1, ?_, fst_round hbp hcd hd h1 h3 q2⟩
      have hjb := fst_lt hbp q2
      have hu := q2.1.2
      have e4 : (j * (a % b)) % b = (j * a) % b := by rw [Nat.mul_mod, Nat.mod_mod, ← Nat.mul_mod]
      rw [e4] at hu
      have hja : a * j ≤ 1000 * 1000 := Nat.mul_le_mul ha (by omega)
      have hce := ceil_round (a := a) (j := j) hbp h1 (by omega)
      have hk : c / b + j * a / b + 1 ≤ c + a * j + b - 1 := by rw [← hce]; exact Nat.div_le_self _ _
      rw [q1]
      simp only [Option.bind_some]
      rw [decide_eq_false (by omega)]
      simp only [cond_false]
      rw [show (a : Int) * (j : Int) = ((a * j : Nat) : Int) from (Int.natCast_mul a j).symm, w64_id (x := ((a * j : Nat) : Int)) (by omega) (by omega), w64_id (x := (c : Int) + ((a * j : Nat) : Int)) (by omega) (by omega), w64_id (x := (c : Int) + ((a * j : Nat) : Int) + (b : Int)) (by omega) (by omega),
        w64_id (x := (c : Int) + ((a * j : Nat) : Int) + (b : Int) - 1) (by omega) (by omega), show (c : Int) + ((a * j : Nat) : Int) + (b : Int) - 1 = ((c + a * j + b - 1 : Nat) : Int) by omega, tdN, hce, natw (by omega)]
    · refine .inr ⟨?_, none_round hbp hcd hd h1 h3 q2⟩
      rw [q1]
      rfl

theorem f61_eq (m : Nat) (a b : Nat) (t : Int) (x : Nat) (ha : 0 < a) (hb : b ≤ 1000) (hx : x ≤ 1000000) : f61 m a b t x = some (((x * b) % a : Nat) : Int) := by
  unfold f61
  have c1 : ((a : Int) != 0) = true := by simp; omega
  have hxb : x * b ≤ 1000000 * 1000 := Nat.mul_le_mul hx hb
  rw [c1, show (x : Int) * (b : Int) = ((x * b : Nat) : Int) from (Int.natCast_mul x b).symm, w64_id (by omega) (by omega), tmN]
  rfl

theorem w64_succ (x : Nat) (h : x ≤ 1000000000) : w64 ((x : Int) + 1) = ((x + 1 : Nat) : Int) := by rw [w64_id (by omega) (by omega)]; omega

theorem f67_1_eq (m a b : Nat) (t : Int) (ha : 0 < a) (ha2 : a ≤ 1000) (hb : b ≤ 1000) : ∀ (k x fuel : Nat), x + k = a → k < fuel → ∃ o : Nat, f67_1 m fuel a b t x = some (o : Int) ∧ x ≤ o ∧ o ≤ a ∧ (o * b) % a = 0
  | k, x, 0, _, h => by omega
  | k, x, fuel + 1, hk, hf => by
    unfold f67_1
    rw [f61_eq m a b t x ha hb (by omega)]
    by_cases h0 : (x * b) % a = 0
    · refine ⟨x, ?_, Nat.le_refl _, by omega, h0⟩
      simp only [Option.bind_some]
      rw [h0]
      rfl
    · have hk0 : k ≠ 0 := by
        rintro rfl
        exact h0 (by rw [show x = a by omega]; exact Nat.mul_mod_right a b)
      obtain ⟨o, q1, q2, q3, q4⟩ := f67_1_eq m a b t ha ha2 hb (k - 1) (x + 1) fuel (by omega) (by omega)
      refine ⟨o, ?_, by omega, q3, q4⟩
      have c1 : ((((x * b) % a : Nat) : Int) != 0) = true := by generalize (x * b) % a = r at h0; simpa using h0
      simp only [Option.bind_some]
      rw [c1, w64_succ x (by omega)]
      exact q1

theorem f67_eq (m a b : Nat) (t : Int) (ha : 0 < a) (ha2 : a ≤ 1000) (hb : b ≤ 1000) (hm : a < m) : ∃ o : Nat, f67 m a b t = some (o : Int) ∧ 1 ≤ o ∧ o ≤ a ∧ (o * b) % a = 0 := by
  obtain ⟨o, q1, q2, q3, q4⟩ := f67_1_eq m a b t ha ha2 hb (a - 1) 1 m (by omega) (by omega)
  refine ⟨o, ?_, q2, q3, q4⟩
  unfold f67
  rw [show ((1 : Int)) = ((1 : Nat) : Int) from rfl, q1]
  rfl

theorem hit_back {a b c d o k : Nat} (ho : (o * b) % a = 0) (hk : o ≤ k) (h : hitP a b c d k) : hitP a b c d (k - o) := by
  have e : (k * b) % a = ((k - o) * b) % a := by
    have : k * b = (k - o) * b + o * b := by rw [← Nat.add_mul]; congr 1; omega
    rw [this, Nat.add_mod, ho, Nat.add_zero, Nat.mod_mod]
  unfold hitP at h ⊢
  rw [← e]
  exact h

theorem f44_1_eq (m a b c d o : Nat) (ha : 0 < a) (ha2 : a ≤ 1000) (hb : b ≤ 1000) (hm : a < m) (ho : f67 m a b 0 = some (o : Int)) (ho2 : o ≤ a) : ∀ (n x fuel : Nat), x + n = o → (∀ j, j < x → ¬ hitP a b c d j) → n < fuel →
    (∃ k : Nat, f44_1 m fuel a b c d x = some (.r (k : Int)) ∧ Fst (hitP a b c d) k) ∨ (f44_1 m fuel a b c d x = some .x0 ∧ ∀ j, j < o → ¬ hitP a b c d j)
  | n, x, 0, _, _, h => by omega
  | n, x, fuel + 1, hn, hj, hf => by
    unfold f44_1
    rw [ho]
    simp only [Option.bind_some]
    by_cases hx : x < o
    · rw [decide_eq_true (by omega), f61_eq m a b 0 x ha hb (by omega)]
      simp only [cond_true, Option.bind_some]
      have next : ¬ hitP a b c d x → (∃ k : Nat, f44_1 m fuel a b c d (w64 ((x : Int) + 1)) = some (.r (k : Int)) ∧ Fst (hitP a b c d) k) ∨ (f44_1 m fuel a b c d (w64 ((x : Int) + 1)) = some .x0 ∧ ∀ j, j < o → ¬ hitP a b c d j) := by
        intro hn2
        rw [w64_succ x (by omega)]
        refine f44_1_eq m a b c d o ha ha2 hb hm ho ho2 (n - 1) (x + 1) fuel (by omega) (fun j hj2 => ?_) (by omega)
        rcases Nat.lt_or_ge j x with q | q
        · exact hj j q
        · rw [show j = x by omega]; exact hn2
      by_cases h1 : c ≤ (x * b) % a
      · rw [decide_eq_true (by omega)]
        by_cases h2 : (x * b) % a ≤ d
        · rw [decide_eq_true (by omega)]
          exact .inl ⟨x, rfl, ⟨h1, h2⟩, hj⟩
        · rw [decide_eq_false (by omega)]
          exact next (fun hh => h2 hh.2)
      · rw [decide_eq_false (by omega)]
        exact next (fun hh => h1 hh.1)
    · rw [decide_eq_false (by omega)]
      exact .inr ⟨rfl, fun j hj2 => hj j (by omega)⟩

theorem f64_eq (m : Nat) (a b : Int) : f64 m a b = some (decide (1 ≤ a ∧ a ≤ 100 ∧ 0 ≤ b ∧ b < a)) := by
  unfold f64
  by_cases h1 : a ≥ 1
  · by_cases h2 : a ≤ 100
    · by_cases h3 : b ≥ 0
      · rw [decide_eq_true h1, decide_eq_true h2, decide_eq_true h3]
        by_cases h4 : b < a
        · rw [decide_eq_true h4, decide_eq_true (p := 1 ≤ a ∧ a ≤ 100 ∧ 0 ≤ b ∧ b < a) ⟨h1, h2, h3, h4⟩]; rfl
        · rw [decide_eq_false h4, decide_eq_false (p := 1 ≤ a ∧ a ≤ 100 ∧ 0 ≤ b ∧ b < a) (by omega)]; rfl
      · rw [decide_eq_true h1, decide_eq_true h2, decide_eq_false h3, decide_eq_false (p := 1 ≤ a ∧ a ≤ 100 ∧ 0 ≤ b ∧ b < a) (by omega)]; rfl
    · rw [decide_eq_true h1, decide_eq_false h2, decide_eq_false (p := 1 ≤ a ∧ a ≤ 100 ∧ 0 ≤ b ∧ b < a) (by omega)]; rfl
  · rw [decide_eq_false h1, decide_eq_false (p := 1 ≤ a ∧ a ≤ 100 ∧ 0 ≤ b ∧ b < a) (by omega)]; rfl

theorem f66_eq (m : Nat) (a b : Int) : f66 m a b = some (cond (decide (1 ≤ a ∧ a ≤ 100 ∧ 0 ≤ b ∧ b < a)) 0 1) := by
  unfold f66
  by_cases h1 : a ≥ 1
  · have e : a ≤ 100 → w64 (a - 1) = a - 1 := fun h => w64_id (by omega) (by omega)
    by_cases h2 : a ≤ 100
    · rw [e h2]
      by_cases h3 : b ≥ 0 <;> by_cases h4 : b < a
      · rw [decide_eq_true h1, decide_eq_true h2, decide_eq_true h3, decide_eq_true (p := b ≤ a - 1) (by omega), decide_eq_true (p := 1 ≤ a ∧ a ≤ 100 ∧ 0 ≤ b ∧ b < a) ⟨by omega, h2, by omega, h4⟩]; rfl
      · rw [decide_eq_true h1, decide_eq_true h2, decide_eq_true h3, decide_eq_false (p := b ≤ a - 1) (by omega), decide_eq_false (p := 1 ≤ a ∧ a ≤ 100 ∧ 0 ≤ b ∧ b < a) (by omega)]; rfl
      · rw [decide_eq_true h1, decide_eq_true h2, decide_eq_false h3, decide_eq_false (p := 1 ≤ a ∧ a ≤ 100 ∧ 0 ≤ b ∧ b < a) (by omega)]; rfl
      · rw [decide_eq_true h1, decide_eq_true h2, decide_eq_false h3, decide_eq_false (p := 1 ≤ a ∧ a ≤ 100 ∧ 0 ≤ b ∧ b < a) (by omega)]; rfl
    · rw [decide_eq_true h1, decide_eq_false h2, decide_eq_false (p := 1 ≤ a ∧ a ≤ 100 ∧ 0 ≤ b ∧ b < a) (by omega)]; rfl
  · rw [decide_eq_false h1, decide_eq_false (p := 1 ≤ a ∧ a ≤ 100 ∧ 0 ≤ b ∧ b < a) (by omega)]; rfl
end Go.Xm
