/- How many turns have marks of their own, both ways; checks are the same. Conditions: none. -/
import Derived.Test.YtagagpkjlkoieaaK5
namespace Go.Xm
set_option linter.unusedVariables false
set_option linter.unusedSimpArgs false

/-! Greatest common divisors -/
theorem f84_1_eq (m : Nat) : ∀ (fuel a b : Nat), b < fuel → f84_1 m fuel (a : Int) (b : Int) = some ((Nat.gcd a b : Nat) : Int)
  | 0, a, b, h => by omega
  | fuel + 1, a, b, h => by
    unfold f84_1
    by_cases hb : b = 0
    · subst hb
      rw [decide_eq_false (by omega), Nat.gcd_zero_right]
      rfl
    · have hp : 0 < b := Nat.pos_of_ne_zero hb
      have l := Nat.mod_lt a hp
      have c1 : ((b : Int) != 0) = true := by simpa using hb
      rw [decide_eq_true (by omega), c1, tmN]
      simp only [cond_true]
      rw [f84_1_eq m fuel b (a % b) (by omega), Nat.gcd_comm b (a % b), ← Nat.gcd_rec, Nat.gcd_comm]

theorem f65_eq (m M S : Nat) (t : Int) (hM : 0 < M) (hM2 : M ≤ 1000) (hS : S < m) : f65 m M S t = some ((M / Nat.gcd M S : Nat) : Int) := by
  unfold f65 f84
  rw [f84_1_eq m m M S hS]
  have hg : Nat.gcd M S ≠ 0 := fun e => by have := (Nat.gcd_eq_zero_iff.1 e).1; omega
  have c1 : (((Nat.gcd M S : Nat) : Int) != 0) = true := by simpa using hg
  have hd := Nat.div_le_self M (Nat.gcd M S)
  simp only [Option.bind_some]
  rw [c1, tdN, natw (by omega)]
  rfl

theorem f67_1_min (m a b : Nat) (t : Int) (ha : 0 < a) (ha2 : a ≤ 1000) (hb : b ≤ 1000) : ∀ (k x fuel : Nat), x + k = a → k < fuel → ∃ o : Nat, f67_1 m fuel a b t x = some (o : Int) ∧ x ≤ o ∧ o ≤ a ∧ (o * b) % a = 0 ∧ ∀ j, x ≤ j → j < o → (j * b) % a ≠ 0
  | k, x, 0, _, h => by omega
  | k, x, fuel + 1, hk, hf => by
    unfold f67_1
    rw [f61_eq m a b t x ha hb (by omega)]
    by_cases h0 : (x * b) % a = 0
    · refine ⟨x, ?_, Nat.le_refl _, by omega, h0, fun j h1 h2 => by omega⟩
      simp only [Option.bind_some]
      rw [h0]
      rfl
    · have hk0 : k ≠ 0 := by
        rintro rfl
        exact h0 (by rw [show x = a by omega]; exact Nat.mul_mod_right a b)
      obtain ⟨o, q1, q2, q3, q4, q5⟩ := f67_1_min m a b t ha ha2 hb (k - 1) (x + 1) fuel (by omega) (by omega)
      refine ⟨o, ?_, by omega, q3, q4, fun j h1 h2 => ?_⟩
      · have c1 : ((((x * b) % a : Nat) : Int) != 0) = true := by generalize (x * b) % a = r at h0; simpa using h0
        simp only [Option.bind_some]
        rw [c1, w64_succ x (by omega)]
        exact q1
      · rcases Nat.eq_or_lt_of_le h1 with e | e
        · rw [← e]; exact h0
        · exact q5 j (by omega) h2

theorem f67_min (m a b : Nat) (t : Int) (ha : 0 < a) (ha2 : a ≤ 1000) (hb : b ≤ 1000) (hm : a < m) : ∃ o : Nat, f67 m a b t = some (o : Int) ∧ 1 ≤ o ∧ o ≤ a ∧ (o * b) % a = 0 ∧ ∀ j, 1 ≤ j → j < o → (j * b) % a ≠ 0 := by
  obtain ⟨o, q1, q2, q3, q4, q5⟩ := f67_1_min m a b t ha ha2 hb (a - 1) 1 m (by omega) (by omega)
  refine ⟨o, ?_, q2, q3, q4, q5⟩
  unfold f67
  rw [show ((1 : Int)) = ((1 : Nat) : Int) from rfl, q1]
  rfl

theorem ord_gcd {M S o : Nat} (hM : 0 < M) (h1 : 1 ≤ o) (h2 : (o * S) % M = 0) (h3 : ∀ j, 1 ≤ j → j < o → (j * S) % M ≠ 0) : M / Nat.gcd M S = o := by
  have hg : 0 < Nat.gcd M S := Nat.gcd_pos_of_pos_left S hM
  have hco := Nat.coprime_div_gcd_div_gcd hg
  obtain ⟨M', hM'⟩ := Nat.gcd_dvd_left M S
  obtain ⟨S', hS'⟩ := Nat.gcd_dvd_right M S
  have e1 : M / Nat.gcd M S = M' := by
    conv => lhs; lhs; rw [hM']
    exact Nat.mul_div_cancel_left M' hg
  have e2 : S / Nat.gcd M S = S' := by
    conv => lhs; lhs; rw [hS']
    exact Nat.mul_div_cancel_left S' hg
  rw [e1, e2] at hco
  rw [e1]
  have hp : 1 ≤ M' := by
    rcases Nat.eq_zero_or_pos M' with q | q
    · rw [q] at hM'; omega
    · exact q
  have hz : (M' * S) % M = 0 := by
    have : M' * S = M * S' := by
      calc M' * S = M' * (Nat.gcd M S * S') := by rw [← hS']
        _ = (Nat.gcd M S * M') * S' := by rw [← Nat.mul_assoc, Nat.mul_comm M']
        _ = M * S' := by rw [← hM']
    rw [this]
    exact Nat.mul_mod_right M S'
  have hdv : M' ∣ o := by
    have d1 : M ∣ o * S := Nat.dvd_of_mod_eq_zero h2
    have d2 : Nat.gcd M S * M' ∣ Nat.gcd M S * (o * S') := by
      have : Nat.gcd M S * (o * S') = o * S := by
        calc Nat.gcd M S * (o * S') = o * (Nat.gcd M S * S') := by rw [← Nat.mul_assoc, Nat.mul_comm _ o, Nat.mul_assoc]
          _ = o * S := by rw [← hS']
      rw [this, ← hM']
      exact d1
    exact hco.dvd_of_dvd_mul_right (Nat.dvd_of_mul_dvd_mul_left hg d2)
  have hle := Nat.le_of_dvd h1 hdv
  rcases Nat.eq_or_lt_of_le hle with q | q
  · exact q
  · exact absurd hz (h3 M' hp q)

/-! Wrappers -/
structure Good (M S T o : Nat) : Prop where
  m1 : 1 ≤ M
  m2 : M ≤ 100
  s : S < M
  t1 : 1 ≤ T
  to : T ≤ o
  om : o ≤ M
  oz : (o * S) % M = 0
  omin : ∀ j, 1 ≤ j → j < o → (j * S) % M ≠ 0

theorem Good.turns {M S T o : Nat} (h : Good M S T o) {n : Nat} (hn : n ≤ o) : Turns M n (mrk M S) :=
  turns_mul (by have := h.m1; omega) (fun k h1 h2 => h.omin k h1 (by omega))

inductive Chk (m : Nat) (a b t : Int) : Prop
  | good (M S T o : Nat) (ha : a = M) (hb : b = S) (ht : t = T) (g : Good M S T o) (h0 : f20 m a b t = some 0) (h1 : f21 m a b t = some 0) (h2 : ∀ t', f67 m a b t' = some (o : Int)) (h3 : ∀ t', f65 m a b t' = some (o : Int))
  | bad (e : Int) (he : e ≠ 0) (h0 : f20 m a b t = some e) (h1 : f21 m a b t = some e)

theorem chk (m : Nat) (hm : 1000 < m) (a b t : Int) : Chk m a b t := by
  by_cases hok : 1 ≤ a ∧ a ≤ 100 ∧ 0 ≤ b ∧ b < a
  · obtain ⟨M, rfl⟩ : ∃ n : Nat, a = n := ⟨a.toNat, by omega⟩
    obtain ⟨S, rfl⟩ : ∃ n : Nat, b = n := ⟨b.toNat, by omega⟩
    by_cases ht : t < 1
    · refine .bad 1 (by decide) ?_ ?_
      · unfold f20
        rw [f64_eq, decide_eq_true hok]
        simp only [Option.bind_some, Bool.not_true, cond_false]
        rw [decide_eq_true ht]
        rfl
      · unfold f21
        rw [f66_eq, decide_eq_true hok]
        simp only [Option.bind_some, cond_true]
        rw [decide_eq_true ht]
        rfl
    · obtain ⟨T, rfl⟩ : ∃ n : Nat, t = n := ⟨t.toNat, by omega⟩
      have h65 : ∀ t', f65 m M S t' = some ((M / Nat.gcd M S : Nat) : Int) := fun t' => f65_eq m M S t' (by omega) (by omega) (by omega)
      obtain ⟨o, q1, q2, q3, q4, q5⟩ := f67_min m M S (T : Int) (by omega) (by omega) (by omega) (by omega)
      have h67 : ∀ t', f67 m M S t' = some (o : Int) := fun t' => by
        obtain ⟨o', p1, p2, p3, p4, p5⟩ := f67_min m M S t' (by omega) (by omega) (by omega) (by omega)
        rcases Nat.lt_trichotomy o o' with q | q | q
        · exact absurd q4 (p5 o q2 q)
        · rw [p1, q]
        · exact absurd p4 (q5 o' p2 q)
      have eo := ord_gcd (by omega) q2 q4 q5
      rw [eo] at h65
      have k0 : f20 m M S T = some (cond (decide ((T : Int) > (o : Int))) 3 0) := by
        unfold f20
        rw [f64_eq, decide_eq_true hok]
        simp only [Option.bind_some, Bool.not_true, cond_false]
        rw [decide_eq_false ht, h65]
        simp only [Option.bind_some, cond_false]
        cases decide ((T : Int) > (o : Int)) <;> rfl
      have k1 : f21 m M S T = some (cond (decide ((T : Int) > (o : Int))) 3 0) := by
        unfold f21
        rw [f66_eq, decide_eq_true hok]
        simp only [Option.bind_some, cond_true]
        rw [decide_eq_false ht, h67]
        rfl
      by_cases hto : (T : Int) > (o : Int)
      · rw [decide_eq_true hto] at k0 k1
        exact .bad 3 (by decide) k0 k1
      · rw [decide_eq_false hto] at k0 k1
        exact .good M S T o rfl rfl rfl ⟨by omega, by omega, by omega, by omega, by omega, q3, q4, q5⟩ k0 k1 h67 h65
  · refine .bad 1 (by decide) ?_ ?_
    · unfold f20
      rw [f64_eq, decide_eq_false hok]
      rfl
    · unfold f21
      rw [f66_eq, decide_eq_false hok]
      rfl

theorem ne0 {e : Int} (he : e ≠ 0) : (e != 0) = true := by simpa using he
theorem eq0 {e : Int} (he : e ≠ 0) : (e == 0) = false := by simpa using he
end Go.Xm
