/- The first turn at some marks, by the remainders of marks and step. Conditions: none. -/
import Derived.Test.YtagagpkjlkoieaaG1
namespace Go.Xm
set_option linter.unusedVariables false
set_option linter.unusedSimpArgs false

def hitP (a b c d k : Nat) : Prop := c ≤ (k * b) % a ∧ (k * b) % a ≤ d

theorem hit_iff {a b c d k : Nat} (hd : d < a) : hitP a b c d k ↔ ∃ j, c + j * a ≤ k * b ∧ k * b ≤ d + j * a := by
  constructor
  · rintro ⟨h1, h2⟩
    refine ⟨k * b / a, ?_⟩
    have := Nat.mod_add_div (k * b) a
    rw [Nat.mul_comm a] at this
    omega
  · rintro ⟨j, h1, h2⟩
    obtain ⟨r, hr⟩ : ∃ r, k * b = r + j * a := ⟨k * b - j * a, by omega⟩
    have hr2 : r < a := by omega
    unfold hitP
    rw [hr, Nat.add_mul_mod_self_right, Nat.mod_eq_of_lt hr2]
    omega

/-- c and d lie between two multiples of b: which multiples of a, moved, have one between them. -/
theorem hit_turn {a b c d : Nat} (hb : 0 < b) (hcb : 0 < c % b) (hcd : c ≤ d) (he : c / b = d / b) (j : Nat) :
    hitP b (a % b) (b - d % b) (b - c % b) j ↔ (c + j * a ≤ (c / b + j * a / b + 1) * b ∧ (c / b + j * a / b + 1) * b ≤ d + j * a) := by
  have e1 : (j * (a % b)) % b = (j * a) % b := by rw [Nat.mul_mod, Nat.mod_mod, ← Nat.mul_mod]
  have hc := Nat.mod_add_div c b
  have hd := Nat.mod_add_div d b
  have hj := Nat.mod_add_div (j * a) b
  have l1 := Nat.mod_lt c hb
  have l2 := Nat.mod_lt d hb
  have l3 := Nat.mod_lt (j * a) hb
  unfold hitP
  rw [e1]
  rw [← he] at hd
  have e2 : (c / b + j * a / b + 1) * b = b * (c / b) + b * (j * a / b) + b := by
    rw [Nat.add_mul, Nat.add_mul, Nat.one_mul, Nat.mul_comm (c / b), Nat.mul_comm (j * a / b)]
  rw [e2]
  omega

theorem between {b x y k q : Nat} (h1 : b * q < x) (h2 : x ≤ k * b) (h3 : k * b < b * (q + 2)) : k = q + 1 := by
  have g1 : b * q < b * k := by rw [Nat.mul_comm b k]; omega
  have g2 : b * k < b * (q + 2) := by rw [Nat.mul_comm b k]; omega
  have := Nat.lt_of_mul_lt_mul_left g1
  have := Nat.lt_of_mul_lt_mul_left g2
  omega

/-- What a turn k that hits says of its round j. -/
theorem hit_round {a b c d k j : Nat} (hb : 0 < b) (hcb : 0 < c % b) (hcd : c ≤ d) (he : c / b = d / b) (h1 : c + j * a ≤ k * b) (h2 : k * b ≤ d + j * a) :
    k = c / b + j * a / b + 1 ∧ hitP b (a % b) (b - d % b) (b - c % b) j := by
  have hc := Nat.mod_add_div c b
  have hd := Nat.mod_add_div d b
  have hj := Nat.mod_add_div (j * a) b
  have l1 := Nat.mod_lt c hb
  have l2 := Nat.mod_lt d hb
  have l3 := Nat.mod_lt (j * a) hb
  rw [← he] at hd
  have hk : k = c / b + j * a / b + 1 := by
    refine between (b := b) (x := c + j * a) (y := d) ?_ h1 ?_
    · rw [Nat.mul_add]; omega
    · rw [Nat.mul_add, Nat.mul_add]; omega
  refine ⟨hk, (hit_turn hb hcb hcd he j).2 ?_⟩
  rw [← hk]
  exact ⟨h1, h2⟩

def Fst (p : Nat → Prop) (k : Nat) : Prop := p k ∧ ∀ j, j < k → ¬ p j

/-- The first turn, if a multiple of the step hits in round 0. -/
theorem fst_zero {a b c d : Nat} (hb : 0 < b) (hc : 0 < c) (hd : d < a) (h : (c + b - 1) / b * b ≤ d) : Fst (hitP a b c d) ((c + b - 1) / b) := by
  have h0 := Nat.mod_add_div (c + b - 1) b
  have l0 := Nat.mod_lt (c + b - 1) hb
  have e : (c + b - 1) / b * b = b * ((c + b - 1) / b) := Nat.mul_comm _ _
  have hle : c ≤ (c + b - 1) / b * b := by omega
  have hm : ((c + b - 1) / b * b) % a = (c + b - 1) / b * b := Nat.mod_eq_of_lt (by omega)
  refine ⟨⟨by rw [hm]; exact hle, by rw [hm]; exact h⟩, fun j hj hh => ?_⟩
  have h1 : (j + 1) * b ≤ (c + b - 1) / b * b := Nat.mul_le_mul_right b hj
  rw [Nat.add_mul, Nat.one_mul] at h1
  have hm2 : (j * b) % a = j * b := Nat.mod_eq_of_lt (by omega)
  have := hh.1
  rw [hm2] at this
  omega

theorem no_multiple {b c d : Nat} (hb : 0 < b) (hcd : c ≤ d) (h : d < (c + b - 1) / b * b) : 0 < c % b ∧ 0 < d % b ∧ c / b = d / b := by
  have h0 := Nat.mod_add_div (c + b - 1) b
  have l0 := Nat.mod_lt (c + b - 1) hb
  have e : (c + b - 1) / b * b = b * ((c + b - 1) / b) := Nat.mul_comm _ _
  have hc := Nat.mod_add_div c b
  have hd := Nat.mod_add_div d b
  have l1 := Nat.mod_lt c hb
  have l2 := Nat.mod_lt d hb
  have hq : c / b < (c + b - 1) / b := by
    have : b * (c / b) < b * ((c + b - 1) / b) := by omega
    exact Nat.lt_of_mul_lt_mul_left this
  have hle : c / b ≤ d / b := Nat.div_le_div_right hcd
  have hdq : d / b < (c + b - 1) / b := by
    have : b * (d / b) < b * ((c + b - 1) / b) := by omega
    exact Nat.lt_of_mul_lt_mul_left this
  have hs : b * ((c + b - 1) / b) < b * (c / b + 2) := by rw [Nat.mul_add]; omega
  have hs2 := Nat.lt_of_mul_lt_mul_left hs
  have e2 : (c + b - 1) / b = c / b + 1 := by omega
  rw [e2, Nat.mul_add, Nat.mul_one] at e
  have e3 : d / b = c / b := by omega
  rw [e3] at hd
  refine ⟨?_, ?_, e3.symm⟩
  · rw [e2, Nat.mul_add] at h0; omega
  · rw [e2, Nat.mul_add] at h0; omega

/-- The first turn, out of the first round. -/
theorem fst_round {a b c d j : Nat} (hb : 0 < b) (hcd : c ≤ d) (hd : d < a) (hcb : 0 < c % b) (he : c / b = d / b) (hj : Fst (hitP b (a % b) (b - d % b) (b - c % b)) j) :
    Fst (hitP a b c d) (c / b + j * a / b + 1) := by
  have h1 := (hit_turn hb hcb hcd he j).1 hj.1
  refine ⟨(hit_iff hd).2 ⟨j, h1⟩, fun k hk hh => ?_⟩
  obtain ⟨j1, g1, g2⟩ := (hit_iff hd).1 hh
  obtain ⟨g3, g4⟩ := hit_round hb hcb hcd he g1 g2
  have hjj : ¬ j1 < j := fun q => hj.2 j1 q g4
  have : j * a / b ≤ j1 * a / b := Nat.div_le_div_right (Nat.mul_le_mul_right a (by omega))
  omega

theorem none_round {a b c d : Nat} (hb : 0 < b) (hcd : c ≤ d) (hd : d < a) (hcb : 0 < c % b) (he : c / b = d / b) (hj : ∀ j, ¬ hitP b (a % b) (b - d % b) (b - c % b) j) (k : Nat) : ¬ hitP a b c d k := by
  intro hh
  obtain ⟨j1, g1, g2⟩ := (hit_iff hd).1 hh
  exact hj j1 (hit_round hb hcb hcd he g1 g2).2

/-- The first turn that hits comes ahead of turn a. -/
theorem fst_lt {a b c d k : Nat} (ha : 0 < a) (h : Fst (hitP a b c d) k) : k < a := by
  rcases Nat.lt_or_ge k a with q | q
  · exact q
  · exfalso
    refine h.2 (k - a) (by omega) ?_
    have e : ((k - a) * b) % a = (k * b) % a := by
      have : k * b = (k - a) * b + b * a := by rw [Nat.mul_comm b a, ← Nat.add_mul]; congr 1; omega
      rw [this, Nat.add_mul_mod_self_right]
    unfold hitP
    rw [e]
    exact h.1

/-- The round's turn, rounded up. -/
theorem ceil_round {a b c j : Nat} (hb : 0 < b) (hcb : 0 < c % b) (hu : c % b + (j * a) % b ≤ b) : (c + a * j + b - 1) / b = c / b + j * a / b + 1 := by
  have hc := Nat.mod_add_div c b
  have hj := Nat.mod_add_div (j * a) b
  rw [Nat.mul_comm a j]
  have e : c + j * a + b - 1 = (c % b + (j * a) % b - 1) + b * (c / b + j * a / b + 1) := by
    rw [Nat.mul_add, Nat.mul_add]; omega
  rw [e, Nat.add_mul_div_left _ _ hb, Nat.div_eq_of_lt (by omega)]
  omega
end Go.Xm
