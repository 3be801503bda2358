/- Turns on a circle, by the turns beside turn 0: which turn comes next by its mark. Conditions: none. -/
import Derived.Test.YtagagpkjlkoieaaG1
namespace Go.Xm
set_option linter.unusedVariables false
set_option linter.unusedSimpArgs false

/-- Marks of turns: they add up around a circle of M marks; the first T turns have their own ones. -/
structure Turns (M T : Nat) (P : Nat → Nat) : Prop where
  pos : 0 < M
  lt : ∀ k, P k < M
  zero : P 0 = 0
  add : ∀ i j, (P i + P j < M ∧ P (i + j) = P i + P j) ∨ (M ≤ P i + P j ∧ P (i + j) = P i + P j - M)
  own : ∀ k, 0 < k → k < T → 0 < P k

theorem turns_mul {M S T : Nat} (hM : 0 < M) (hT : ∀ k, 0 < k → k < T → (k * S) % M ≠ 0) : Turns M T (fun k => (k * S) % M) := by
  refine ⟨hM, fun k => Nat.mod_lt _ hM, by simp, fun i j => ?_, fun k h1 h2 => Nat.pos_of_ne_zero (hT k h1 h2)⟩
  show ((i * S) % M + (j * S) % M < M ∧ ((i + j) * S) % M = (i * S) % M + (j * S) % M) ∨ (M ≤ (i * S) % M + (j * S) % M ∧ ((i + j) * S) % M = (i * S) % M + (j * S) % M - M)
  rw [Nat.add_mul, Nat.add_mod]
  have h1 := Nat.mod_lt (i * S) hM
  have h2 := Nat.mod_lt (j * S) hM
  generalize (i * S) % M = x at h1 ⊢
  generalize (j * S) % M = y at h2 ⊢
  rcases Nat.lt_or_ge (x + y) M with q | q
  · exact .inl ⟨q, Nat.mod_eq_of_lt q⟩
  · refine .inr ⟨q, ?_⟩
    rw [Nat.mod_eq_sub_mod q, Nat.mod_eq_of_lt (by omega)]

/-- The other way round. -/
def mirror (M : Nat) (P : Nat → Nat) (k : Nat) : Nat := if P k = 0 then 0 else M - P k

theorem Turns.mirror {M T : Nat} {P : Nat → Nat} (h : Turns M T P) : Turns M T (Go.Xm.mirror M P) := by
  refine ⟨h.pos, fun k => ?_, by simp [Go.Xm.mirror, h.zero], fun i j => ?_, fun k h1 h2 => ?_⟩
  · have := h.lt k
    have := h.pos
    unfold Go.Xm.mirror
    split <;> omega
  · have h1 := h.lt i
    have h2 := h.lt j
    have h3 := h.lt (i + j)
    have h4 := h.add i j
    unfold Go.Xm.mirror
    split <;> split <;> split <;> omega
  · have := h.own k h1 h2
    have := h.lt k
    unfold Go.Xm.mirror
    rw [if_neg (by omega)]
    omega

theorem Turns.sub {M T : Nat} {P : Nat → Nat} (h : Turns M T P) {i j : Nat} (hij : j ≤ i) : (P j ≤ P i ∧ P (i - j) = P i - P j) ∨ (P i < P j ∧ P (i - j) = P i + M - P j) := by
  have h1 := h.add (i - j) j
  have e : i - j + j = i := by omega
  rw [e] at h1
  have := h.lt i
  have := h.lt j
  have := h.lt (i - j)
  omega

/-- p has the smallest mark of turns 1 .. T - 1, q the greatest. -/
def Beside (T : Nat) (P : Nat → Nat) (p q : Nat) : Prop := 0 < p ∧ p < T ∧ 0 < q ∧ q < T ∧ ∀ j, 0 < j → j < T → P p ≤ P j ∧ P j ≤ P q

theorem Beside.mirror {M T : Nat} {P : Nat → Nat} (h : Turns M T P) {p q : Nat} (hb : Beside T P p q) : Beside T (Go.Xm.mirror M P) q p := by
  obtain ⟨h1, h2, h3, h4, h5⟩ := hb
  refine ⟨h3, h4, h1, h2, fun j j1 j2 => ?_⟩
  have a1 := h.own j j1 j2
  have a2 := h.own p h1 h2
  have a3 := h.own q h3 h4
  have b1 := h.lt j
  have b2 := h.lt p
  have b3 := h.lt q
  have := h5 j j1 j2
  unfold Go.Xm.mirror
  rw [if_neg (by omega), if_neg (by omega), if_neg (by omega)]
  omega

def nextN (T p q k : Nat) : Nat := if k < T - p then k + p else if k < q then k + p - q else k - q

/-- j's mark comes next behind k's, around the circle. -/
def IsNext (M T : Nat) (P : Nat → Nat) (k j : Nat) : Prop :=
  j < T ∧ ((P k < P j ∧ ∀ i, i < T → ¬ (P k < P i ∧ P i < P j)) ∨ (j = 0 ∧ ∀ i, i < T → P i ≤ P k))

theorem next_ok {M T : Nat} {P : Nat → Nat} (h : Turns M T P) {p q : Nat} (hb : Beside T P p q) {k : Nat} (hk : k < T) : IsNext M T P k (nextN T p q k) := by
  obtain ⟨p0, pT, q0, qT, mm⟩ := hb
  have lk := h.lt k
  have lp := h.lt p
  have lq := h.lt q
  have op := h.own p p0 pT
  have oq := h.own q q0 qT
  have z := h.zero
  have mpq := mm q q0 qT
  unfold nextN
  by_cases c1 : k < T - p
  · rw [if_pos c1]
    have a1 := h.add k p
    have m1 := mm (k + p) (by omega) (by omega)
    have e1 : P (k + p) = P k + P p := by omega
    refine ⟨by omega, .inl ⟨by omega, fun i hi hh => ?_⟩⟩
    rcases Nat.lt_or_ge k i with g | g
    · have s := h.sub (i := i) (j := k) (by omega)
      have m := mm (i - k) (by omega) (by omega)
      omega
    · have s := h.sub (i := k + p) (j := i) (by omega)
      have m := mm (k + p - i) (by omega) (by omega)
      omega
  rw [if_neg c1]
  by_cases c2 : k < q
  · rw [if_pos c2]
    have a1 := h.add k p
    have lkp := h.lt (k + p)
    have s0 := h.sub (i := k + p) (j := q) (by omega)
    have m0 := mm (k + p - q) (by omega) (by omega)
    have hkq : P k ≤ P q := by
      rcases Nat.eq_zero_or_pos k with g | g
      · subst g; omega
      · exact (mm k g hk).2
    have s9 := h.sub (i := q) (j := k) (by omega)
    have o9 := h.own (q - k) (by omega) (by omega)
    have e1 : P (k + p - q) = P k + P p + M - P q := by omega
    refine ⟨by omega, .inl ⟨by omega, fun i hi hh => ?_⟩⟩
    rcases Nat.lt_or_ge k i with g | g
    · have s := h.sub (i := i) (j := k) (by omega)
      have m := mm (i - k) (by omega) (by omega)
      have s2 := h.sub (i := p) (j := i - k) (by omega)
      have m2 := mm (p - (i - k)) (by omega) (by omega)
      have o2 := h.own (p - (i - k)) (by omega) (by omega)
      omega
    · have hne : i ≠ k := by rintro rfl; omega
      have s := h.sub (i := k) (j := i) (by omega)
      have m := mm (k - i) (by omega) (by omega)
      have s2 := h.sub (i := q) (j := k - i) (by omega)
      have m2 := mm (q - (k - i)) (by omega) (by omega)
      have o2 := h.own (q - (k - i)) (by omega) (by omega)
      omega
  rw [if_neg c2]
  rcases Nat.eq_or_lt_of_le (Nat.le_of_not_lt c2) with g | g
  · subst g
    refine ⟨by omega, .inr ⟨by omega, fun i hi => ?_⟩⟩
    rcases Nat.eq_zero_or_pos i with e | e
    · subst e; omega
    · exact (mm i e hi).2
  · have s0 := h.sub (i := k) (j := q) (by omega)
    have mk := mm k (by omega) hk
    have ok := h.own (k - q) (by omega) (by omega)
    have lkq := h.lt (k - q)
    have mkq := mm (k - q) (by omega) (by omega)
    have hlt : P k < P q ∨ P k = P q := by omega
    have e1 : P (k - q) = P k + M - P q := by omega
    refine ⟨by omega, .inl ⟨by omega, fun i hi hh => ?_⟩⟩
    rcases Nat.lt_or_ge k i with e | e
    · have s := h.sub (i := i) (j := k) (by omega)
      have a := h.add (i - k) q
      have m := mm (i - k + q) (by omega) (by omega)
      omega
    · have hne : i ≠ k := by rintro rfl; omega
      have s := h.sub (i := k) (j := i) (by omega)
      have m := mm (k - i) (by omega) (by omega)
      omega
end Go.Xm
