/- Small laws: checks and marks, as the program computes them. Conditions: none. -/
import Derived.Test.YtagagpkjlkoieaaG1
import Derived.Test.YtagagpkjlkoieaaPa
import Derived.Test.YtagagpkjlkoieaaPi
import Derived.Test.YtagagpkjlkoieaaPh
import Derived.Test.YtagagpkjlkoieaaPd
namespace Go.Xm
set_option linter.unusedVariables false
set_option linter.unusedSimpArgs false
set_option maxRecDepth 20000

theorem natw {n : Nat} (h : n ≤ 1000000000000) : w64 (n : Int) = (n : Int) := w64_id (by omega) (by omega)
theorem tmN (x y : Nat) : Int.tmod (x : Int) (y : Int) = ((x % y : Nat) : Int) := rfl
theorem tdN (x y : Nat) : Int.tdiv (x : Int) (y : Int) = ((x / y : Nat) : Int) := rfl

theorem f61_eq (m : Nat) (a b : Nat) (t : Int) (x : Nat) (ha : 0 < a) (hb : b ≤ 1000) (hx : x ≤ 1000000) : f61 m a b t x = some (((x * b) % a : Nat) : Int) := by
  unfold f61
  have c1 : ((a : Int) != 0) = true := by simp; omega
  have hxb : x * b ≤ 1000000 * 1000 := Nat.mul_le_mul hx hb
  rw [c1, show (x : Int) * (b : Int) = ((x * b : Nat) : Int) from (Int.natCast_mul x b).symm, w64_id (by omega) (by omega), tmN]
  rfl

theorem w64_succ (x : Nat) (h : x ≤ 1000000000) : w64 ((x : Int) + 1) = ((x + 1 : Nat) : Int) := by rw [w64_id (by omega) (by omega)]; omega

theorem f64_eq (m : Nat) (a b : Int) : f64 m a b = some (decide (1 ≤ a ∧ a ≤ 100 ∧ 0 ≤ b ∧ b < a)) := by
  unfold f64
  by_cases h1 : a ≥ 1
  · by_cases h2 : a ≤ 100
    · by_cases h3 : b ≥ 0
      · rw [decide_eq_true h1, decide_eq_true h2, decide_eq_true h3]
        by_cases h4 : b < a
        · rw [decide_eq_true h4, decide_eq_true (p := 1 ≤ a ∧ a ≤ 100 ∧ 0 ≤ b ∧ b < a) ⟨h1, h2, h3, h4⟩]; rfl
        · rw [decide_eq_false h4, decide_eq_false (p := 1 ≤ a ∧ a ≤ 100 ∧ 0 ≤ b ∧ b < a) (by omega)]; rfl
      · rw [decide_eq_true h1, decide_eq_true h2, decide_eq_false h3, decide_eq_false (p := 1 ≤ a ∧ a ≤ 100 ∧ 0 ≤ b ∧ b < a) (by omega)]; rfl
    · rw [decide_eq_true h1, decide_eq_false h2, decide_eq_false (p := 1 ≤ a ∧ a ≤ 100 ∧ 0 ≤ b ∧ b < a) (by omega)]; rfl
  · rw [decide_eq_false h1, decide_eq_false (p := 1 ≤ a ∧ a ≤ 100 ∧ 0 ≤ b ∧ b < a) (by omega)]; rfl

/-- Marks of turns: they add up around a circle of M marks; the first T turns have their own ones. -/
structure Turns (M T : Nat) (P : Nat → Nat) : Prop where
  pos : 0 < M
  lt : ∀ k, P k < M
  zero : P 0 = 0
  add : ∀ i j, (P i + P j < M ∧ P (i + j) = P i + P j) ∨ (M ≤ P i + P j ∧ P (i + j) = P i + P j - M)
  own : ∀ k, 0 < k → k < T → 0 < P k

theorem turns_mul {M S T : Nat} (hM : 0 < M) (hT : ∀ k, 0 < k → k < T → (k * S) % M ≠ 0) : Turns M T (fun k => (k * S) % M) := by
  refine ⟨hM, fun k => Nat.mod_lt _ hM, by simp, fun i j => ?_, fun k h1 h2 => Nat.pos_of_ne_zero (hT k h1 h2)⟩
  show ((i * S) % M + (j * S) % M < M ∧ ((i + j) * S) % M = (i * S) % M + (j * S) % M) ∨ (M ≤ (i * S) % M + (j * S) % M ∧ ((i + j) * S) % M = (i * S) % M + (j * S) % M - M)
  rw [Nat.add_mul, Nat.add_mod]
  have h1 := Nat.mod_lt (i * S) hM
  have h2 := Nat.mod_lt (j * S) hM
  generalize (i * S) % M = x at h1 ⊢
  generalize (j * S) % M = y at h2 ⊢
  rcases Nat.lt_or_ge (x + y) M with q | q
  · exact .inl ⟨q, Nat.mod_eq_of_lt q⟩
  · refine .inr ⟨q, ?_⟩
    rw [Nat.mod_eq_sub_mod q, Nat.mod_eq_of_lt (by omega)]

/-- The other way round. -/
def mirror (M : Nat) (P : Nat → Nat) (k : Nat) : Nat := if P k = 0 then 0 else M - P k

theorem Turns.mirror {M T : Nat} {P : Nat → Nat} (h : Turns M T P) : Turns M T (Go.Xm.mirror M P) := by
  refine ⟨h.pos, fun k => ?_, by simp [Go.Xm.mirror, h.zero], fun i j => ?_, fun k h1 h2 => ?_⟩
  · have := h.lt k
    have := h.pos
    unfold Go.Xm.mirror
    split <;> omega
  · have h1 := h.lt i
    have h2 := h.lt j
    have h3 := h.lt (i + j)
    have h4 := h.add i j
    unfold Go.Xm.mirror
    split <;> split <;> split <;> omega
  · have := h.own k h1 h2
    have := h.lt k
    unfold Go.Xm.mirror
    rw [if_neg (by omega)]
    omega

theorem Turns.sub {M T : Nat} {P : Nat → Nat} (h : Turns M T P) {i j : Nat} (hij : j ≤ i) : (P j ≤ P i ∧ P (i - j) = P i - P j) ∨ (P i < P j ∧ P (i - j) = P i + M - P j) := by
  have h1 := h.add (i - j) j
  have e : i - j + j = i := by omega
  rw [e] at h1
  have := h.lt i
  have := h.lt j
  have := h.lt (i - j)
  omega

/-- p has the smallest mark of turns 1 .. T - 1, q the greatest. -/
def Beside (T : Nat) (P : Nat → Nat) (p q : Nat) : Prop := 0 < p ∧ p < T ∧ 0 < q ∧ q < T ∧ ∀ j, 0 < j → j < T → P p ≤ P j ∧ P j ≤ P q

theorem Beside.mirror {M T : Nat} {P : Nat → Nat} (h : Turns M T P) {p q : Nat} (hb : Beside T P p q) : Beside T (Go.Xm.mirror M P) q p := by
  obtain ⟨h1, h2, h3, h4, h5⟩ := hb
  refine ⟨h3, h4, h1, h2, fun j j1 j2 => ?_⟩
  have a1 := h.own j j1 j2
  have a2 := h.own p h1 h2
  have a3 := h.own q h3 h4
  have b1 := h.lt j
  have b2 := h.lt p
  have b3 := h.lt q
  have := h5 j j1 j2
  unfold Go.Xm.mirror
  rw [if_neg (by omega), if_neg (by omega), if_neg (by omega)]
  omega

def nextN (T p q k : Nat) : Nat := if k < T - p then k + p else if k < q then k + p - q else k - q

/-- j's mark comes next behind k's, around the circle. -/
def IsNext (M T : Nat) (P : Nat → Nat) (k j : Nat) : Prop :=
  j < T ∧ ((P k < P j ∧ ∀ i, i < T → ¬ (P k < P i ∧ P i < P j)) ∨ (j = 0 ∧ ∀ i, i < T → P i ≤ P k))

theorem next_ok {M T : Nat} {P : Nat → Nat} (h : Turns M T P) {p q : Nat} (hb : Beside T P p q) {k : Nat} (hk : k < T) : IsNext M T P k (nextN T p q k) := by
  obtain ⟨p0, pT, q0, qT, mm⟩ := hb
  have lk := h.lt k
  have lp := h.lt p
  have lq := h.lt q
  have op := h.own p p0 pT
  have oq := h.own q q0 qT
  have z := h.zero
  have mpq := mm q q0 qT
  unfold nextN
  by_cases c1 : k < T - p
  · rw [if_pos c1]
    have a1 := h.add k p
    have m1 := mm (k + p) (by omega) (by omega)
    have e1 : P (k + p) = P k + P p := by omega
    refine ⟨by omega, .inl ⟨by omega, fun i hi hh => ?_⟩⟩
    rcases Nat.lt_or_ge k i with g | g
    · have s := h.sub (i := i) (j := k) (by omega)
      have m := mm (i - k) (by omega) (by omega)
      omega
    · have s := h.sub (i := k + p) (j := i) (by omega)
      have m := mm (k + p - i) (by omega) (by omega)
      omega
  rw [if_neg c1]
  by_cases c2 : k < q
  · rw [if_pos c2]
    have a1 := h.add k p
    have lkp := h.lt (k + p)
    have s0 := h.sub (i := k + p) (j := q) (by omega)
    have m0 := mm (k + p - q) (by omega) (by omega)
    have hkq : P k ≤ P q := by
      rcases Nat.eq_zero_or_pos k with g | g
      · subst g; omega
      · exact (mm k g hk).2
    have s9 := h.sub (i := q) (j := k) (by omega)
    have o9 := h.own (q - k) (by omega) (by omega)
    have e1 : P (k + p - q) = P k + P p + M - P q := by omega
    refine ⟨by omega, .inl ⟨by omega, fun i hi hh => ?_⟩⟩
    rcases Nat.lt_or_ge k i with g | g
    · have s := h.sub (i := i) (j := k) (by omega)
      have m := mm (i - k) (by omega) (by omega)
      have s2 := h.sub (i := p) (j := i - k) (by omega)
      have m2 := mm (p - (i - k)) (by omega) (by omega)
      have o2 := h.own (p - (i - k)) (by omega) (by omega)
      omega
    · have hne : i ≠ k := by rintro rfl; omega
      have s := h.sub (i := k) (j := i) (by omega)
      have m := mm (k - i) (by omega) (by omega)
      have s2 := h.sub (i := q) (j := k - i) (by omega)
      have m2 := mm (q - (k - i)) (by omega) (by omega)
      have o2 := h.own (q - (k - i)) (by omega) (by omega)
      omega
  rw [if_neg c2]
  rcases Nat.eq_or_lt_of_le (Nat.le_of_not_lt c2) with g | g
  · subst g
    refine ⟨by omega, .inr ⟨by omega, fun i hi => ?_⟩⟩
    rcases Nat.eq_zero_or_pos i with e | e
    · subst e; omega
    · exact (mm i e hi).2
  · have s0 := h.sub (i := k) (j := q) (by omega)
    have mk := mm k (by omega) hk
    have ok := h.own (k - q) (by omega) (by omega)
    have lkq := h.lt (k - q)
    have mkq := mm (k - q) (by omega) (by omega)
    have hlt : P k < P q ∨ P k = P q := by omega
    have e1 : P (k - q) = P k + M - P q := by omega
    refine ⟨by omega, .inl ⟨by omega, fun i hi hh => ?_⟩⟩
    rcases Nat.lt_or_ge k i with e | e
    · have s := h.sub (i := i) (j := k) (by omega)
      have a := h.add (i - k) q
      have m := mm (i - k + q) (by omega) (by omega)
      omega
    · have hne : i ≠ k := by rintro rfl; omega
      have s := h.sub (i := k) (j := i) (by omega)
      have m := mm (k - i) (by omega) (by omega)
      omega

theorem f59_eq (m : Nat) (a b : Nat) (t : Int) (x : Nat) (ha : 0 < a) (hb : b ≤ 1000) (hx : x ≤ 1000000) : f59 m a b t x = some (((x * b) % a : Nat) : Int) := f61_eq m a b t x ha hb hx

def mrk (M S k : Nat) : Nat := (k * S) % M

def stepB (M S n p q : Nat) : Nat × Nat := if n = 1 then (1, 1) else if mrk M S n < mrk M S p then (n, q) else if mrk M S q < mrk M S n then (p, n) else (p, q)

def loopB (M S : Nat) : Nat → Nat → Nat → Nat → Nat × Nat
  | 0, _, p, q => (p, q)
  | k + 1, n, p, q => loopB M S k (n + 1) (stepB M S n p q).1 (stepB M S n p q).2

theorem f29_1_eq (m M S T : Nat) (hM : 0 < M) (hS : S ≤ 1000) (hT : T ≤ 1000) : ∀ (k n p q fuel : Nat), n + k = T → p ≤ 1000 → q ≤ 1000 → k < fuel →
    f29_1 m fuel M S T n p q = some ((T : Int), ((loopB M S k n p q).1 : Int), ((loopB M S k n p q).2 : Int))
  | k, n, p, q, 0, _, _, _, h => by omega
  | 0, n, p, q, fuel + 1, hn, hp, hq, _ => by
    unfold f29_1
    rw [decide_eq_false (by omega)]
    have : n = T := by omega
    subst this
    rfl
  | k + 1, n, p, q, fuel + 1, hn, hp, hq, hf => by
    unfold f29_1
    rw [decide_eq_true (by omega), w64_succ n (by omega)]
    simp only [cond_true]
    have e0 : loopB M S (k + 1) n p q = loopB M S k (n + 1) (stepB M S n p q).1 (stepB M S n p q).2 := rfl
    rw [e0]
    unfold stepB
    by_cases h1 : n = 1
    · subst h1
      rw [if_pos rfl]
      exact f29_1_eq m M S T hM hS hT k 2 1 1 fuel (by omega) (by omega) (by omega) (by omega)
    · have c1 : ((n : Int) == 1) = false := by simp; omega
      rw [c1, if_neg h1, f59_eq m M S _ n hM hS (by omega), f59_eq m M S _ p hM hS (by omega), f59_eq m M S _ q hM hS (by omega)]
      simp only [cond_false, Option.bind_some]
      unfold mrk
      by_cases h2 : (n * S) % M < (p * S) % M
      · rw [decide_eq_true (Int.ofNat_lt.2 h2), if_pos h2]
        exact f29_1_eq m M S T hM hS hT k (n + 1) n q fuel (by omega) (by omega) (by omega) (by omega)
      · rw [decide_eq_false (fun q => h2 (Int.ofNat_lt.1 q)), if_neg h2]
        simp only [cond_false]
        by_cases h3 : (q * S) % M < (n * S) % M
        · rw [decide_eq_true (p := (((n * S) % M : Nat) : Int) > (((q * S) % M : Nat) : Int)) (Int.ofNat_lt.2 h3), if_pos h3]
          exact f29_1_eq m M S T hM hS hT k (n + 1) p n fuel (by omega) (by omega) (by omega) (by omega)
        · rw [decide_eq_false (p := (((n * S) % M : Nat) : Int) > (((q * S) % M : Nat) : Int)) (fun q => h3 (Int.ofNat_lt.1 q)), if_neg h3]
          exact f29_1_eq m M S T hM hS hT k (n + 1) p q fuel (by omega) (by omega) (by omega) (by omega)

theorem stepB_ok {M S n p q : Nat} (hn : 2 ≤ n) (h : Beside n (mrk M S) p q) : Beside (n + 1) (mrk M S) (stepB M S n p q).1 (stepB M S n p q).2 := by
  obtain ⟨h1, h2, h3, h4, h5⟩ := h
  have hpq := h5 p h1 h2
  have hqq := h5 q h3 h4
  unfold stepB
  rw [if_neg (by omega)]
  split
  · rename_i hlt
    refine ⟨by omega, by omega, h3, by omega, fun j j1 j2 => ?_⟩
    by_cases e : j = n
    · subst e; simp only []; omega
    · have := h5 j j1 (by omega); simp only []; omega
  · split
    · refine ⟨h1, by omega, by omega, by omega, fun j j1 j2 => ?_⟩
      by_cases e : j = n
      · subst e; simp only []; omega
      · have := h5 j j1 (by omega); simp only []; omega
    · refine ⟨h1, by omega, h3, by omega, fun j j1 j2 => ?_⟩
      by_cases e : j = n
      · subst e; simp only []; omega
      · have := h5 j j1 (by omega); simp only []; omega

theorem loopB_ok {M S : Nat} : ∀ (k n p q : Nat), 2 ≤ n → Beside n (mrk M S) p q → Beside (n + k) (mrk M S) (loopB M S k n p q).1 (loopB M S k n p q).2
  | 0, n, p, q, _, h => h
  | k + 1, n, p, q, hn, h => by
    have := loopB_ok k (n + 1) _ _ (by omega) (stepB_ok hn h)
    rw [show n + (k + 1) = n + 1 + k by omega]
    exact this

theorem beside_two {M S : Nat} : Beside 2 (mrk M S) 1 1 := ⟨by omega, by omega, by omega, by omega, fun j h1 h2 => by
  have : j = 1 := by omega
  subst this; omega⟩

theorem loopB_all {M S T : Nat} (hT : 2 ≤ T) : Beside T (mrk M S) (loopB M S (T - 1) 1 0 0).1 (loopB M S (T - 1) 1 0 0).2 := by
  obtain ⟨k, rfl⟩ : ∃ k, T = k + 2 := ⟨T - 2, by omega⟩
  have e : loopB M S (k + 2 - 1) 1 0 0 = loopB M S k 2 1 1 := rfl
  rw [e]
  have := loopB_ok (M := M) (S := S) k 2 1 1 (by omega) beside_two
  rw [show k + 2 = 2 + k by omega]
  exact this

def trn (P : Nat → Nat) (T x : Nat) : Option Nat := fnd (fun k => P k == x) T 0

/-! The list -/
theorem Turns.inj {M T : Nat} {P : Nat → Nat} (h : Turns M T P) {i j : Nat} (hi : i < T) (hj : j < T) (e : P i = P j) : i = j := by
  rcases Nat.lt_trichotomy i j with q | q | q
  · have s := h.sub (i := j) (j := i) (by omega)
    have o := h.own (j - i) (by omega) (by omega)
    omega
  · exact q
  · have s := h.sub (i := i) (j := j) (by omega)
    have o := h.own (i - j) (by omega) (by omega)
    omega

theorem trn_some {P : Nat → Nat} {T x t : Nat} (h : trn P T x = some t) : t < T ∧ P t = x := by
  obtain ⟨_, h2, h3, _⟩ := fnd_some T 0 h
  exact ⟨by omega, by simpa using h3⟩

theorem trn_none {P : Nat → Nat} {T x : Nat} (h : trn P T x = none) : ∀ t, t < T → P t ≠ x := fun t ht => by
  have := fnd_none_iff T 0 h t (by omega) (by omega)
  simpa using this

theorem Turns.trn {M T : Nat} {P : Nat → Nat} (h : Turns M T P) {t : Nat} (ht : t < T) : Go.Xm.trn P T (P t) = some t := by
  cases hh : Go.Xm.trn P T (P t) with
  | none => exact absurd rfl (trn_none hh t ht)
  | some u =>
    obtain ⟨h1, h2⟩ := trn_some hh
    rw [h.inj h1 ht h2]

theorem beside_sum {M T : Nat} {P : Nat → Nat} (h : Turns M T P) {p q : Nat} (hb : Beside T P p q) : T ≤ p + q := by
  obtain ⟨p0, pT, q0, qT, mm⟩ := hb
  rcases Nat.lt_or_ge (p + q) T with g | g
  · exfalso
    have a := h.add p q
    have lp := h.lt p
    have lq := h.lt q
    have op := h.own p p0 pT
    have m := mm (p + q) (by omega) g
    omega
  · exact g

theorem next_before {T p q k : Nat} (hs : T ≤ p + q) (hp : p < T) (hq : q < T) (hk : k < T) : nextN T q p (nextN T p q k) = k := by
  by_cases c1 : k < T - p
  · rw [show nextN T p q k = k + p from if_pos c1]
    unfold nextN
    rw [if_neg (by omega), if_neg (by omega)]
    omega
  · by_cases c2 : k < q
    · rw [show nextN T p q k = k + p - q by unfold nextN; rw [if_neg c1, if_pos c2]]
      unfold nextN
      rw [if_neg (by omega), if_pos (by omega)]
      omega
    · rw [show nextN T p q k = k - q by unfold nextN; rw [if_neg c1, if_neg c2]]
      unfold nextN
      rw [if_pos (by omega)]
      omega

theorem IsNext.uniq {M T : Nat} {P : Nat → Nat} (h : Turns M T P) {k i j : Nat} (h1 : IsNext M T P k i) (h2 : IsNext M T P k j) : i = j := by
  rcases h1 with ⟨i1, ⟨a1, a2⟩ | ⟨a1, a2⟩⟩
  · rcases h2 with ⟨j1, ⟨b1, b2⟩ | ⟨b1, b2⟩⟩
    · have u := a2 j j1
      have v := b2 i i1
      exact h.inj i1 j1 (by omega)
    · have := b2 i i1; omega
  · rcases h2 with ⟨j1, ⟨b1, b2⟩ | ⟨b1, b2⟩⟩
    · have := a2 j j1; omega
    · omega

/-! How long the list is -/
def one (P : Nat → Nat) (T x : Nat) : Nat := if (trn P T x).isSome then 1 else 0

/-! Greatest common divisors -/
theorem f84_1_eq (m : Nat) : ∀ (fuel a b : Nat), b < fuel → f84_1 m fuel (a : Int) (b : Int) = some ((Nat.gcd a b : Nat) : Int)
  | 0, a, b, h => by omega
  | fuel + 1, a, b, h => by
    unfold f84_1
    by_cases hb : b = 0
    · subst hb
      rw [decide_eq_false (by omega), Nat.gcd_zero_right]
      rfl
    · have hp : 0 < b := Nat.pos_of_ne_zero hb
      have l := Nat.mod_lt a hp
      have c1 : ((b : Int) != 0) = true := by simpa using hb
      rw [decide_eq_true (by omega), c1, tmN]
      simp only [cond_true]
      rw [f84_1_eq m fuel b (a % b) (by omega), Nat.gcd_comm b (a % b), ← Nat.gcd_rec, Nat.gcd_comm]

theorem f65_eq (m M S : Nat) (t : Int) (hM : 0 < M) (hM2 : M ≤ 1000) (hS : S < m) : f65 m M S t = some ((M / Nat.gcd M S : Nat) : Int) := by
  unfold f65 f84
  rw [f84_1_eq m m M S hS]
  have hg : Nat.gcd M S ≠ 0 := fun e => by have := (Nat.gcd_eq_zero_iff.1 e).1; omega
  have c1 : (((Nat.gcd M S : Nat) : Int) != 0) = true := by simpa using hg
  have hd := Nat.div_le_self M (Nat.gcd M S)
  simp only [Option.bind_some]
  rw [c1, tdN, natw (by omega)]
  rfl

theorem f67_1_min (m a b : Nat) (t : Int) (ha : 0 < a) (ha2 : a ≤ 1000) (hb : b ≤ 1000) : ∀ (k x fuel : Nat), x + k = a → k < fuel → ∃ o : Nat, f67_1 m fuel a b t x = some (o : Int) ∧ x ≤ o ∧ o ≤ a ∧ (o * b) % a = 0 ∧ ∀ j, x ≤ j → j < o → (j * b) % a ≠ 0
  | k, x, 0, _, h => by omega
  | k, x, fuel + 1, hk, hf => by
    unfold f67_1
    rw [f61_eq m a b t x ha hb (by omega)]
    by_cases h0 : (x * b) % a = 0
    · refine ⟨x, ?_, Nat.le_refl _, by omega, h0, fun j h1 h2 => by omega⟩
      simp only [Option.bind_some]
      rw [h0]
      rfl
    · have hk0 : k ≠ 0 := by
        rintro rfl
        exact h0 (by rw [show x = a by omega]; exact Nat.mul_mod_right a b)
      obtain ⟨o, q1, q2, q3, q4, q5⟩ := f67_1_min m a b t ha ha2 hb (k - 1) (x + 1) fuel (by omega) (by omega)
      refine ⟨o, ?_, by omega, q3, q4, fun j h1 h2 => ?_⟩
      · have c1 : ((((x * b) % a : Nat) : Int) != 0) = true := by generalize (x * b) % a = r at h0; simpa using h0
        simp only [Option.bind_some]
        rw [c1, w64_succ x (by omega)]
        exact q1
      · rcases Nat.eq_or_lt_of_le h1 with e | e
        · rw [← e]; exact h0
        · exact q5 j (by omega) h2

theorem f67_min (m a b : Nat) (t : Int) (ha : 0 < a) (ha2 : a ≤ 1000) (hb : b ≤ 1000) (hm : a < m) : ∃ o : Nat, f67 m a b t = some (o : Int) ∧ 1 ≤ o ∧ o ≤ a ∧ (o * b) % a = 0 ∧ ∀ j, 1 ≤ j → j < o → (j * b) % a ≠ 0 := by
  obtain ⟨o, q1, q2, q3, q4, q5⟩ := f67_1_min m a b t ha ha2 hb (a - 1) 1 m (by omega) (by omega)
  refine ⟨o, ?_, q2, q3, q4, q5⟩
  unfold f67
  rw [show ((1 : Int)) = ((1 : Nat) : Int) from rfl, q1]
  rfl

theorem ord_gcd {M S o : Nat} (hM : 0 < M) (h1 : 1 ≤ o) (h2 : (o * S) % M = 0) (h3 : ∀ j, 1 ≤ j → j < o → (j * S) % M ≠ 0) : M / Nat.gcd M S = o := by
  have hg : 0 < Nat.gcd M S := Nat.gcd_pos_of_pos_left S hM
  have hco := Nat.coprime_div_gcd_div_gcd hg
  obtain ⟨M', hM'⟩ := Nat.gcd_dvd_left M S
  obtain ⟨S', hS'⟩ := Nat.gcd_dvd_right M S
  have e1 : M / Nat.gcd M S = M' := by
    conv => lhs; lhs; rw [hM']
    exact Nat.mul_div_cancel_left M' hg
  have e2 : S / Nat.gcd M S = S' := by
    conv => lhs; lhs; rw [hS']
    exact Nat.mul_div_cancel_left S' hg
  rw [e1, e2] at hco
  rw [e1]
  have hp : 1 ≤ M' := by
    rcases Nat.eq_zero_or_pos M' with q | q
    · rw [q] at hM'; omega
    · exact q
  have hz : (M' * S) % M = 0 := by
    have : M' * S = M * S' := by
      calc M' * S = M' * (Nat.gcd M S * S') := by rw [← hS']
        _ = (Nat.gcd M S * M') * S' := by rw [← Nat.mul_assoc, Nat.mul_comm M']
        _ = M * S' := by rw [← hM']
    rw [this]
    exact Nat.mul_mod_right M S'
  have hdv : M' ∣ o := by
    have d1 : M ∣ o * S := Nat.dvd_of_mod_eq_zero h2
    have d2 : Nat.gcd M S * M' ∣ Nat.gcd M S * (o * S') := by
      have : Nat.gcd M S * (o * S') = o * S := by
        calc Nat.gcd M S * (o * S') = o * (Nat.gcd M S * S') := by rw [← Nat.mul_assoc, Nat.mul_comm _ o, Nat.mul_assoc]
          _ = o * S := by rw [← hS']
      rw [this, ← hM']
      exact d1
    exact hco.dvd_of_dvd_mul_right (Nat.dvd_of_mul_dvd_mul_left hg d2)
  have hle := Nat.le_of_dvd h1 hdv
  rcases Nat.eq_or_lt_of_le hle with q | q
  · exact q
  · exact absurd hz (h3 M' hp q)

/-! Wrappers -/
structure Good (M S T o : Nat) : Prop where
  m1 : 1 ≤ M
  m2 : M ≤ 100
  s : S < M
  t1 : 1 ≤ T
  to : T ≤ o
  om : o ≤ M
  oz : (o * S) % M = 0
  omin : ∀ j, 1 ≤ j → j < o → (j * S) % M ≠ 0

theorem Good.turns {M S T o : Nat} (h : Good M S T o) {n : Nat} (hn : n ≤ o) : Turns M n (mrk M S) :=
  turns_mul (by have := h.m1; omega) (fun k h1 h2 => h.omin k h1 (by omega))

inductive Chk (m : Nat) (a b t : Int) : Prop
  | good (M S T o : Nat) (ha : a = M) (hb : b = S) (ht : t = T) (g : Good M S T o) (h0 : f20 m a b t = some 0) (h1 : f21 m a b t = some 0) (h2 : ∀ t', f67 m a b t' = some (o : Int)) (h3 : ∀ t', f65 m a b t' = some (o : Int))
  | bad (e : Int) (he : e ≠ 0) (h0 : f20 m a b t = some e) (h1 : f21 m a b t = some e)

theorem f71_eq69 (m : Nat) (a b t p q k : Int) : f71 m a b t p q k = f69 m a b t q p k := rfl

theorem f69_eq (m : Nat) (a b : Int) (T p q k : Nat) (hT : T ≤ 1000) (hk : k < T) (hp : p ≤ T) (hq : q ≤ T) : f69 m a b T p q k = some (nextN T p q k : Int) := by
  unfold f69 nextN
  rw [w64_id (x := (T : Int) - (p : Int)) (by omega) (by omega), w64_id (x := (k : Int) + (p : Int)) (by omega) (by omega), w64_id (x := (k : Int) + (p : Int) - (q : Int)) (by omega) (by omega), w64_id (x := (k : Int) - (q : Int)) (by omega) (by omega)]
  by_cases c1 : k < T - p
  · rw [decide_eq_true (by omega), if_pos c1]
    show some _ = some _
    congr 1
  · rw [decide_eq_false (by omega), if_neg c1]
    by_cases c2 : k < q
    · rw [decide_eq_true (by omega), if_pos c2]
      show some _ = some _
      congr 1
      omega
    · rw [decide_eq_false (by omega), if_neg c2]
      show some _ = some _
      congr 1
      omega

/-- The turns beside turn 0 of the first T turns. -/
def bes (M S T : Nat) : Nat × Nat := loopB M S (T - 1) 1 0 0

theorem bes_le {M S T : Nat} (hT : 1 ≤ T) : (bes M S T).1 ≤ T ∧ (bes M S T).2 ≤ T := by
  by_cases h : T = 1
  · subst h
    exact ⟨Nat.zero_le _, Nat.zero_le _⟩
  · obtain ⟨_, h2, _, h4, _⟩ := loopB_all (M := M) (S := S) (T := T) (by omega)
    unfold bes
    omega

theorem f29_1_bes {m M S T : Nat} (hm : 2000 < m) (hM : 0 < M) (hS : S ≤ 1000) (hT1 : 1 ≤ T) (hT : T ≤ 1000) : f29_1 m m M S T 1 0 0 = some ((T : Int), ((bes M S T).1 : Int), ((bes M S T).2 : Int)) := by
  have := f29_1_eq m M S T hM hS hT (T - 1) 1 0 0 m (by omega) (by omega) (by omega) (by omega)
  simp only [Int.natCast_zero, Int.natCast_one] at this
  exact this

theorem mrk_succ (M S n : Nat) : mrk M S (n + 1) = (mrk M S n + S) % M := by
  unfold mrk
  rw [Nat.add_mul, Nat.one_mul, Nat.mod_add_mod]

theorem mrk_zero (M S : Nat) : mrk M S 0 = 0 := by
  unfold mrk
  rw [Nat.zero_mul, Nat.zero_mod]

theorem mrk_lt {M S : Nat} (n : Nat) (h : 0 < M) : mrk M S n < M := Nat.mod_lt _ h

end Go.Xm
