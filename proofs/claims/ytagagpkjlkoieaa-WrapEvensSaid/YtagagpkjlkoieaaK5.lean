/- The turns beside a turn, by the document's list of turns around the circle. Conditions: none. -/
import Derived.Test.YtagagpkjlkoieaaK4
namespace Go.Xm
set_option linter.unusedVariables false
set_option linter.unusedSimpArgs false

theorem beside_sum {M T : Nat} {P : Nat → Nat} (h : Turns M T P) {p q : Nat} (hb : Beside T P p q) : T ≤ p + q := by
  obtain ⟨p0, pT, q0, qT, mm⟩ := hb
  rcases Nat.lt_or_ge (p + q) T with g | g
  · exfalso
    have a := h.add p q
    have lp := h.lt p
    have lq := h.lt q
    have op := h.own p p0 pT
    have m := mm (p + q) (by omega) g
    omega
  · exact g

theorem next_before {T p q k : Nat} (hs : T ≤ p + q) (hp : p < T) (hq : q < T) (hk : k < T) : nextN T q p (nextN T p q k) = k := by
  by_cases c1 : k < T - p
  · rw [show nextN T p q k = k + p from if_pos c1]
    unfold nextN
    rw [if_neg (by omega), if_neg (by omega)]
    omega
  · by_cases c2 : k < q
    · rw [show nextN T p q k = k + p - q by unfold nextN; rw [if_neg c1, if_pos c2]]
      unfold nextN
      rw [if_neg (by omega), if_pos (by omega)]
      omega
    · rw [show nextN T p q k = k - q by unfold nextN; rw [if_neg c1, if_neg c2]]
      unfold nextN
      rw [if_pos (by omega)]
      omega

theorem IsNext.uniq {M T : Nat} {P : Nat → Nat} (h : Turns M T P) {k i j : Nat} (h1 : IsNext M T P k i) (h2 : IsNext M T P k j) : i = j := by
  rcases h1 with ⟨i1, ⟨a1, a2⟩ | ⟨a1, a2⟩⟩
  · rcases h2 with ⟨j1, ⟨b1, b2⟩ | ⟨b1, b2⟩⟩
    · have u := a2 j j1
      have v := b2 i i1
      exact h.inj i1 j1 (by omega)
    · have := b2 i i1; omega
  · rcases h2 with ⟨j1, ⟨b1, b2⟩ | ⟨b1, b2⟩⟩
    · have := a2 j j1; omega
    · omega

/-! How long the list is -/
def one (P : Nat → Nat) (T x : Nat) : Nat := if (trn P T x).isSome then 1 else 0

theorem lst_length_succ (P : Nat → Nat) (T k x : Nat) : (lst P T (k + 1) x).length = one P T x + (lst P T k (x + 1)).length := by
  rw [lst_succ, List.length_append]
  congr 1
  unfold hd1 one
  cases trn P T x <;> rfl

theorem one_succ {P : Nat → Nat} {T : Nat} (h : ∀ t, t < T → P t ≠ P T) (x : Nat) : one P (T + 1) x = one P T x + (if P T = x then 1 else 0) := by
  unfold one
  cases h1 : trn P (T + 1) x with
  | some t =>
    obtain ⟨g1, g2⟩ := trn_some h1
    by_cases e : P T = x
    · have : trn P T x = none := by
        cases h3 : trn P T x with
        | none => rfl
        | some u =>
          obtain ⟨u1, u2⟩ := trn_some h3
          exact absurd (by omega) (h u u1)
      rw [this, if_pos e]
      rfl
    · have ht : t < T := by
        rcases Nat.lt_or_ge t T with q | q
        · exact q
        · exact absurd (by rw [show T = t by omega]; exact g2) e
      cases h3 : trn P T x with
      | none => exact absurd g2 (trn_none h3 t ht)
      | some u => rw [if_neg e]; rfl
  | none =>
    have n := trn_none h1
    rw [if_neg (n T (by omega))]
    cases h3 : trn P T x with
    | none => rfl
    | some u =>
      obtain ⟨g1, g2⟩ := trn_some h3
      exact absurd g2 (n u (by omega))

theorem lst_length_T {P : Nat → Nat} {T : Nat} (h : ∀ t, t < T → P t ≠ P T) : ∀ k x, (lst P (T + 1) k x).length = (lst P T k x).length + (if x ≤ P T ∧ P T < x + k then 1 else 0)
  | 0, x => by
    rw [if_neg (by omega)]
    rfl
  | k + 1, x => by
    rw [lst_length_succ, lst_length_succ, one_succ h, lst_length_T h k (x + 1)]
    by_cases e : P T = x
    · rw [if_pos e, if_neg (by omega), if_pos (by omega)]
      omega
    · rw [if_neg e]
      by_cases g : x + 1 ≤ P T ∧ P T < x + 1 + k
      · rw [if_pos g, if_pos (by omega)]
        omega
      · rw [if_neg g, if_neg (by omega)]
        omega

theorem lst_zero (P : Nat → Nat) : ∀ k x, lst P 0 k x = []
  | 0, x => rfl
  | k + 1, x => by
    rw [lst_succ, lst_zero P k]
    rfl

theorem round_len {M T : Nat} {P : Nat → Nat} (h : Turns M T P) : ∀ t, t ≤ T → (lst P t M 0).length = t
  | 0, _ => by rw [lst_zero]; rfl
  | t + 1, ht => by
    rw [lst_length_T (fun u hu e => by have := h.inj (i := u) (j := t) (by omega) (by omega) e; omega), round_len h t (by omega), if_pos ⟨Nat.zero_le _, by have := h.lt t; omega⟩]

theorem lst_split {M T : Nat} {P : Nat → Nat} (h : Turns M T P) {k : Nat} (hk : k < T) : lst P T M 0 = lst P T (P k) 0 ++ (k : Int) :: lst P T (M - P k - 1) (P k + 1) := by
  have l := h.lt k
  have e := lst_add P T (P k) (M - P k - 1 + 1) 0
  rw [show P k + (M - P k - 1 + 1) = M by omega, Nat.zero_add, lst_succ] at e
  have e1 : hd1 P T (P k) = [(k : Int)] := by
    unfold hd1
    rw [h.trn hk]
  rw [e, e1]
  rfl

theorem getD_app {α : Type} (d : α) (X : List α) (i : Nat) : ∀ A : List α, (A ++ X).getD (A.length + i) d = X.getD i d
  | [] => by rw [show ([] : List α).length + i = i by simp]; rfl
  | a :: A => by
    have := getD_app d X i A
    rw [show (a :: A).length + i = (A.length + i) + 1 by simp only [List.length_cons]; omega]
    exact this

theorem round_head {M T : Nat} {P : Nat → Nat} (h : Turns M T P) (hT : 0 < T) : (lst P T M 0).getD 0 0 = 0 := by
  have e := lst_succ P T (M - 1) 0
  rw [show M - 1 + 1 = M by have := h.pos; omega] at e
  have e1 : hd1 P T 0 = [0] := by
    unfold hd1
    have := h.trn hT
    rw [h.zero] at this
    rw [this]
    rfl
  rw [e, e1]
  rfl

theorem list_next {M T : Nat} {P : Nat → Nat} (h : Turns M T P) {k : Nat} (hk : k < T) : ∃ j : Nat, (lst P T M 0).getD (((lst P T (P k) 0).length + 1) % T) 0 = (j : Int) ∧ IsNext M T P k j := by
  have hl := round_len h T (Nat.le_refl _)
  have hs := lst_split h hk
  have lk := h.lt k
  cases hB : lst P T (M - P k - 1) (P k + 1) with
  | cons v B =>
    obtain ⟨t, e, t1, t2, t3, t4⟩ := lst_head hB
    refine ⟨t, ?_, t1, .inl ⟨by omega, fun i hi hh => t4 i hi ⟨by omega, hh.2⟩⟩⟩
    rw [hs, hB] at hl ⊢
    simp only [List.length_append, List.length_cons] at hl
    rw [Nat.mod_eq_of_lt (by omega), getD_app, e]
    rfl
  | nil =>
    have n := lst_nil hB
    refine ⟨0, ?_, by omega, .inr ⟨rfl, fun i hi => by have := n i hi; have := h.lt i; omega⟩⟩
    have hl2 := hl
    rw [hs, hB] at hl2
    simp only [List.length_append, List.length_cons, List.length_nil] at hl2
    rw [show (lst P T (P k) 0).length + 1 = T by omega, Nat.mod_self, round_head h (by omega)]
    rfl

theorem nil_or_last {α : Type} : ∀ l : List α, l = [] ∨ ∃ a v, l = a ++ [v]
  | [] => .inl rfl
  | x :: l => by
    rcases nil_or_last l with e | ⟨a, v, e⟩
    · exact .inr ⟨[], x, by rw [e]; rfl⟩
    · exact .inr ⟨x :: a, v, by rw [e]; rfl⟩

theorem list_before {M T : Nat} {P : Nat → Nat} (h : Turns M T P) {k : Nat} (hk : k < T) : ∃ j : Nat, (lst P T M 0).getD (((lst P T (P k) 0).length + (T - 1)) % T) 0 = (j : Int) ∧ j < T ∧ IsNext M T P j k := by
  have hl := round_len h T (Nat.le_refl _)
  have hs := lst_split h hk
  have lk := h.lt k
  rcases nil_or_last (lst P T (P k) 0) with e | ⟨A, v, e⟩
  · have n := lst_nil e 0 (by omega)
    have z := h.zero
    have hk0 : k = 0 := by
      rcases Nat.eq_zero_or_pos k with g | g
      · exact g
      · have := h.own k g hk
        omega
    rcases nil_or_last (lst P T M 0) with e2 | ⟨L, v, e2⟩
    · rw [e2] at hl
      simp only [List.length_nil] at hl
      omega
    · obtain ⟨t, g, t1, t2, t3, t4⟩ := lst_last e2
      refine ⟨t, ?_, t1, hk, .inr ⟨hk0, fun i hi => by have := t4 i hi; have := h.lt i; omega⟩⟩
      rw [e2] at hl
      simp only [List.length_append, List.length_cons, List.length_nil] at hl
      rw [e, e2, List.length_nil, Nat.zero_add, Nat.mod_eq_of_lt (by omega), show T - 1 = L.length + 0 by omega, getD_app, g]
      rfl
  · obtain ⟨t, g, t1, t2, t3, t4⟩ := lst_last e
    refine ⟨t, ?_, t1, hk, .inl ⟨by omega, fun i hi hh => t4 i hi ⟨hh.1, by omega⟩⟩⟩
    rw [hs, e] at hl ⊢
    simp only [List.length_append, List.length_cons, List.length_nil] at hl ⊢
    rw [show A.length + (0 + 1) + (T - 1) = A.length + T by omega, Nat.add_mod_right, Nat.mod_eq_of_lt (by omega), List.append_assoc, show A.length = A.length + 0 from rfl, getD_app, g]
    rfl

/-- What the document's answer finds beside a turn is what the program finds. -/
theorem round_next {M T : Nat} {P : Nat → Nat} (h : Turns M T P) {p q k : Nat} (hb : Beside T P p q) (hk : k < T) : (lst P T M 0).getD (((lst P T (P k) 0).length + 1) % T) 0 = (nextN T p q k : Int) := by
  obtain ⟨j, e, hj⟩ := list_next h hk
  rw [e, hj.uniq h (next_ok h hb hk)]

theorem round_before {M T : Nat} {P : Nat → Nat} (h : Turns M T P) {p q k : Nat} (hb : Beside T P p q) (hk : k < T) : (lst P T M 0).getD (((lst P T (P k) 0).length + (T - 1)) % T) 0 = (nextN T q p k : Int) := by
  obtain ⟨j, e, hj, hn⟩ := list_before h hk
  have u := hn.uniq h (next_ok h hb hj)
  have s := beside_sum h hb
  obtain ⟨p0, pT, q0, qT, mm⟩ := hb
  rw [e, u, next_before s pT qT hj]
end Go.Xm
