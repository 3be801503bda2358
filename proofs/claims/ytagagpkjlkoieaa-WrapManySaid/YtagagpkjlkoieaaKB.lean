/- The turns around the circle as a list. Conditions: none. -/
import Derived.Test.YtagagpkjlkoieaaKA
namespace Go.Xm
set_option linter.unusedVariables false
set_option linter.unusedSimpArgs false
set_option maxRecDepth 20000

theorem bes_isNext {M S T k : Nat} (h : Turns M T (mrk M S)) (hk : k < T) : IsNext M T (mrk M S) k (nextN T (bes M S T).1 (bes M S T).2 k) := by
  by_cases e : T = 1
  · subst e
    have : k = 0 := by omega
    subst this
    refine ⟨(by show nextN 1 0 0 0 < 1; decide), .inr ⟨rfl, fun i hi => ?_⟩⟩
    rw [show i = 0 by omega]
    exact Nat.le_refl _
  · exact next_ok h (loopB_all (by omega)) hk

/-! What stands in the list of turns -/
/-- The i-th turn around the circle. -/
def tN (M S T : Nat) : Nat → Nat
  | 0 => 0
  | i + 1 => nextN T (bes M S T).1 (bes M S T).2 (tN M S T i)

/-- The gap behind a turn. -/
def gp (M S T k : Nat) : Nat := if nextN T (bes M S T).1 (bes M S T).2 k = 0 then M - mrk M S k else mrk M S (nextN T (bes M S T).1 (bes M S T).2 k) - mrk M S k

theorem gp_one (M S k : Nat) (hk : k < 1) : gp M S 1 k = M := by
  have : k = 0 := by omega
  subst this
  have e : nextN 1 (bes M S 1).1 (bes M S 1).2 0 = 0 := rfl
  unfold gp
  rw [e, if_pos rfl, mrk_zero]
  rfl

theorem gp_val {M S T k : Nat} (h : Turns M T (mrk M S)) (hT : 2 ≤ T) (hk : k < T) :
    gp M S T k = if k < T - (bes M S T).1 then mrk M S (bes M S T).1 else if k < (bes M S T).2 then mrk M S (bes M S T).1 + (M - mrk M S (bes M S T).2) else M - mrk M S (bes M S T).2 := by
  have hb := loopB_all (M := M) (S := S) hT
  have hn := next_ok h hb hk
  have hs := beside_sum h hb
  obtain ⟨p0, pT, q0, qT, mm⟩ := hb
  unfold gp
  show (if nextN T (loopB M S (T - 1) 1 0 0).1 (loopB M S (T - 1) 1 0 0).2 k = 0 then _ else _) = _
  show (if nextN T (loopB M S (T - 1) 1 0 0).1 (loopB M S (T - 1) 1 0 0).2 k = 0 then M - mrk M S k else mrk M S (nextN T (loopB M S (T - 1) 1 0 0).1 (loopB M S (T - 1) 1 0 0).2 k) - mrk M S k) = if k < T - (loopB M S (T - 1) 1 0 0).1 then mrk M S (loopB M S (T - 1) 1 0 0).1 else if k < (loopB M S (T - 1) 1 0 0).2 then mrk M S (loopB M S (T - 1) 1 0 0).1 + (M - mrk M S (loopB M S (T - 1) 1 0 0).2) else M - mrk M S (loopB M S (T - 1) 1 0 0).2
  generalize (loopB M S (T - 1) 1 0 0).1 = p at *
  generalize (loopB M S (T - 1) 1 0 0).2 = q at *
  have lk := h.lt k
  have lp := h.lt p
  have lq := h.lt q
  have z := h.zero
  have mpq := mm q q0 qT
  unfold nextN at hn ⊢
  by_cases c1 : k < T - p
  · rw [if_pos c1] at hn ⊢
    rw [if_pos c1, if_neg (by omega)]
    have a := h.add k p
    have hlt : mrk M S k < mrk M S (k + p) := by
      rcases hn.2 with ⟨e, _⟩ | ⟨e, _⟩
      · exact e
      · omega
    omega
  · rw [if_neg c1] at hn ⊢
    rw [if_neg c1]
    by_cases c2 : k < q
    · rw [if_pos c2] at hn ⊢
      rw [if_pos c2, if_neg (by omega)]
      have a := h.add k p
      have s := h.sub (i := k + p) (j := q) (by omega)
      have hlt : mrk M S k < mrk M S (k + p - q) := by
        rcases hn.2 with ⟨e, _⟩ | ⟨e, _⟩
        · exact e
        · omega
      omega
    · rw [if_neg c2] at hn ⊢
      rw [if_neg c2]
      by_cases c3 : k = q
      · subst c3
        rw [if_pos (by omega)]
      · rw [if_neg (by omega)]
        have s := h.sub (i := k) (j := q) (by omega)
        have hlt : mrk M S k < mrk M S (k - q) := by
          rcases hn.2 with ⟨e, _⟩ | ⟨e, _⟩
          · exact e
          · omega
        omega

/-! Counts -/
/-- How many of the first n. -/
def cr (f : Nat → Bool) : Nat → Nat
  | 0 => 0
  | n + 1 => cr f n + (if f n then 1 else 0)

/-- How many gaps have a width. -/
def cw (M S T w : Nat) : Nat := cr (fun t => gp M S T t == w) T

theorem cr_const {f : Nat → Bool} {b : Bool} : ∀ (d a : Nat), (∀ k, a ≤ k → k < a + d → f k = b) → cr f (a + d) = cr f a + (if b then d else 0)
  | 0, a, _ => by cases b <;> rfl
  | d + 1, a, h => by
    have ih := cr_const (f := f) (b := b) d a (fun k h1 h2 => h k h1 (by omega))
    show cr f (a + d) + (if f (a + d) then 1 else 0) = _
    rw [ih, h (a + d) (by omega) (by omega)]
    cases b <;> simp <;> omega

/-- Of three kinds. -/
theorem cw_val {M S T : Nat} (h : Turns M T (mrk M S)) (hT : 2 ≤ T) (w : Nat) :
    cw M S T w = (if mrk M S (bes M S T).1 = w then T - (bes M S T).1 else 0) + (if mrk M S (bes M S T).1 + (M - mrk M S (bes M S T).2) = w then (bes M S T).1 + (bes M S T).2 - T else 0) + (if M - mrk M S (bes M S T).2 = w then T - (bes M S T).2 else 0) := by
  have hb : Beside T (mrk M S) (bes M S T).1 (bes M S T).2 := loopB_all (M := M) (S := S) hT
  have hs := beside_sum h hb
  have hg := fun k hk => gp_val h hT (k := k) hk
  obtain ⟨p0, pT, q0, qT, mm⟩ := hb
  generalize (bes M S T).1 = p at *
  generalize (bes M S T).2 = q at *
  unfold cw
  have e1 := cr_const (f := fun t => gp M S T t == w) (b := mrk M S p == w) (T - p) 0 (fun k h1 h2 => by
    show (gp M S T k == w) = _
    rw [hg k (by omega), if_pos (by omega)])
  have e2 := cr_const (f := fun t => gp M S T t == w) (b := mrk M S p + (M - mrk M S q) == w) (q - (T - p)) (T - p) (fun k h1 h2 => by
    show (gp M S T k == w) = _
    rw [hg k (by omega), if_neg (by omega), if_pos (by omega)])
  have e3 := cr_const (f := fun t => gp M S T t == w) (b := M - mrk M S q == w) (T - q) q (fun k h1 h2 => by
    show (gp M S T k == w) = _
    rw [hg k (by omega), if_neg (by omega), if_neg (by omega)])
  rw [show q + (T - q) = T by omega] at e3
  rw [show T - p + (q - (T - p)) = q by omega] at e2
  rw [Nat.zero_add] at e1
  rw [e3, e2, e1]
  show 0 + _ + _ + _ = _
  simp only [beq_iff_eq, Nat.zero_add]
  rw [show q - (T - p) = p + q - T by omega]

/-! The list of widths -/
end Go.Xm
