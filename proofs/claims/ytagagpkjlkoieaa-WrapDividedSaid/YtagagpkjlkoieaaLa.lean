/- One turn more begins in a gap of the greatest width. Conditions: none. -/
import Derived.Test.YtagagpkjlkoieaaKB
import Derived.Test.YtagagpkjlkoieaaKU
namespace Go.Xm
set_option linter.unusedVariables false
set_option linter.unusedSimpArgs false

theorem dv_snoc (M S : Nat) : ∀ (k n p q : Nat), loopB M S (k + 1) n p q = stepB M S (n + k) (loopB M S k n p q).1 (loopB M S k n p q).2
  | 0, n, p, q => rfl
  | k + 1, n, p, q => by
    have ih := dv_snoc M S k (n + 1) (stepB M S n p q).1 (stepB M S n p q).2
    rw [show n + (k + 1) = n + 1 + k by omega]
    exact ih

theorem dv_succ {M S T : Nat} (hT : 1 ≤ T) : bes M S (T + 1) = stepB M S T (bes M S T).1 (bes M S T).2 := by
  unfold bes
  obtain ⟨k, rfl⟩ : ∃ k, T = k + 1 := ⟨T - 1, by omega⟩
  rw [show k + 1 + 1 - 1 = k + 1 from rfl, show k + 1 - 1 = k from rfl, dv_snoc, show 1 + k = k + 1 by omega]

/-- The turns between which turn T begins. -/
def dvF (M S T : Nat) : Nat := nextN (T + 1) (bes M S (T + 1)).2 (bes M S (T + 1)).1 T
def dvT (M S T : Nat) : Nat := nextN (T + 1) (bes M S (T + 1)).1 (bes M S (T + 1)).2 T

structure Div (M S T a b : Nat) : Prop where
  ha : a < T
  hb : b < T
  nx : nextN T (bes M S T).1 (bes M S T).2 a = b
  wide : ∀ k, k < T → gp M S T k ≤ gp M S T a
  more : ∀ k, k < T + 1 → gp M S (T + 1) k ≤ gp M S T a
  lo : mrk M S a < mrk M S T
  hi : mrk M S T - mrk M S a < gp M S T a

theorem div_one {M S : Nat} (h : Turns M 2 (mrk M S)) : Div M S 1 (dvF M S 1) (dvT M S 1) := by
  have o := h.own 1 (by omega) (by omega)
  have l := h.lt 1
  have e1 : dvF M S 1 = 0 := rfl
  have e2 : dvT M S 1 = 0 := rfl
  have g1 : gp M S 1 0 = M := gp_one M S 0 (by omega)
  rw [e1, e2]
  refine ⟨by omega, by omega, rfl, fun k hk => ?_, fun k hk => ?_, ?_, ?_⟩
  · rw [g1, gp_one M S k hk]; exact Nat.le_refl _
  · rw [g1, gp_val h (by omega) hk]
    have e3 : bes M S 2 = (1, 1) := rfl
    rw [e3]
    simp only []
    repeat' split
    all_goals omega
  · rw [mrk_zero]; exact o
  · rw [g1, mrk_zero]; omega

theorem div_two {M S T : Nat} (h : Turns M (T + 1) (mrk M S)) (hT : 2 ≤ T) : Div M S T (dvF M S T) (dvT M S T) := by
  have h' : Turns M T (mrk M S) := ⟨h.pos, h.lt, h.zero, h.add, fun k a b => h.own k a (by omega)⟩
  have hb : Beside T (mrk M S) (bes M S T).1 (bes M S T).2 := loopB_all (M := M) (S := S) hT
  have hs := beside_sum h' hb
  have g0 := fun k hk => gp_val h' hT (k := k) hk
  have g1 := fun k hk => gp_val h (T := T + 1) (by omega) (k := k) hk
  have es := dv_succ (M := M) (S := S) (T := T) (by omega)
  have oT := h.own T (by omega) (by omega)
  have lT := h.lt T
  unfold stepB at es
  rw [if_neg (by omega)] at es
  unfold dvF dvT
  generalize hp : (bes M S T).1 = p at *
  generalize hq : (bes M S T).2 = q at *
  obtain ⟨p0, pT, q0, qT, mm⟩ := hb
  have a1 := h.add p (T - p)
  have a2 := h.add q (T - q)
  rw [show p + (T - p) = T by omega] at a1
  rw [show q + (T - q) = T by omega] at a2
  have op := h.own p p0 (by omega)
  have lp := h.lt p
  have lq := h.lt q
  have mpq := mm q q0 qT
  have m1 := mm (T - p) (by omega) (by omega)
  have m2 := mm (T - q) (by omega) (by omega)
  have z := h.zero
  by_cases c : p + q = T
  · have e1 : T - p = q := by omega
    have e2 : T - q = p := by omega
    rw [e1] at a1
    by_cases w : mrk M S T < mrk M S p
    · rw [if_pos w] at es
      rw [es] at g1 ⊢
      simp only [] at g1 ⊢
      have f1 : nextN (T + 1) q T T = 0 := by
        unfold nextN; rw [if_neg (by omega), if_neg (by omega)]; omega
      have f2 : nextN (T + 1) T q T = p := by
        unfold nextN; rw [if_neg (by omega), if_neg (by omega)]; omega
      rw [f1, f2]
      have v0 : gp M S T 0 = mrk M S p := by rw [g0 0 (by omega), if_pos (by omega)]
      refine ⟨by omega, pT, ?_, fun k hk => ?_, fun k hk => ?_, ?_, ?_⟩
      · rw [hp, hq]; unfold nextN; rw [if_pos (by omega)]; omega
      · rw [v0, g0 k hk]
        repeat' split
        all_goals omega
      · rw [v0, g1 k hk]
        repeat' split
        all_goals omega
      · omega
      · rw [v0]; omega
    · have w2 : mrk M S q < mrk M S T := by omega
      rw [if_neg w, if_pos w2] at es
      rw [es] at g1 ⊢
      simp only [] at g1 ⊢
      have f1 : nextN (T + 1) T p T = q := by
        unfold nextN; rw [if_neg (by omega), if_neg (by omega)]; omega
      have f2 : nextN (T + 1) p T T = 0 := by
        unfold nextN; rw [if_neg (by omega), if_neg (by omega)]; omega
      rw [f1, f2]
      have v0 : gp M S T q = M - mrk M S q := by rw [g0 q qT, if_neg (by omega), if_neg (by omega)]
      refine ⟨qT, by omega, ?_, fun k hk => ?_, fun k hk => ?_, ?_, ?_⟩
      · rw [hp, hq]; unfold nextN; rw [if_neg (by omega), if_neg (by omega)]; omega
      · rw [v0, g0 k hk]
        repeat' split
        all_goals omega
      · rw [v0, g1 k hk]
        repeat' split
        all_goals omega
      · omega
      · rw [v0]; omega
  · have ne : mrk M S (T - q) ≠ mrk M S p := fun e => by
      have := h'.inj (by omega) pT e
      omega
    have w1 : ¬ mrk M S T < mrk M S p := by omega
    have w2 : ¬ mrk M S q < mrk M S T := by omega
    rw [if_neg w1, if_neg w2] at es
    rw [es] at g1 ⊢
    simp only [] at g1 ⊢
    have f1 : nextN (T + 1) q p T = T - p := by
      unfold nextN; rw [if_neg (by omega), if_neg (by omega)]
    have f2 : nextN (T + 1) p q T = T - q := by
      unfold nextN; rw [if_neg (by omega), if_neg (by omega)]
    rw [f1, f2]
    have v0 : gp M S T (T - p) = mrk M S p + (M - mrk M S q) := by rw [g0 (T - p) (by omega), if_neg (by omega), if_pos (by omega)]
    refine ⟨by omega, by omega, ?_, fun k hk => ?_, fun k hk => ?_, ?_, ?_⟩
    · rw [hp, hq]; unfold nextN; rw [if_neg (by omega), if_pos (by omega)]; omega
    · rw [v0, g0 k hk]
      repeat' split
      all_goals omega
    · rw [v0, g1 k hk]
      repeat' split
      all_goals omega
    · omega
    · rw [v0]; omega

theorem div_ok {M S T : Nat} (h : Turns M (T + 1) (mrk M S)) (hT : 1 ≤ T) : Div M S T (dvF M S T) (dvT M S T) := by
  by_cases e : T = 1
  · subst e; exact div_one h
  · exact div_two h (by omega)

/-! The greatest of a list of gaps -/
theorem mem_gF {M S T : Nat} {v : Int} : ∀ k x, v ∈ gF M S T k x → ∃ j, j < k ∧ v = (gp M S T (tN M S T (x + j)) : Int)
  | 0, x, h => by cases h
  | k + 1, x, h => by
    rcases List.mem_cons.1 h with rfl | h
    · exact ⟨0, by omega, rfl⟩
    · obtain ⟨j, hj, e⟩ := mem_gF k (x + 1) h
      exact ⟨j + 1, by omega, by rw [e, show x + 1 + j = x + (j + 1) by omega]⟩

theorem gF_mem {M S T : Nat} : ∀ k x j, j < k → (gp M S T (tN M S T (x + j)) : Int) ∈ gF M S T k x
  | 0, _, _, h => by omega
  | k + 1, x, 0, _ => List.mem_cons_self
  | k + 1, x, j + 1, h => by
    have := gF_mem (M := M) (S := S) (T := T) k (x + 1) j (by omega)
    rw [show x + 1 + j = x + (j + 1) by omega] at this
    exact List.mem_cons_of_mem _ this

/-- Each turn is one of those around the circle. -/
theorem tN_all {M S T : Nat} (h : Turns M T (mrk M S)) {k : Nat} (hk : k < T) : ∃ i, i < T ∧ tN M S T i = k := by
  have hs := lst_split h hk
  have hl := round_len h T (Nat.le_refl _)
  have hi : (lst (mrk M S) T (mrk M S k) 0).length < T := by
    rw [hs, List.length_append, List.length_cons] at hl
    omega
  refine ⟨_, hi, ?_⟩
  have e := lst_tN h hi
  rw [hs] at e
  have e2 := getD_app (0 : Int) ((k : Int) :: lst (mrk M S) T (M - mrk M S k - 1) (mrk M S k + 1)) 0 (lst (mrk M S) T (mrk M S k) 0)
  have e3 : (k : Int) = (tN M S T (lst (mrk M S) T (mrk M S k) 0).length : Int) := e2.symm.trans e
  omega

/-! Marks in ascending order -/
def smk (M S T : Nat) : Nat → Nat → List Int
  | 0, _ => []
  | k + 1, x => (mrk M S (tN M S T x) : Int) :: smk M S T k (x + 1)

theorem smk_len (M S T : Nat) : ∀ k x, (smk M S T k x).length = k
  | 0, _ => rfl
  | k + 1, x => by unfold smk; rw [List.length_cons, smk_len M S T k (x + 1)]

theorem smk_get (M S T : Nat) : ∀ k x i, i < k → (smk M S T k x).getD i 0 = (mrk M S (tN M S T (x + i)) : Int)
  | 0, _, _, h => by omega
  | k + 1, x, 0, _ => rfl
  | k + 1, x, i + 1, h => by
    have := smk_get M S T k (x + 1) i (by omega)
    rw [show x + (i + 1) = x + 1 + i by omega]
    exact this

theorem mem_smk {M S T : Nat} {v : Int} : ∀ k x, v ∈ smk M S T k x ↔ ∃ j, j < k ∧ v = (mrk M S (tN M S T (x + j)) : Int)
  | 0, x => by
    constructor
    · intro h; cases h
    · rintro ⟨j, h, _⟩; omega
  | k + 1, x => by
    have ih := mem_smk (M := M) (S := S) (T := T) (v := v) k (x + 1)
    unfold smk
    rw [List.mem_cons, ih]
    constructor
    · rintro (rfl | ⟨j, hj, e⟩)
      · exact ⟨0, by omega, rfl⟩
      · exact ⟨j + 1, by omega, by rw [e, show x + 1 + j = x + (j + 1) by omega]⟩
    · rintro ⟨j, hj, e⟩
      cases j with
      | zero => exact Or.inl e
      | succ j => exact Or.inr ⟨j, by omega, by rw [e, show x + 1 + j = x + (j + 1) by omega]⟩

theorem smk_asc {M S T : Nat} (h : Turns M T (mrk M S)) : ∀ k x, x + k = T → (smk M S T k x).Pairwise (· < ·)
  | 0, _, _ => List.Pairwise.nil
  | k + 1, x, e => by
    refine List.pairwise_cons.2 ⟨fun v hv => ?_, smk_asc h k (x + 1) (by omega)⟩
    obtain ⟨j, hj, e2⟩ := (mem_smk k (x + 1)).1 hv
    have := tN_mono h j x (by omega)
    rw [e2, show x + 1 + j = x + j + 1 by omega]
    omega

theorem asc_ext : ∀ a b : List Int, a.Pairwise (· < ·) → b.Pairwise (· < ·) → (∀ x, x ∈ a ↔ x ∈ b) → a = b
  | [], [], _, _, _ => rfl
  | [], y :: b, _, _, h => by
    have := (h y).2 List.mem_cons_self
    cases this
  | x :: a, [], _, _, h => by
    have := (h x).1 List.mem_cons_self
    cases this
  | x :: a, y :: b, ha, hb, h => by
    obtain ⟨a1, a2⟩ := List.pairwise_cons.1 ha
    obtain ⟨b1, b2⟩ := List.pairwise_cons.1 hb
    have e : x = y := by
      rcases List.mem_cons.1 ((h x).1 List.mem_cons_self) with e | e
      · exact e
      · rcases List.mem_cons.1 ((h y).2 List.mem_cons_self) with e2 | e2
        · exact e2.symm
        · have := b1 x e
          have := a1 y e2
          omega
    subst e
    congr 1
    refine asc_ext a b a2 b2 (fun z => ⟨fun hz => ?_, fun hz => ?_⟩)
    · rcases List.mem_cons.1 ((h z).1 (List.mem_cons_of_mem _ hz)) with e | e
      · have := a1 z hz; omega
      · exact e
    · rcases List.mem_cons.1 ((h z).2 (List.mem_cons_of_mem _ hz)) with e | e
      · have := b1 z hz; omega
      · exact e
end Go.Xm
