/- The turns around the circle as a list. Conditions: none. -/
import Derived.Test.YtagagpkjlkoieaaKA
namespace Go.Xm
set_option linter.unusedVariables false
set_option linter.unusedSimpArgs false
set_option maxRecDepth 20000

/-- The turns from k on, one behind the other. -/
def walkN (T p q : Nat) : Nat → Nat → List Int
  | 0, _ => []
  | r + 1, k => (k : Int) :: walkN T p q r (nextN T p q k)

theorem bes_isNext {M S T k : Nat} (h : Turns M T (mrk M S)) (hk : k < T) : IsNext M T (mrk M S) k (nextN T (bes M S T).1 (bes M S T).2 k) := by
  by_cases e : T = 1
  · subst e
    have : k = 0 := by omega
    subst this
    refine ⟨(by show nextN 1 0 0 0 < 1; decide), .inr ⟨rfl, fun i hi => ?_⟩⟩
    rw [show i = 0 by omega]
    exact Nat.le_refl _
  · exact next_ok h (loopB_all (by omega)) hk

theorem lst_walk {M S T : Nat} (h : Turns M T (mrk M S)) : ∀ (k x : Nat) (u : Int) (B : List Int), lst (mrk M S) T k x = u :: B → ∃ t : Nat, u = (t : Int) ∧ t < T ∧ walkN T (bes M S T).1 (bes M S T).2 (B.length + 1) t = u :: B
  | 0, x, u, B, e => by cases e
  | k + 1, x, u, B, e => by
    unfold lst at e
    split at e
    · rename_i t ht
      obtain ⟨t1, t2⟩ := trn_some ht
      cases e
      refine ⟨t, rfl, t1, ?_⟩
      cases hB : lst (mrk M S) T k (x + 1) with
      | nil => rfl
      | cons v B =>
        obtain ⟨t', e1, l1, e2⟩ := lst_walk h k (x + 1) v B hB
        obtain ⟨t2', g1, g2, g3, g4, g5⟩ := lst_head hB
        have : t2' = t' := by omega
        subst this
        have hn : IsNext M T (mrk M S) t t2' := ⟨l1, .inl ⟨by omega, fun i hi hh => g5 i hi ⟨by omega, hh.2⟩⟩⟩
        have en := (bes_isNext h t1).uniq h hn
        show (t : Int) :: walkN T (bes M S T).1 (bes M S T).2 (B.length + 1) (nextN T (bes M S T).1 (bes M S T).2 t) = (t : Int) :: v :: B
        rw [en, e2]
    · obtain ⟨t', e1, l1, e2⟩ := lst_walk h k (x + 1) u B e
      exact ⟨t', e1, l1, e2⟩

theorem walk_all {M S T : Nat} (h : Turns M T (mrk M S)) (hT : 0 < T) : walkN T (bes M S T).1 (bes M S T).2 T 0 = lst (mrk M S) T M 0 := by
  have hl := round_len h T (Nat.le_refl _)
  cases hL : lst (mrk M S) T M 0 with
  | nil =>
    rw [hL] at hl
    simp at hl
    omega
  | cons u B =>
    obtain ⟨t, e1, l1, e2⟩ := lst_walk h M 0 u B hL
    have h0 := round_head h hT
    rw [hL] at h0 hl
    have hu : u = 0 := h0
    have : t = 0 := by omega
    subst this
    simp only [List.length_cons] at hl
    rw [hl] at e2
    exact e2

theorem nextN_lt {M S T k : Nat} (h : Turns M T (mrk M S)) (hk : k < T) : nextN T (bes M S T).1 (bes M S T).2 k < T := (bes_isNext h hk).1

/-! What stands in the list of turns -/
theorem lst_inc {P : Nat → Nat} {T : Nat} : ∀ (k x i : Nat), i + 1 < (lst P T k x).length → ∃ u v : Nat, (lst P T k x).getD i 0 = (u : Int) ∧ (lst P T k x).getD (i + 1) 0 = (v : Int) ∧ u < T ∧ v < T ∧ P u < P v
  | 0, x, i, h => by simp [lst] at h
  | k + 1, x, i, h => by
    unfold lst at h ⊢
    split at h
    · rename_i t ht
      obtain ⟨t1, t2⟩ := trn_some ht
      simp only [List.length_cons] at h
      cases i with
      | zero =>
        cases hB : lst P T k (x + 1) with
        | nil => rw [hB] at h; simp at h
        | cons v B =>
          obtain ⟨t', g1, g2, g3, g4, g5⟩ := lst_head hB
          exact ⟨t, t', rfl, g1, t1, g2, by omega⟩
      | succ i =>
        obtain ⟨u, v, q⟩ := lst_inc (P := P) (T := T) k (x + 1) i (by omega)
        exact ⟨u, v, q⟩
    · exact lst_inc k (x + 1) i h

/-- The i-th turn around the circle. -/
def tN (M S T : Nat) : Nat → Nat
  | 0 => 0
  | i + 1 => nextN T (bes M S T).1 (bes M S T).2 (tN M S T i)

theorem tN_lt {M S T : Nat} (h : Turns M T (mrk M S)) (hT : 0 < T) : ∀ i, tN M S T i < T
  | 0 => hT
  | i + 1 => nextN_lt h (tN_lt h hT i)

theorem walk_tN (M S T : Nat) : ∀ r i j, j < r → (walkN T (bes M S T).1 (bes M S T).2 r (tN M S T i)).getD j 0 = (tN M S T (i + j) : Int)
  | 0, i, j, h => by omega
  | r + 1, i, 0, h => rfl
  | r + 1, i, j + 1, h => by
    have := walk_tN M S T r (i + 1) j (by omega)
    rw [show i + (j + 1) = i + 1 + j by omega]
    exact this

theorem lst_tN {M S T : Nat} (h : Turns M T (mrk M S)) {i : Nat} (hi : i < T) : (lst (mrk M S) T M 0).getD i 0 = (tN M S T i : Int) := by
  have := walk_tN M S T T 0 i hi
  rw [Nat.zero_add] at this
  rw [← walk_all h (by omega)]
  exact this

theorem tN_inc {M S T : Nat} (h : Turns M T (mrk M S)) {i : Nat} (hi : i + 1 < T) : mrk M S (tN M S T i) < mrk M S (tN M S T (i + 1)) := by
  have hl := round_len h T (Nat.le_refl _)
  obtain ⟨u, v, e1, e2, _, _, e3⟩ := lst_inc (P := mrk M S) (T := T) M 0 i (by omega)
  rw [lst_tN h (by omega)] at e1 e2
  have : tN M S T i = u := by omega
  have : tN M S T (i + 1) = v := by omega
  subst_vars
  exact e3

theorem tN_mono {M S T : Nat} (h : Turns M T (mrk M S)) : ∀ (d i : Nat), i + d + 1 < T → mrk M S (tN M S T i) < mrk M S (tN M S T (i + d + 1))
  | 0, i, hi => tN_inc h hi
  | d + 1, i, hi => Nat.lt_trans (tN_mono h d i (by omega)) (by
      have := tN_inc h (i := i + d + 1) (by omega)
      rw [show i + (d + 1) + 1 = i + d + 1 + 1 by omega]
      exact this)

theorem tN_idx {M S T : Nat} (h : Turns M T (mrk M S)) {i : Nat} (hi : i < T) : (lst (mrk M S) T (mrk M S (tN M S T i)) 0).length = i := by
  have hk := tN_lt h (by omega) i
  have hl := round_len h T (Nat.le_refl _)
  have hs := lst_split h hk
  have e1 : (lst (mrk M S) T M 0).getD ((lst (mrk M S) T (mrk M S (tN M S T i)) 0).length) 0 = (tN M S T i : Int) := by
    conv => lhs; arg 1; rw [hs]
    exact getD_app 0 _ 0 _
  have hlt : (lst (mrk M S) T (mrk M S (tN M S T i)) 0).length < T := by
    rw [hs, List.length_append, List.length_cons] at hl
    omega
  generalize (lst (mrk M S) T (mrk M S (tN M S T i)) 0).length = j at e1 hlt
  rw [lst_tN h hlt] at e1
  have e2 : tN M S T j = tN M S T i := by omega
  rcases Nat.lt_trichotomy j i with q | q | q
  · have := tN_mono h (i - j - 1) j (by omega)
    rw [show j + (i - j - 1) + 1 = i by omega, e2] at this
    omega
  · exact q
  · have := tN_mono h (j - i - 1) i (by omega)
    rw [show i + (j - i - 1) + 1 = j by omega, e2] at this
    omega

theorem tN_last {M S T : Nat} (h : Turns M T (mrk M S)) (hT : 0 < T) : tN M S T T = 0 := by
  obtain ⟨j, rfl⟩ : ∃ j, T = j + 1 := ⟨T - 1, by omega⟩
  have hk := tN_lt h hT j
  have e := bes_next h hk
  rw [tN_idx h (by omega), Nat.mod_self, round_head h hT] at e
  show nextN (j + 1) (bes M S (j + 1)).1 (bes M S (j + 1)).2 (tN M S (j + 1) j) = 0
  omega

/-- The gap behind a turn. -/
def gp (M S T k : Nat) : Nat := if nextN T (bes M S T).1 (bes M S T).2 k = 0 then M - mrk M S k else mrk M S (nextN T (bes M S T).1 (bes M S T).2 k) - mrk M S k

def gF (M S T : Nat) : Nat → Nat → List Int
  | 0, _ => []
  | k + 1, x => (gp M S T (tN M S T x) : Int) :: gF M S T k (x + 1)

theorem gF_len (M S T : Nat) : ∀ k x, (gF M S T k x).length = k
  | 0, _ => rfl
  | k + 1, x => by
    unfold gF
    rw [List.length_cons, gF_len M S T k (x + 1)]

theorem f77_eq (m M S T k : Nat) (t : Int) (hM : 0 < M) (hM2 : M ≤ 100) (hS : S ≤ 100) (hT1 : 1 ≤ T) (hT : T ≤ 100) (h : Turns M T (mrk M S)) (hk : k < T) : f77 m M S T (bes M S T).1 (bes M S T).2 k = some (gp M S T k : Int) := by
  have hb := bes_le (M := M) (S := S) hT1
  have hn := bes_isNext h hk
  have hj := hn.1
  unfold f77
  rw [f69_eq m M S T _ _ k (by omega) hk hb.1 hb.2]
  unfold gp
  generalize nextN T (bes M S T).1 (bes M S T).2 k = j at hn hj ⊢
  have lj := mrk_lt (M := M) (S := S) j hM
  have lk := mrk_lt (M := M) (S := S) k hM
  have c1 : ((M : Int) != 0) = true := by simp; omega
  have z := mrk_zero M S
  have ej : f59 m M S T j = some (mrk M S j : Int) := f59_eq m M S _ j hM (by omega) (by omega)
  have ek : f59 m M S T k = some (mrk M S k : Int) := f59_eq m M S _ k hM (by omega) (by omega)
  simp only [Option.bind_some]
  rw [ej, ek]
  simp only [Option.bind_some]
  rw [c1, w64_id (x := (mrk M S j : Int) - (mrk M S k : Int)) (by omega) (by omega), w64_id (by omega) (by omega)]
  simp only [cond_true]
  have e : (mrk M S j : Int) - (mrk M S k : Int) + (M : Int) = ((mrk M S j + M - mrk M S k : Nat) : Int) := by omega
  rw [e, tmN]
  by_cases hj0 : j = 0
  · subst hj0
    rw [if_pos rfl, z]
    by_cases hk0 : mrk M S k = 0
    · rw [hk0, show 0 + M - 0 = M by omega, Nat.mod_self]
      rfl
    · rw [Nat.mod_eq_of_lt (by omega)]
      have c2 : (((0 + M - mrk M S k : Nat) : Int) == 0) = false := by simp; omega
      rw [c2, show 0 + M - mrk M S k = M - mrk M S k by omega]
      rfl
  · rw [if_neg hj0]
    have hlt : mrk M S k < mrk M S j := by
      rcases hn.2 with ⟨q, _⟩ | ⟨q, _⟩
      · exact q
      · exact absurd q hj0
    rw [show mrk M S j + M - mrk M S k = (mrk M S j - mrk M S k) + M by omega, Nat.add_mod_right, Nat.mod_eq_of_lt (by omega)]
    have c2 : (((mrk M S j - mrk M S k : Nat) : Int) == 0) = false := by simp; omega
    rw [c2]
    rfl

theorem gp_one (M S k : Nat) (hk : k < 1) : gp M S 1 k = M := by
  have : k = 0 := by omega
  subst this
  have e : nextN 1 (bes M S 1).1 (bes M S 1).2 0 = 0 := rfl
  unfold gp
  rw [e, if_pos rfl, mrk_zero]
  rfl

theorem gp_val {M S T k : Nat} (h : Turns M T (mrk M S)) (hT : 2 ≤ T) (hk : k < T) :
    gp M S T k = if k < T - (bes M S T).1 then mrk M S (bes M S T).1 else if k < (bes M S T).2 then mrk M S (bes M S T).1 + (M - mrk M S (bes M S T).2) else M - mrk M S (bes M S T).2 := by
  have hb := loopB_all (M := M) (S := S) hT
  have hn := next_ok h hb hk
  have hs := beside_sum h hb
  obtain ⟨p0, pT, q0, qT, mm⟩ := hb
  unfold gp
  show (if nextN T (loopB M S (T - 1) 1 0 0).1 (loopB M S (T - 1) 1 0 0).2 k = 0 then _ else _) = _
  show (if nextN T (loopB M S (T - 1) 1 0 0).1 (loopB M S (T - 1) 1 0 0).2 k = 0 then M - mrk M S k else mrk M S (nextN T (loopB M S (T - 1) 1 0 0).1 (loopB M S (T - 1) 1 0 0).2 k) - mrk M S k) = if k < T - (loopB M S (T - 1) 1 0 0).1 then mrk M S (loopB M S (T - 1) 1 0 0).1 else if k < (loopB M S (T - 1) 1 0 0).2 then mrk M S (loopB M S (T - 1) 1 0 0).1 + (M - mrk M S (loopB M S (T - 1) 1 0 0).2) else M - mrk M S (loopB M S (T - 1) 1 0 0).2
  generalize (loopB M S (T - 1) 1 0 0).1 = p at *
  generalize (loopB M S (T - 1) 1 0 0).2 = q at *
  have lk := h.lt k
  have lp := h.lt p
  have lq := h.lt q
  have z := h.zero
  have mpq := mm q q0 qT
  unfold nextN at hn ⊢
  by_cases c1 : k < T - p
  · rw [if_pos c1] at hn ⊢
    rw [if_pos c1, if_neg (by omega)]
    have a := h.add k p
    have hlt : mrk M S k < mrk M S (k + p) := by
      rcases hn.2 with ⟨e, _⟩ | ⟨e, _⟩
      · exact e
      · omega
    omega
  · rw [if_neg c1] at hn ⊢
    rw [if_neg c1]
    by_cases c2 : k < q
    · rw [if_pos c2] at hn ⊢
      rw [if_pos c2, if_neg (by omega)]
      have a := h.add k p
      have s := h.sub (i := k + p) (j := q) (by omega)
      have hlt : mrk M S k < mrk M S (k + p - q) := by
        rcases hn.2 with ⟨e, _⟩ | ⟨e, _⟩
        · exact e
        · omega
      omega
    · rw [if_neg c2] at hn ⊢
      rw [if_neg c2]
      by_cases c3 : k = q
      · subst c3
        rw [if_pos (by omega)]
      · rw [if_neg (by omega)]
        have s := h.sub (i := k) (j := q) (by omega)
        have hlt : mrk M S k < mrk M S (k - q) := by
          rcases hn.2 with ⟨e, _⟩ | ⟨e, _⟩
          · exact e
          · omega
        omega

/-! Counts -/
/-! The list of widths -/
end Go.Xm
