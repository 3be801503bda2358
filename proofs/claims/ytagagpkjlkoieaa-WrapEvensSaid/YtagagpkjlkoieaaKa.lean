/- Gaps behind turns around the circle. Conditions: none. -/
import Derived.Test.YtagagpkjlkoieaaK9
namespace Go.Xm
set_option linter.unusedVariables false
set_option linter.unusedSimpArgs false

/-- The i-th turn around the circle. -/
def tN (M S T : Nat) : Nat → Nat
  | 0 => 0
  | i + 1 => nextN T (bes M S T).1 (bes M S T).2 (tN M S T i)

theorem tN_lt {M S T : Nat} (h : Turns M T (mrk M S)) (hT : 0 < T) : ∀ i, tN M S T i < T
  | 0 => hT
  | i + 1 => nextN_lt h (tN_lt h hT i)

theorem walk_tN (M S T : Nat) : ∀ r i j, j < r → (walkN T (bes M S T).1 (bes M S T).2 r (tN M S T i)).getD j 0 = (tN M S T (i + j) : Int)
  | 0, i, j, h => by omega
  | r + 1, i, 0, h => rfl
  | r + 1, i, j + 1, h => by
    have := walk_tN M S T r (i + 1) j (by omega)
    rw [show i + (j + 1) = i + 1 + j by omega]
    exact this

theorem lst_tN {M S T : Nat} (h : Turns M T (mrk M S)) {i : Nat} (hi : i < T) : (lst (mrk M S) T M 0).getD i 0 = (tN M S T i : Int) := by
  have := walk_tN M S T T 0 i hi
  rw [Nat.zero_add] at this
  rw [← walk_all h (by omega)]
  exact this

theorem tN_inc {M S T : Nat} (h : Turns M T (mrk M S)) {i : Nat} (hi : i + 1 < T) : mrk M S (tN M S T i) < mrk M S (tN M S T (i + 1)) := by
  have hl := round_len h T (Nat.le_refl _)
  obtain ⟨u, v, e1, e2, _, _, e3⟩ := lst_inc (P := mrk M S) (T := T) M 0 i (by omega)
  rw [lst_tN h (by omega)] at e1 e2
  have : tN M S T i = u := by omega
  have : tN M S T (i + 1) = v := by omega
  subst_vars
  exact e3

theorem tN_mono {M S T : Nat} (h : Turns M T (mrk M S)) : ∀ (d i : Nat), i + d + 1 < T → mrk M S (tN M S T i) < mrk M S (tN M S T (i + d + 1))
  | 0, i, hi => tN_inc h hi
  | d + 1, i, hi => Nat.lt_trans (tN_mono h d i (by omega)) (by
      have := tN_inc h (i := i + d + 1) (by omega)
      rw [show i + (d + 1) + 1 = i + d + 1 + 1 by omega]
      exact this)

theorem tN_idx {M S T : Nat} (h : Turns M T (mrk M S)) {i : Nat} (hi : i < T) : (lst (mrk M S) T (mrk M S (tN M S T i)) 0).length = i := by
  have hk := tN_lt h (by omega) i
  have hl := round_len h T (Nat.le_refl _)
  have hs := lst_split h hk
  have e1 : (lst (mrk M S) T M 0).getD ((lst (mrk M S) T (mrk M S (tN M S T i)) 0).length) 0 = (tN M S T i : Int) := by
    conv => lhs; arg 1; rw [hs]
    exact getD_app 0 _ 0 _
  have hlt : (lst (mrk M S) T (mrk M S (tN M S T i)) 0).length < T := by
    rw [hs, List.length_append, List.length_cons] at hl
    omega
  generalize (lst (mrk M S) T (mrk M S (tN M S T i)) 0).length = j at e1 hlt
  rw [lst_tN h hlt] at e1
  have e2 : tN M S T j = tN M S T i := by omega
  rcases Nat.lt_trichotomy j i with q | q | q
  · have := tN_mono h (i - j - 1) j (by omega)
    rw [show j + (i - j - 1) + 1 = i by omega, e2] at this
    omega
  · exact q
  · have := tN_mono h (j - i - 1) i (by omega)
    rw [show i + (j - i - 1) + 1 = j by omega, e2] at this
    omega

theorem tN_last {M S T : Nat} (h : Turns M T (mrk M S)) (hT : 0 < T) : tN M S T T = 0 := by
  obtain ⟨j, rfl⟩ : ∃ j, T = j + 1 := ⟨T - 1, by omega⟩
  have hk := tN_lt h hT j
  have e := bes_next h hk
  rw [tN_idx h (by omega), Nat.mod_self, round_head h hT] at e
  show nextN (j + 1) (bes M S (j + 1)).1 (bes M S (j + 1)).2 (tN M S (j + 1) j) = 0
  omega

/-- The gap behind a turn. -/
def gp (M S T k : Nat) : Nat := if nextN T (bes M S T).1 (bes M S T).2 k = 0 then M - mrk M S k else mrk M S (nextN T (bes M S T).1 (bes M S T).2 k) - mrk M S k

def gF (M S T : Nat) : Nat → Nat → List Int
  | 0, _ => []
  | k + 1, x => (gp M S T (tN M S T x) : Int) :: gF M S T k (x + 1)

theorem gF_len (M S T : Nat) : ∀ k x, (gF M S T k x).length = k
  | 0, _ => rfl
  | k + 1, x => by
    unfold gF
    rw [List.length_cons, gF_len M S T k (x + 1)]

theorem f77_eq (m M S T k : Nat) (t : Int) (hM : 0 < M) (hM2 : M ≤ 100) (hS : S ≤ 100) (hT1 : 1 ≤ T) (hT : T ≤ 100) (h : Turns M T (mrk M S)) (hk : k < T) : f77 m M S T (bes M S T).1 (bes M S T).2 k = some (gp M S T k : Int) := by
  have hb := bes_le (M := M) (S := S) hT1
  have hn := bes_isNext h hk
  have hj := hn.1
  unfold f77
  rw [f69_eq m M S T _ _ k (by omega) hk hb.1 hb.2]
  unfold gp
  generalize nextN T (bes M S T).1 (bes M S T).2 k = j at hn hj ⊢
  have lj := mrk_lt (M := M) (S := S) j hM
  have lk := mrk_lt (M := M) (S := S) k hM
  have c1 : ((M : Int) != 0) = true := by simp; omega
  have z := mrk_zero M S
  have ej : f59 m M S T j = some (mrk M S j : Int) := f59_eq m M S _ j hM (by omega) (by omega)
  have ek : f59 m M S T k = some (mrk M S k : Int) := f59_eq m M S _ k hM (by omega) (by omega)
  simp only [Option.bind_some]
  rw [ej, ek]
  simp only [Option.bind_some]
  rw [c1, w64_id (x := (mrk M S j : Int) - (mrk M S k : Int)) (by omega) (by omega), w64_id (by omega) (by omega)]
  simp only [cond_true]
  have e : (mrk M S j : Int) - (mrk M S k : Int) + (M : Int) = ((mrk M S j + M - mrk M S k : Nat) : Int) := by omega
  rw [e, tmN]
  by_cases hj0 : j = 0
  · subst hj0
    rw [if_pos rfl, z]
    by_cases hk0 : mrk M S k = 0
    · rw [hk0, show 0 + M - 0 = M by omega, Nat.mod_self]
      rfl
    · rw [Nat.mod_eq_of_lt (by omega)]
      have c2 : (((0 + M - mrk M S k : Nat) : Int) == 0) = false := by simp; omega
      rw [c2, show 0 + M - mrk M S k = M - mrk M S k by omega]
      rfl
  · rw [if_neg hj0]
    have hlt : mrk M S k < mrk M S j := by
      rcases hn.2 with ⟨q, _⟩ | ⟨q, _⟩
      · exact q
      · exact absurd q hj0
    rw [show mrk M S j + M - mrk M S k = (mrk M S j - mrk M S k) + M by omega, Nat.add_mod_right, Nat.mod_eq_of_lt (by omega)]
    have c2 : (((mrk M S j - mrk M S k : Nat) : Int) == 0) = false := by simp; omega
    rw [c2]
    rfl
end Go.Xm
