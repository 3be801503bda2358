/- The turns around the circle as a list. Conditions: none. -/
import Derived.Test.YtagagpkjlkoieaaK8
namespace Go.Xm
set_option linter.unusedVariables false
set_option linter.unusedSimpArgs false

/-- The turns from k on, one behind the other. -/
def walkN (T p q : Nat) : Nat → Nat → List Int
  | 0, _ => []
  | r + 1, k => (k : Int) :: walkN T p q r (nextN T p q k)

theorem bes_isNext {M S T k : Nat} (h : Turns M T (mrk M S)) (hk : k < T) : IsNext M T (mrk M S) k (nextN T (bes M S T).1 (bes M S T).2 k) := by
  by_cases e : T = 1
  · subst e
    have : k = 0 := by omega
    subst this
    refine ⟨(by show nextN 1 0 0 0 < 1; decide), .inr ⟨rfl, fun i hi => ?_⟩⟩
    rw [show i = 0 by omega]
    exact Nat.le_refl _
  · exact next_ok h (loopB_all (by omega)) hk

theorem lst_walk {M S T : Nat} (h : Turns M T (mrk M S)) : ∀ (k x : Nat) (u : Int) (B : List Int), lst (mrk M S) T k x = u :: B → ∃ t : Nat, u = (t : Int) ∧ t < T ∧ walkN T (bes M S T).1 (bes M S T).2 (B.length + 1) t = u :: B
  | 0, x, u, B, e => by cases e
  | k + 1, x, u, B, e => by
    unfold lst at e
    split at e
    · rename_i t ht
      obtain ⟨t1, t2⟩ := trn_some ht
      cases e
      refine ⟨t, rfl, t1, ?_⟩
      cases hB : lst (mrk M S) T k (x + 1) with
      | nil => rfl
      | cons v B =>
        obtain ⟨t', e1, l1, e2⟩ := lst_walk h k (x + 1) v B hB
        obtain ⟨t2', g1, g2, g3, g4, g5⟩ := lst_head hB
        have : t2' = t' := by omega
        subst this
        have hn : IsNext M T (mrk M S) t t2' := ⟨l1, .inl ⟨by omega, fun i hi hh => g5 i hi ⟨by omega, hh.2⟩⟩⟩
        have en := (bes_isNext h t1).uniq h hn
        show (t : Int) :: walkN T (bes M S T).1 (bes M S T).2 (B.length + 1) (nextN T (bes M S T).1 (bes M S T).2 t) = (t : Int) :: v :: B
        rw [en, e2]
    · obtain ⟨t', e1, l1, e2⟩ := lst_walk h k (x + 1) u B e
      exact ⟨t', e1, l1, e2⟩

theorem walk_all {M S T : Nat} (h : Turns M T (mrk M S)) (hT : 0 < T) : walkN T (bes M S T).1 (bes M S T).2 T 0 = lst (mrk M S) T M 0 := by
  have hl := round_len h T (Nat.le_refl _)
  cases hL : lst (mrk M S) T M 0 with
  | nil =>
    rw [hL] at hl
    simp at hl
    omega
  | cons u B =>
    obtain ⟨t, e1, l1, e2⟩ := lst_walk h M 0 u B hL
    have h0 := round_head h hT
    rw [hL] at h0 hl
    have hu : u = 0 := h0
    have : t = 0 := by omega
    subst this
    simp only [List.length_cons] at hl
    rw [hl] at e2
    exact e2

theorem nextN_lt {M S T k : Nat} (h : Turns M T (mrk M S)) (hk : k < T) : nextN T (bes M S T).1 (bes M S T).2 k < T := (bes_isNext h hk).1

theorem f29_2_eq (m M S T : Nat) (t : Int) (hT1 : 1 ≤ T) (hT : T ≤ 100) (h : Turns M T (mrk M S)) : ∀ (k x u fuel : Nat) (l : List Int), x + k = T → u < T → k < fuel → l.length ≤ x →
    f29_2 m fuel M S t u T x T (bes M S T).1 (bes M S T).2 l = some (l ++ walkN T (bes M S T).1 (bes M S T).2 k u)
  | k, x, u, 0, _, _, _, h, _ => by omega
  | 0, x, u, fuel + 1, l, hx, _, _, _ => by
    unfold f29_2
    rw [decide_eq_false (by omega)]
    simp [walkN]
  | k + 1, x, u, fuel + 1, l, hx, hu, hf, hl => by
    have hb := bes_le (M := M) (S := S) hT1
    have hfit : fitsB (l.length + 1) 8 = true := by
      simp only [fitsB, Bool.and_eq_true, Nat.ble_eq]; omega
    unfold f29_2
    rw [decide_eq_true (by omega), hfit, f69_eq m M S T _ _ u (by omega) hu hb.1 hb.2, w64_succ x (by omega)]
    simp only [cond_true, Option.bind_some]
    rw [f29_2_eq m M S T t hT1 hT h k (x + 1) _ fuel (l ++ [(u : Int)]) (by omega) (nextN_lt h hu) (by omega) (by simp; omega), List.append_assoc]
    rfl

theorem f29_eq (m M S T o : Nat) (hm : 2000 < m) (g : Good M S T o) (h0 : f20 m M S T = some 0) : f29 m M S T = some (lst (mrk M S) T M 0, 0) := by
  have g1 := g.m1
  have g2 := g.m2
  have g3 := g.s
  have g4 := g.om
  have g5 := g.to
  have g6 := g.t1
  have hT := g.turns g5
  unfold f29
  rw [h0, f29_1_bes hm (by omega) (by omega) g6 (by omega)]
  simp only [Option.bind_some, bne_self_eq_false, cond_false]
  have h := f29_2_eq m M S T T g6 (by omega) hT T 0 0 m [] (by omega) (by omega) (by omega) (by simp)
  rw [show ((0 : Nat) : Int) = (0 : Int) from rfl, List.nil_append, walk_all hT (by omega)] at h
  rw [h]
  rfl

/-! What stands in the list of turns -/
theorem lst_get {P : Nat → Nat} {T k x i : Nat} (hi : i < (lst P T k x).length) : ∃ u : Nat, (lst P T k x).getD i 0 = (u : Int) ∧ u < T := by
  have e : (lst P T k x).getD i 0 = (lst P T k x)[i] := by rw [List.getD_eq_getElem?_getD, List.getElem?_eq_getElem hi]; rfl
  obtain ⟨t, e1, e2, _⟩ := mem_lst (List.getElem_mem hi)
  exact ⟨t, e.trans e1, e2⟩

theorem lst_inc {P : Nat → Nat} {T : Nat} : ∀ (k x i : Nat), i + 1 < (lst P T k x).length → ∃ u v : Nat, (lst P T k x).getD i 0 = (u : Int) ∧ (lst P T k x).getD (i + 1) 0 = (v : Int) ∧ u < T ∧ v < T ∧ P u < P v
  | 0, x, i, h => by simp [lst] at h
  | k + 1, x, i, h => by
    unfold lst at h ⊢
    split at h
    · rename_i t ht
      obtain ⟨t1, t2⟩ := trn_some ht
      simp only [List.length_cons] at h
      cases i with
      | zero =>
        cases hB : lst P T k (x + 1) with
        | nil => rw [hB] at h; simp at h
        | cons v B =>
          obtain ⟨t', g1, g2, g3, g4, g5⟩ := lst_head hB
          exact ⟨t, t', rfl, g1, t1, g2, by omega⟩
      | succ i =>
        obtain ⟨u, v, q⟩ := lst_inc (P := P) (T := T) k (x + 1) i (by omega)
        exact ⟨u, v, q⟩
    · exact lst_inc k (x + 1) i h
end Go.Xm
