/- The turns beside turn 0 of the first turns. Conditions: none. -/
import Derived.Test.YtagagpkjlkoieaaK6
namespace Go.Xm
set_option linter.unusedVariables false
set_option linter.unusedSimpArgs false

theorem f71_eq69 (m : Nat) (a b t p q k : Int) : f71 m a b t p q k = f69 m a b t q p k := rfl

theorem f69_eq (m : Nat) (a b : Int) (T p q k : Nat) (hT : T ≤ 1000) (hk : k < T) (hp : p ≤ T) (hq : q ≤ T) : f69 m a b T p q k = some (nextN T p q k : Int) := by
  unfold f69 nextN
  rw [w64_id (x := (T : Int) - (p : Int)) (by omega) (by omega), w64_id (x := (k : Int) + (p : Int)) (by omega) (by omega), w64_id (x := (k : Int) + (p : Int) - (q : Int)) (by omega) (by omega), w64_id (x := (k : Int) - (q : Int)) (by omega) (by omega)]
  by_cases c1 : k < T - p
  · rw [decide_eq_true (by omega), if_pos c1]
    show some _ = some _
    congr 1
  · rw [decide_eq_false (by omega), if_neg c1]
    by_cases c2 : k < q
    · rw [decide_eq_true (by omega), if_pos c2]
      show some _ = some _
      congr 1
      omega
    · rw [decide_eq_false (by omega), if_neg c2]
      show some _ = some _
      congr 1
      omega

theorem f70_eq (m M S T k c : Nat) (hm : 2000 < m) (hM : M ≤ 100) (hS : S ≤ 1000) (hT : T ≤ 1000) (hc : c ≤ 1000) (h : Turns M T (mrk M S)) (hk : k < T) :
    f70 m M S T k c = some ((lst (mrk M S) T M 0).getD (((lst (mrk M S) T (mrk M S k) 0).length + c) % T) 0) := by
  have h1 := f70_1_eq m M S T h.pos (by omega) hS hT (by omega) M 0 m [] (by omega) (by simp) (by omega)
  rw [List.nil_append] at h1
  have hl := round_len h T (Nat.le_refl _)
  have hs := lst_split h hk
  have hA : ∀ j, j < (lst (mrk M S) T (mrk M S k) 0).length → (lst (mrk M S) T M 0).getD j 0 ≠ (k : Int) := by
    intro j hj e
    rw [hs, List.getD_eq_getElem?_getD, List.getElem?_append_left hj, List.getElem?_eq_getElem hj] at e
    obtain ⟨t, e1, e2, e3, e4⟩ := mem_lst (List.getElem_mem hj)
    have e : (lst (mrk M S) T (mrk M S k) 0)[j] = (k : Int) := e
    rw [e1] at e
    have : t = k := by omega
    subst this
    omega
  have hk0 : (lst (mrk M S) T M 0).getD (lst (mrk M S) T (mrk M S k) 0).length 0 = (k : Int) := by
    rw [hs]
    exact getD_app 0 _ 0 _
  have hlt : (lst (mrk M S) T (mrk M S k) 0).length < (lst (mrk M S) T M 0).length := by
    rw [hs, List.length_append, List.length_cons]
    omega
  have h2 := f70_2_eq m (k : Int) c (lst (mrk M S) T M 0) _ hlt (by omega) hc hk0 hA (lst (mrk M S) T (mrk M S k) 0).length 0 m (by omega) (by omega)
  unfold f70
  rw [show ((0 : Int)) = ((0 : Nat) : Int) from rfl, h1]
  simp only [Option.bind_some]
  rw [h2, hl]
  rfl

/-- The turns beside turn 0 of the first T turns. -/
def bes (M S T : Nat) : Nat × Nat := loopB M S (T - 1) 1 0 0

theorem bes_le {M S T : Nat} (hT : 1 ≤ T) : (bes M S T).1 ≤ T ∧ (bes M S T).2 ≤ T := by
  by_cases h : T = 1
  · subst h
    exact ⟨Nat.zero_le _, Nat.zero_le _⟩
  · obtain ⟨_, h2, _, h4, _⟩ := loopB_all (M := M) (S := S) (T := T) (by omega)
    unfold bes
    omega

theorem bes_next {M S T k : Nat} (h : Turns M T (mrk M S)) (hk : k < T) : (lst (mrk M S) T M 0).getD (((lst (mrk M S) T (mrk M S k) 0).length + 1) % T) 0 = (nextN T (bes M S T).1 (bes M S T).2 k : Int) := by
  by_cases e : T = 1
  · subst e
    obtain ⟨j, e1, hj, _⟩ := list_next h hk
    rw [e1, show j = 0 by omega, show k = 0 by omega]
    rfl
  · exact round_next h (loopB_all (by omega)) hk

theorem bes_before {M S T k : Nat} (h : Turns M T (mrk M S)) (hk : k < T) : (lst (mrk M S) T M 0).getD (((lst (mrk M S) T (mrk M S k) 0).length + (T - 1)) % T) 0 = (nextN T (bes M S T).2 (bes M S T).1 k : Int) := by
  by_cases e : T = 1
  · subst e
    obtain ⟨j, e1, hj, _⟩ := list_before h hk
    rw [e1, show j = 0 by omega, show k = 0 by omega]
    rfl
  · exact round_before h (loopB_all (by omega)) hk

theorem f29_1_bes {m M S T : Nat} (hm : 2000 < m) (hM : 0 < M) (hS : S ≤ 1000) (hT1 : 1 ≤ T) (hT : T ≤ 1000) : f29_1 m m M S T 1 0 0 = some ((T : Int), ((bes M S T).1 : Int), ((bes M S T).2 : Int)) := by
  have := f29_1_eq m M S T hM hS hT (T - 1) 1 0 0 m (by omega) (by omega) (by omega) (by omega)
  simp only [Int.natCast_zero, Int.natCast_one] at this
  exact this
end Go.Xm
