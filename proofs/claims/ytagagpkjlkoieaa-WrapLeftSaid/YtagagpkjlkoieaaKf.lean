/- Gaps and counts in lists. Conditions: none. -/
import Derived.Test.YtagagpkjlkoieaaKB
import Derived.Test.YtagagpkjlkoieaaPh
namespace Go.Xm
set_option linter.unusedVariables false
set_option linter.unusedSimpArgs false

theorem f76_1_eq70 (m : Nat) (a b t : Int) : ∀ (fuel : Nat) (x : Int) (l : List Int), f76_1 m fuel a b t x l = f70_1 m fuel a b t x l
  | 0, _, _ => rfl
  | fuel + 1, x, l => by
    unfold f76_1 f70_1
    simp only [f76_1_eq70 m a b t fuel]

theorem f76_eq (m M S T : Nat) (hm : 2000 < m) (hM : 0 < M) (hM2 : M ≤ 100) (hS : S ≤ 1000) (hT : T ≤ 1000) : f76 m M S T = some (lst (mrk M S) T M 0) := by
  have h1 := f70_1_eq m M S T hM (by omega) hS hT (by omega) M 0 m [] (by omega) (by simp) (by omega)
  rw [List.nil_append] at h1
  unfold f76
  rw [f76_1_eq70, show ((0 : Int)) = ((0 : Nat) : Int) from rfl, h1]
  rfl

theorem gp_next {M S T x : Nat} (h : Turns M T (mrk M S)) (hx : x + 1 < T) : (gp M S T (tN M S T x) : Int) = (mrk M S (tN M S T (x + 1)) : Int) - (mrk M S (tN M S T x) : Int) := by
  have hi := tN_inc h hx
  unfold gp
  rw [show nextN T (bes M S T).1 (bes M S T).2 (tN M S T x) = tN M S T (x + 1) from rfl, if_neg]
  · omega
  · intro e
    rw [e, mrk_zero] at hi
    omega

theorem gp_last {M S T x : Nat} (h : Turns M T (mrk M S)) (hx : x + 1 = T) : (gp M S T (tN M S T x) : Int) = (M : Int) - (mrk M S (tN M S T x) : Int) := by
  have hi := tN_last h (by omega)
  have l := h.lt (tN M S T x)
  rw [← hx] at hi
  unfold gp
  rw [← hx]
  rw [show nextN (x + 1) (bes M S (x + 1)).1 (bes M S (x + 1)).2 (tN M S (x + 1) x) = tN M S (x + 1) (x + 1) from rfl, if_pos hi]
  subst hx
  omega

theorem cI_le (w : Int) : ∀ l, cI w l ≤ l.length
  | [] => Nat.le_refl _
  | v :: l => by
    have := cI_le w l
    show (if v = w then 1 else 0) + cI w l ≤ l.length + 1
    split <;> omega

theorem drop_cons {l : List Int} {x : Nat} (h : x < l.length) : l.drop x = l.getD x 0 :: l.drop (x + 1) := by
  rw [List.drop_eq_getElem_cons h, List.getD_eq_getElem?_getD, List.getElem?_eq_getElem h]
  rfl

theorem wlF_len (c : Nat → Nat) : ∀ k x, (wlF c k x).length ≤ k
  | 0, _ => Nat.le_refl _
  | k + 1, x => by
    unfold wlF
    have := wlF_len c k (x + 1)
    split
    · simp only [List.length_cons]; omega
    · omega
end Go.Xm
