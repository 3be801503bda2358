/- Widths of gaps in ascending order. Conditions: none. -/
import Derived.Test.YtagagpkjlkoieaaKB
namespace Go.Xm
set_option linter.unusedVariables false
set_option linter.unusedSimpArgs false

theorem cond_r {α : Type} {b : Bool} {x y r : Option α} (hb : b = true) (hx : x = r) : cond b x y = r := by rw [hb]; exact hx
theorem bind_r {α β : Type} {x : Option α} {f : α → Option β} {v : α} {r : Option β} (hx : x = some v) (hf : f v = r) : x.bind f = r := by rw [hx]; exact hf

/-- Two widths and their sum, in ascending order. -/
def wexp (d1 n1 d2 n2 n3 : Nat) : List (Int × Int) :=
  (if d1 = d2 then [((d1 : Int), ((n1 + n2 : Nat) : Int))] else if d2 < d1 then [((d2 : Int), (n2 : Int)), ((d1 : Int), (n1 : Int))] else [((d1 : Int), (n1 : Int)), ((d2 : Int), (n2 : Int))]) ++
  (if n3 = 0 then [] else [(((d1 + d2 : Nat) : Int), (n3 : Int))])

theorem wlF_tail {c : Nat → Nat} {d1 n1 d2 n2 n3 M x : Nat} (hc : ∀ w, c w = (if d1 = w then n1 else 0) + (if d1 + d2 = w then n3 else 0) + (if d2 = w then n2 else 0)) (h1 : d1 < x) (h2 : d2 < x) (hx : x ≤ d1 + d2) (hM : d1 + d2 ≤ M) :
    wlF c (M + 1 - x) x = if n3 = 0 then [] else [(((d1 + d2 : Nat) : Int), (n3 : Int))] := by
  have hz : ∀ w, x ≤ w → w ≠ d1 + d2 → c w = 0 := fun w hw hn => by rw [hc, if_neg (by omega), if_neg (by omega), if_neg (by omega)]
  have hv : c (d1 + d2) = n3 := by rw [hc, if_neg (by omega), if_pos rfl, if_neg (by omega)]; omega
  by_cases h : n3 = 0
  · rw [if_pos h]
    refine wlF_none c _ _ (fun w hw _ => ?_)
    by_cases e : w = d1 + d2
    · rw [e, hv, h]
    · exact hz w hw e
  · rw [if_neg h, wlF_hit c x (d1 + d2) M hx hM (by omega) (fun w hw hw2 => hz w hw (by omega)), hv, wlF_none c _ _ (fun w hw _ => hz w (by omega) (by omega))]

theorem wlF_exp {c : Nat → Nat} {d1 n1 d2 n2 n3 M : Nat} (hc : ∀ w, c w = (if d1 = w then n1 else 0) + (if d1 + d2 = w then n3 else 0) + (if d2 = w then n2 else 0)) (p1 : 0 < d1) (p2 : 0 < d2) (q1 : 0 < n1) (q2 : 0 < n2) (hM : d1 + d2 ≤ M) :
    wlF c M 1 = wexp d1 n1 d2 n2 n3 := by
  have hz : ∀ w, w < d1 + d2 → w ≠ d1 → w ≠ d2 → c w = 0 := fun w hw a b => by rw [hc, if_neg (by omega), if_neg (by omega), if_neg (by omega)]
  unfold wexp
  rw [show wlF c M 1 = wlF c (M + 1 - 1) 1 from rfl]
  by_cases e : d1 = d2
  · have hv : c d1 = n1 + n2 := by rw [hc, if_pos rfl, if_neg (by omega), if_pos e.symm]; omega
    rw [if_pos e, wlF_hit c 1 d1 M (by omega) (by omega) (by omega) (fun w h1 h2 => hz w (by omega) (by omega) (by omega)), hv, wlF_tail hc (by omega) (by omega) (by omega) hM]
    rfl
  · have hv1 : c d1 = n1 := by rw [hc, if_pos rfl, if_neg (by omega), if_neg (by omega)]; omega
    have hv2 : c d2 = n2 := by rw [hc, if_neg e, if_neg (by omega), if_pos rfl]; omega
    rw [if_neg e]
    by_cases g : d2 < d1
    · rw [if_pos g, wlF_hit c 1 d2 M (by omega) (by omega) (by omega) (fun w h1 h2 => hz w (by omega) (by omega) (by omega)), hv2,
        wlF_hit c (d2 + 1) d1 M (by omega) (by omega) (by omega) (fun w h1 h2 => hz w (by omega) (by omega) (by omega)), hv1, wlF_tail hc (by omega) (by omega) (by omega) hM]
      rfl
    · rw [if_neg g, wlF_hit c 1 d1 M (by omega) (by omega) (by omega) (fun w h1 h2 => hz w (by omega) (by omega) (by omega)), hv1,
        wlF_hit c (d1 + 1) d2 M (by omega) (by omega) (by omega) (fun w h1 h2 => hz w (by omega) (by omega) (by omega)), hv2, wlF_tail hc (by omega) (by omega) (by omega) hM]
      rfl

theorem wl_one {M S : Nat} (hM : 0 < M) : wlF (cw M S 1) M 1 = [((M : Int), 1)] := by
  have hv : cw M S 1 M = 1 := by rw [cw_one, if_pos rfl]
  rw [show wlF (cw M S 1) M 1 = wlF (cw M S 1) (M + 1 - 1) 1 from rfl, wlF_hit (cw M S 1) 1 M M (by omega) (by omega) (by omega) (fun w h1 h2 => by rw [cw_one, if_neg (by omega)]), hv, wlF_none _ _ _ (fun w h1 h2 => by omega)]
  rfl

/-- What is known of the turns beside turn 0. -/
theorem bes_facts {M S T : Nat} (h : Turns M T (mrk M S)) (hT : 2 ≤ T) : ∃ p q d1 d2 : Nat, (bes M S T).1 = p ∧ (bes M S T).2 = q ∧ mrk M S p = d1 ∧ mrk M S q = M - d2 ∧ 0 < p ∧ p < T ∧ 0 < q ∧ q < T ∧ T ≤ p + q ∧ 0 < d1 ∧ 0 < d2 ∧ d2 ≤ M ∧ d1 + d2 ≤ M ∧
    ∀ w, cw M S T w = (if d1 = w then T - p else 0) + (if d1 + d2 = w then p + q - T else 0) + (if d2 = w then T - q else 0) := by
  have hb : Beside T (mrk M S) (bes M S T).1 (bes M S T).2 := loopB_all (M := M) (S := S) hT
  have hs := beside_sum h hb
  have hc := cw_val h hT
  obtain ⟨p0, pT, q0, qT, mm⟩ := hb
  have o1 := h.own _ p0 pT
  have l1 := h.lt (bes M S T).1
  have l2 := h.lt (bes M S T).2
  have m1 := mm _ q0 qT
  exact ⟨_, _, mrk M S (bes M S T).1, M - mrk M S (bes M S T).2, rfl, rfl, rfl, by omega, p0, pT, q0, qT, hs, o1, by omega, by omega, by omega, hc⟩
end Go.Xm
