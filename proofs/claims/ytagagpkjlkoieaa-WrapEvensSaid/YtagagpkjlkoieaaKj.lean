/- WrapEvens: the even numbers of turns, as the document's answer computes them. Conditions: none. -/
import Derived.Test.YtagagpkjlkoieaaKf
import Derived.Test.YtagagpkjlkoieaaKi
import Derived.Test.YtagagpkjlkoieaaPp
namespace Go.Xm
set_option linter.unusedVariables false
set_option linter.unusedSimpArgs false
set_option maxRecDepth 20000

theorem f38_2_eq (m M S T : Nat) (l0 : List Int) (hM : 0 < M) (hM2 : M ≤ 100) (hS : S ≤ 100) (hT : T ≤ 100) (h : Turns M T (mrk M S)) : ∀ (k x fuel : Nat) (l : List Int), x + k = T → k < fuel → l.length ≤ x →
    f38_2 m fuel M S l0 T x (lst (mrk M S) T M 0) l = some (l ++ gF M S T k x)
  | k, x, 0, _, _, h, _ => by omega
  | 0, x, fuel + 1, l, hx, _, _ => by
    have hl := round_len h T (Nat.le_refl _)
    unfold f38_2
    rw [decide_eq_false (by omega)]
    simp [gF]
  | k + 1, x, fuel + 1, l, hx, hf, hln => by
    have hl := round_len h T (Nat.le_refl _)
    have hu := tN_lt h (by omega) x
    have lu := h.lt (tN M S T x)
    have hfit : fitsB (l.length + 1) 8 = true := by
      simp only [fitsB, Bool.and_eq_true, Nat.ble_eq]; omega
    have hr : inRow (x : Int) (lst (mrk M S) T M 0).length = true := inRow_iff.2 ⟨by omega, by omega⟩
    have eu : f61 m M S T (tN M S T x) = some (mrk M S (tN M S T x) : Int) := f61_eq m M S _ _ hM (by omega) (by omega)
    unfold f38_2
    rw [decide_eq_true (by omega), w64_succ x (by omega), hr]
    simp only [Int.toNat_natCast]
    rw [lst_tN h (i := x) (by omega), eu, hfit]
    simp only [cond_true, Option.bind_some]
    by_cases c : x + 1 < T
    · have hr2 : inRow ((x + 1 : Nat) : Int) (lst (mrk M S) T M 0).length = true := inRow_iff.2 ⟨by omega, by omega⟩
      have hv := tN_lt h (by omega) (x + 1)
      have lv := h.lt (tN M S T (x + 1))
      have ev : f61 m M S T (tN M S T (x + 1)) = some (mrk M S (tN M S T (x + 1)) : Int) := f61_eq m M S _ _ hM (by omega) (by omega)
      rw [decide_eq_true (by omega), hr2, lst_tN h c, ev]
      simp only [cond_true, Option.bind_some]
      rw [w64_id (x := (mrk M S (tN M S T (x + 1)) : Int) - (mrk M S (tN M S T x) : Int)) (by omega) (by omega), ← gp_next h c, f38_2_eq m M S T l0 hM hM2 hS hT h k (x + 1) fuel _ (by omega) (by omega) (by simp; omega), List.append_assoc]
      rfl
    · rw [decide_eq_false (by omega)]
      simp only [cond_false]
      rw [w64_id (x := (M : Int) - (mrk M S (tN M S T x) : Int)) (by omega) (by omega), ← gp_last h (by omega), f38_2_eq m M S T l0 hM hM2 hS hT h k (x + 1) fuel _ (by omega) (by omega) (by simp; omega), List.append_assoc]
      rfl

theorem f38_4_eq (m : Nat) (l0 : List Int) (a b t w : Int) (l2 : List (Int × Int)) (l : List Int) (hl : l.length ≤ 1000) : ∀ (k x fuel n : Nat), x + k = l.length → k < fuel → n ≤ x → f38_4 m fuel a b l0 t l w l2 n x = some ((n + cI w (l.drop x) : Nat) : Int)
  | k, x, 0, n, _, h, _ => by omega
  | 0, x, fuel + 1, n, hx, _, _ => by
    unfold f38_4
    rw [decide_eq_false (by omega), List.drop_eq_nil_of_le (by omega)]
    rfl
  | k + 1, x, fuel + 1, n, hx, hf, hn => by
    have hr : inRow (x : Int) l.length = true := inRow_iff.2 ⟨by omega, by omega⟩
    unfold f38_4
    rw [decide_eq_true (by omega), hr, Int.toNat_natCast, w64_succ x (by omega), w64_succ n (by omega), drop_cons (by omega)]
    simp only [cond_true]
    by_cases c : l.getD x 0 = w
    · rw [show (l.getD x 0 == w) = true by simpa using c]
      simp only [cond_true]
      rw [f38_4_eq m l0 a b t w l2 l hl k (x + 1) fuel (n + 1) (by omega) (by omega) (by omega)]
      show _ = some ((n + ((if l.getD x 0 = w then 1 else 0) + cI w (l.drop (x + 1))) : Nat) : Int)
      rw [if_pos c]
      congr 2
      omega
    · rw [show (l.getD x 0 == w) = false by simpa using c]
      simp only [cond_false]
      rw [f38_4_eq m l0 a b t w l2 l hl k (x + 1) fuel n (by omega) (by omega) (by omega)]
      show _ = some ((n + ((if l.getD x 0 = w then 1 else 0) + cI w (l.drop (x + 1))) : Nat) : Int)
      rw [if_neg c]
      congr 2
      omega

theorem f38_3_eq (m M S T : Nat) (l0 : List Int) (t : Int) (hm : 2000 < m) (hM2 : M ≤ 100) (hT : T ≤ 100) (hT1 : 0 < T) (h : Turns M T (mrk M S)) : ∀ (k x fuel : Nat) (l : List (Int × Int)), x + k = M + 1 → k < fuel → l.length ≤ x →
    f38_3 m fuel M S l0 t (gF M S T T 0) x l = some (l ++ wlF (cw M S T) k x)
  | k, x, 0, _, _, h, _ => by omega
  | 0, x, fuel + 1, l, hx, _, _ => by
    unfold f38_3
    rw [decide_eq_false (by omega)]
    simp [wlF]
  | k + 1, x, fuel + 1, l, hx, hf, hl => by
    have hfit : fitsB (l.length + 1) 16 = true := by
      simp only [fitsB, Bool.and_eq_true, Nat.ble_eq]; omega
    have hg := gF_len M S T T 0
    have h3 := f38_4_eq m l0 M S t x l (gF M S T T 0) (by omega) T 0 m 0 (by omega) (by omega) (by omega)
    rw [List.drop_zero, cI_all h hT1, Nat.zero_add] at h3
    rw [show ((0 : Nat) : Int) = (0 : Int) from rfl] at h3
    unfold f38_3
    rw [decide_eq_true (by omega), h3, hfit, w64_succ x (by omega)]
    simp only [cond_true, Option.bind_some]
    conv => rhs; unfold wlF
    by_cases c : 0 < cw M S T x
    · rw [decide_eq_true (by omega), if_pos c]
      simp only [cond_true]
      rw [f38_3_eq m M S T l0 t hm hM2 hT hT1 h k (x + 1) fuel _ (by omega) (by omega) (by simp; omega), List.append_assoc]
      rfl
    · rw [decide_eq_false (by omega), if_neg c]
      simp only [cond_false]
      rw [f38_3_eq m M S T l0 t hm hM2 hT hT1 h k (x + 1) fuel _ (by omega) (by omega) (by omega)]

theorem f38_1_eq (m M S o : Nat) (hm : 2000 < m) (g : Good M S 1 o) (h67 : ∀ t, f67 m M S t = some (o : Int)) : ∀ (k T fuel : Nat) (l : List Int), T + k = o + 1 → 1 ≤ T → k < fuel → l.length ≤ T →
    f38_1 m fuel M S l T = some (l ++ evL M S k T)
  | k, T, 0, _, _, _, h, _ => by omega
  | 0, T, fuel + 1, l, hT, _, _, _ => by
    unfold f38_1
    rw [h67]
    simp only [Option.bind_some]
    rw [decide_eq_false (by omega)]
    simp [evL]
  | k + 1, T, fuel + 1, l, hT, h1, hf, hl => by
    have g1 := g.m1
    have g2 := g.m2
    have g3 := g.s
    have g4 := g.om
    have hfit : fitsB (l.length + 1) 8 = true := by
      simp only [fitsB, Bool.and_eq_true, Nat.ble_eq]; omega
    have hTu := g.turns (n := T) (by omega)
    have e1 := f38_2_eq m M S T l (by omega) g2 (by omega) (by omega) hTu T 0 m [] (by omega) (by omega) (by simp)
    have e2 := f38_3_eq m M S T l T hm g2 (by omega) (by omega) hTu M 1 m [] (by omega) (by omega) (by simp)
    rw [List.nil_append, show ((0 : Nat) : Int) = (0 : Int) from rfl] at e1
    rw [List.nil_append, show ((1 : Nat) : Int) = (1 : Int) from rfl] at e2
    unfold f38_1
    rw [h67, f76_eq m M S T hm (by omega) g2 (by omega) (by omega)]
    simp only [Option.bind_some]
    rw [decide_eq_true (by omega), e1]
    simp only [Option.bind_some, cond_true]
    rw [e2, w64_succ T (by omega), hfit]
    simp only [Option.bind_some, cond_true]
    rw [f38_1_eq m M S o hm g h67 k (T + 1) fuel _ (by omega) (by omega) (by omega) (by simp; omega), f38_1_eq m M S o hm g h67 k (T + 1) fuel _ (by omega) (by omega) (by omega) (by omega)]
    conv => rhs; unfold evL
    by_cases c : (wlF (cw M S T) M 1).length ≤ 2
    · rw [if_pos c, decide_eq_true (by omega), List.append_assoc]
      rfl
    · rw [if_neg c, decide_eq_false (by omega)]
      rfl

theorem f38_eq (m M S o : Nat) (hm : 2000 < m) (g : Good M S 1 o) (h67 : ∀ t, f67 m M S t = some (o : Int)) : f38 m M S = some (evL M S o 1, 0) := by
  have g1 := g.m1
  have g2 := g.m2
  have g3 := g.s
  have g4 := g.om
  have h := f38_1_eq m M S o hm g h67 o 1 m [] (by omega) (by omega) (by omega) (by simp)
  rw [List.nil_append] at h
  unfold f38
  rw [f66_eq, decide_eq_true (p := 1 ≤ (M : Int) ∧ (M : Int) ≤ 100 ∧ 0 ≤ (S : Int) ∧ (S : Int) < (M : Int)) (by omega)]
  simp only [Option.bind_some, cond_true, bne_self_eq_false, cond_false]
  have h : f38_1 m m M S [] 1 = some (evL M S o 1) := h
  rw [h]
  rfl
end Go.Xm
