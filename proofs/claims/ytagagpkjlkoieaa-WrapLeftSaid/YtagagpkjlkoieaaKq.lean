/- Gaps, as the program returns them. Conditions: none. -/
import Derived.Test.YtagagpkjlkoieaaKf
import Derived.Test.YtagagpkjlkoieaaPj
namespace Go.Xm
set_option linter.unusedVariables false
set_option linter.unusedSimpArgs false

theorem f31_1_eq29 (m : Nat) (a b t : Int) : ∀ (fuel : Nat) (x p q : Int), f31_1 m fuel a b t x p q = f29_1 m fuel a b t x p q
  | 0, _, _, _ => rfl
  | fuel + 1, x, p, q => by
    unfold f31_1 f29_1
    simp only [f31_1_eq29 m a b t fuel]

theorem f31_2_eq (m M S T : Nat) (t : Int) (hM : 0 < M) (hM2 : M ≤ 100) (hS : S ≤ 100) (hT1 : 1 ≤ T) (hT : T ≤ 100) (h : Turns M T (mrk M S)) : ∀ (k x fuel : Nat) (l : List Int), x + k = T → k < fuel → l.length ≤ x →
    f31_2 m fuel M S t (tN M S T x : Int) T x T (bes M S T).1 (bes M S T).2 l = some (l ++ gF M S T k x)
  | k, x, 0, _, _, h, _ => by omega
  | 0, x, fuel + 1, l, hx, _, _ => by
    unfold f31_2
    rw [decide_eq_false (by omega)]
    simp [gF]
  | k + 1, x, fuel + 1, l, hx, hf, hl => by
    have hb := bes_le (M := M) (S := S) hT1
    have hu := tN_lt h (by omega) x
    have hfit : fitsB (l.length + 1) 8 = true := by
      simp only [fitsB, Bool.and_eq_true, Nat.ble_eq]; omega
    unfold f31_2
    rw [decide_eq_true (by omega), f77_eq m M S T _ t hM hM2 hS hT1 hT h hu, hfit, f69_eq m M S T _ _ _ (by omega) hu hb.1 hb.2, w64_succ x (by omega)]
    simp only [cond_true, Option.bind_some]
    have ih := f31_2_eq m M S T t hM hM2 hS hT1 hT h k (x + 1) fuel (l ++ [(gp M S T (tN M S T x) : Int)]) (by omega) (by omega) (by simp; omega)
    rw [show tN M S T (x + 1) = nextN T (bes M S T).1 (bes M S T).2 (tN M S T x) from rfl] at ih
    rw [ih, List.append_assoc]
    rfl

theorem f31_eq (m M S T o : Nat) (hm : 2000 < m) (g : Good M S T o) (h0 : f20 m M S T = some 0) : f31 m M S T = some (gF M S T T 0, 0) := by
  have g1 := g.m1
  have g2 := g.m2
  have g3 := g.s
  have g4 := g.om
  have g5 := g.to
  have g6 := g.t1
  have hT := g.turns g5
  unfold f31
  rw [h0, f31_1_eq29, f29_1_bes hm (by omega) (by omega) g6 (by omega)]
  simp only [Option.bind_some, bne_self_eq_false, cond_false]
  have h := f31_2_eq m M S T T (by omega) g2 (by omega) g6 (by omega) hT T 0 m [] (by omega) (by omega) (by simp)
  rw [show ((0 : Nat) : Int) = (0 : Int) from rfl, show tN M S T 0 = 0 from rfl, List.nil_append] at h
  rw [show ((0 : Int)) = ((0 : Nat) : Int) from rfl] at h ⊢
  rw [h]
  rfl
end Go.Xm
