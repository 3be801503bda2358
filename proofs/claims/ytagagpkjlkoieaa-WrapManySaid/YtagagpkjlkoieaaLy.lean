/- What the program's functions answer where one turn more begins. Conditions: none. -/
import Derived.Test.YtagagpkjlkoieaaLb
import Derived.Test.YtagagpkjlkoieaaQa
namespace Go.Xm
set_option linter.unusedVariables false
set_option linter.unusedSimpArgs false

theorem f22_1_eq29 (m : Nat) (a b t : Int) : ∀ (fuel : Nat) (x p q : Int), f22_1 m fuel a b t x p q = f29_1 m fuel a b t x p q
  | 0, _, _, _ => rfl
  | fuel + 1, x, p, q => by
    unfold f22_1 f29_1
    simp only [f22_1_eq29 m a b t fuel]

theorem f22_val {m M S T o b : Nat} (hm : 2000 < m) (g : Good M S 1 o) (h1 : 1 ≤ T) (h2 : T ≤ o) (hb : b < T) : f22 m M S T b = some ((nextN T (bes M S T).1 (bes M S T).2 b : Int), 0) := by
  have l1 := g.m1
  have l2 := g.m2
  have l3 := g.s
  have l5 := g.om
  have hbl := bes_le (M := M) (S := S) h1
  unfold f22
  rw [f20_0 (by omega) g h1 h2, f22_1_eq29, f29_1_bes hm (by omega) (by omega) h1 (by omega)]
  simp only [Option.bind_some, bne_self_eq_false, cond_false]
  rw [decide_eq_false (by omega), decide_eq_false (by omega), f69_eq m M S T _ _ b (by omega) hb hbl.1 hbl.2]
  rfl

/-! The greatest of a list -/
end Go.Xm
