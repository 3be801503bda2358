/- The heaps of the reference are the same. Conditions: none. -/
import Derived.Test.YtfdeihnkoaihfaaEy
namespace Go.Xm
set_option linter.unusedVariables false
set_option linter.unusedSimpArgs false
set_option maxRecDepth 20000

/-! ### The same heaps for the reference -/
theorem f17_1_eq (m : Nat) (l : List Hp) (h10 : l.length ≤ 900) : ∀ (r i fuel : Nat), i + r = l.length → r < fuel → f17_1 m fuel l (i : Int) (l.take i) = some l
  | 0, i, fuel + 1, hr, hf => by
    rw [f17_1, dcF (p := (i : Int) < ((l.length : Nat) : Int)) (by omega), List.take_of_length_le (by omega)]
    rfl
  | r + 1, i, fuel + 1, hr, hf => by
    have hi : i < l.length := by omega
    rw [f17_1, dcT (p := (i : Int) < ((l.length : Nat) : Int)) (by omega), inR hi, getDi l hi, nat_succ i (by omega), fitsI (n := (l.take i).length + 1) (by rw [List.length_take]; omega) (by omega)]
    have : l.take i ++ [((l[i]).1, (l[i]).2)] = l.take (i + 1) := by rw [List.take_succ_eq_append_getElem hi]
    show f17_1 m fuel l ((i + 1 : Nat) : Int) (l.take i ++ [((l[i]).1, (l[i]).2)]) = _
    rw [this]
    exact f17_1_eq m l h10 r (i + 1) fuel (by omega) (by omega)

theorem f17_eq (m : Nat) (hm : 1001 ≤ m) (l : List Hp) (hl : l.length ≤ 900) : f17 m l = some l := by
  unfold f17
  show (f17_1 m m l ((0 : Nat) : Int) (l.take 0)).bind _ = _
  rw [f17_1_eq m l hl l.length 0 m (by omega) (by omega)]
  rfl

end Go.Xm
