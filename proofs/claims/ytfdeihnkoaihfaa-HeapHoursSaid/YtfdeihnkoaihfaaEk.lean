/- A list is the same as itself. Conditions: none. -/
import Derived.Test.YtfdeihnkoaihfaaEy
namespace Go.Xm
set_option linter.unusedVariables false
set_option linter.unusedSimpArgs false
set_option maxRecDepth 20000

theorem f20_1_eq (m : Nat) (l : List Int) (h10 : l.length ≤ 1000) : ∀ (r i fuel : Nat), i + r = l.length → r < fuel → f20_1 m fuel l l (i : Int) = some .x0
  | 0, i, fuel + 1, hr, hf => by
    rw [f20_1, dcF (p := (i : Int) < ((l.length : Nat) : Int)) (by omega)]
    rfl
  | r + 1, i, fuel + 1, hr, hf => by
    have hi : i < l.length := by omega
    rw [f20_1, dcT (p := (i : Int) < ((l.length : Nat) : Int)) (by omega), inR hi, nat_succ i (by omega)]
    have : (List.getD l (Int.toNat (i : Int)) 0 != List.getD l (Int.toNat (i : Int)) 0) = false := by simp
    rw [this]
    exact f20_1_eq m l h10 r (i + 1) fuel (by omega) (by omega)

theorem f20_same (m : Nat) (hm : 1001 ≤ m) (l : List Int) (hl : l.length ≤ 1000) : f20 m l l = some true := by
  unfold f20
  have : ((((l.length : Nat) : Int)) != ((l.length : Nat) : Int)) = false := by simp
  rw [this]
  show (f20_1 m m l l ((0 : Nat) : Int)).bind _ = _
  rw [f20_1_eq m l hl l.length 0 m (by omega) (by omega)]
  rfl

end Go.Xm
