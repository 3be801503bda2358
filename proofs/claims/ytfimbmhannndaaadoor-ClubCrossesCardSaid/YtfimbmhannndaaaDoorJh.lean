/- Cross of club: it answers as the reference does. Plain Lean. Conditions: none. -/
import Derived.Test.YtfimbmhannndaaaDoorJg
import Derived.Test.YtfimbmhannndaaaDoorIc
namespace Go.Xm
set_option linter.unusedVariables false
set_option linter.unusedSimpArgs false
set_option maxRecDepth 20000

theorem sB_fl {r : List Nat} (h : ∀ x ∈ r, x < 256) {a b : Nat} (ha : a < 8) (hb : b < 8) : sB (sB (toI r) (a : Int) (b : Int)) (b : Int) (a : Int) = toI (fl r a b) := by
  show List.set (List.set (toI r) a (xorV .u64 (List.getD (toI r) a 0) (shV true .u64 1 (b : Int)))) b (xorV .u64 (List.getD (List.set (toI r) a (xorV .u64 (List.getD (toI r) a 0) (shV true .u64 1 (b : Int)))) b 0) (shV true .u64 1 (a : Int))) = _
  rw [set_flip h hb, set_flip (flip_lt h hb) ha]; rfl

theorem f30_1_two (m : Nat) (hm : 1001 ≤ m) (T : List (Int × Int)) {k : Nat} (h8 : k ≤ 8) {r : List Nat} (hr : r.length = k) (h : ∀ x ∈ r, x < 256) {a d u v : Nat} (ka : a < k) (kd : d < k) (ku : u < k) (kv : v < k) :
    f30_1 m m T 0 (toI r) [(a : Int), (d : Int)] [(u : Int), (v : Int)] = some (toI (fl (fl r a u) d v), [(a : Int), (d : Int)], [(u : Int), (v : Int)]) := by
  obtain ⟨f, rfl⟩ : ∃ f, m = f + 3 := ⟨m - 3, by omega⟩
  have l1 : (toI r).length = k := by rw [toI_len, hr]
  have l2 : (toI (fl r a u)).length = k := by rw [toI_len, fl_len, hr]
  have lt1 := fl_lt h (show a < 8 by omega) (show u < 8 by omega)
  have e3 : ∀ L : List Int, f30_1 (f + 3) (f + 1) T 2 L [(a : Int), (d : Int)] [(u : Int), (v : Int)] = some (L, [(a : Int), (d : Int)], [(u : Int), (v : Int)]) := fun L => by rw [f30_1]; rfl
  have e2 : f30_1 (f + 3) (f + 2) T 1 (toI (fl r a u)) [(a : Int), (d : Int)] [(u : Int), (v : Int)] = f30_1 (f + 3) (f + 1) T 2 (toI (fl (fl r a u) d v)) [(a : Int), (d : Int)] [(u : Int), (v : Int)] := by
    rw [f30_1]
    show cond (inRow (d : Int) (toI (fl r a u)).length) (cond (decide (0 ≤ (v : Int))) (cond (inRow (v : Int) (toI (fl r a u)).length) (cond (decide (0 ≤ (d : Int))) (f30_1 (f + 3) (f + 1) T 2 (sB (sB (toI (fl r a u)) (d : Int) (v : Int)) (v : Int) (d : Int)) [(a : Int), (d : Int)] [(u : Int), (v : Int)]) none) none) none) none = _
    rw [l2, inR kd, inR kv, dcT (by omega), dcT (by omega), sB_fl lt1 (by omega) (by omega)]; rfl
  rw [f30_1]
  show cond (inRow (a : Int) (toI r).length) (cond (decide (0 ≤ (u : Int))) (cond (inRow (u : Int) (toI r).length) (cond (decide (0 ≤ (a : Int))) (f30_1 (f + 3) (f + 2) T 1 (sB (sB (toI r) (a : Int) (u : Int)) (u : Int) (a : Int)) [(a : Int), (d : Int)] [(u : Int), (v : Int)]) none) none) none) none = _
  rw [l1, inR ka, inR ku, dcT (by omega), dcT (by omega), sB_fl h (by omega) (by omega)]
  show f30_1 (f + 3) (f + 2) T 1 (toI (fl r a u)) [(a : Int), (d : Int)] [(u : Int), (v : Int)] = _
  rw [e2, e3]

end Go.Xm
