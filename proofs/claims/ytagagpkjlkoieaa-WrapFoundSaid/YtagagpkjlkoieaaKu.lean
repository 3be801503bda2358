/- The list of marks; on the small road. Conditions: none. -/
import Derived.Test.YtagagpkjlkoieaaKm
import Derived.Test.YtagagpkjlkoieaaPq
namespace Go.Xm
set_option linter.unusedVariables false
set_option linter.unusedSimpArgs false

/-! The list of marks -/
def mks (M S : Nat) : Nat → Nat → List Int
  | 0, _ => []
  | k + 1, n => (mrk M S n : Int) :: mks M S k (n + 1)

theorem mks_len (M S : Nat) : ∀ k n, (mks M S k n).length = k
  | 0, _ => rfl
  | k + 1, n => by
    unfold mks
    rw [List.length_cons, mks_len M S k (n + 1)]

theorem mks_get (M S : Nat) : ∀ k n i, i < k → (mks M S k n).getD i 0 = (mrk M S (n + i) : Int)
  | 0, _, _, h => by omega
  | k + 1, n, 0, h => rfl
  | k + 1, n, i + 1, h => by
    have := mks_get M S k (n + 1) i (by omega)
    rw [show n + (i + 1) = n + 1 + i by omega]
    exact this

theorem f46_1_eq (m M S T : Nat) (hM : 0 < M) (hM2 : M ≤ 100) (hS : S < M) (hT : T ≤ 100) : ∀ (k n fuel : Nat) (l : List Int), n + k = T → k < fuel → l.length ≤ n →
    f46_1 m fuel M S T (mrk M S n : Int) n l = some (l ++ mks M S k n)
  | k, n, 0, _, _, h, _ => by omega
  | 0, n, fuel + 1, l, hn, _, _ => by
    unfold f46_1
    rw [decide_eq_false (by omega)]
    simp [mks]
  | k + 1, n, fuel + 1, l, hn, hf, hl => by
    have lm := mrk_lt (M := M) (S := S) n hM
    have c1 : ((M : Int) != 0) = true := by simp; omega
    have hfit : fitsB (l.length + 1) 8 = true := by
      simp only [fitsB, Bool.and_eq_true, Nat.ble_eq]; omega
    unfold f46_1
    rw [decide_eq_true (by omega), hfit, c1, w64_succ n (by omega), show (mrk M S n : Int) + (S : Int) = ((mrk M S n + S : Nat) : Int) by omega, natw (by omega), tmN, ← mrk_succ]
    simp only [cond_true]
    rw [f46_1_eq m M S T hM hM2 hS hT k (n + 1) fuel (l ++ [(mrk M S n : Int)]) (by omega) (by omega) (by simp; omega), List.append_assoc]
    rfl

theorem f46_eq (m M S T : Nat) (hm : 1000 < m) (hM : 0 < M) (hM2 : M ≤ 100) (hS : S < M) (hT : T ≤ 100) : f46 m M S T = some (mks M S T 0) := by
  have h := f46_1_eq m M S T hM hM2 hS hT T 0 m [] (by omega) (by omega) (by simp)
  rw [mrk_zero, List.nil_append] at h
  unfold f46
  rw [show ((0 : Int)) = ((0 : Nat) : Int) from rfl, h]
  rfl

end Go.Xm
