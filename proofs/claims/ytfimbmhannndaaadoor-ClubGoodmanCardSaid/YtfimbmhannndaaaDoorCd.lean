/- Small words for plain laws about decompiled functions. Conditions: none. -/
import Derived.Test.YtfimbmhannndaaaDoorTe
import Derived.Test.YtfimbmhannndaaaDoorMy
import Derived.Test.YtfimbmhannndaaaDoorDa
namespace Go.Xm
set_option linter.unusedVariables false
set_option linter.unusedSimpArgs false
set_option maxRecDepth 20000

theorem w64_id {x : Int} (h1 : -9223372036854775808 ≤ x) (h2 : x ≤ 9223372036854775807) : w64 x = x := IntWalk.i64_in _ ⟨h1, h2⟩
theorem w64i {x : Int} (h1 : -1000000000000 ≤ x) (h2 : x ≤ 1000000000000) : w64 x = x := w64_id (by omega) (by omega)
theorem inR {i n : Nat} (h : i < n) : inRow (i : Int) n = true := inRow_iff.2 ⟨by omega, by omega⟩
theorem fitsI {n b : Nat} (h : n ≤ 1000) (hb : b ≤ 1000) : fitsB n b = true := by
  have : n * b ≤ 1000 * 1000 := Nat.mul_le_mul h hb
  simp only [fitsB, Bool.and_eq_true, Nat.ble_eq]; omega
theorem nat_succ (i : Nat) (h : i ≤ 1000000) : w64 ((i : Int) + 1) = ((i + 1 : Nat) : Int) := by rw [w64i (by omega) (by omega)]; omega
theorem dcT {p : Prop} [Decidable p] (h : p) : decide p = true := decide_eq_true h
theorem dcF {p : Prop} [Decidable p] (h : ¬ p) : decide p = false := decide_eq_false h
theorem getD_mid {α : Type} (A : List α) (x : α) (R : List α) (d : α) {n : Nat} (h : n = A.length) : List.getD (A ++ x :: R) n d = x := by
  subst h
  simp [List.getD_eq_getElem?_getD]
theorem set_mid {α : Type} (A : List α) (x y : α) (R : List α) {n : Nat} (h : n = A.length) : List.set (A ++ x :: R) n y = A ++ y :: R := by
  subst h
  simp
/-! ### In descending order -/
def dsc (a : List Int) : List Int := (sortI a).reverse

theorem dsc_len (a : List Int) : (dsc a).length = a.length := by unfold dsc; rw [List.length_reverse, sortI_len]
theorem dsc_perm (a : List Int) : (dsc a).Perm a := (List.reverse_perm _).trans (sortI_perm a)
end Go.Xm
namespace Go.Xm
open Go.RowKit
set_option linter.unusedVariables false
set_option linter.unusedSimpArgs false
set_option maxRecDepth 20000

/-! vitola/vitolaref12.descending -/
/-! vitola/vitolaref12.stands -/
/-! vitola/vitolaref12.why -/
inductive Of64_1 where
 | r (x2_r1 : Int)
 | x0

/-! vitola/vitolaref12.can -/
end Go.Xm
namespace Go.Xm
open Go.RowKit
set_option linter.unusedVariables false
set_option linter.unusedSimpArgs false
set_option maxRecDepth 20000

/-! vitola/club.descending -/
/-! vitola/club.can -/
inductive Of59_2 where
 | r
 | x2 (n3_x22 : Nat) (c3_x22 : Nat) (lh1_x22 : List Int)

inductive Of59_1 where
 | r
 | x0

end Go.Xm
namespace Go.Xm
open Go.RowKit
set_option linter.unusedVariables false
set_option linter.unusedSimpArgs false
set_option maxRecDepth 20000

/-! vitola/club.Can -/
/-! vitola/club.Why -/
/-! vitola/club.Proves -/
/-! vitola/vitolaref12.Can -/
/-! vitola/vitolaref12.Why -/
/-! vitola/vitolaref12.Proves -/
end Go.Xm
namespace Go.Xm
set_option linter.unusedVariables false
set_option linter.unusedSimpArgs false
set_option maxRecDepth 20000

/-! ### Turned round -/
/-! ### What the code before does not look at -/
end Go.Xm
namespace Go.Xm
set_option linter.unusedVariables false
set_option linter.unusedSimpArgs false
set_option maxRecDepth 20000

end Go.Xm
namespace Go.Xm
set_option linter.unusedVariables false
set_option linter.unusedSimpArgs false
set_option maxRecDepth 20000

def Cts (l : List Int) : Prop := l.length ≤ 8 ∧ ∀ x ∈ l, 0 ≤ x ∧ x ≤ 7

theorem Cts.dsc {l : List Int} (h : Cts l) : Cts (dsc l) := ⟨by rw [dsc_len]; exact h.1, fun x hx => h.2 x ((dsc_perm l).mem_iff.1 hx)⟩
theorem Cts.get {l : List Int} (h : Cts l) (i : Nat) : 0 ≤ l.getD i 0 ∧ l.getD i 0 ≤ 7 := by
  by_cases hi : i < l.length
  · have e : l.getD i 0 = l[i] := by simp [List.getD_eq_getElem?_getD, hi]
    rw [e]; exact h.2 _ (List.getElem_mem hi)
  · have e : l.getD i 0 = 0 := by simp [List.getD_eq_getElem?_getD, List.getElem?_eq_none (Nat.le_of_not_lt hi)]
    rw [e]; omega

/-! ### The reference's sums -/
/-! ### Sums -/
/-! ### The first one that stands -/
end Go.Xm
namespace Go.Xm
set_option linter.unusedVariables false
set_option linter.unusedSimpArgs false
set_option maxRecDepth 100000

/-! ### Counts as natural numbers -/
def toI (l : List Nat) : List Int := l.map Int.ofNat
theorem toI_len (l : List Nat) : (toI l).length = l.length := List.length_map ..
theorem toI_append (a b : List Nat) : toI (a ++ b) = toI a ++ toI b := List.map_append ..
/-! ### What stands against counts, in natural numbers -/
end Go.Xm
