/- Small words for plain laws about decompiled functions. Conditions: none. -/
import Derived.Test.YtfimbmhannndaaaDoorTe
import Derived.Test.YtfimbmhannndaaaDoorMy
namespace Go.Xm
set_option linter.unusedVariables false
set_option linter.unusedSimpArgs false
set_option maxRecDepth 20000

theorem w64_id {x : Int} (h1 : -9223372036854775808 ≤ x) (h2 : x ≤ 9223372036854775807) : w64 x = x := IntWalk.i64_in _ ⟨h1, h2⟩
theorem w64i {x : Int} (h1 : -1000000000000 ≤ x) (h2 : x ≤ 1000000000000) : w64 x = x := w64_id (by omega) (by omega)
theorem inR {i n : Nat} (h : i < n) : inRow (i : Int) n = true := inRow_iff.2 ⟨by omega, by omega⟩
theorem fitsI {n b : Nat} (h : n ≤ 1000) (hb : b ≤ 1000) : fitsB n b = true := by
  have : n * b ≤ 1000 * 1000 := Nat.mul_le_mul h hb
  simp only [fitsB, Bool.and_eq_true, Nat.ble_eq]; omega
theorem nat_succ (i : Nat) (h : i ≤ 1000000) : w64 ((i : Int) + 1) = ((i + 1 : Nat) : Int) := by rw [w64i (by omega) (by omega)]; omega
theorem dcT {p : Prop} [Decidable p] (h : p) : decide p = true := decide_eq_true h
theorem dcF {p : Prop} [Decidable p] (h : ¬ p) : decide p = false := decide_eq_false h
theorem iMin_eq (x y : Int) : iMin x y = min x y := by unfold iMin; split <;> omega
theorem getD_mid {α : Type} (A : List α) (x : α) (R : List α) (d : α) {n : Nat} (h : n = A.length) : List.getD (A ++ x :: R) n d = x := by
  subst h
  simp [List.getD_eq_getElem?_getD]
theorem set_mid {α : Type} (A : List α) (x y : α) (R : List α) {n : Nat} (h : n = A.length) : List.set (A ++ x :: R) n y = A ++ y :: R := by
  subst h
  simp
theorem drop_getD {l : List Int} {i : Nat} (h : i < l.length) : l.drop i = l.getD i 0 :: l.drop (i + 1) := by
  rw [List.drop_eq_getElem_cons h]; simp [List.getD_eq_getElem?_getD, h]

/-! ### In descending order -/
def dsc (a : List Int) : List Int := (sortI a).reverse

theorem dsc_len (a : List Int) : (dsc a).length = a.length := by unfold dsc; rw [List.length_reverse, sortI_len]
theorem dsc_perm (a : List Int) : (dsc a).Perm a := (List.reverse_perm _).trans (sortI_perm a)
theorem dsc_pw (a : List Int) : (dsc a).Pairwise (· ≥ ·) := List.pairwise_reverse.2 ((sortI_asc a).imp fun h => h)
theorem dsc_uniq {a r : List Int} (h : r.Perm a) (hp : r.Pairwise (· ≥ ·)) : r = dsc a :=
  (h.trans (dsc_perm a).symm).eq_of_pairwise (le := (· ≥ ·)) (fun x y _ _ h1 h2 => by omega) hp (dsc_pw a)
theorem dsc_dsc (a : List Int) : dsc (dsc a) = dsc a := (dsc_uniq (List.Perm.refl _) (dsc_pw a)).symm
theorem dsc_of_perm {a b : List Int} (h : a.Perm b) : dsc a = dsc b := dsc_uniq ((dsc_perm a).trans h) (dsc_pw a)
theorem sortI_dsc (a : List Int) : sortI (dsc a) = sortI a := by
  have := dsc_dsc a
  unfold dsc at this ⊢
  have h := congrArg List.reverse this
  simpa using h

end Go.Xm
