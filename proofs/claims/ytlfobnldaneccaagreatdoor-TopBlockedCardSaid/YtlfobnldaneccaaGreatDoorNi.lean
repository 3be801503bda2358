/- The abstract machine: regions that draw their order: a quiet head in any order, then every order of what is left, operations behind guards too. Conditions: none; nothing here speaks of one program. -/
import Derived.Test.YtlfobnldaneccaaGreatDoorMr
namespace Go.Xm
open Go.RowKit
section
variable {P : Program} {ops : Array Oper} {md : Region.Mode} {C : World → Prop}
end
theorem XR.backR {E : Env} {nt k : Nat} {ops : Array Oper} {p : Nat} {α : Type} {f : α → List Value} {s : Nat} (hf : Enc f s) (hs1 : Nat.ble 1 s = true) (i j : Nat) {xs ys : List α} {e : TypeId} {σ : St} {h h' : Heap} {c : Nat} {Q : QP}
    (hi : hget h i = some (.was (rowC f xs) j 0 e s)) (hj : hget h j = some (.cells (rowC f (xs ++ ys)) 0 e s)) (hh : hset (hdel h j) i (.cells (rowC f xs) 0 e s) = h') (hx : XR E nt k ops p σ h' c Q) : XR E nt k ops p σ h c Q := by
  have hb : backH h i = h' := by
    rw [← hh]
    have b1 : Nat.beq e e = true := Nat.beq_refl e
    have b2 : Nat.beq s s = true := Nat.beq_refl s
    have b3 : (rowC f (xs ++ ys)).take (rowC f xs).length = rowC f xs := by rw [rowC_append, List.take_left]
    simp only [backH, hi, hj, b1, b2, hs1, b3, eqVs_refl (rowC_scal hf xs), Bool.and_self]
    rfl
  intro B ρ a w h1 h2 h3 h4 h5 h6 h7
  subst hb
  exact hx B ρ a w h1 (h2.backH i) h3 h4 h5 h6 h7
end Go.Xm
