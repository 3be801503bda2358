/- The abstract machine, more: what a call hands back, under other numbers. -/
import Derived.Test.YtlfobnldaneccaaGreatDoorNc
namespace Go.Xm
open Go.RowKit

/-- What is handed back, and the heap, under other numbers. -/
def RenO (c : Nat) (R : Value → Heap → Nat → Prop) (v : Value) (h : Heap) (_ : Nat) : Prop :=
  ∃ (s : List Nat) (v2 : Value) (h2 : Heap), s.Nodup ∧ s.take c = List.range c ∧ renV s v2 = v ∧ RenH s h h2 ∧ R v2 h2 s.length

theorem KC.renO {E : Env} {K : Nat} {args : List Value} {h : Heap} {c : Nat} {R : Value → Heap → Nat → Prop} (hx : KC E K args h c (RenO c R)) : KC E K args h c R := by
  intro B ρ w args' h1 h2 h3 h4 h5 h6
  obtain ⟨q1, q2⟩ := hx B ρ w args' h1 h2 h3 h4 h5 h6
  refine ⟨q1, q2.mono ?_⟩
  rintro en w' ⟨v, v', ρ', h', c', rfl, e2, e3, e4, e5, e6, s, v2, hh2, hn, hk, rfl, hr, hR⟩
  have hle : Rho.le ρ (renR s ρ') := by
    intro i L hi
    have hic : i < c := by have := (List.getElem?_eq_some_iff.1 hi).1; omega
    have g1 : s[i]? = some i := by
      have g2 : (s.take c)[i]? = some i := by rw [hk]; simp [hic]
      rw [List.getElem?_take, if_pos hic] at g2
      exact g2
    exact renR_at g1 (e3 i L hi)
  exact ⟨v2, v', renR s ρ', hh2, s.length, rfl, e2.renV, hle, by simp [renR], e5.ren hn hr, e6, hR⟩

end Go.Xm
