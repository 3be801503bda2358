/- The abstract machine, more: a row whose last elements nothing asks for any more. -/
import Derived.Test.YtfgggididakkbaaGreatDoorMs
namespace Go.Xm
open Go.RowKit

theorem HRel.trim {B : Bd} {ρ : Rho} {h : Heap} {w : World} (H : HRel B ρ h w) {i : Nat} {cs cs' : List Value} {e : TypeId} {es : Nat} (hg : hget h i = some (.cells cs 0 e es)) (hes : es ≠ 0) (t : List Value) (ht : cs = cs' ++ t) : HRel B ρ (hset h i (.cells cs' 0 e es)) w := by
  have f1 : frz (.cells cs' 0 e es) = false := rfl
  have f0 : frz (.cells cs 0 e es) = false := rfl
  refine ⟨fun i' o hi => ?_, fun a b o o' L L' hi hj hL hL' n1 n2 o1 o2 hz hb => ?_⟩
  · rw [hget_hset hg] at hi
    by_cases ei : i' = i
    · rw [if_pos ei] at hi
      cases hi
      subst ei
      obtain ⟨L, q1, q2, q3, q4⟩ := H.ok i' _ hg
      refine ⟨L, q1, fun _ => q2 f0, q3, ?_⟩
      rcases q4 with ⟨q4, q5⟩ | ⟨C, fr, p1, p2, p3, p4, p5, p6⟩
      · refine .inl ⟨q4, ?_⟩
        rw [ht] at q5
        exact (List.append_eq_nil_iff.1 q5).1
      · refine .inr ⟨C, fr, p1, p2, ?_, fun k v hk => p4 k v ?_, p5, fun z => absurd (q3.symm.trans z) hes⟩
        · rw [ht, List.length_append] at p3; omega
        · rw [ht, List.getElem?_append_left (List.getElem?_eq_some_iff.1 hk).1]; exact hk
    · rw [if_neg ei] at hi
      exact H.ok i' o hi
  · have key : ∀ a o L, hget (hset h i (.cells cs' 0 e es)) a = some o → own ρ L o → ∃ u, hget h a = some u ∧ own ρ L u ∧ (frz o = false → frz u = false) := by
      intro a o L ha ho
      rw [hget_hset hg] at ha
      by_cases ea : a = i
      · rw [if_pos ea] at ha
        cases ha
        exact ⟨.cells cs 0 e es, by rw [ea]; exact hg, True.intro, fun _ => f0⟩
      · rw [if_neg ea] at ha
        exact ⟨o, ha, ho, id⟩
    obtain ⟨u, a1, a2, a3⟩ := key a o L hi o1
    obtain ⟨u', b1, b2, b3⟩ := key b o' L' hj o2
    exact H.inj a b u u' L L' a1 b1 hL hL' n1 n2 a2 b2 (hz.imp a3 b3) hb

/-- A slice of a row's first elements: the row is these. -/
theorem XQ.trimR {E : Env} {nt k : Nat} {code : Code} {α : Type} {g : α → List Value} (i : Nat) (e : TypeId) (es j : Nat) (l : List α) (n m : Nat) (hes : Nat.ble 1 es = true) {σ : St} {h : Heap} {c : Nat} {Q : QP}
    (hg : hget h i = some (.cells (rowC g l) 0 e es)) (hj : lookS σ j = some (.slice (some ⟨i, 0, none⟩) n m)) (hn : (Nat.ble n m && Nat.ble n l.length) = true)
    (hx : XQ E nt k code ((j, .slice (some ⟨i, 0, none⟩) (l.take n).length (l.take n).length) :: σ) (hset h i (.cells (rowC g (l.take n)) 0 e es)) c Q) : XQ E nt k code σ h c Q := by
  intro B ρ a w h1 h2 h3 h4 h5 h6 h7
  have hes' : es ≠ 0 := by have : 1 ≤ es := Nat.le_of_ble_eq_true hes
                           omega
  have hn' : n ≤ m := Nat.le_of_ble_eq_true (Bool.and_eq_true_iff.1 hn).1
  have hn2 : n ≤ l.length := Nat.le_of_ble_eq_true (Bool.and_eq_true_iff.1 hn).2
  have e1 : (l.take n).length = n := by rw [List.length_take]; omega
  have ht : rowC g l = rowC g (l.take n) ++ rowC g (l.drop n) := by
    rw [← rowC_append, List.take_append_drop]
  refine hx B ρ a w ⟨h1.1, h1.2.1, fun i' v hm' => ?_⟩ (h2.trim hg hes' _ ht) h3 h4 h5 h6 h7
  rcases List.mem_cons.1 hm' with e0 | e0
  · cases e0
    obtain ⟨q1, q2⟩ := h1.2.2 j _ (lookS_mem hj)
    refine ⟨q1, ?_⟩
    rw [e1]
    generalize a.tmps.getD j undef = x at q2 ⊢
    cases q2 with
    | slice _ _ _ _ L o' cap' p1 p2 p3 p4 =>
      obtain ⟨M, m1, _, m3, _⟩ := h2.ok i _ hg
      rw [p1] at m1; cases m1
      have hL : L.es ≠ 0 := by rw [m3]; exact hes'
      obtain ⟨r1, r2, r3⟩ := p4 hL
      exact .slice _ _ _ _ L o' cap' p1 (p2.imp id (fun ⟨z1, z2⟩ => ⟨z2, z2⟩)) (fun z => absurd z hL) (fun _ => ⟨by omega, r2, r3⟩)
    | sliceN _ _ L p1 p2 => exact .sliceN _ _ L p1 p2
  · exact h1.2.2 i' v e0

/-! ### Ways that meet again -/
/-- A way through conditions: 'some none' goes on to r, 'some (some v)' ends at v. -/
def jn {α : Type} (x : Option (Option α)) (r : Option α) : Option α := x.bind fun j => match j with | none => r | some v => some v

theorem jS {α : Type} {x : Option (Option α)} {r : Option α} {o : α} (h : jn x r = some o) : (x = some none ∧ r = some o) ∨ x = some (some o) := by
  cases x with
  | none => cases h
  | some j =>
    cases j with
    | none => exact .inl ⟨rfl, h⟩
    | some v =>
      have h : some v = some o := h
      cases h
      exact .inr rfl

theorem jN {α : Type} {x : Option α} (h : x.map some = some none) : False := by
  cases x with
  | none => cases h
  | some v => cases h

theorem jM {α : Type} {x : Option α} {o : α} (h : x.map some = some (some o)) : x = some o := by
  cases x with
  | none => cases h
  | some v => cases h; rfl

theorem jC {α : Type} {o : α} (h : (some none : Option (Option α)) = some (some o)) : False := by cases h

#print axioms XQ.trimR
end Go.Xm
