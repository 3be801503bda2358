/- The abstract machine, part 20: a row is told shorter, where only its beginning is handed on. Conditions: none; nothing here speaks of one program. -/
import Derived.Test.YtfgggididakkbaaGreatDoorMs
namespace Go.Xm
open Go.RowKit

theorem HRel.shrink {B : Bd} {ρ : Rho} {h : Heap} {w : World} (H : HRel B ρ h w) {i : Nat} {cs : List Value} {e : TypeId} {es : Nat} (hi : hget h i = some (.cells cs 0 e es)) (hes : es ≠ 0) (m : Nat) : HRel B ρ (hset h i (.cells (cs.take m) 0 e es)) w := by
  have hg := hget_hset hi (.cells (cs.take m) 0 e es)
  have f0 : ∀ l : List Value, frz (.cells l 0 e es) = false := fun l => by
    show Nat.blt l.length 0 = false
    cases hb : Nat.blt l.length 0 with
    | false => rfl
    | true => rw [Nat.blt_eq] at hb; omega
  refine ⟨fun j o hj => ?_, fun j k x y L L' hj hk hL hL' n1 n2 o1 o2 hz hb => ?_⟩
  · rw [hg] at hj
    by_cases ej : j = i
    · rw [if_pos ej] at hj
      cases hj
      subst ej
      obtain ⟨L, l1, l2, l3⟩ := H.ok j _ hi
      refine ⟨L, l1, fun _ => l2 (f0 cs), ?_⟩
      obtain ⟨q0, q | ⟨C, fr, q1, q2, q3, q4, q5, q6⟩⟩ := l3
      · exact ⟨q0, .inl ⟨q.1, by rw [q.2]; simp⟩⟩
      · have hl : (cs.take m).length ≤ cs.length := by rw [List.length_take]; omega
        refine ⟨q0, .inr ⟨C, fr, q1, q2, by omega, fun a v hv => ?_, q5, fun q => absurd (q0 ▸ q) hes⟩⟩
        rw [List.getElem?_take] at hv
        split at hv
        · exact q4 a v hv
        · cases hv
    · rw [if_neg ej] at hj
      exact H.ok j o hj
  · have old : ∀ z u, hget (hset h i (.cells (cs.take m) 0 e es)) z = some u → ∃ u', hget h z = some u' ∧ (∀ M, own ρ M u → own ρ M u') ∧ (frz u = false → frz u' = false) := by
      intro z u hz
      rw [hg] at hz
      by_cases ez : z = i
      · rw [if_pos ez] at hz
        cases hz
        subst ez
        exact ⟨_, hi, fun _ _ => trivial, fun _ => f0 cs⟩
      · rw [if_neg ez] at hz
        exact ⟨u, hz, fun _ q => q, id⟩
    obtain ⟨x', a1, a2, a3⟩ := old j x hj
    obtain ⟨y', b1, b2, b3⟩ := old k y hk
    exact H.inj j k x' y' L L' a1 b1 hL hL' n1 n2 (a2 L o1) (b2 L' o2) (hz.imp a3 b3) hb

/-- What is handed back is the beginning of a row. -/
def Shr {α : Type} (f : α → List Value) (s : Nat) (e : TypeId) (i : Nat) (R : Value → Heap → Nat → Prop) (v : Value) (h : Heap) (c : Nat) : Prop :=
  ∃ (xs : List α) (n cp : Nat) (h2 : Heap), v = .slice (some ⟨i, 0, none⟩) n cp ∧ hget h i = some (.cells (rowC f xs) 0 e s) ∧ n ≤ xs.length ∧ n ≤ cp ∧ hset h i (.cells (rowC f (xs.take n)) 0 e s) = h2 ∧ R (.slice (some ⟨i, 0, none⟩) (xs.take n).length (xs.take n).length) h2 c

theorem KC.shrink {α : Type} {f : α → List Value} {s : Nat} (hf : Enc f s) (hs1 : Nat.ble 1 s = true) {e : TypeId} (i : Nat) {E : Env} {K : Nat} {args : List Value} {h : Heap} {c : Nat} {R : Value → Heap → Nat → Prop} (hx : KC E K args h c (Shr f s e i R)) : KC E K args h c R := by
  have hs : s ≠ 0 := by rw [Nat.ble_eq] at hs1; omega
  intro B ρ w args' h1 h2 h3 h4 h5 h6
  obtain ⟨q1, q2⟩ := hx B ρ w args' h1 h2 h3 h4 h5 h6
  refine ⟨q1, q2.mono ?_⟩
  rintro en w' ⟨v, v', ρ', h', c', rfl, e2, e3, e4, e5, e6, xs, n, cp, hh2, rfl, hg, hn, hc, rfl, hR⟩
  have hl : (xs.take n).length = n := by rw [List.length_take]; omega
  rw [hl] at hR
  have hsh := e5.shrink hg hs (n * s)
  rw [rowC_take hf] at hsh
  refine ⟨_, v', ρ', _, c', rfl, ?_, e3, e4, hsh, e6, hR⟩
  cases e2 with
  | slice _ _ _ _ L o' cap' hL hz h0 hh1 =>
    obtain ⟨M, m1, _, m3⟩ := e5.ok i _ hg
    rw [hL] at m1; cases m1
    have hLes : L.es = s := m3.1
    obtain ⟨g1, g2, g3⟩ := hh1 (by rw [hLes]; exact hs)
    exact .slice i 0 n n L o' cap' hL (hz.imp id (fun q => by omega)) (fun q => absurd (hLes ▸ q) hs) (fun _ => ⟨by omega, g2, g3⟩)
  | sliceN _ _ L hL hes => exact .sliceN i 0 L hL hes

end Go.Xm
