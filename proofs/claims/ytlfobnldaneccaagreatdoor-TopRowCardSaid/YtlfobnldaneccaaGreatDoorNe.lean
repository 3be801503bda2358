/- The abstract machine, more: the first part of a row as an argument of a call that only reads. -/
import Derived.Test.YtlfobnldaneccaaGreatDoorNd
import Derived.Test.YtlfobnldaneccaaGreatDoorMt
namespace Go.Xm
open Go.RowKit

/-- A block that is only read, told shorter. -/
theorem HRel.shrinkF {B : Bd} {ρ : Rho} {h : Heap} {w : World} (H : HRel B ρ h w) {i : Nat} {cs : List Value} {fz : Nat} {e : TypeId} {es : Nat} (hi : hget h i = some (.cells cs fz e es)) (hes : es ≠ 0) (hz : frz (.cells cs fz e es) = true) (m : Nat) : HRel B ρ (hset h i (.cells (cs.take m) fz e es)) w := by
  have hg := hget_hset hi (.cells (cs.take m) fz e es)
  have hl : (cs.take m).length ≤ cs.length := by rw [List.length_take]; omega
  have hz1 := frz_cells hz
  have hz2 : frz (.cells (cs.take m) fz e es) = true := by
    show Nat.blt (cs.take m).length fz = true
    rw [Nat.blt_eq]; omega
  refine ⟨fun j o hj => ?_, fun j k x y L L' hj hk hL hL' n1 n2 o1 o2 hz' hb => ?_⟩
  · rw [hg] at hj
    by_cases ej : j = i
    · rw [if_pos ej] at hj
      cases hj
      subst ej
      obtain ⟨L, l1, l2, l3⟩ := H.ok j _ hi
      refine ⟨L, l1, fun q => (by rw [hz2] at q; cases q), ?_⟩
      obtain ⟨q0, q | ⟨C, fr, q1, q2, q3, q4, q5, q6⟩⟩ := l3
      · exact ⟨q0, .inl ⟨q.1, by rw [q.2]; simp⟩⟩
      · refine ⟨q0, .inr ⟨C, fr, q1, q2, by omega, fun a v hv => ?_, q5, fun q => absurd (q0 ▸ q) hes⟩⟩
        rw [List.getElem?_take] at hv
        split at hv
        · exact q4 a v hv
        · cases hv
    · rw [if_neg ej] at hj
      exact H.ok j o hj
  · have old : ∀ z u, hget (hset h i (.cells (cs.take m) fz e es)) z = some u → ∃ u', hget h z = some u' ∧ (∀ M, own ρ M u → own ρ M u') ∧ (frz u = false → frz u' = false) := by
      intro z u hzu
      rw [hg] at hzu
      by_cases ez : z = i
      · rw [if_pos ez] at hzu
        cases hzu
        subst ez
        exact ⟨_, hi, fun _ _ => trivial, fun q => (by rw [hz2] at q; cases q)⟩
      · rw [if_neg ez] at hzu
        exact ⟨u, hzu, fun _ q => q, id⟩
    obtain ⟨x', a1, a2, a3⟩ := old j x hj
    obtain ⟨y', b1, b2, b3⟩ := old k y hk
    exact H.inj j k x' y' L L' a1 b1 hL hL' n1 n2 (a2 L o1) (b2 L' o2) (hz'.imp a3 b3) hb

/-- A call that only reads, one of whose arguments is the first part of a row. -/
theorem KC.quietT {α : Type} {f : α → List Value} {s1 : Nat} (hf : Enc f s1) (hs1 : Nat.ble 1 s1 = true) {E : Env} (hE : E.Ok) {K n : Nat} {args args0 : List Value} {V : Value} {h h0 h1 : Heap} (s : List Nat) (k : Nat) {xs : List α} {z : Nat} {e : TypeId} {m cap : Nat} (pre post : List Value)
    (hx : KC E K (pre ++ .slice (some ⟨k, 0, none⟩) (xs.take m).length (xs.take m).length :: post) h1 n (fun v _ _ => v = V)) (hm : Nat.ble m xs.length = true) (hcap : Nat.ble m cap = true) (hA : args0 = pre ++ .slice (some ⟨k, 0, none⟩) m cap :: post)
    (hg : hget h0 k = some (.cells (rowC f xs) (z + ((rowC f xs).length + 1)) e s1)) (hh1 : hset h0 k (.cells (rowC f (xs.take m)) (z + ((rowC f xs).length + 1)) e s1) = h1)
    (hV : plain V = true) (ha : args0.map (renV s) = args) (hn : s.Nodup) (hlen : s.length = n) (hk : keysOk h = true) (hh : RenH s (frzH h) h0) : KQ E K args h V := by
  have hs : s1 ≠ 0 := by rw [Nat.ble_eq] at hs1; omega
  rw [Nat.ble_eq] at hm hcap
  have hl : (xs.take m).length = m := by rw [List.length_take]; omega
  intro B ρ w args' hargs hH hG hI w' hb
  have H1 := ((hH.keepB hb).frozen hk w'.heap.size).ren hn hh
  have hc : Cells (renR s ρ) args0 args' := by
    subst ha
    refine ⟨by simpa using hargs.1, fun i v v' e1 e2 => ?_⟩
    exact (hargs.2 i (renV s v) v' (by simp [e1]) e2).renV
  have hz : frz (.cells (rowC f xs) (z + ((rowC f xs).length + 1)) e s1) = true := by
    show Nat.blt _ _ = true
    rw [Nat.blt_eq]; omega
  have H2 := H1.shrinkF hg hs hz (m * s1)
  rw [rowC_take hf, hh1] at H2
  have hc2 : Cells (renR s ρ) (pre ++ .slice (some ⟨k, 0, none⟩) (xs.take m).length (xs.take m).length :: post) args' := by
    subst hA
    rw [hl]
    refine ⟨by simpa using hc.1, fun i v v' e1 e2 => ?_⟩
    by_cases hi : i = pre.length
    · subst hi
      rw [List.getElem?_append_right (Nat.le_refl _), Nat.sub_self] at e1
      cases e1
      have h3 := hc.2 pre.length _ v' (by rw [List.getElem?_append_right (Nat.le_refl _), Nat.sub_self]; rfl) e2
      cases h3 with
      | slice _ _ _ _ L o' cap' hL hz h0 hh1 =>
        obtain ⟨M, m1, _, m3⟩ := H1.ok k _ hg
        rw [hL] at m1; cases m1
        have hLes : L.es = s1 := m3.1
        obtain ⟨g1, g2, g3⟩ := hh1 (by rw [hLes]; exact hs)
        exact .slice k 0 m m L o' cap' hL (hz.imp id (fun q => by omega)) (fun q => absurd (hLes ▸ q) hs) (fun _ => ⟨by omega, g2, g3⟩)
      | sliceN _ _ L hL hes => exact .sliceN k 0 L hL hes
    · refine hc.2 i v v' ?_ e2
      rw [← e1]
      by_cases hlt : i < pre.length
      · rw [List.getElem?_append_left hlt, List.getElem?_append_left hlt]
      · rw [List.getElem?_append_right (by omega), List.getElem?_append_right (by omega)]
        obtain ⟨j, hj⟩ : ∃ j, i - pre.length = j + 1 := ⟨i - pre.length - 1, by omega⟩
        rw [hj]; rfl
  obtain ⟨q1, q2⟩ := hx w'.heap.size (renR s ρ) w' args' hc2 H2 (by simpa [renR] using hlen) (Nat.le_refl _) (Bd.ge_at (Nat.le_trans hG hb.size)) (hE.keepN hG hI hb)
  refine ⟨q1, q2.mono ?_⟩
  rintro e w2 ⟨v, v', ρ', h', c', rfl, e2, e3, e4, e5, e6, rfl⟩
  exact ⟨by rw [e2.plain_eq hV], e6.below⟩

end Go.Xm
