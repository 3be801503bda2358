/- A call that is handed a map and writes it: its contract is at the one block that may change besides its own ones; at the caller the map has other entries. -/
import Derived.Test.YtlfobnldaneccaaGreatDoorNc
namespace Go.Xm
open Go.RowKit

theorem HRel.mapOf {B : Bd} {ρ : Rho} {h : Heap} {w : World} (H : HRel B ρ h w) (hk : keysOk h = true) {b : Nat} {o : XObj} (ho : hget h b = some o) (hz : frz o = false) {L : Loc} (hL : ρ[b]? = some L) : HRel ⟨w.heap.size, some L.b⟩ ρ ((b, o) :: frzH h) w := by
  have H1 := H.frozen hk ⟨w.heap.size, some L.b⟩
  have hfr : ∀ (cs : List Value) (fz : Nat) (e : TypeId) (es : Nat), frz (.cells cs (fz + (cs.length + 1)) e es) = true := fun cs fz e es => by
    show Nat.blt cs.length (fz + (cs.length + 1)) = true
    rw [Nat.blt_eq]; omega
  refine ⟨fun i o' hi => ?_, fun i j x y M M' h1 h2 h3 h4 n1 n2 s1 s2 hz' hb => ?_⟩
  · rw [hget_cons] at hi
    by_cases q : b = i
    · rw [if_pos q] at hi
      cases hi
      subst q
      obtain ⟨L', p1, p2, p3⟩ := H.ok b _ ho
      rw [hL] at p1; cases p1
      exact ⟨L, hL, fun _ => .inr rfl, p3⟩
    · rw [if_neg q] at hi
      exact H1.ok i o' hi
  · rw [hget_cons] at h1 h2
    by_cases q : b = i
    · by_cases q' : b = j
      · exact q.symm.trans q'
      · rw [if_pos q] at h1
        rw [if_neg q'] at h2
        cases h1
        subst q
        obtain ⟨cs, fz, e, es, rfl, g2⟩ := frzH_cells h hk j y h2
        rw [hL] at h3; cases h3
        exact H.inj b j _ _ L M' ho g2 hL h4 n1 n2 s1 True.intro (.inl hz) hb
    · rw [if_neg q] at h1
      by_cases q' : b = j
      · rw [if_pos q'] at h2
        cases h2
        subst q'
        obtain ⟨cs, fz, e, es, rfl, g2⟩ := frzH_cells h hk i x h1
        rw [hL] at h4; cases h4
        exact H.inj i b _ _ M L g2 ho h3 hL n1 n2 True.intro s2 (.inr hz) hb
      · rw [if_neg q'] at h2
        exact H1.inj i j x y M M' h1 h2 h3 h4 n1 n2 s1 s2 hz' hb

/-- A call that is handed a map (number b of the caller's heap, number i0 of its own) and leaves other entries in it. -/
theorem KC.liftM {E : Env} {K n0 c b i0 : Nat} {args args0 : List Value} {V : Value} {h h0 h2 : Heap} {l l' : List (List Int × Value)} (s0 : List Nat) (hx : KC E K args0 h0 n0 (fun v h' _ => v = V ∧ hget h' i0 = some (.imap l'))) (hV : plain V = true)
    (ha : args0.map (renV s0) = args) (hn0 : s0.Nodup) (hlen : s0.length = n0) (hk : keysOk h = true) (hb : hget h b = some (.imap l)) (hs : s0[i0]? = some b) (hh0 : RenH s0 ((b, .imap l) :: frzH h) h0) (h2e : hset h b (.imap l') = h2) :
    KC E K args h c (fun v h' c' => v = V ∧ h' = h2 ∧ c' = c) := by
  intro B ρ w args' hargs hH hρ hB hG hI
  obtain ⟨L, hL, hmay, hO⟩ := hH.ok b _ hb
  have hmay : B.may L.b := hmay rfl
  obtain ⟨sh0, es0, M0, clk0, hm0, _, _, _⟩ := id hO
  have hn : ¬ L.gho := fun q => q.1 es0
  have hlt : L.b < w.heap.size := (Array.getElem?_eq_some_iff.1 hm0).1
  have H1 := (hH.mapOf hk hb rfl hL).ren hn0 hh0
  have hc : Cells (renR s0 ρ) args0 args' := by
    subst ha
    refine ⟨by simpa using hargs.1, fun i v v' e1 e2 => ?_⟩
    exact (hargs.2 i (renV s0 v) v' (by simp [e1]) e2).renV
  have hG' : Bd.ge ⟨w.heap.size, some L.b⟩ E.G := ⟨Nat.le_trans hG.1 hB, fun m q => by
    cases q
    rcases hmay with q | q
    · exact Nat.le_trans hG.1 q
    · exact hG.2 _ q⟩
  obtain ⟨q1, q2⟩ := hx ⟨w.heap.size, some L.b⟩ (renR s0 ρ) w args' hc H1 (by simpa [renR] using hlen) (Nat.le_refl _) hG' hI
  refine ⟨q1, q2.mono ?_⟩
  rintro e w' ⟨v, v', ρ', h', c', rfl, e2, e3, e4, e5, e6, rfl, e8⟩
  subst h2e
  have hstay : ∀ k, k < w.heap.size → k ≠ L.b → w'.heap[k]? = w.heap[k]? := fun k hk1 hk2 => e6.block k (fun q => by
    rcases q with q | q
    · exact absurd (Nat.lt_of_lt_of_le hk1 q) (Nat.lt_irrefl _)
    · exact hk2 (by cases q; rfl))
  have hL' : ρ'[i0]? = some L := e3 i0 L (renR_at hs hL)
  obtain ⟨L2, r1, _, r3⟩ := e5.ok i0 _ e8
  rw [hL'] at r1; cases r1
  have hO' : OOk ρ w' L (.imap l') := r3
  refine ⟨v, v', ρ, hset h b (.imap l'), c, rfl, ?_, Rho.le_refl ρ, hρ, hH.set hb hL hn hmay hstay hO' rfl, ?_, rfl, rfl, rfl⟩
  · rw [e2.plain_eq hV]; exact VRel.plain_refl ρ hV
  · refine ⟨e6.os, e6.tape, e6.output, e6.size, fun k hk1 => e6.block k (fun q => hk1 ?_)⟩
    rcases q with q | q
    · exact .inl (Nat.le_trans hB q)
    · cases q; exact hmay

end Go.Xm
