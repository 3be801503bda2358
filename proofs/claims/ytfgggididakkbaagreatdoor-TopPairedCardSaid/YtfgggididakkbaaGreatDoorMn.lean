/- The abstract machine, part 8b: regions that draw their order: operations that do not look at memory ahead of all others, then reads, then one operation behind the other. -/
import Derived.Test.YtfgggididakkbaaGreatDoorMh
namespace Go.Xm
open Go.RowKit

section
variable {P : Program} {ops : Array Oper} {md : Region.Mode} {w : World}

/-- Each of H is awaited by t0, in the end. -/
def sinkP (md : Region.Mode) (ops : Array Oper) (H : List Nat) (t0 : Nat) : Bool :=
  H.all fun i => Region.waitsFor md ops t0 i || H.any fun j => decide (i < j) && Region.waitsFor md ops j i

/-- Each of T behind the first one awaits another one of T. -/
def chainP (md : Region.Mode) (ops : Array Oper) (t0 : Nat) (T : List Nat) : Bool :=
  T.all fun t => (t0 :: T).any fun u => Region.waitsFor md ops t u

def PDone (p : List Nat) (listed : Array Bool) : Prop := ∀ i ∈ p, listed.getD i false = true

structure PInv (md : Region.Mode) (ops : Array Oper) (T : List Nat) (listed : Array Bool) : Prop where
  size : listed.size = ops.size
  closed : ∀ j oj, ops[j]? = some oj → listed.getD j false = true → ∀ e ∈ oj.after, Region.binds md e = true → listed.getD e.on false = true
  tail : ∀ t ∈ T, listed.getD t true = false

theorem PInv.set {T : List Nat} {i : Nat} {listed : Array Bool} (inv : PInv md ops T listed) (hi : i ∈ Region.ready md ops listed) (hiT : i ∉ T) : PInv md ops T (listed.setIfInBounds i true) := by
  obtain ⟨_, oi, hoi, hall⟩ := mem_ready.1 hi
  refine ⟨by simp [inv.size], fun j oj hj hl e he hb => ?_, fun t ht => by rw [getD_set_ne true (fun q => hiT (by subst q; exact ht))]; exact inv.tail t ht⟩
  by_cases hij : i = j
  · subst hij
    have : oj = oi := Option.some.inj (hj.symm.trans hoi)
    subst this
    exact getD_set_true (hall e he hb)
  · rw [getD_set_ne false hij] at hl
    exact getD_set_true (inv.closed j oj hj hl e he hb)

/-- While one of H is to come, none of T is ready. -/
theorem waits_tail {H T : List Nat} {t0 : Nat} {listed : Array Bool} (hs : sinkP md ops H t0 = true) (hc : chainP md ops t0 T = true) (inv : PInv md ops (t0 :: T) listed) :
    ∀ (d i : Nat), ops.size - i = d → i ∈ H → listed.getD i true = false → ∀ t ∈ t0 :: T, t ∉ Region.ready md ops listed := by
  intro d
  induction d using Nat.strongRecOn with
  | _ d ih =>
    intro i hd hi hun t ht hr
    obtain ⟨_, ot, hot, hall⟩ := mem_ready.1 hr
    rcases List.mem_cons.1 ht with htn | ht'
    · subst htn
      have h1 := List.all_eq_true.1 hs i hi
      simp only [Bool.or_eq_true] at h1
      rcases h1 with h1 | h1
      · obtain ⟨oj, hoj, e, he, hb, hon⟩ := Region.waitsFor_spec h1
        have : oj = ot := Option.some.inj (hoj.symm.trans hot)
        subst this
        have h2 := hall e he hb
        rw [hon, getD_both hun] at h2
        cases h2
      · obtain ⟨j, hj, hj2⟩ := List.any_eq_true.1 h1
        simp only [Bool.and_eq_true, decide_eq_true_eq] at hj2
        obtain ⟨oj, hoj, e, he, hb, hon⟩ := Region.waitsFor_spec hj2.2
        have hjs : j < ops.size := (Array.getElem?_eq_some_iff.1 hoj).1
        cases hl : listed.getD j false with
        | true =>
          have h2 := inv.closed j oj hoj hl e he hb
          rw [hon, getD_both hun] at h2
          cases h2
        | false => exact ih (ops.size - j) (by omega) j rfl hj (getD_in (by rw [inv.size]; exact hjs) hl) t (List.mem_cons_self ..) hr
    · have h1 := List.all_eq_true.1 hc t ht'
      obtain ⟨u, hu, hw⟩ := List.any_eq_true.1 h1
      obtain ⟨o', ho', e, he, hb, hon⟩ := Region.waitsFor_spec hw
      have : o' = ot := Option.some.inj (ho'.symm.trans hot)
      subst this
      have h2 := hall e he hb
      rw [hon, getD_both (inv.tail u hu)] at h2
      cases h2

/-- A read that is ready may come first. -/
theorem head_first {H T : List Nat} {t0 n i : Nat} {oi : Oper} {v : Value} {L : Array Bool → Act → Prop} (hi : ops[i]? = some oi) (hsel : ∀ (j : Nat) (o : Oper) cs b, ops[j]? = some o → o.op ≠ .select cs b)
    (hs : sinkP md ops H t0 = true) (hc : chainP md ops t0 T = true) (hn : n = ops.size) (hin : i ∈ H)
    (hdone : ∀ listed a, L listed a → ∀ j ∈ Region.ready md ops listed, j ∈ t0 :: T) :
    ∀ (f : Nat) (listed : Array Bool) (a : Act), PInv md ops (t0 :: T) listed →
      (∀ j oj, ops[j]? = some oj → j ≠ i → listed.getD j true = false → (∀ e ∈ oj.after, Region.binds md e = true → e.on ≠ i) → oi.apart ops oj = true) →
      i ∈ Region.ready md ops listed → YieldsAt P ops w oi v a →
      wpAnyL P md ops w n L f (listed.setIfInBounds i true) (a.put oi.dst v) → wpAnyL P md ops w n L (f + 1) listed a := by
  intro f
  induction f with
  | zero =>
    intro listed a inv _ hr hy H'
    have hun := (mem_ready.1 hr).1
    refine ⟨fun h => (by rw [h] at hr; cases hr), fun j hj => ?_⟩
    obtain ⟨_, oj, hoj, _⟩ := mem_ready.1 hj
    have hjn : j < n := by rw [hn]; exact (Array.getElem?_eq_some_iff.1 hoj).1
    refine ⟨hjn, ?_⟩
    by_cases hji : j = i
    · subst hji; exact hy.stOp hi H'
    · exact absurd hj (waits_tail hs hc inv _ i rfl hin hun j (hdone _ _ H' j (ready_mono hj hji)))
  | succ f ih =>
    intro listed a inv hfree hr hy H'
    have hun := (mem_ready.1 hr).1
    refine ⟨fun h => (by rw [h] at hr; cases hr), fun j hj => ?_⟩
    obtain ⟨hjun, oj, hoj, hall⟩ := mem_ready.1 hj
    have hjn : j < n := by rw [hn]; exact (Array.getElem?_eq_some_iff.1 hoj).1
    have hjT : j ∉ t0 :: T := fun q => waits_tail hs hc inv _ i rfl hin hun j q hj
    refine ⟨hjn, ?_⟩
    by_cases hji : j = i
    · subst hji; exact hy.stOp hi H'
    · have h1 := (H'.2 j (ready_mono hj hji)).2
      have hnot : ∀ e ∈ oj.after, Region.binds md e = true → e.on ≠ i := fun e he hb heq => by
        have h1 := hall e he hb
        rw [heq, getD_both hun] at h1
        cases h1
      have h2 := stOp_put hoj (hfree j oj hoj hji hjun hnot) (fun cs b => hsel i oi cs b hi) (fun cs b => hsel j oj cs b hoj) hy h1
      have hfree' : ∀ k ok, ops[k]? = some ok → k ≠ i → (listed.setIfInBounds j true).getD k true = false →
          (∀ e ∈ ok.after, Region.binds md e = true → e.on ≠ i) → oi.apart ops ok = true := fun k ok hk hki hun hno => by
        refine hfree k ok hk hki ?_ hno
        by_cases hjk : j = k
        · subst hjk; exact hjun
        · rw [getD_set_ne true hjk] at hun; exact hun
      refine stOp_mono (fun a' h3 => ih (listed.setIfInBounds j true) a' (inv.set hj hjT) hfree' (ready_mono hr (Ne.symm hji)) h3.1 ?_) h2
      rw [Array.setIfInBounds_comm _ _ hji]
      exact h3.2

def seqP (md : Region.Mode) (ops : Array Oper) : List Nat → Array Bool → Bool
  | [], listed => (Region.ready md ops listed).isEmpty
  | i :: l, listed => decide (Region.ready md ops listed = [i]) && seqP md ops l (listed.setIfInBounds i true)

theorem seqP_ready {T : List Nat} {t0 : Nat} {listed : Array Bool} (h : seqP md ops (t0 :: T) listed = true) : ∀ j ∈ Region.ready md ops listed, j ∈ t0 :: T := by
  intro j hj
  simp only [seqP, Bool.and_eq_true, decide_eq_true_eq] at h
  rw [h.1] at hj
  have : j = t0 := by simpa using hj
  subst this
  exact List.mem_cons_self ..

theorem any_of_seq {Q' : Exit → Act → World → Prop} : ∀ (l : List Nat) (os : List Oper) (listed : Array Bool) (a : Act) (w : World), l.map (fun i => ops[i]?) = os.map some →
    seqP md ops l listed = true → wpList P ops Q' os a w → wpAny P md ops Q' l.length listed a w
  | [], os, _, _, _, hm, hB, h => by
    have : os = [] := by cases os with | nil => rfl | cons => cases hm
    subst this
    exact ⟨by simpa [seqP] using hB, h⟩
  | i :: l, [], _, _, _, hm, _, _ => by cases hm
  | i :: l, o :: os, listed, a, w, hm, hB, h => by
    simp only [List.map_cons, List.cons.injEq] at hm
    obtain ⟨h0, hm⟩ := hm
    simp only [seqP, Bool.and_eq_true, decide_eq_true_eq] at hB
    refine ⟨fun h1 => (by rw [hB.1] at h1; cases h1), fun k hk => ?_⟩
    rw [hB.1] at hk
    have hik : k = i := by simpa using hk
    subst hik
    have hw : wpOp P ops Q' k (wpList P ops Q' os) a w := by unfold wpOp; simp only [h0]; exact h
    exact wpOp_mono (fun a' w' h' => any_of_seq l os _ a' w' hm hB.2 h') hw

/-- These in this order, then those of T one behind the other. -/
def headP (md : Region.Mode) (ops : Array Oper) (T : List Nat) : List Nat → Array Bool → Bool
  | [], listed => seqP md ops T listed
  | i :: l, listed => (Region.ready md ops listed).contains i && Region.free md ops listed i && headP md ops T l (listed.setIfInBounds i true)

theorem head_lex {H T : List Nat} {t0 n : Nat} {Lq : Act → Prop} (hsel : Region.noSelect ops = true) (hs : sinkP md ops H t0 = true) (hc : chainP md ops t0 T = true) (hn : n = ops.size) :
    ∀ (l : List Nat) (os : List Oper) (listed : Array Bool) (a : Act), l.map (fun i => ops[i]?) = os.map some → (∀ i ∈ l, i ∈ H ∧ i ∉ t0 :: T) → PInv md ops (t0 :: T) listed →
    headP md ops (t0 :: T) l listed = true → wpStill P ops w Lq os a →
    wpAnyL P md ops w n (fun listed' a' => seqP md ops (t0 :: T) listed' = true ∧ Lq a') l.length listed a
  | [], os, listed, a, hm, _, inv, hB, h => by
    have : os = [] := by cases os with | nil => rfl | cons => cases hm
    subst this
    exact ⟨hB, h⟩
  | i :: l, [], listed, a, hm, _, inv, hB, h => by cases hm
  | i :: l, o :: os, listed, a, hm, hlt, inv, hB, h => by
    simp only [List.map_cons, List.cons.injEq] at hm
    obtain ⟨h0, hm⟩ := hm
    simp only [headP, Bool.and_eq_true] at hB
    obtain ⟨⟨hr, hf⟩, hB'⟩ := hB
    obtain ⟨hin, hiT⟩ := hlt i (List.mem_cons_self ..)
    have hr' : i ∈ Region.ready md ops listed := by simpa using hr
    have hst : stOp P ops w i (wpStill P ops w Lq os) a := by unfold stOp; simp only [h0]; exact h
    obtain ⟨v, hy, hK⟩ := yieldsAt_of_stOp h0 hst
    exact head_first h0 (Region.noSelect_spec hsel) hs hc hn hin (fun listed' a' hL => seqP_ready hL.1) l.length listed a inv (Region.free_spec h0 hf) hr' hy
      (head_lex hsel hs hc hn l os _ _ hm (fun k hk => hlt k (List.mem_cons_of_mem _ hk)) (inv.set hr' hiT) hB' hK)

def preB (md : Region.Mode) (ops : Array Oper) : List Nat → Array Bool → Option (Array Bool)
  | [], listed => some listed
  | i :: l, listed => match ((Region.ready md ops listed).contains i && Region.free md ops listed i) with
    | true => preB md ops l (listed.setIfInBounds i true)
    | false => none

/-- Operations that give their value in every world. -/
def wpPure (P : Program) (ops : Array Oper) (Q : Act → Prop) : List Oper → Act → Prop
  | [], a => Q a
  | o :: l, a => ∃ v, Yields P ops o v a ∧ wpPure P ops Q l (a.put o.dst v)

theorem wpPure_mono {Q Q' : Act → Prop} (hQ : ∀ a, Q a → Q' a) : ∀ (l : List Oper) (a : Act), wpPure P ops Q l a → wpPure P ops Q' l a
  | [], a, h => hQ a h
  | _ :: l, _, ⟨v, h1, h2⟩ => ⟨v, h1, wpPure_mono hQ l _ h2⟩

theorem pre_lex {T : List Nat} {g : Nat} {Q : Exit → Act → World → Prop} (hQ : ∀ c a w, ¬ Q (.panic c) a w) (hsel : Region.noSelect ops = true) :
    ∀ (p : List Nat) (os : List Oper) (listed listed' : Array Bool) (a : Act), p.map (fun i => ops[i]?) = os.map some → (∀ i ∈ p, i ∉ T) → PInv md ops T listed → preB md ops p listed = some listed' →
    wpPure P ops (fun a' => PInv md ops T listed' → wpAny P md ops Q g listed' a' w) os a →
    wpAny P md ops Q (p.length + g) listed a w
  | [], os, listed, listed', a, hm, _, inv, hB, h => by
    have : os = [] := by cases os with | nil => rfl | cons => cases hm
    subst this
    cases hB
    rw [List.length_nil, Nat.zero_add]
    exact h inv
  | i :: p, [], listed, listed', a, hm, _, inv, hB, h => by cases hm
  | i :: p, o :: os, listed, listed', a, hm, hlt, inv, hB, h => by
    simp only [List.map_cons, List.cons.injEq] at hm
    obtain ⟨h0, hm⟩ := hm
    simp only [preB] at hB
    split at hB
    · rename_i hrf
      simp only [Bool.and_eq_true] at hrf
      obtain ⟨hr, hf⟩ := hrf
      have hr' : i ∈ Region.ready md ops listed := by simpa using hr
      obtain ⟨v, hy, hK⟩ := h
      rw [show (i :: p).length + g = (p.length + g) + 1 by simp only [List.length_cons]; omega]
      refine wpAny_first h0 (Region.noSelect_spec hsel) (fun c a w hq => absurd hq (hQ _ _ _)) (p.length + g) listed a w (Region.free_spec h0 hf) hr' hy ?_
      exact pre_lex hQ hsel p os _ listed' _ hm (fun k hk => hlt k (List.mem_cons_of_mem _ hk)) (inv.set hr' (hlt i (List.mem_cons_self ..))) hB hK
    · cases hB

noncomputable def opsAt (l : List Oper) (is : List Nat) : List Oper := is.filterMap fun i => l[i]?

theorem opsAt_map {l : List Oper} : ∀ (is : List Nat), (∀ i ∈ is, i < l.length) → is.map (fun i => l.toArray[i]?) = (opsAt l is).map some
  | [], _ => rfl
  | i :: is, h => by
    have hi := h i (List.mem_cons_self ..)
    have e : l[i]? = some l[i] := List.getElem?_eq_getElem hi
    have ih := opsAt_map is (fun k hk => h k (List.mem_cons_of_mem _ hk))
    simp only [opsAt, List.getElem?_toArray] at ih
    simp only [opsAt, List.map_cons, List.filterMap_cons, e, List.getElem?_toArray, ih]

/-- First p, then H, then t0 and T. -/
def preTailB (md : Region.Mode) (ops : Array Oper) (p H : List Nat) (t0 : Nat) (T : List Nat) : Bool :=
  Region.noSelect ops && (p ++ H ++ t0 :: T).all (fun i => Nat.blt i ops.size) && Nat.beq (p.length + (H.length + (T.length + 1))) ops.size &&
  p.all (fun i => !(t0 :: T).contains i) && H.all (fun i => !(t0 :: T).contains i) && sinkP md ops H t0 && chainP md ops t0 T &&
  (match preB md ops p (Array.replicate ops.size false) with
   | some listed => headP md ops (t0 :: T) H listed
   | none => false)

theorem wp_region_pre {id : Nat} {Q : Exit → Act → World → Prop} {a : Act} {w : World} {l : List Oper} (p H : List Nat) (t0 : Nat) (T : List Nat) (hm : P.follows .mixedOrders = true) (hB : preTailB .any l.toArray p H t0 T = true) (hQ : ∀ c a w, ¬ Q (.panic c) a w)
    (h : wpPure P l.toArray (wpStill P l.toArray { w with drawn := w.drawn + 1 } (fun a' => wpList P l.toArray Q (opsAt l (t0 :: T)) a' { w with drawn := w.drawn + 1 }) (opsAt l H)) (opsAt l p) a) : (Code.region id l.toArray true).wp P Q a w := by
  simp only [preTailB, Bool.and_eq_true] at hB
  obtain ⟨⟨⟨⟨⟨⟨⟨hsel, hlt⟩, hlen⟩, hpT⟩, hHT⟩, hs⟩, hc⟩, hlast⟩ := hB
  have hlt' : ∀ i ∈ p ++ H ++ t0 :: T, i < l.length := fun i hi => by
    have := List.all_eq_true.1 hlt i hi
    simpa [Nat.blt_eq] using this
  have hpT' : ∀ i ∈ p, i ∉ t0 :: T := fun i hi => by
    have := List.all_eq_true.1 hpT i hi
    simpa using this
  have hHT' : ∀ i ∈ H, i ∉ t0 :: T := fun i hi => by
    have := List.all_eq_true.1 hHT i hi
    simpa using this
  have hlen := Nat.eq_of_beq_eq_true hlen
  split at hlast
  · rename_i listed hpre
    have inv0 : PInv .any l.toArray (t0 :: T) (Array.replicate l.toArray.size false) :=
      ⟨by simp, fun j oj _ hl => (by rw [getD_replicate_false] at hl; cases hl), fun t ht => getD_in (by simpa using hlt' t (by simp only [List.mem_append]; exact .inr ht)) (getD_replicate_false _ _)⟩
    refine wp_region_any hm ?_
    have H0 : wpAny P .any l.toArray Q (p.length + (H.length + (T.length + 1))) (Array.replicate l.toArray.size false) a { w with drawn := w.drawn + 1 } := ?_
    · rw [hlen] at H0; exact H0
    refine pre_lex (T := t0 :: T) hQ hsel p (opsAt l p) _ listed a (opsAt_map p (fun i hi => hlt' i (by simp only [List.mem_append]; exact .inl (.inl hi)))) hpT' inv0 hpre (wpPure_mono (fun a1 h1 => ?_) _ _ h)
    intro i1
    have HH := head_lex (md := .any) (T := T) (t0 := t0) hsel hs hc rfl H (opsAt l H) listed a1 (opsAt_map _ (fun i hi => hlt' i (by simp only [List.mem_append]; exact .inl (.inr hi)))) (fun i hi => ⟨hi, hHT' i hi⟩) i1 hlast h1
    exact wpAny_of_head (Q' := Q) (g := T.length + 1) (fun listed' a' hL => any_of_seq (md := .any) (Q' := Q) (t0 :: T) (opsAt l (t0 :: T)) listed' a' { w with drawn := w.drawn + 1 } (opsAt_map _ (fun i hi => hlt' i (by simp only [List.mem_append]; exact .inr hi))) hL.1 hL.2) _ _ _ HH
  · cases hlast
end
end Go.Xm
