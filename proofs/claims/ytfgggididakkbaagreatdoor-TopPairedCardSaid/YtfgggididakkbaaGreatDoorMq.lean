/- The abstract machine, part 15: regions that draw their order: operations that read, and calls that touch nothing that was there, in any order; then one operation behind the other. Conditions: none; nothing here speaks of one program. -/
import Derived.Test.YtfgggididakkbaaGreatDoorMx
namespace Go.Xm
open Go.RowKit

section
variable {P : Program} {ops : Array Oper} {md : Region.Mode} {C : World → Prop}

def wpAnyLQ (P : Program) (md : Region.Mode) (ops : Array Oper) (C : World → Prop) (n : Nat) (L : Array Bool → Act → Prop) : Nat → Array Bool → Act → Prop
  | 0, listed, a => L listed a
  | f + 1, listed, a =>
    Region.ready md ops listed ≠ [] ∧ ∀ i ∈ Region.ready md ops listed, i < n ∧ qOp P ops C i (wpAnyLQ P md ops C n L f (listed.setIfInBounds i true)) a

theorem wpAny_of_headQ {n g : Nat} {L : Array Bool → Act → Prop} {Q' : Exit → Act → World → Prop} (hL : ∀ listed a w, C w → L listed a → wpAny P md ops Q' g listed a w) :
    ∀ (f : Nat) (listed : Array Bool) (a : Act) (w : World), C w → wpAnyLQ P md ops C n L f listed a → wpAny P md ops Q' (f + g) listed a w
  | 0, listed, a, w, hw, h => by rw [Nat.zero_add]; exact hL _ _ w hw h
  | f + 1, listed, a, w, hw, h => by
    rw [show f + 1 + g = (f + g) + 1 by omega]
    exact ⟨fun h0 => absurd h0 h.1, fun i hi => wpOp_of_qOp hw (fun a' w' hw' h' => wpAny_of_headQ hL f _ a' w' hw' h') (h.2 i hi).2⟩

theorem headQ_first {H T : List Nat} {t0 n i : Nat} {oi : Oper} {v : Value} {L : Array Bool → Act → Prop} (hi : ops[i]? = some oi) (hsel : ∀ (j : Nat) (o : Oper) cs b, ops[j]? = some o → o.op ≠ .select cs b)
    (hs : sinkP md ops H t0 = true) (hc : chainP md ops t0 T = true) (hn : n = ops.size) (hin : i ∈ H)
    (hdone : ∀ listed a, L listed a → ∀ j ∈ Region.ready md ops listed, j ∈ t0 :: T) :
    ∀ (f : Nat) (listed : Array Bool) (a : Act), PInv md ops (t0 :: T) listed →
      (∀ j oj, ops[j]? = some oj → j ≠ i → listed.getD j true = false → (∀ e ∈ oj.after, Region.binds md e = true → e.on ≠ i) → oi.apart ops oj = true) →
      i ∈ Region.ready md ops listed → YieldsIn P ops C oi v a →
      wpAnyLQ P md ops C n L f (listed.setIfInBounds i true) (a.put oi.dst v) → wpAnyLQ P md ops C n L (f + 1) listed a := by
  intro f
  induction f with
  | zero =>
    intro listed a inv _ hr hy H'
    have hun := (mem_ready.1 hr).1
    refine ⟨fun h => (by rw [h] at hr; cases hr), fun j hj => ?_⟩
    obtain ⟨_, oj, hoj, _⟩ := mem_ready.1 hj
    have hjn : j < n := by rw [hn]; exact (Array.getElem?_eq_some_iff.1 hoj).1
    refine ⟨hjn, ?_⟩
    by_cases hji : j = i
    · subst hji; exact hy.qOp hi H'
    · exact absurd hj (waits_tail hs hc inv _ i rfl hin hun j (hdone _ _ H' j (ready_mono hj hji)))
  | succ f ih =>
    intro listed a inv hfree hr hy H'
    have hun := (mem_ready.1 hr).1
    refine ⟨fun h => (by rw [h] at hr; cases hr), fun j hj => ?_⟩
    obtain ⟨hjun, oj, hoj, hall⟩ := mem_ready.1 hj
    have hjn : j < n := by rw [hn]; exact (Array.getElem?_eq_some_iff.1 hoj).1
    have hjT : j ∉ t0 :: T := fun q => waits_tail hs hc inv _ i rfl hin hun j q hj
    refine ⟨hjn, ?_⟩
    by_cases hji : j = i
    · subst hji; exact hy.qOp hi H'
    · have h1 := (H'.2 j (ready_mono hj hji)).2
      have hnot : ∀ e ∈ oj.after, Region.binds md e = true → e.on ≠ i := fun e he hb heq => by
        have h1 := hall e he hb
        rw [heq, getD_both hun] at h1
        cases h1
      have h2 := qOp_put hoj (hfree j oj hoj hji hjun hnot) (fun cs b => hsel i oi cs b hi) (fun cs b => hsel j oj cs b hoj) hy h1
      have hfree' : ∀ k ok, ops[k]? = some ok → k ≠ i → (listed.setIfInBounds j true).getD k true = false →
          (∀ e ∈ ok.after, Region.binds md e = true → e.on ≠ i) → oi.apart ops ok = true := fun k ok hk hki hun hno => by
        refine hfree k ok hk hki ?_ hno
        by_cases hjk : j = k
        · subst hjk; exact hjun
        · rw [getD_set_ne true hjk] at hun; exact hun
      refine qOp_mono (fun a' h3 => ih (listed.setIfInBounds j true) a' (inv.set hj hjT) hfree' (ready_mono hr (Ne.symm hji)) h3.1 ?_) h2
      rw [Array.setIfInBounds_comm _ _ hji]
      exact h3.2

theorem headQ_lex {H T : List Nat} {t0 n : Nat} {Lq : Act → Prop} (hsel : Region.noSelect ops = true) (hs : sinkP md ops H t0 = true) (hc : chainP md ops t0 T = true) (hn : n = ops.size) :
    ∀ (l : List Nat) (os : List Oper) (listed : Array Bool) (a : Act), l.map (fun i => ops[i]?) = os.map some → (∀ i ∈ l, i ∈ H ∧ i ∉ t0 :: T) → PInv md ops (t0 :: T) listed →
    headP md ops (t0 :: T) l listed = true → wpQuiet P ops C Lq os a →
    wpAnyLQ P md ops C n (fun listed' a' => seqP md ops (t0 :: T) listed' = true ∧ Lq a') l.length listed a
  | [], os, listed, a, hm, _, inv, hB, h => by
    have : os = [] := by cases os with | nil => rfl | cons => cases hm
    subst this
    exact ⟨hB, h⟩
  | i :: l, [], listed, a, hm, _, inv, hB, h => by cases hm
  | i :: l, o :: os, listed, a, hm, hlt, inv, hB, h => by
    simp only [List.map_cons, List.cons.injEq] at hm
    obtain ⟨h0, hm⟩ := hm
    simp only [headP, Bool.and_eq_true] at hB
    obtain ⟨⟨hr, hf⟩, hB'⟩ := hB
    obtain ⟨hin, hiT⟩ := hlt i (List.mem_cons_self ..)
    have hr' : i ∈ Region.ready md ops listed := by simpa using hr
    have hst : qOp P ops C i (wpQuiet P ops C Lq os) a := by unfold qOp; simp only [h0]; exact h
    obtain ⟨v, hy, hK⟩ := yieldsIn_of_qOp h0 hst
    exact headQ_first h0 (Region.noSelect_spec hsel) hs hc hn hin (fun listed' a' hL => seqP_ready hL.1) l.length listed a inv (Region.free_spec h0 hf) hr' hy
      (headQ_lex hsel hs hc hn l os _ _ hm (fun k hk => hlt k (List.mem_cons_of_mem _ hk)) (inv.set hr' hiT) hB' hK)

/-- First H in any order, then t0 and T. -/
def quietTailB (md : Region.Mode) (ops : Array Oper) (H : List Nat) (t0 : Nat) (T : List Nat) : Bool :=
  Region.noSelect ops && (H ++ t0 :: T).all (fun i => Nat.blt i ops.size) && Nat.beq (H.length + (T.length + 1)) ops.size &&
  H.all (fun i => !(t0 :: T).contains i) && sinkP md ops H t0 && chainP md ops t0 T && headP md ops (t0 :: T) H (Array.replicate ops.size false)

theorem wp_region_quiet_tail {id : Nat} {Q : Exit → Act → World → Prop} {a : Act} {w : World} {l : List Oper} (H : List Nat) (t0 : Nat) (T : List Nat) (hm : P.follows .mixedOrders = true) (hB : quietTailB .any l.toArray H t0 T = true) (hC : C { w with drawn := w.drawn + 1 })
    (h : wpQuiet P l.toArray C (fun a' => ∀ w', C w' → wpList P l.toArray Q (opsAt l (t0 :: T)) a' w') (opsAt l H) a) : (Code.region id l.toArray true).wp P Q a w := by
  simp only [quietTailB, Bool.and_eq_true] at hB
  obtain ⟨⟨⟨⟨⟨⟨hsel, hlt⟩, hlen⟩, hHT⟩, hs⟩, hc⟩, hlast⟩ := hB
  have hlt' : ∀ i ∈ H ++ t0 :: T, i < l.length := fun i hi => by
    have := List.all_eq_true.1 hlt i hi
    simpa [Nat.blt_eq] using this
  have hHT' : ∀ i ∈ H, i ∉ t0 :: T := fun i hi => by
    have := List.all_eq_true.1 hHT i hi
    simpa using this
  have hlen := Nat.eq_of_beq_eq_true hlen
  have inv0 : PInv .any l.toArray (t0 :: T) (Array.replicate l.toArray.size false) :=
    ⟨by simp, fun j oj _ hl => (by rw [getD_replicate_false] at hl; cases hl), fun t ht => getD_in (by simpa using hlt' t (by simp only [List.mem_append]; exact .inr ht)) (getD_replicate_false _ _)⟩
  refine wp_region_any hm ?_
  have H0 : wpAny P .any l.toArray Q (H.length + (T.length + 1)) (Array.replicate l.toArray.size false) a { w with drawn := w.drawn + 1 } := ?_
  · rw [hlen] at H0; exact H0
  have HH := headQ_lex (P := P) (C := C) (md := .any) (T := T) (t0 := t0) hsel hs hc rfl H (opsAt l H) _ a (opsAt_map _ (fun i hi => hlt' i (by simp only [List.mem_append]; exact .inl hi))) (fun i hi => ⟨hi, hHT' i hi⟩) inv0 hlast h
  exact wpAny_of_headQ (Q' := Q) (g := T.length + 1) (fun listed' a' w' hw' hL => any_of_seq (md := .any) (Q' := Q) (t0 :: T) (opsAt l (t0 :: T)) listed' a' w' (opsAt_map _ (fun i hi => hlt' i (by simp only [List.mem_append]; exact .inr hi))) hL.1 (hL.2 w' hw')) _ _ _ _ hC HH
end

theorem wpQuiet_other {P : Program} {ops ops' : Array Oper} {C : World → Prop} {Q Q' : Act → Prop} (hQ : ∀ a, Q a → Q' a) : ∀ (l : List Oper), freeOf l = true → ∀ a, wpQuiet P ops C Q l a → wpQuiet P ops' C Q' l a
  | [], _, a, h => hQ a h
  | o :: l, hf, a, h => by
    simp only [freeOf, List.all_cons, Bool.and_eq_true] at hf
    unfold wpQuiet at h ⊢
    rw [if_pos (free_wanted hf.1 _)] at h ⊢
    exact Oper.quiet_mono (fun a h => wpQuiet_other hQ l hf.2 a h) h

theorem XQ.qtail {E : Env} (hE : E.Ok) {nt k : Nat} {code : Code} (H : List Nat) (t0 : Nat) (T : List Nat) (hs : drawOf code = some true) (hB : quietTailB .any (opsOf code).toList.toArray H t0 T = true) (hf : freeOf (opsOf code).toList = true) {σ : St} {h : Heap} {c : Nat} {Q : QP}
    (hx : XU E nt (reOps (opsOf code) H) 0 σ h c (fun σ' => XR E nt k (reOps (opsOf code) (t0 :: T)) 0 σ' h c Q)) : XQ E nt k code σ h c Q := by
  cases code with
  | region id ops d =>
    cases hs
    intro B ρ a w h1 h2 h3 h4 h5 h6 h7
    have hb := drew_below w
    have hhd : HRel B ρ h w.drew := h2.keepB hb
    have hId : E.inv w.drew := hE.keepN (Nat.le_trans h5.1 h4) h6 hb
    have hf : freeOf ops.toList = true := hf
    have hB : quietTailB .any ops.toList.toArray H t0 T = true := hB
    have hwp := wp_region_quiet_tail (P := E.P) (C := fun w' => Below w.drew.heap.size w.drew w') (id := id) (Q := After k B nt ρ w a.defers Q) (a := a) (w := w) (l := ops.toList) H t0 T hE.mixed hB (Below.refl _ _) ?_
    · simpa using hwp
    · have key := hx ρ a w.drew B h1 hhd h3 (Nat.le_trans h5.1 h4) hId a.defers rfl
      refine wpQuiet_other ?_ (opsAt ops.toList H) (opsAt_free hf _) a key
      rintro a' ⟨σ', d1, s1, q1⟩ w' hw'
      have hb2 : Bel B w w' := (Bel.refl B w).drew.trans (Bel.of hw' h4)
      have := q1 B ρ a' w' s1 (hhd.keepB hw') h3 (Nat.le_trans h4 hw'.size) h5 (hE.keepN (Nat.le_trans h5.1 h4) hId hw') ρ w a.defers ⟨h7, fun _ _ => rfl⟩ hb2 d1
      exact wpList_other _ (opsAt_free hf _) a' w' this
  | _ => cases hs

/-! ### Regions that draw: operations that do not look at memory first, one by one -/
theorem wpPure_append {P : Program} {ops : Array Oper} {Q : Act → Prop} : ∀ (l l2 : List Oper) (a : Act), wpPure P ops (fun a' => wpPure P ops Q l2 a') l a → wpPure P ops Q (l ++ l2) a
  | [], _, _, h => h
  | _ :: l, l2, _, ⟨v, h1, h2⟩ => ⟨v, h1, wpPure_append l l2 _ h2⟩

theorem wpPure_other {P : Program} {ops ops' : Array Oper} {Q Q' : Act → Prop} (hQ : ∀ a, Q a → Q' a) : ∀ (l : List Oper), freeOf l = true → ∀ a, wpPure P ops Q l a → wpPure P ops' Q' l a
  | [], _, a, h => hQ a h
  | o :: l, hf, a, ⟨v, h1, h2⟩ => by
    simp only [freeOf, List.all_cons, Bool.and_eq_true] at hf
    refine ⟨v, ?_, wpPure_other hQ l hf.2 _ h2⟩
    rcases h1 with ⟨_, h1⟩ | ⟨h1, _⟩
    · exact .inl ⟨free_wanted hf.1 _, h1⟩
    · rw [free_wanted hf.1 _] at h1; cases h1

def XP (E : Env) (nt : Nat) (ops : Array Oper) (j : Nat) (σ : St) (Q : St → Prop) : Prop :=
  ∀ (ρ : Rho) (a : Act), SRel ρ nt σ a → ∀ ds : List Deferred, a.defers = ds → wpPure E.P ops (fun a' => ∃ σ', a'.defers = ds ∧ SRel ρ nt σ' a' ∧ Q σ') (ops.toList.drop j) a

theorem XP.done {E : Env} {nt : Nat} {ops : Array Oper} {j : Nat} (hj : Nat.ble ops.size j = true) {σ : St} {Q : St → Prop} (hq : Q σ) : XP E nt ops j σ Q := by
  intro ρ a h1 ds h2
  have : ops.toList.drop j = [] := List.drop_eq_nil_of_le (by simpa using hj)
  rw [this]
  exact ⟨σ, h2, h1, hq⟩

theorem XP.step {E : Env} (hE : E.Ok) {nt : Nat} {ops : Array Oper} {j : Nat} (i : Nat) (live : List Nat) {σ σ' : St} {Q : St → Prop} (hl : live.all (fun i => Nat.blt i nt) = true)
    (hr : obsT live (pops (((ops.toList.drop j).take i).map fun o => (isMove o, compG E nt ops.toList o)) (trS nt σ)) = some σ') (hx : XP E nt ops (j + i) σ' Q) : XP E nt ops j σ Q := by
  intro ρ a h1 ds h2
  cases hx0 : pops (((ops.toList.drop j).take i).map fun o => (isMove o, compG E nt ops.toList o)) (trS nt σ) with
  | none => rw [hx0] at hr; cases hr
  | some t2 =>
    rw [hx0] at hr
    cases hr
    have hlist : ops.toList.drop j = (ops.toList.drop j).take i ++ ops.toList.drop (j + i) := by
      rw [← List.drop_drop, List.take_append_drop]
    rw [hlist]
    refine wpPure_append _ _ a ?_
    have key := pops_ok hE (World.settled E.P default) (all := ops.toList) (Q := fun a' => wpPure E.P ops (fun a' => ∃ σ', a'.defers = ds ∧ SRel ρ nt σ' a' ∧ Q σ') (ops.toList.drop (j + i)) a') ((ops.toList.drop j).take i) _ t2 hx0 a h1.tr (fun a' d1 r1 => hx ρ a' (SRel.of_tr r1 hl) ds (d1.trans h2))
    have harr : ops.toList.toArray = ops := by simp
    rw [harr] at key
    exact key

theorem XP.rd {E : Env} (hE : E.Ok) {nt : Nat} {ops : Array Oper} {j : Nat} (hf : freeOf ops.toList = true) (live : List Nat) {σ σ' : St} {v : Value} {Q : St → Prop} (hl : live.all (fun i => Nat.blt i nt) = true) (hp : (plain v || ptrV v) = true)
    (hv : insV (headI ((gsOf E nt ops).drop j) (trS nt σ)) (trS nt σ) [] = some v) (hσ : readS (putX (insD (headI ((gsOf E nt ops).drop j) (trS nt σ))) v (trS nt σ)) live = σ')
    (hx : XP E nt ops (j + 1) σ' Q) : XP E nt ops j σ Q := by
  refine XP.step hE 1 live (σ' := σ') hl ?_ hx
  have e1 : (gsOf E nt ops).drop j = (ops.toList.drop j).map (compG E nt ops.toList) := by simp [gsOf, List.map_drop]
  rw [e1] at hv hσ
  cases hd : ops.toList.drop j with
  | nil => rw [hd] at hv; cases hv
  | cons o l =>
    rw [hd] at hv hσ
    have ho : o ∈ ops.toList := List.mem_of_mem_drop (i := j) (by rw [hd]; exact List.mem_cons_self ..)
    have hg : o.guard = none := by simpa using List.all_eq_true.1 hf o ho
    have ec : compG E nt ops.toList o = .ins (compOp E nt o) := by unfold compG; rw [hg]
    have hv' : insV (compOp E nt o) (trS nt σ) [] = some v := by
      have : headI ((o :: l).map (compG E nt ops.toList)) (trS nt σ) = compOp E nt o := by
        show headI (compG E nt ops.toList o :: _) _ = _
        rw [ec]; rfl
      rw [this] at hv; exact hv
    have hd' : insD (headI ((o :: l).map (compG E nt ops.toList)) (trS nt σ)) = insD (compOp E nt o) := by
      show insD (headI (compG E nt ops.toList o :: _) _) = _
      rw [ec]; rfl
    rw [hd'] at hσ
    have hpin : pins (isMove o) (.ins (compOp E nt o)) (trS nt σ) = some (putX (insD (compOp E nt o)) v (trS nt σ)) := by
      generalize compOp E nt o = ins at hv'
      cases ins with
      | rd d f =>
        have hf2 : f (trS nt σ) [] = some v := hv'
        show Option.casesOn (motive := fun _ => Option Tr) (f (trS nt σ) []) none (fun v => Bool.casesOn (isMove o || (plain v || ptrV v)) none (some (putX d v (trS nt σ)))) = _
        rw [hf2]
        show Bool.casesOn (motive := fun _ => Option Tr) (isMove o || (plain v || ptrV v)) none (some (putX d v (trS nt σ))) = _
        rw [hp, Bool.or_true]
        rfl
      | _ => cases hv'
    show obsT live (Option.casesOn (motive := fun _ => Option Tr) (pins (isMove o) (compG E nt ops.toList o) (trS nt σ)) none (pops [])) = some σ'
    rw [ec, hpin, ← hσ]
    rfl

theorem XQ.preP {E : Env} (hE : E.Ok) {nt k : Nat} {code : Code} (p H : List Nat) (t0 : Nat) (T : List Nat) (hs : drawOf code = some true) (hB : preTailB .any (opsOf code).toList.toArray p H t0 T = true) (hf : freeOf (opsOf code).toList = true)
    {σ : St} {h : Heap} {c : Nat} {Q : QP} (hx : XP E nt (reOps (opsOf code) p) 0 σ (fun σ' => XS E nt k (reOps (opsOf code) (H ++ t0 :: T)) H.length 0 σ' h c Q)) : XQ E nt k code σ h c Q := by
  cases code with
  | region id ops d =>
    cases hs
    intro B ρ a w h1 h2 h3 h4 h5 h6 h7
    have hb := drew_below w
    have hhd : HRel B ρ h w.drew := h2.keepB hb
    have hId : E.inv w.drew := hE.keepN (Nat.le_trans h5.1 h4) h6 hb
    have hf : freeOf ops.toList = true := hf
    have hB : preTailB .any ops.toList.toArray p H t0 T = true := hB
    have hlt : ∀ i ∈ H, i < ops.toList.length := by
      have hB2 := hB
      simp only [preTailB, Bool.and_eq_true] at hB2
      intro i hi
      have := List.all_eq_true.1 hB2.1.1.1.1.1.1.2 i (by simp only [List.mem_append]; exact .inl (.inr hi))
      simpa [Nat.blt_eq] using this
    have hlen : (opsAt ops.toList H).length = H.length := by
      have := congrArg List.length (opsAt_map (l := ops.toList) H hlt)
      simpa using this.symm
    have hwp := wp_region_pre (P := E.P) (id := id) (Q := After k B nt ρ w a.defers Q) (a := a) (w := w) (l := ops.toList) p H t0 T hE.mixed hB (fun cc a w ⟨e, _, _, _, _, q, _⟩ => by cases e <;> cases q) ?_
    · simpa using hwp
    · refine wpPure_other ?_ (opsAt ops.toList p) (opsAt_free hf _) a (hx ρ a h1 a.defers rfl)
      rintro a' ⟨σ', d1, s1, q1⟩
      have key := q1 B ρ a' w.drew s1 hhd h3 h4 h5 hId ρ w a.defers ⟨h7, fun _ _ => rfl⟩ (Bel.refl B w).drew d1
      have e1 : (reOps ops (H ++ t0 :: T)).toList = opsAt ops.toList H ++ opsAt ops.toList (t0 :: T) := by
        show (opsAt ops.toList (H ++ t0 :: T)).toArray.toList = _
        rw [opsAt_append]
      have e2 : (reOps (opsOf (.region id ops true)) (H ++ t0 :: T)) = reOps ops (H ++ t0 :: T) := rfl
      rw [e2, e1, ← hlen, List.take_left', List.drop_left', List.drop_zero] at key
      · exact wpStill_other (fun a h => wpList_other _ (opsAt_free hf _) a _ h) _ (opsAt_free hf _) a' key
      · rfl
      · rfl
  | _ => cases hs

end Go.Xm
