/- The abstract machine, part 16: append of a row of any length: the answer has a new number, whether a block is made or not. Conditions: none; nothing here speaks of one program. -/
import Derived.Test.YtlfobnldaneccaaGreatDoorMx
namespace Go.Xm
open Go.RowKit
end Go.Xm
namespace Go.Xm
open Go.RowKit
section
variable {P : Program} {ops : Array Oper} {md : Region.Mode} {C : World → Prop}
def wpAnyLQ (P : Program) (md : Region.Mode) (ops : Array Oper) (C : World → Prop) (n : Nat) (L : Array Bool → Act → Prop) : Nat → Array Bool → Act → Prop
  | 0, listed, a => L listed a
  | f + 1, listed, a =>
    Region.ready md ops listed ≠ [] ∧ ∀ i ∈ Region.ready md ops listed, i < n ∧ qOp P ops C i (wpAnyLQ P md ops C n L f (listed.setIfInBounds i true)) a
theorem wpAny_of_headQ {n g : Nat} {L : Array Bool → Act → Prop} {Q' : Exit → Act → World → Prop} (hL : ∀ listed a w, C w → L listed a → wpAny P md ops Q' g listed a w) :
    ∀ (f : Nat) (listed : Array Bool) (a : Act) (w : World), C w → wpAnyLQ P md ops C n L f listed a → wpAny P md ops Q' (f + g) listed a w
  | 0, listed, a, w, hw, h => by rw [Nat.zero_add]; exact hL _ _ w hw h
  | f + 1, listed, a, w, hw, h => by
    rw [show f + 1 + g = (f + g) + 1 by omega]
    exact ⟨fun h0 => absurd h0 h.1, fun i hi => wpOp_of_qOp hw (fun a' w' hw' h' => wpAny_of_headQ hL f _ a' w' hw' h') (h.2 i hi).2⟩
theorem headQ_first {H T : List Nat} {t0 n i : Nat} {oi : Oper} {v : Value} {L : Array Bool → Act → Prop} (hi : ops[i]? = some oi) (hsel : ∀ (j : Nat) (o : Oper) cs b, ops[j]? = some o → o.op ≠ .select cs b)
    (hs : sinkP md ops H t0 = true) (hc : chainP md ops t0 T = true) (hn : n = ops.size) (hin : i ∈ H)
    (hdone : ∀ listed a, L listed a → ∀ j ∈ Region.ready md ops listed, j ∈ t0 :: T) :
    ∀ (f : Nat) (listed : Array Bool) (a : Act), PInv md ops (t0 :: T) listed →
      (∀ j oj, ops[j]? = some oj → j ≠ i → listed.getD j true = false → (∀ e ∈ oj.after, Region.binds md e = true → e.on ≠ i) → oi.apart ops oj = true) →
      i ∈ Region.ready md ops listed → YieldsIn P ops C oi v a →
      wpAnyLQ P md ops C n L f (listed.setIfInBounds i true) (a.put oi.dst v) → wpAnyLQ P md ops C n L (f + 1) listed a := by
  intro f
  induction f with
  | zero =>
    intro listed a inv _ hr hy H'
    have hun := (mem_ready.1 hr).1
    refine ⟨fun h => (by rw [h] at hr; cases hr), fun j hj => ?_⟩
    obtain ⟨_, oj, hoj, _⟩ := mem_ready.1 hj
    have hjn : j < n := by rw [hn]; exact (Array.getElem?_eq_some_iff.1 hoj).1
    refine ⟨hjn, ?_⟩
    by_cases hji : j = i
    · subst hji; exact hy.qOp hi H'
    · exact absurd hj (waits_tail hs hc inv _ i rfl hin hun j (hdone _ _ H' j (ready_mono hj hji)))
  | succ f ih =>
    intro listed a inv hfree hr hy H'
    have hun := (mem_ready.1 hr).1
    refine ⟨fun h => (by rw [h] at hr; cases hr), fun j hj => ?_⟩
    obtain ⟨hjun, oj, hoj, hall⟩ := mem_ready.1 hj
    have hjn : j < n := by rw [hn]; exact (Array.getElem?_eq_some_iff.1 hoj).1
    have hjT : j ∉ t0 :: T := fun q => waits_tail hs hc inv _ i rfl hin hun j q hj
    refine ⟨hjn, ?_⟩
    by_cases hji : j = i
    · subst hji; exact hy.qOp hi H'
    · have h1 := (H'.2 j (ready_mono hj hji)).2
      have hnot : ∀ e ∈ oj.after, Region.binds md e = true → e.on ≠ i := fun e he hb heq => by
        have h1 := hall e he hb
        rw [heq, getD_both hun] at h1
        cases h1
      have h2 := qOp_put hoj (hfree j oj hoj hji hjun hnot) (fun cs b => hsel i oi cs b hi) (fun cs b => hsel j oj cs b hoj) hy h1
      have hfree' : ∀ k ok, ops[k]? = some ok → k ≠ i → (listed.setIfInBounds j true).getD k true = false →
          (∀ e ∈ ok.after, Region.binds md e = true → e.on ≠ i) → oi.apart ops ok = true := fun k ok hk hki hun hno => by
        refine hfree k ok hk hki ?_ hno
        by_cases hjk : j = k
        · subst hjk; exact hjun
        · rw [getD_set_ne true hjk] at hun; exact hun
      refine qOp_mono (fun a' h3 => ih (listed.setIfInBounds j true) a' (inv.set hj hjT) hfree' (ready_mono hr (Ne.symm hji)) h3.1 ?_) h2
      rw [Array.setIfInBounds_comm _ _ hji]
      exact h3.2
theorem headQ_lex {H T : List Nat} {t0 n : Nat} {Lq : Act → Prop} (hsel : Region.noSelect ops = true) (hs : sinkP md ops H t0 = true) (hc : chainP md ops t0 T = true) (hn : n = ops.size) :
    ∀ (l : List Nat) (os : List Oper) (listed : Array Bool) (a : Act), l.map (fun i => ops[i]?) = os.map some → (∀ i ∈ l, i ∈ H ∧ i ∉ t0 :: T) → PInv md ops (t0 :: T) listed →
    headP md ops (t0 :: T) l listed = true → wpQuiet P ops C Lq os a →
    wpAnyLQ P md ops C n (fun listed' a' => seqP md ops (t0 :: T) listed' = true ∧ Lq a') l.length listed a
  | [], os, listed, a, hm, _, inv, hB, h => by
    have : os = [] := by cases os with | nil => rfl | cons => cases hm
    subst this
    exact ⟨hB, h⟩
  | i :: l, [], listed, a, hm, _, inv, hB, h => by cases hm
  | i :: l, o :: os, listed, a, hm, hlt, inv, hB, h => by
    simp only [List.map_cons, List.cons.injEq] at hm
    obtain ⟨h0, hm⟩ := hm
    simp only [headP, Bool.and_eq_true] at hB
    obtain ⟨⟨hr, hf⟩, hB'⟩ := hB
    obtain ⟨hin, hiT⟩ := hlt i (List.mem_cons_self ..)
    have hr' : i ∈ Region.ready md ops listed := by simpa using hr
    have hst : qOp P ops C i (wpQuiet P ops C Lq os) a := by unfold qOp; simp only [h0]; exact h
    obtain ⟨v, hy, hK⟩ := yieldsIn_of_qOp h0 hst
    exact headQ_first h0 (Region.noSelect_spec hsel) hs hc hn hin (fun listed' a' hL => seqP_ready hL.1) l.length listed a inv (Region.free_spec h0 hf) hr' hy
      (headQ_lex hsel hs hc hn l os _ _ hm (fun k hk => hlt k (List.mem_cons_of_mem _ hk)) (inv.set hr' hiT) hB' hK)
def quietTailB (md : Region.Mode) (ops : Array Oper) (H : List Nat) (t0 : Nat) (T : List Nat) : Bool :=
  Region.noSelect ops && (H ++ t0 :: T).all (fun i => Nat.blt i ops.size) && Nat.beq (H.length + (T.length + 1)) ops.size &&
  H.all (fun i => !(t0 :: T).contains i) && sinkP md ops H t0 && chainP md ops t0 T && headP md ops (t0 :: T) H (Array.replicate ops.size false)
theorem wp_region_quiet_tail {id : Nat} {Q : Exit → Act → World → Prop} {a : Act} {w : World} {l : List Oper} (H : List Nat) (t0 : Nat) (T : List Nat) (hm : P.follows .mixedOrders = true) (hB : quietTailB .any l.toArray H t0 T = true) (hC : C { w with drawn := w.drawn + 1 })
    (h : wpQuiet P l.toArray C (fun a' => ∀ w', C w' → wpList P l.toArray Q (opsAt l (t0 :: T)) a' w') (opsAt l H) a) : (Code.region id l.toArray true).wp P Q a w := by
  simp only [quietTailB, Bool.and_eq_true] at hB
  obtain ⟨⟨⟨⟨⟨⟨hsel, hlt⟩, hlen⟩, hHT⟩, hs⟩, hc⟩, hlast⟩ := hB
  have hlt' : ∀ i ∈ H ++ t0 :: T, i < l.length := fun i hi => by
    have := List.all_eq_true.1 hlt i hi
    simpa [Nat.blt_eq] using this
  have hHT' : ∀ i ∈ H, i ∉ t0 :: T := fun i hi => by
    have := List.all_eq_true.1 hHT i hi
    simpa using this
  have hlen := Nat.eq_of_beq_eq_true hlen
  have inv0 : PInv .any l.toArray (t0 :: T) (Array.replicate l.toArray.size false) :=
    ⟨by simp, fun j oj _ hl => (by rw [getD_replicate_false] at hl; cases hl), fun t ht => getD_in (by simpa using hlt' t (by simp only [List.mem_append]; exact .inr ht)) (getD_replicate_false _ _)⟩
  refine wp_region_any hm ?_
  have H0 : wpAny P .any l.toArray Q (H.length + (T.length + 1)) (Array.replicate l.toArray.size false) a { w with drawn := w.drawn + 1 } := ?_
  · rw [hlen] at H0; exact H0
  have HH := headQ_lex (P := P) (C := C) (md := .any) (T := T) (t0 := t0) hsel hs hc rfl H (opsAt l H) _ a (opsAt_map _ (fun i hi => hlt' i (by simp only [List.mem_append]; exact .inl hi))) (fun i hi => ⟨hi, hHT' i hi⟩) inv0 hlast h
  exact wpAny_of_headQ (Q' := Q) (g := T.length + 1) (fun listed' a' w' hw' hL => any_of_seq (md := .any) (Q' := Q) (t0 :: T) (opsAt l (t0 :: T)) listed' a' w' (opsAt_map _ (fun i hi => hlt' i (by simp only [List.mem_append]; exact .inr hi))) hL.1 (hL.2 w' hw')) _ _ _ _ hC HH
end
theorem wpQuiet_other {P : Program} {ops ops' : Array Oper} {C : World → Prop} {Q Q' : Act → Prop} (hQ : ∀ a, Q a → Q' a) : ∀ (l : List Oper), freeOf l = true → ∀ a, wpQuiet P ops C Q l a → wpQuiet P ops' C Q' l a
  | [], _, a, h => hQ a h
  | o :: l, hf, a, h => by
    simp only [freeOf, List.all_cons, Bool.and_eq_true] at hf
    unfold wpQuiet at h ⊢
    rw [if_pos (free_wanted hf.1 _)] at h ⊢
    exact Oper.quiet_mono (fun a h => wpQuiet_other hQ l hf.2 a h) h
theorem XQ.qtail {E : Env} (hE : E.Ok) {nt k : Nat} {code : Code} (H : List Nat) (t0 : Nat) (T : List Nat) (hs : drawOf code = some true) (hB : quietTailB .any (opsOf code).toList.toArray H t0 T = true) (hf : freeOf (opsOf code).toList = true) {σ : St} {h : Heap} {c : Nat} {Q : QP}
    (hx : XU E nt (reOps (opsOf code) H) 0 σ h c (fun σ' => XR E nt k (reOps (opsOf code) (t0 :: T)) 0 σ' h c Q)) : XQ E nt k code σ h c Q := by
  cases code with
  | region id ops d =>
    cases hs
    intro B ρ a w h1 h2 h3 h4 h5 h6 h7
    have hb := drew_below w
    have hhd : HRel B ρ h w.drew := h2.keepB hb
    have hId : E.inv w.drew := hE.keepN (Nat.le_trans h5.1 h4) h6 hb
    have hf : freeOf ops.toList = true := hf
    have hB : quietTailB .any ops.toList.toArray H t0 T = true := hB
    have hwp := wp_region_quiet_tail (P := E.P) (C := fun w' => Below w.drew.heap.size w.drew w') (id := id) (Q := After k B nt ρ w a.defers Q) (a := a) (w := w) (l := ops.toList) H t0 T hE.mixed hB (Below.refl _ _) ?_
    · simpa using hwp
    · have key := hx ρ a w.drew B h1 hhd h3 (Nat.le_trans h5.1 h4) hId a.defers rfl
      refine wpQuiet_other ?_ (opsAt ops.toList H) (opsAt_free hf _) a key
      rintro a' ⟨σ', d1, s1, q1⟩ w' hw'
      have hb2 : Bel B w w' := (Bel.refl B w).drew.trans (Bel.of hw' h4)
      have := q1 B ρ a' w' s1 (hhd.keepB hw') h3 (Nat.le_trans h4 hw'.size) h5 (hE.keepN (Nat.le_trans h5.1 h4) hId hw') ρ w a.defers ⟨h7, fun _ _ => rfl⟩ hb2 d1
      exact wpList_other _ (opsAt_free hf _) a' w' this
  | _ => cases hs
theorem wpPure_append {P : Program} {ops : Array Oper} {Q : Act → Prop} : ∀ (l l2 : List Oper) (a : Act), wpPure P ops (fun a' => wpPure P ops Q l2 a') l a → wpPure P ops Q (l ++ l2) a
  | [], _, _, h => h
  | _ :: l, l2, _, ⟨v, h1, h2⟩ => ⟨v, h1, wpPure_append l l2 _ h2⟩
theorem wpPure_other {P : Program} {ops ops' : Array Oper} {Q Q' : Act → Prop} (hQ : ∀ a, Q a → Q' a) : ∀ (l : List Oper), freeOf l = true → ∀ a, wpPure P ops Q l a → wpPure P ops' Q' l a
  | [], _, a, h => hQ a h
  | o :: l, hf, a, ⟨v, h1, h2⟩ => by
    simp only [freeOf, List.all_cons, Bool.and_eq_true] at hf
    refine ⟨v, ?_, wpPure_other hQ l hf.2 _ h2⟩
    rcases h1 with ⟨_, h1⟩ | ⟨h1, _⟩
    · exact .inl ⟨free_wanted hf.1 _, h1⟩
    · rw [free_wanted hf.1 _] at h1; cases h1
def XP (E : Env) (nt : Nat) (ops : Array Oper) (j : Nat) (σ : St) (Q : St → Prop) : Prop :=
  ∀ (ρ : Rho) (a : Act), SRel ρ nt σ a → ∀ ds : List Deferred, a.defers = ds → wpPure E.P ops (fun a' => ∃ σ', a'.defers = ds ∧ SRel ρ nt σ' a' ∧ Q σ') (ops.toList.drop j) a
theorem XP.done {E : Env} {nt : Nat} {ops : Array Oper} {j : Nat} (hj : Nat.ble ops.size j = true) {σ : St} {Q : St → Prop} (hq : Q σ) : XP E nt ops j σ Q := by
  intro ρ a h1 ds h2
  have : ops.toList.drop j = [] := List.drop_eq_nil_of_le (by simpa using hj)
  rw [this]
  exact ⟨σ, h2, h1, hq⟩
theorem XP.step {E : Env} (hE : E.Ok) {nt : Nat} {ops : Array Oper} {j : Nat} (i : Nat) (live : List Nat) {σ σ' : St} {Q : St → Prop} (hl : live.all (fun i => Nat.blt i nt) = true)
    (hr : obsT live (pops (((ops.toList.drop j).take i).map fun o => (isMove o, compG E nt ops.toList o)) (trS nt σ)) = some σ') (hx : XP E nt ops (j + i) σ' Q) : XP E nt ops j σ Q := by
  intro ρ a h1 ds h2
  cases hx0 : pops (((ops.toList.drop j).take i).map fun o => (isMove o, compG E nt ops.toList o)) (trS nt σ) with
  | none => rw [hx0] at hr; cases hr
  | some t2 =>
    rw [hx0] at hr
    cases hr
    have hlist : ops.toList.drop j = (ops.toList.drop j).take i ++ ops.toList.drop (j + i) := by
      rw [← List.drop_drop, List.take_append_drop]
    rw [hlist]
    refine wpPure_append _ _ a ?_
    have key := pops_ok hE (World.settled E.P default) (all := ops.toList) (Q := fun a' => wpPure E.P ops (fun a' => ∃ σ', a'.defers = ds ∧ SRel ρ nt σ' a' ∧ Q σ') (ops.toList.drop (j + i)) a') ((ops.toList.drop j).take i) _ t2 hx0 a h1.tr (fun a' d1 r1 => hx ρ a' (SRel.of_tr r1 hl) ds (d1.trans h2))
    have harr : ops.toList.toArray = ops := by simp
    rw [harr] at key
    exact key
theorem XP.rd {E : Env} (hE : E.Ok) {nt : Nat} {ops : Array Oper} {j : Nat} (hf : freeOf ops.toList = true) (live : List Nat) {σ σ' : St} {v : Value} {Q : St → Prop} (hl : live.all (fun i => Nat.blt i nt) = true) (hp : (plain v || ptrV v) = true)
    (hv : insV (headI ((gsOf E nt ops).drop j) (trS nt σ)) (trS nt σ) [] = some v) (hσ : readS (putX (insD (headI ((gsOf E nt ops).drop j) (trS nt σ))) v (trS nt σ)) live = σ')
    (hx : XP E nt ops (j + 1) σ' Q) : XP E nt ops j σ Q := by
  refine XP.step hE 1 live (σ' := σ') hl ?_ hx
  have e1 : (gsOf E nt ops).drop j = (ops.toList.drop j).map (compG E nt ops.toList) := by simp [gsOf, List.map_drop]
  rw [e1] at hv hσ
  cases hd : ops.toList.drop j with
  | nil => rw [hd] at hv; cases hv
  | cons o l =>
    rw [hd] at hv hσ
    have ho : o ∈ ops.toList := List.mem_of_mem_drop (i := j) (by rw [hd]; exact List.mem_cons_self ..)
    have hg : o.guard = none := by simpa using List.all_eq_true.1 hf o ho
    have ec : compG E nt ops.toList o = .ins (compOp E nt o) := by unfold compG; rw [hg]
    have hv' : insV (compOp E nt o) (trS nt σ) [] = some v := by
      have : headI ((o :: l).map (compG E nt ops.toList)) (trS nt σ) = compOp E nt o := by
        show headI (compG E nt ops.toList o :: _) _ = _
        rw [ec]; rfl
      rw [this] at hv; exact hv
    have hd' : insD (headI ((o :: l).map (compG E nt ops.toList)) (trS nt σ)) = insD (compOp E nt o) := by
      show insD (headI (compG E nt ops.toList o :: _) _) = _
      rw [ec]; rfl
    rw [hd'] at hσ
    have hpin : pins (isMove o) (.ins (compOp E nt o)) (trS nt σ) = some (putX (insD (compOp E nt o)) v (trS nt σ)) := by
      generalize compOp E nt o = ins at hv'
      cases ins with
      | rd d f =>
        have hf2 : f (trS nt σ) [] = some v := hv'
        show Option.casesOn (motive := fun _ => Option Tr) (f (trS nt σ) []) none (fun v => Bool.casesOn (isMove o || (plain v || ptrV v)) none (some (putX d v (trS nt σ)))) = _
        rw [hf2]
        show Bool.casesOn (motive := fun _ => Option Tr) (isMove o || (plain v || ptrV v)) none (some (putX d v (trS nt σ))) = _
        rw [hp, Bool.or_true]
        rfl
      | _ => cases hv'
    show obsT live (Option.casesOn (motive := fun _ => Option Tr) (pins (isMove o) (compG E nt ops.toList o) (trS nt σ)) none (pops [])) = some σ'
    rw [ec, hpin, ← hσ]
    rfl
end Go.Xm
namespace Go.Xm
open Go.RowKit
theorem eqV0_refl {a : Value} (h : scal a = true) : eqV0 a a = true := by
  cases a with
  | bool b => cases b <;> rfl
  | _ => simp_all [scal, eqV0]
theorem eqVs0_refl : ∀ {l : List Value}, l.all scal = true → eqVs0 l l = true
  | [], _ => rfl
  | a :: l, h => by
    simp only [List.all_cons, Bool.and_eq_true] at h
    simp only [eqVs0, eqV0_refl h.1, eqVs0_refl h.2, Bool.and_self]
theorem eqV_refl {a : Value} (h : flt a = true) : eqV a a = true := by
  unfold flt at h
  split at h
  · rename_i b; exact eqV0_refl (a := .bool b) (by rfl)
  · rename_i k n; exact eqV0_refl (a := .int k n) (by rfl)
  · rename_i s; exact eqV0_refl (a := .string s) (by rfl)
  · simp only [eqV, eqVs0_refl h, decide_true, Bool.and_self]
  · cases h
theorem eqVs_refl : ∀ {l : List Value}, l.all flt = true → eqVs l l = true
  | [], _ => rfl
  | a :: l, h => by
    simp only [List.all_cons, Bool.and_eq_true] at h
    simp only [eqVs, eqV_refl h.1, eqVs_refl h.2, Bool.and_self]
theorem XQ.backR {E : Env} {nt k : Nat} {code : Code} {α : Type} {f : α → List Value} {s : Nat} (hf : Enc f s) (hs1 : Nat.ble 1 s = true) (i j : Nat) {xs ys : List α} {e : TypeId} {σ : St} {h h' : Heap} {c : Nat} {Q : QP}
    (hi : hget h i = some (.was (rowC f xs) j 0 e s)) (hj : hget h j = some (.cells (rowC f (xs ++ ys)) 0 e s)) (hh : hset (hdel h j) i (.cells (rowC f xs) 0 e s) = h') (hx : XQ E nt k code σ h' c Q) : XQ E nt k code σ h c Q := by
  have hb : backH h i = h' := by
    rw [← hh]
    have b1 : Nat.beq e e = true := Nat.beq_refl e
    have b2 : Nat.beq s s = true := Nat.beq_refl s
    have b3 : (rowC f (xs ++ ys)).take (rowC f xs).length = rowC f xs := by rw [rowC_append, List.take_left]
    simp only [backH, hi, hj, b1, b2, hs1, b3, eqVs_refl (rowC_scal hf xs), Bool.and_self]
    rfl
  intro B ρ a w h1 h2 h3 h4 h5 h6 h7
  subst hb
  exact hx B ρ a w h1 (h2.backH i) h3 h4 h5 h6 h7
theorem Oper.wp_two {P : Program} {o : Oper} {a : Act} {w : World} {K K' : Act → World → Prop} {Q Q' : Exit → Act → World → Prop} (h : ∀ a w, K a w → K' a w) (hp : ∀ c a w, Q (.panic c) a w → Q' (.panic c) a w) (ho : LetsOut Q → LetsOut Q')
    (hh : o.wp P a w K Q) : o.wp P a w K' Q' := by
  unfold Oper.wp at *
  generalize (execOp a.eval o).run P w = r at *
  cases r with
  | ok n w' =>
    cases n with
    | value v => exact h _ _ hh
    | skip => exact h _ _ hh
    | defer d => exact h _ _ hh
    | enter f args =>
      refine Calls.mono hh ?_
      intro e w'' he
      cases e with
      | returned v => exact h _ _ he
      | panicked c => exact hp _ _ _ he
      | outgrown => exact ho he
    | row r args => exact Rows.mono hh (fun v w'' he => h _ _ he)
    | _ => exact hh
  | halt c w' =>
    cases c with
    | panic v => exact hp _ _ _ hh
    | _ => exact hh
theorem wpAny_mono2 {P : Program} {md : Region.Mode} {ops : Array Oper} {Q Q' : Exit → Act → World → Prop} (h : ∀ e a w, Q e a w → Q' e a w) : ∀ (g : Nat) (listed : Array Bool) (a : Act) (w : World), wpAny P md ops Q g listed a w → wpAny P md ops Q' g listed a w
  | 0, listed, a, w, hh => ⟨hh.1, h _ _ _ hh.2⟩
  | g + 1, listed, a, w, hh => by
    refine ⟨fun h0 => h _ _ _ (hh.1 h0), fun i hi => ?_⟩
    have hi2 := hh.2 i hi
    unfold wpOp at hi2 ⊢
    split
    · rename_i hn
      simp only [hn] at hi2
      exact wpAny_mono2 h g _ _ _ hi2
    · rename_i o ho
      simp only [ho] at hi2
      split
      · rename_i hw
        rw [if_pos hw] at hi2
        rcases hi2 with q | ⟨q, a', w', q2⟩
        · exact .inl (Oper.wp_two (fun a w => wpAny_mono2 h g _ a w) (fun c a w => h _ a w) (fun ⟨a, w, q⟩ => ⟨a, w, h _ _ _ q⟩) q)
        · exact .inr ⟨q, a', w', h _ _ _ q2⟩
      · rename_i hw
        rw [if_neg hw] at hi2
        exact wpAny_mono2 h g _ _ _ hi2
def XA (E : Env) (nt k : Nat) (ops : Array Oper) (g : Nat) (listed : Array Bool) (σ : St) (h : Heap) (c : Nat) (Q : QP) : Prop :=
  ∀ (B : Bd) (ρ : Rho) (a : Act) (w : World), SRel ρ nt σ a → HRel B ρ h w → ρ.length = c → B.n ≤ w.heap.size → B.ge E.G → E.inv w →
    ∀ (ρ0 : Rho) (w0 : World) (ds : List Deferred), Keeps k ρ0 ρ → Bel B w0 w → a.defers = ds → wpAny E.P .any ops (After k B nt ρ0 w0 ds Q) g listed a w
theorem XA.done {E : Env} {nt k : Nat} {ops : Array Oper} {listed : Array Bool} (hr : (Region.ready .any ops listed).isEmpty = true) {σ : St} {h : Heap} {c : Nat} {Q : QP} (hq : Q .normal σ h c) : XA E nt k ops 0 listed σ h c Q := by
  intro B ρ a w h1 h2 h3 h4 h5 h6 ρ0 w0 ds h7 h8 h9
  exact ⟨List.isEmpty_iff.1 hr, .normal, σ, h, c, ρ, rfl, h9, h1, h2, h3, h7, h8, hq⟩
theorem XA.ren {E : Env} {nt k : Nat} {ops : Array Oper} {g : Nat} {listed : Array Bool} (s : List Nat) (hn : s.Nodup) (hk : s.take k = List.range k) {σ σ' : St} {h h' : Heap} {c c' : Nat} {Q : QP} (hσ : SubS s σ σ') (hh : RenH s h h') (hc : s.length = c')
    (hx : XA E nt k ops g listed σ' h' c' Q) : XA E nt k ops g listed σ h c Q := by
  intro B ρ a w h1 h2 h3 h4 h5 h6 ρ0 w0 ds h7 h8 h9
  exact hx B (renR s ρ) a w (h1.ren hσ) (h2.ren hn hh) (by simpa [renR] using hc) h4 h5 h6 ρ0 w0 ds (h7.trans (Keeps.ren h7.le hk)) h8 h9
theorem XA.conv {E : Env} {nt k : Nat} {ops : Array Oper} {g : Nat} {listed : Array Bool} {σ σ' : St} {h h' : Heap} {c c' : Nat} {Q : QP} (hx : XA E nt k ops g listed σ' h' c' Q) (e : (σ, h, c) = (σ', h', c')) : XA E nt k ops g listed σ h c Q := by cases e; exact hx
def AllJ : List Nat → (Nat → Prop) → Prop
  | [], _ => True
  | j :: l, p => p j ∧ AllJ l p
theorem AllJ.mem {p : Nat → Prop} : ∀ {l : List Nat}, AllJ l p → ∀ j ∈ l, p j
  | _ :: l, h, j, hj => by
    rcases List.mem_cons.1 hj with rfl | hj
    · exact h.1
    · exact AllJ.mem h.2 j hj
theorem XA.step {E : Env} (hE : E.Ok) {nt k : Nat} {ops : Array Oper} {g : Nat} {listed : Array Bool} (js : List Nat) (hr : Region.ready .any ops listed = js) (hn : js.isEmpty = false) (hf : freeOf ops.toList = true) {σ : St} {h : Heap} {c : Nat} {Q : QP}
    (hx : AllJ js fun j => XR E nt k (reOps ops [j]) 0 σ h c (fun e σ' h' c' => e = .normal ∧ XA E nt k ops g (listed.setIfInBounds j true) σ' h' c' Q)) : XA E nt k ops (g + 1) listed σ h c Q := by
  intro B ρ a w h1 h2 h3 h4 h5 h6 ρ0 w0 ds h7 h8 h9
  subst hr
  refine ⟨fun h0 => (by rw [h0] at hn; cases hn), fun j hj => ?_⟩
  obtain ⟨_, o, ho, _⟩ := mem_ready.1 hj
  have hxj := hx.mem j hj B ρ a w h1 h2 h3 h4 h5 h6 ρ w ds ⟨h7.le, fun _ _ => rfl⟩ (Bel.refl B w) h9
  have hoj : ops.toList[j]? = some o := by simpa using ho
  have hfo : o.guard.isNone = true := by
    have := List.all_eq_true.1 hf o (List.mem_of_getElem? hoj)
    exact this
  have hl : (reOps ops [j]).toList.drop 0 = [o] := by simp [reOps, opsAt, ho]
  rw [hl] at hxj
  unfold wpOp
  simp only [ho]
  rw [if_pos (free_wanted hfo _)]
  unfold wpList at hxj
  rw [if_pos (free_wanted hfo _)] at hxj
  have np : ∀ c a' w', ¬ After k B nt ρ w ds (fun e σ' h' c' => e = .normal ∧ XA E nt k ops g (listed.setIfInBounds j true) σ' h' c' Q) (.panic c) a' w' := by
    rintro c a' w' ⟨e, _, _, _, _, q, _, _, _, _, _, _, rfl, _⟩
    cases q
  have no : ¬ LetsOut (After k B nt ρ w ds (fun e σ' h' c' => e = .normal ∧ XA E nt k ops g (listed.setIfInBounds j true) σ' h' c' Q)) := by
    rintro ⟨a, w, e, _, _, _, _, q, _, _, _, _, _, _, rfl, _⟩
    cases q
  rcases hxj with hxj | ⟨_, hxj⟩
  · refine .inl (Oper.wp_two ?_ (fun c a w q => absurd q (np c a w)) (fun q => absurd q no) hxj)
    rintro a' w' ⟨e, σ', h', c', ρ', _, d1, s1, s2, s3, s4, s5, rfl, s6⟩
    exact s6 B ρ' a' w' s1 s2 s3 (Nat.le_trans h4 s5.size) h5 (hE.keep h5 h6 s5) ρ0 w0 ds (h7.trans s4) (h8.trans s5) d1
  · exact absurd hxj no
theorem XQ.anyC {E : Env} (hE : E.Ok) {nt k : Nat} {code : Code} (hs : drawOf code = some true) {g : Nat} (hg : (opsOf code).size = g) {σ σ' : St} {h h' : Heap} {c c' : Nat} {Q : QP} (hq : Q .normal σ' h' c')
    (hx : XA E nt k (opsOf code) g (Array.replicate g false) σ h c (fun e σ1 h1 c1 => e = .normal ∧ (σ1, h1, c1) = (σ', h', c'))) : XQ E nt k code σ h c Q := by
  cases code with
  | region id ops d =>
    cases hs
    subst hg
    intro B ρ a w h1 h2 h3 h4 h5 h6 h7
    have hb := drew_below w
    have hhd : HRel B ρ h w.drew := h2.keepB hb
    have hId : E.inv w.drew := hE.keepN (Nat.le_trans h5.1 h4) h6 hb
    refine wp_region_any hE.mixed ?_
    have key := hx B ρ a w.drew h1 hhd h3 h4 h5 hId ρ w a.defers ⟨h7, fun _ _ => rfl⟩ ((Bel.refl B w).drew) rfl
    refine wpAny_mono2 ?_ _ _ _ _ key
    rintro e' a' w' ⟨e, σ1, h1', c1, ρ', q1, q2, q3, q4, q5, q6, q7, rfl, q9⟩
    cases q9
    exact ⟨.normal, _, _, _, ρ', q1, q2, q3, q4, q5, q6, q7, hq⟩
  | _ => cases hs
theorem XQ.preA {E : Env} (hE : E.Ok) {nt k : Nat} {code : Code} (p : List Nat) (hs : drawOf code = some true) {g : Nat} {listed : Array Bool} (hB : preB .any (opsOf code).toList.toArray p (Array.replicate (opsOf code).toList.toArray.size false) = some listed) (hsel : Region.noSelect (opsOf code).toList.toArray = true)
    (hlt : p.all (fun i => Nat.blt i (opsOf code).toList.toArray.size) = true) (hg : Nat.beq (p.length + g) (opsOf code).toList.toArray.size = true) (hf : freeOf (opsOf code).toList = true) {σ σ' : St} {h h' : Heap} {c c' : Nat} {Q : QP} (hq : Q .normal σ' h' c')
    (hx : XP E nt (reOps (opsOf code) p) 0 σ (fun σ2 => XA E nt k (opsOf code) g listed σ2 h c (fun e σ1 h1 c1 => e = .normal ∧ (σ1, h1, c1) = (σ', h', c')))) : XQ E nt k code σ h c Q := by
  cases code with
  | region id ops d =>
    cases hs
    have hf : freeOf ops.toList = true := hf
    have hB : preB .any ops.toList.toArray p (Array.replicate ops.toList.toArray.size false) = some listed := hB
    have harr : ops.toList.toArray = ops := by simp
    have hsel : Region.noSelect ops.toList.toArray = true := hsel
    have hg : Nat.beq (p.length + g) ops.toList.toArray.size = true := hg
    have hlt : p.all (fun i => Nat.blt i ops.toList.toArray.size) = true := hlt
    intro B ρ a w h1 h2 h3 h4 h5 h6 h7
    have hb := drew_below w
    have hhd : HRel B ρ h w.drew := h2.keepB hb
    have hId : E.inv w.drew := hE.keepN (Nat.le_trans h5.1 h4) h6 hb
    refine wp_region_any hE.mixed ?_
    have hlt' : ∀ i ∈ p, i < ops.toList.length := fun i hi => by
      have := List.all_eq_true.1 hlt i hi
      simpa [Nat.blt_eq] using this
    have hps := Nat.eq_of_beq_eq_true hg
    have key := hx ρ a h1 a.defers rfl
    have key2 : wpPure E.P ops.toList.toArray (fun a' => wpAny E.P .any ops.toList.toArray (After k B nt ρ w a.defers Q) g listed a' w.drew) (opsAt ops.toList p) a := by
      refine wpPure_other ?_ (opsAt ops.toList p) (opsAt_free hf _) a key
      rintro a' ⟨σ2, d1, s1, q1⟩
      have q2 := q1 B ρ a' w.drew s1 hhd h3 h4 h5 hId ρ w a.defers ⟨h7, fun _ _ => rfl⟩ ((Bel.refl B w).drew) d1
      rw [harr]
      refine wpAny_mono2 ?_ _ _ _ _ q2
      rintro e' a' w' ⟨e, σ1, h1', c1, ρ', q1, q2, q3, q4, q5, q6, q7, rfl, q9⟩
      cases q9
      exact ⟨.normal, _, _, _, ρ', q1, q2, q3, q4, q5, q6, q7, hq⟩
    have fin := pre_lex (P := E.P) (md := .any) (ops := ops.toList.toArray) (fun cc a w ⟨e, _, _, _, _, q, _⟩ => by cases e <;> cases q) hsel p (T := []) (opsAt ops.toList p) (Array.replicate ops.toList.toArray.size false) listed a (w := w.drew) (g := g) (Q := After k B nt ρ w a.defers Q) (opsAt_map _ hlt') (fun _ _ q => by cases q) ⟨by simp, fun j oj _ hl => (by rw [getD_replicate_false] at hl; cases hl), fun t ht => by cases ht⟩ hB (wpPure_mono (fun a h _ => h) _ _ key2)
    rw [hps, harr] at fin
    exact fin
  | _ => cases hs
theorem KC.keep {E : Env} {K : Nat} {args : List Value} {h : Heap} {c : Nat} {R : Value → Heap → Nat → Prop} (hx : KC E K args h c R) : KC (keepEnv E) K args h c R := hx
end Go.Xm
namespace Go.Xm
abbrev ii (n : Int) : Value := .int .i64 n
abbrev pp (i o : Nat) : Value := .pointer (some ⟨i, o, none⟩)
abbrev sl (i o len cap : Nat) : Value := .slice (some ⟨i, o, none⟩) len cap
abbrev s0 (i len : Nat) : Value := .slice (some ⟨i, 0, none⟩) len len
abbrev rc {α : Type} (f : α → List Value) (xs : List α) (fz : Nat) (e : TypeId) (es : Nat) : XObj := .cells (rowC f xs) fz e es
theorem XR.runS {E : Env} (hE : E.Ok) {nt k : Nat} {ops : Array Oper} {j : Nat} (n m : Nat) (σ' : St) {σ : St} {h : Heap} {c : Nat} {Q : QP} (hl : (σ'.map Prod.fst).all (fun i => Nat.blt i nt) = true)
    (hr : obsO (σ'.map Prod.fst) (xops (callF E (exec E n)) (((gsOf E nt ops).drop j).take m) (trS nt σ) h c) = some (σ', h, c)) (hx : XR E nt k ops (j + m) σ' h c Q) : XR E nt k ops j σ h c Q :=
  XR.run hE n m _ hl hr hx
theorem XR.runT {E : Env} (hE : E.Ok) {nt k : Nat} {ops : Array Oper} {j : Nat} (n m : Nat) (σ' : St) (h' : Heap) (c' : Nat) {σ : St} {h : Heap} {c : Nat} {Q : QP} (hl : (σ'.map Prod.fst).all (fun i => Nat.blt i nt) = true)
    (hr : obsO (σ'.map Prod.fst) (xops (callF E (exec E n)) (((gsOf E nt ops).drop j).take m) (trS nt σ) h c) = some (σ', h', c')) (hx : XR E nt k ops (j + m) σ' h' c' Q) : XR E nt k ops j σ h c Q :=
  XR.run hE n m _ hl hr hx
end Go.Xm
namespace Go.Xm
open Go.RowKit
theorem HRel.shrink {B : Bd} {ρ : Rho} {h : Heap} {w : World} (H : HRel B ρ h w) {i : Nat} {cs : List Value} {e : TypeId} {es : Nat} (hi : hget h i = some (.cells cs 0 e es)) (hes : es ≠ 0) (m : Nat) : HRel B ρ (hset h i (.cells (cs.take m) 0 e es)) w := by
  have hg := hget_hset hi (.cells (cs.take m) 0 e es)
  have f0 : ∀ l : List Value, frz (.cells l 0 e es) = false := fun l => by
    show Nat.blt l.length 0 = false
    cases hb : Nat.blt l.length 0 with
    | false => rfl
    | true => rw [Nat.blt_eq] at hb; omega
  refine ⟨fun j o hj => ?_, fun j k x y L L' hj hk hL hL' n1 n2 o1 o2 hz hb => ?_⟩
  · rw [hg] at hj
    by_cases ej : j = i
    · rw [if_pos ej] at hj
      cases hj
      subst ej
      obtain ⟨L, l1, l2, l3⟩ := H.ok j _ hi
      refine ⟨L, l1, fun _ => l2 (f0 cs), ?_⟩
      obtain ⟨q0, q | ⟨C, fr, q1, q2, q3, q4, q5, q6⟩⟩ := l3
      · exact ⟨q0, .inl ⟨q.1, by rw [q.2]; simp⟩⟩
      · have hl : (cs.take m).length ≤ cs.length := by rw [List.length_take]; omega
        refine ⟨q0, .inr ⟨C, fr, q1, q2, by omega, fun a v hv => ?_, q5, fun q => absurd (q0 ▸ q) hes⟩⟩
        rw [List.getElem?_take] at hv
        split at hv
        · exact q4 a v hv
        · cases hv
    · rw [if_neg ej] at hj
      exact H.ok j o hj
  · have old : ∀ z u, hget (hset h i (.cells (cs.take m) 0 e es)) z = some u → ∃ u', hget h z = some u' ∧ (∀ M, own ρ M u → own ρ M u') ∧ (frz u = false → frz u' = false) := by
      intro z u hz
      rw [hg] at hz
      by_cases ez : z = i
      · rw [if_pos ez] at hz
        cases hz
        subst ez
        exact ⟨_, hi, fun _ _ => trivial, fun _ => f0 cs⟩
      · rw [if_neg ez] at hz
        exact ⟨u, hz, fun _ q => q, id⟩
    obtain ⟨x', a1, a2, a3⟩ := old j x hj
    obtain ⟨y', b1, b2, b3⟩ := old k y hk
    exact H.inj j k x' y' L L' a1 b1 hL hL' n1 n2 (a2 L o1) (b2 L' o2) (hz.imp a3 b3) hb
def Shr {α : Type} (f : α → List Value) (s : Nat) (e : TypeId) (i : Nat) (R : Value → Heap → Nat → Prop) (v : Value) (h : Heap) (c : Nat) : Prop :=
  ∃ (xs : List α) (n cp : Nat) (h2 : Heap), v = .slice (some ⟨i, 0, none⟩) n cp ∧ hget h i = some (.cells (rowC f xs) 0 e s) ∧ n ≤ xs.length ∧ n ≤ cp ∧ hset h i (.cells (rowC f (xs.take n)) 0 e s) = h2 ∧ R (.slice (some ⟨i, 0, none⟩) (xs.take n).length (xs.take n).length) h2 c
theorem KC.shrink {α : Type} {f : α → List Value} {s : Nat} (hf : Enc f s) (hs1 : Nat.ble 1 s = true) {e : TypeId} (i : Nat) {E : Env} {K : Nat} {args : List Value} {h : Heap} {c : Nat} {R : Value → Heap → Nat → Prop} (hx : KC E K args h c (Shr f s e i R)) : KC E K args h c R := by
  have hs : s ≠ 0 := by rw [Nat.ble_eq] at hs1; omega
  intro B ρ w args' h1 h2 h3 h4 h5 h6
  obtain ⟨q1, q2⟩ := hx B ρ w args' h1 h2 h3 h4 h5 h6
  refine ⟨q1, q2.mono ?_⟩
  rintro en w' ⟨v, v', ρ', h', c', rfl, e2, e3, e4, e5, e6, xs, n, cp, hh2, rfl, hg, hn, hc, rfl, hR⟩
  have hl : (xs.take n).length = n := by rw [List.length_take]; omega
  rw [hl] at hR
  have hsh := e5.shrink hg hs (n * s)
  rw [rowC_take hf] at hsh
  refine ⟨_, v', ρ', _, c', rfl, ?_, e3, e4, hsh, e6, hR⟩
  cases e2 with
  | slice _ _ _ _ L o' cap' hL hz h0 hh1 =>
    obtain ⟨M, m1, _, m3⟩ := e5.ok i _ hg
    rw [hL] at m1; cases m1
    have hLes : L.es = s := m3.1
    obtain ⟨g1, g2, g3⟩ := hh1 (by rw [hLes]; exact hs)
    exact .slice i 0 n n L o' cap' hL (hz.imp id (fun q => by omega)) (fun q => absurd (hLes ▸ q) hs) (fun _ => ⟨by omega, g2, g3⟩)
  | sliceN _ _ L hL hes => exact .sliceN i 0 L hL hes
end Go.Xm
