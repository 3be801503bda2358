/- The abstract machine, part 15: regions that draw their order: operations that read, and calls that touch nothing that was there, in any order; then one operation behind the other. Conditions: none; nothing here speaks of one program. -/
import Derived.Test.YtglkjlafglpalaaGreatDoorMp
import Derived.Maps.RangeRun
import Derived.Test.YtglkjlafglpalaaGreatDoorMj
import Derived.Test.YtglkjlafglpalaaGreatDoorChecked
import Derived.Lib.LaidTab
import Derived.WalkKit
import Derived.Defers
namespace Go.Xm
open Go.RowKit
section
variable {P : Program} {ops : Array Oper} {md : Region.Mode} {C : World → Prop}
end
theorem wpPure_append {P : Program} {ops : Array Oper} {Q : Act → Prop} : ∀ (l l2 : List Oper) (a : Act), wpPure P ops (fun a' => wpPure P ops Q l2 a') l a → wpPure P ops Q (l ++ l2) a
 | [], _, _, h => h
 | _ :: l, l2, _, ⟨v, h1, h2⟩ => ⟨v, h1, wpPure_append l l2 _ h2⟩
theorem wpPure_other {P : Program} {ops ops' : Array Oper} {Q Q' : Act → Prop} (hQ : ∀ a, Q a → Q' a) : ∀ (l : List Oper), freeOf l = true → ∀ a, wpPure P ops Q l a → wpPure P ops' Q' l a
 | [], _, a, h => hQ a h
 | o :: l, hf, a, ⟨v, h1, h2⟩ => by
  simp only [freeOf, List.all_cons, Bool.and_eq_true] at hf
  refine ⟨v, ?_, wpPure_other hQ l hf.2 _ h2⟩
  rcases h1 with ⟨_, h1⟩ | ⟨h1, _⟩
  ·exact .inl ⟨free_wanted hf.1 _, h1⟩
  ·rw [free_wanted hf.1 _] at h1; cases h1
def XP (E : Env) (nt : Nat) (ops : Array Oper) (j : Nat) (σ : St) (Q : St → Prop) : Prop :=
 ∀ (ρ : Rho) (a : Act), SRel ρ nt σ a → ∀ ds : List Deferred, a.defers = ds → wpPure E.P ops (fun a' => ∃ σ', a'.defers = ds ∧ SRel ρ nt σ' a' ∧ Q σ') (ops.toList.drop j) a
theorem XP.done {E : Env} {nt : Nat} {ops : Array Oper} {j : Nat} (hj : Nat.ble ops.size j = true) {σ : St} {Q : St → Prop} (hq : Q σ) : XP E nt ops j σ Q := by
 intro ρ a h1 ds h2
 have : ops.toList.drop j = [] := List.drop_eq_nil_of_le (by simpa using hj)
 rw [this]
 exact ⟨σ, h2, h1, hq⟩
theorem XP.step {E : Env} (hE : E.Ok) {nt : Nat} {ops : Array Oper} {j : Nat} (i : Nat) (live : List Nat) {σ σ' : St} {Q : St → Prop} (hl : live.all (fun i => Nat.blt i nt) = true)
 (hr : obsT live (pops (((ops.toList.drop j).take i).map fun o => (isMove o, compG E nt ops.toList o)) (trS nt σ)) = some σ') (hx : XP E nt ops (j + i) σ' Q) : XP E nt ops j σ Q := by
 intro ρ a h1 ds h2
 cases hx0 : pops (((ops.toList.drop j).take i).map fun o => (isMove o, compG E nt ops.toList o)) (trS nt σ) with
 | none => rw [hx0] at hr; cases hr
 | some t2 =>
  rw [hx0] at hr
  cases hr
  have hlist : ops.toList.drop j = (ops.toList.drop j).take i ++ ops.toList.drop (j + i) := by
   rw [← List.drop_drop, List.take_append_drop]
  rw [hlist]
  refine wpPure_append _ _ a ?_
  have key := pops_ok hE (World.settled E.P default) (all := ops.toList) (Q := fun a' => wpPure E.P ops (fun a' => ∃ σ', a'.defers = ds ∧ SRel ρ nt σ' a' ∧ Q σ') (ops.toList.drop (j + i)) a') ((ops.toList.drop j).take i) _ t2 hx0 a h1.tr (fun a' d1 r1 => hx ρ a' (SRel.of_tr r1 hl) ds (d1.trans h2))
  have harr : ops.toList.toArray = ops := by simp
  rw [harr] at key
  exact key
theorem XP.rd {E : Env} (hE : E.Ok) {nt : Nat} {ops : Array Oper} {j : Nat} (hf : freeOf ops.toList = true) (live : List Nat) {σ σ' : St} {v : Value} {Q : St → Prop} (hl : live.all (fun i => Nat.blt i nt) = true) (hp : (plain v || ptrV v) = true)
 (hv : insV (headI ((gsOf E nt ops).drop j) (trS nt σ)) (trS nt σ) [] = some v) (hσ : readS (putX (insD (headI ((gsOf E nt ops).drop j) (trS nt σ))) v (trS nt σ)) live = σ')
 (hx : XP E nt ops (j + 1) σ' Q) : XP E nt ops j σ Q := by
 refine XP.step hE 1 live (σ' := σ') hl ?_ hx
 have e1 : (gsOf E nt ops).drop j = (ops.toList.drop j).map (compG E nt ops.toList) := by simp [gsOf, List.map_drop]
 rw [e1] at hv hσ
 cases hd : ops.toList.drop j with
 | nil => rw [hd] at hv; cases hv
 | cons o l =>
  rw [hd] at hv hσ
  have ho : o ∈ ops.toList := List.mem_of_mem_drop (i := j) (by rw [hd]; exact List.mem_cons_self ..)
  have hg : o.guard = none := by simpa using List.all_eq_true.1 hf o ho
  have ec : compG E nt ops.toList o = .ins (compOp E nt o) := by unfold compG; rw [hg]
  have hv' : insV (compOp E nt o) (trS nt σ) [] = some v := by
   have : headI ((o :: l).map (compG E nt ops.toList)) (trS nt σ) = compOp E nt o := by
    show headI (compG E nt ops.toList o :: _) _ = _
    rw [ec]; rfl
   rw [this] at hv; exact hv
  have hd' : insD (headI ((o :: l).map (compG E nt ops.toList)) (trS nt σ)) = insD (compOp E nt o) := by
   show insD (headI (compG E nt ops.toList o :: _) _) = _
   rw [ec]; rfl
  rw [hd'] at hσ
  have hpin : pins (isMove o) (.ins (compOp E nt o)) (trS nt σ) = some (putX (insD (compOp E nt o)) v (trS nt σ)) := by
   generalize compOp E nt o = ins at hv'
   cases ins with
   | rd d f =>
    have hf2 : f (trS nt σ) [] = some v := hv'
    show Option.casesOn (motive := fun _ => Option Tr) (f (trS nt σ) []) none (fun v => Bool.casesOn (isMove o || (plain v || ptrV v)) none (some (putX d v (trS nt σ)))) = _
    rw [hf2]
    show Bool.casesOn (motive := fun _ => Option Tr) (isMove o || (plain v || ptrV v)) none (some (putX d v (trS nt σ))) = _
    rw [hp, Bool.or_true]
    rfl
   | _ => cases hv'
  show obsT live (Option.casesOn (motive := fun _ => Option Tr) (pins (isMove o) (compG E nt ops.toList o) (trS nt σ)) none (pops [])) = some σ'
  rw [ec, hpin, ← hσ]
  rfl
theorem XQ.preP {E : Env} (hE : E.Ok) {nt k : Nat} {code : Code} (p H : List Nat) (t0 : Nat) (T : List Nat) (hs : drawOf code = some true) (hB : preTailB .any (opsOf code).toList.toArray p H t0 T = true) (hf : freeOf (opsOf code).toList = true)
 {σ : St} {h : Heap} {c : Nat} {Q : QP} (hx : XP E nt (reOps (opsOf code) p) 0 σ (fun σ' => XS E nt k (reOps (opsOf code) (H ++ t0 :: T)) H.length 0 σ' h c Q)) : XQ E nt k code σ h c Q := by
 cases code with
 | region id ops d =>
  cases hs
  intro B ρ a w h1 h2 h3 h4 h5 h6 h7
  have hb := drew_below w
  have hhd : HRel B ρ h w.drew := h2.keepB hb
  have hId : E.inv w.drew := hE.keepN (Nat.le_trans h5.1 h4) h6 hb
  have hf : freeOf ops.toList = true := hf
  have hB : preTailB .any ops.toList.toArray p H t0 T = true := hB
  have hlt : ∀ i ∈ H, i < ops.toList.length := by
   have hB2 := hB
   simp only [preTailB, Bool.and_eq_true] at hB2
   intro i hi
   have := List.all_eq_true.1 hB2.1.1.1.1.1.1.2 i (by simp only [List.mem_append]; exact .inl (.inr hi))
   simpa [Nat.blt_eq] using this
  have hlen : (opsAt ops.toList H).length = H.length := by
   have := congrArg List.length (opsAt_map (l := ops.toList) H hlt)
   simpa using this.symm
  have hwp := wp_region_pre (P := E.P) (id := id) (Q := After k B nt ρ w a.defers Q) (a := a) (w := w) (l := ops.toList) p H t0 T hE.mixed hB (fun cc a w ⟨e, _, _, _, _, q, _⟩ => by cases e <;> cases q) ?_
  ·simpa using hwp
  ·refine wpPure_other ?_ (opsAt ops.toList p) (opsAt_free hf _) a (hx ρ a h1 a.defers rfl)
   rintro a' ⟨σ', d1, s1, q1⟩
   have key := q1 B ρ a' w.drew s1 hhd h3 h4 h5 hId ρ w a.defers ⟨h7, fun _ _ => rfl⟩ (Bel.refl B w).drew d1
   have e1 : (reOps ops (H ++ t0 :: T)).toList = opsAt ops.toList H ++ opsAt ops.toList (t0 :: T) := by
    show (opsAt ops.toList (H ++ t0 :: T)).toArray.toList = _
    rw [opsAt_append]
   have e2 : (reOps (opsOf (.region id ops true)) (H ++ t0 :: T)) = reOps ops (H ++ t0 :: T) := rfl
   rw [e2, e1, ← hlen, List.take_left', List.drop_left', List.drop_zero] at key
   ·exact wpStill_other (fun a h => wpList_other _ (opsAt_free hf _) a _ h) _ (opsAt_free hf _) a' key
   ·rfl
   ·rfl
 | _ => cases hs
theorem Oper.wp_two {P : Program} {o : Oper} {a : Act} {w : World} {K K' : Act → World → Prop} {Q Q' : Exit → Act → World → Prop} (h : ∀ a w, K a w → K' a w) (hp : ∀ c a w, Q (.panic c) a w → Q' (.panic c) a w) (ho : LetsOut Q → LetsOut Q')
 (hh : o.wp P a w K Q) : o.wp P a w K' Q' := by
 unfold Oper.wp at *
 generalize (execOp a.eval o).run P w = r at *
 cases r with
 | ok n w' =>
  cases n with
  | value v => exact h _ _ hh
  | skip => exact h _ _ hh
  | defer d => exact h _ _ hh
  | enter f args =>
   refine Calls.mono hh ?_
   intro e w'' he
   cases e with
   | returned v => exact h _ _ he
   | panicked c => exact hp _ _ _ he
   | outgrown => exact ho he
  | row r args => exact Rows.mono hh (fun v w'' he => h _ _ he)
  | _ => exact hh
 | halt c w' =>
  cases c with
  | panic v => exact hp _ _ _ hh
  | _ => exact hh
theorem wpAny_mono2 {P : Program} {md : Region.Mode} {ops : Array Oper} {Q Q' : Exit → Act → World → Prop} (h : ∀ e a w, Q e a w → Q' e a w) : ∀ (g : Nat) (listed : Array Bool) (a : Act) (w : World), wpAny P md ops Q g listed a w → wpAny P md ops Q' g listed a w
 | 0, listed, a, w, hh => ⟨hh.1, h _ _ _ hh.2⟩
 | g + 1, listed, a, w, hh => by
  refine ⟨fun h0 => h _ _ _ (hh.1 h0), fun i hi => ?_⟩
  have hi2 := hh.2 i hi
  unfold wpOp at hi2 ⊢
  split
  ·rename_i hn
   simp only [hn] at hi2
   exact wpAny_mono2 h g _ _ _ hi2
  ·rename_i o ho
   simp only [ho] at hi2
   split
   ·rename_i hw
    rw [if_pos hw] at hi2
    rcases hi2 with q | ⟨q, a', w', q2⟩
    ·exact .inl (Oper.wp_two (fun a w => wpAny_mono2 h g _ a w) (fun c a w => h _ a w) (fun ⟨a, w, q⟩ => ⟨a, w, h _ _ _ q⟩) q)
    ·exact .inr ⟨q, a', w', h _ _ _ q2⟩
   ·rename_i hw
    rw [if_neg hw] at hi2
    exact wpAny_mono2 h g _ _ _ hi2
def XA (E : Env) (nt k : Nat) (ops : Array Oper) (g : Nat) (listed : Array Bool) (σ : St) (h : Heap) (c : Nat) (Q : QP) : Prop :=
 ∀ (B : Bd) (ρ : Rho) (a : Act) (w : World), SRel ρ nt σ a → HRel B ρ h w → ρ.length = c → B.n ≤ w.heap.size → B.ge E.G → E.inv w →
  ∀ (ρ0 : Rho) (w0 : World) (ds : List Deferred), Keeps k ρ0 ρ → Bel B w0 w → a.defers = ds → wpAny E.P .any ops (After k B nt ρ0 w0 ds Q) g listed a w
theorem XA.done {E : Env} {nt k : Nat} {ops : Array Oper} {listed : Array Bool} (hr : (Region.ready .any ops listed).isEmpty = true) {σ : St} {h : Heap} {c : Nat} {Q : QP} (hq : Q .normal σ h c) : XA E nt k ops 0 listed σ h c Q := by
 intro B ρ a w h1 h2 h3 h4 h5 h6 ρ0 w0 ds h7 h8 h9
 exact ⟨List.isEmpty_iff.1 hr, .normal, σ, h, c, ρ, rfl, h9, h1, h2, h3, h7, h8, hq⟩
theorem XA.ren {E : Env} {nt k : Nat} {ops : Array Oper} {g : Nat} {listed : Array Bool} (s : List Nat) (hn : s.Nodup) (hk : s.take k = List.range k) {σ σ' : St} {h h' : Heap} {c c' : Nat} {Q : QP} (hσ : SubS s σ σ') (hh : RenH s h h') (hc : s.length = c')
 (hx : XA E nt k ops g listed σ' h' c' Q) : XA E nt k ops g listed σ h c Q := by
 intro B ρ a w h1 h2 h3 h4 h5 h6 ρ0 w0 ds h7 h8 h9
 exact hx B (renR s ρ) a w (h1.ren hσ) (h2.ren hn hh) (by simpa [renR] using hc) h4 h5 h6 ρ0 w0 ds (h7.trans (Keeps.ren h7.le hk)) h8 h9
def AllJ : List Nat → (Nat → Prop) → Prop
 | [], _ => True
 | j :: l, p => p j ∧ AllJ l p
theorem AllJ.mem {p : Nat → Prop} : ∀ {l : List Nat}, AllJ l p → ∀ j ∈ l, p j
 | _ :: l, h, j, hj => by
  rcases List.mem_cons.1 hj with rfl | hj
  ·exact h.1
  ·exact AllJ.mem h.2 j hj
theorem XA.step {E : Env} (hE : E.Ok) {nt k : Nat} {ops : Array Oper} {g : Nat} {listed : Array Bool} (js : List Nat) (hr : Region.ready .any ops listed = js) (hn : js.isEmpty = false) (hf : freeOf ops.toList = true) {σ : St} {h : Heap} {c : Nat} {Q : QP}
 (hx : AllJ js fun j => XR E nt k (reOps ops [j]) 0 σ h c (fun e σ' h' c' => e = .normal ∧ XA E nt k ops g (listed.setIfInBounds j true) σ' h' c' Q)) : XA E nt k ops (g + 1) listed σ h c Q := by
 intro B ρ a w h1 h2 h3 h4 h5 h6 ρ0 w0 ds h7 h8 h9
 subst hr
 refine ⟨fun h0 => (by rw [h0] at hn; cases hn), fun j hj => ?_⟩
 obtain ⟨_, o, ho, _⟩ := mem_ready.1 hj
 have hxj := hx.mem j hj B ρ a w h1 h2 h3 h4 h5 h6 ρ w ds ⟨h7.le, fun _ _ => rfl⟩ (Bel.refl B w) h9
 have hoj : ops.toList[j]? = some o := by simpa using ho
 have hfo : o.guard.isNone = true := by
  have := List.all_eq_true.1 hf o (List.mem_of_getElem? hoj)
  exact this
 have hl : (reOps ops [j]).toList.drop 0 = [o] := by simp [reOps, opsAt, ho]
 rw [hl] at hxj
 unfold wpOp
 simp only [ho]
 rw [if_pos (free_wanted hfo _)]
 unfold wpList at hxj
 rw [if_pos (free_wanted hfo _)] at hxj
 have np : ∀ c a' w', ¬ After k B nt ρ w ds (fun e σ' h' c' => e = .normal ∧ XA E nt k ops g (listed.setIfInBounds j true) σ' h' c' Q) (.panic c) a' w' := by
  rintro c a' w' ⟨e, _, _, _, _, q, _, _, _, _, _, _, rfl, _⟩
  cases q
 have no : ¬ LetsOut (After k B nt ρ w ds (fun e σ' h' c' => e = .normal ∧ XA E nt k ops g (listed.setIfInBounds j true) σ' h' c' Q)) := by
  rintro ⟨a, w, e, _, _, _, _, q, _, _, _, _, _, _, rfl, _⟩
  cases q
 rcases hxj with hxj | ⟨_, hxj⟩
 ·refine .inl (Oper.wp_two ?_ (fun c a w q => absurd q (np c a w)) (fun q => absurd q no) hxj)
  rintro a' w' ⟨e, σ', h', c', ρ', _, d1, s1, s2, s3, s4, s5, rfl, s6⟩
  exact s6 B ρ' a' w' s1 s2 s3 (Nat.le_trans h4 s5.size) h5 (hE.keep h5 h6 s5) ρ0 w0 ds (h7.trans s4) (h8.trans s5) d1
 ·exact absurd hxj no
theorem XQ.preA {E : Env} (hE : E.Ok) {nt k : Nat} {code : Code} (p : List Nat) (hs : drawOf code = some true) {g : Nat} {listed : Array Bool} (hB : preB .any (opsOf code).toList.toArray p (Array.replicate (opsOf code).toList.toArray.size false) = some listed) (hsel : Region.noSelect (opsOf code).toList.toArray = true)
 (hlt : p.all (fun i => Nat.blt i (opsOf code).toList.toArray.size) = true) (hg : Nat.beq (p.length + g) (opsOf code).toList.toArray.size = true) (hf : freeOf (opsOf code).toList = true) {σ σ' : St} {h h' : Heap} {c c' : Nat} {Q : QP} (hq : Q .normal σ' h' c')
 (hx : XP E nt (reOps (opsOf code) p) 0 σ (fun σ2 => XA E nt k (opsOf code) g listed σ2 h c (fun e σ1 h1 c1 => e = .normal ∧ (σ1, h1, c1) = (σ', h', c')))) : XQ E nt k code σ h c Q := by
 cases code with
 | region id ops d =>
  cases hs
  have hf : freeOf ops.toList = true := hf
  have hB : preB .any ops.toList.toArray p (Array.replicate ops.toList.toArray.size false) = some listed := hB
  have harr : ops.toList.toArray = ops := by simp
  have hsel : Region.noSelect ops.toList.toArray = true := hsel
  have hg : Nat.beq (p.length + g) ops.toList.toArray.size = true := hg
  have hlt : p.all (fun i => Nat.blt i ops.toList.toArray.size) = true := hlt
  intro B ρ a w h1 h2 h3 h4 h5 h6 h7
  have hb := drew_below w
  have hhd : HRel B ρ h w.drew := h2.keepB hb
  have hId : E.inv w.drew := hE.keepN (Nat.le_trans h5.1 h4) h6 hb
  refine wp_region_any hE.mixed ?_
  have hlt' : ∀ i ∈ p, i < ops.toList.length := fun i hi => by
   have := List.all_eq_true.1 hlt i hi
   simpa [Nat.blt_eq] using this
  have hps := Nat.eq_of_beq_eq_true hg
  have key := hx ρ a h1 a.defers rfl
  have key2 : wpPure E.P ops.toList.toArray (fun a' => wpAny E.P .any ops.toList.toArray (After k B nt ρ w a.defers Q) g listed a' w.drew) (opsAt ops.toList p) a := by
   refine wpPure_other ?_ (opsAt ops.toList p) (opsAt_free hf _) a key
   rintro a' ⟨σ2, d1, s1, q1⟩
   have q2 := q1 B ρ a' w.drew s1 hhd h3 h4 h5 hId ρ w a.defers ⟨h7, fun _ _ => rfl⟩ ((Bel.refl B w).drew) d1
   rw [harr]
   refine wpAny_mono2 ?_ _ _ _ _ q2
   rintro e' a' w' ⟨e, σ1, h1', c1, ρ', q1, q2, q3, q4, q5, q6, q7, rfl, q9⟩
   cases q9
   exact ⟨.normal, _, _, _, ρ', q1, q2, q3, q4, q5, q6, q7, hq⟩
  have fin := pre_lex (P := E.P) (md := .any) (ops := ops.toList.toArray) (fun cc a w ⟨e, _, _, _, _, q, _⟩ => by cases e <;> cases q) hsel p (T := []) (opsAt ops.toList p) (Array.replicate ops.toList.toArray.size false) listed a (w := w.drew) (g := g) (Q := After k B nt ρ w a.defers Q) (opsAt_map _ hlt') (fun _ _ q => by cases q) ⟨by simp, fun j oj _ hl => (by rw [getD_replicate_false] at hl; cases hl), fun t ht => by cases ht⟩ hB (wpPure_mono (fun a h _ => h) _ _ key2)
  rw [hps, harr] at fin
  exact fin
 | _ => cases hs
abbrev ii (n : Int) : Value := .int .i64 n
abbrev pp (i o : Nat) : Value := .pointer (some ⟨i, o, none⟩)
abbrev sl (i o len cap : Nat) : Value := .slice (some ⟨i, o, none⟩) len cap
abbrev s0 (i len : Nat) : Value := .slice (some ⟨i, 0, none⟩) len len
abbrev rc {α : Type} (f : α → List Value) (xs : List α) (fz : Nat) (e : TypeId) (es : Nat) : XObj := .cells (rowC f xs) fz e es
theorem XR.runS {E : Env} (hE : E.Ok) {nt k : Nat} {ops : Array Oper} {j : Nat} (n m : Nat) (σ' : St) {σ : St} {h : Heap} {c : Nat} {Q : QP} (hl : (σ'.map Prod.fst).all (fun i => Nat.blt i nt) = true)
 (hr : obsO (σ'.map Prod.fst) (xops (callF E (exec E n)) (((gsOf E nt ops).drop j).take m) (trS nt σ) h c) = some (σ', h, c)) (hx : XR E nt k ops (j + m) σ' h c Q) : XR E nt k ops j σ h c Q :=
 XR.run hE n m _ hl hr hx
set_option linter.unusedVariables false
set_option linter.unusedSimpArgs false
theorem laidVars_tab {P : Program} {W : World} {name : String} {k : IntKind} {zs : List Int} {g : Nat} {t e : TypeId} {n : Nat}
 (hg : P.globalNamed name = some g) (hty : (P.globals[g]?).map (·.type) = some t) (ht : P.underlying t = some (.array n e)) (he : P.underlying e = some (.int k)) (hce : P.cellsOf e = 1) (hct : P.cellsOf t = n) :
 ∀ {l : List (String × DataW Unit)} {ps : List MemPlace}, DataW.LaidVars P W l ps → (name, Lib.tabData k zs) ∈ l → Lib.TabIs P W name k zs
 | [], _, _, h => by cases h
 | (m, d) :: r, ps, hl, hm => by
  obtain ⟨g', t', cs, fuel, p, q, hg', ht', hvar, hd, hr, _⟩ := hl
  rcases List.mem_cons.1 hm with e1 | e1
  ·obtain ⟨rfl, rfl⟩ := Prod.mk.inj e1
   obtain rfl := Option.some.inj (hg.symm.trans hg')
   obtain rfl := Option.some.inj (hty.symm.trans ht')
   unfold Lib.TabIs
   rw [hvar, ← Lib.cells_of_tab ht he hce hct hd]
  ·exact laidVars_tab hg hty ht he hce hct hr e1
def tz64Tab : List Int := [0, 1, 56, 2, 57, 49, 28, 3, 61, 58, 42, 50, 38, 29, 17, 4, 62, 47, 59, 36, 45, 43, 51, 22, 53, 39, 33, 30, 24, 18, 12, 5, 63, 55, 48, 27, 60, 41, 37, 16, 46, 35, 44, 21, 52, 32, 23, 11, 54, 26, 40, 15, 34, 20, 31, 10, 25, 14, 19, 9, 13, 8, 7, 6]
def tz32Tab : List Int := [0, 1, 28, 2, 29, 14, 24, 3, 30, 22, 20, 15, 25, 17, 4, 8, 31, 27, 13, 23, 21, 19, 16, 7, 26, 12, 18, 6, 11, 5, 10, 9]
def seatTabs (w : World) : Prop := (∀ i, i < 32 → w.cell? ⟨4, i, none⟩ = some (.int .u8 (tz32Tab.getD i 0))) ∧ ∀ i, i < 64 → w.cell? ⟨5, i, none⟩ = some (.int .u8 (tz64Tab.getD i 0))
def seatInv (w : World) : Prop := seatTabs w
theorem seatInv.tabs {w : World} (h : seatInv w) : seatTabs w := h
def seatG : Nat := Nat.max 4 5 + 1
theorem seatTabs_keeps (w w' : World) (h : seatTabs w) (hk : ∀ k, k < seatG → w'.heap[k]? = w.heap[k]?) : seatTabs w' :=
 ⟨fun i hi => by rw [← h.1 i hi]; exact World.cell?_of_block (w := w) (hk 4 (by decide)), fun i hi => by rw [← h.2 i hi]; exact World.cell?_of_block (w := w) (hk 5 (by decide))⟩
theorem seatInv_keeps (w w' : World) (h : seatInv w) (hk : ∀ k, k < seatG → w'.heap[k]? = w.heap[k]?) : seatInv w' :=
 seatTabs_keeps w w' h hk
theorem cell_lt {w : World} {g : Nat} {v : Value} (hm : w.cell? ⟨g, 0, none⟩ = some v) : g < w.heap.size := by
 unfold World.cell? at hm
 split at hm
 ·rename_i h1
  exact (Array.getElem?_eq_some_iff.1 h1).1
 ·cases hm
theorem seatInv_size {w : World} (h : seatInv w) : seatG ≤ w.heap.size := by
 have h1 := cell_lt (h.tabs.1 0 (by decide))
 have h2 := cell_lt (h.tabs.2 0 (by decide))
 unfold seatG
 exact Nat.succ_le_of_lt (Nat.max_lt.2 ⟨h1, h2⟩)
theorem seatTabs_of {W : World} {l : List (String × DataW Unit)} (h : laidMet Proofs.Tryz.prog l W) (h32 : ("math/bits.deBruijn32tab", Lib.tabData .u8 tz32Tab) ∈ l) (h64 : ("math/bits.deBruijn64tab", Lib.tabData .u8 tz64Tab) ∈ l) : seatTabs W := by
 obtain ⟨ps, hl, _, _⟩ := h
 have g32 : Proofs.Tryz.prog.globalNamed "math/bits.deBruijn32tab" = some 4 := by kernel_rfl
 have g64 : Proofs.Tryz.prog.globalNamed "math/bits.deBruijn64tab" = some 5 := by kernel_rfl
 have t32 := laidVars_tab (t := 267) (e := 5) (n := 32) g32 (by kernel_rfl) (by kernel_rfl) (by kernel_rfl) (by kernel_rfl) (by kernel_rfl) hl h32
 have t64 := laidVars_tab (t := 268) (e := 5) (n := 64) g64 (by kernel_rfl) (by kernel_rfl) (by kernel_rfl) (by kernel_rfl) (by kernel_rfl) hl h64
 exact ⟨fun i hi => t32.cell g32 i hi, fun i hi => t64.cell g64 i hi⟩
theorem seatInv_of {W : World} {l : List (String × DataW Unit)} (h : laidMet Proofs.Tryz.prog l W) (h32 : ("math/bits.deBruijn32tab", Lib.tabData .u8 tz32Tab) ∈ l) (h64 : ("math/bits.deBruijn64tab", Lib.tabData .u8 tz64Tab) ∈ l) : seatInv W := seatTabs_of h h32 h64
noncomputable def putTab (tab : List Int) : Obj → Obj
 | .cells _ t frozen => .cells (tab.map (Value.int .u8)).toArray t frozen
 | o => o
def tzIx (x : Int) : Int := IntKind.u64.wrap (bits BinOp.and IntKind.u64 x (IntKind.u64.wrap (-x)) * 285870213051353865) / 288230376151711744
def tzJx (x : Int) : Int := bits BinOp.and IntKind.u32 x (-x % 4294967296) * 125613361 % 4294967296 / 134217728
set_option maxHeartbeats 1000000 in
theorem tz64 {x : Int} (hx0 : (x == 0) = false) (idx k : Nat) (w : World) (key : IntKind.u64.wrap (bits BinOp.and IntKind.u64 x (IntKind.u64.wrap (-x)) * 285870213051353865) / 288230376151711744 = (idx : Int)) (hi : idx < 64) (hk : k < 64)
 (hcell : w.cell? ⟨5, idx, none⟩ = some (.int .u8 k)) :
 Calls Proofs.Tryz.prog 179 #[.int .u64 x] w fun e w' => e = .returned (.int .i64 k) ∧ w' = w := by
 refine calls_of_wp Proofs.Tryz.func179 rfl ?_
 simp only [Proofs.Tryz.ntmps179, List.size_toArray, List.length_cons, List.length_nil, Nat.reduceAdd, Nat.reduceSub, Array.replicate_succ, Array.replicate_zero, List.push_toArray, List.append_toArray, List.nil_append, List.cons_append]
 go_wp2_with (simp only [key])
 go_ret
 exact ⟨rfl, rfl⟩
set_option maxHeartbeats 1000000 in
theorem tz32 {x : Int} (hx0 : (x == 0) = false) (idx k : Nat) (w : World) (key : bits BinOp.and IntKind.u32 x (-x % 4294967296) * 125613361 % 4294967296 / 134217728 = (idx : Int)) (hi : idx < 32) (hk : k < 32)
 (hcell : w.cell? ⟨4, idx, none⟩ = some (.int .u8 k)) :
 Calls Proofs.Tryz.prog 178 #[.int .u32 x] w fun e w' => e = .returned (.int .i64 k) ∧ w' = w := by
 refine calls_of_wp Proofs.Tryz.func178 rfl ?_
 simp only [Proofs.Tryz.ntmps178, List.size_toArray, List.length_cons, List.length_nil, Nat.reduceAdd, Nat.reduceSub, Array.replicate_succ, Array.replicate_zero, List.push_toArray, List.append_toArray, List.nil_append, List.cons_append]
 go_wp2_with (simp only [key])
 go_ret
 exact ⟨rfl, rfl⟩
set_option maxHeartbeats 1000000 in
theorem tz {x : Int} (hx0 : (x == 0) = false) (idx k : Nat) (w : World) (key : IntKind.u64.wrap (bits BinOp.and IntKind.u64 x (IntKind.u64.wrap (-x)) * 285870213051353865) / 288230376151711744 = (idx : Int)) (hi : idx < 64) (hk : k < 64)
 (hcell : w.cell? ⟨5, idx, none⟩ = some (.int .u8 k)) :
 Calls Proofs.Tryz.prog 135 #[.int .u64 x] w fun e w' => e = .returned (.int .i64 k) ∧ w' = w := by
 have c := tz64 hx0 idx k w key hi hk hcell
 refine calls_of_wp Proofs.Tryz.func135 rfl ?_
 simp only [Proofs.Tryz.ntmps135, List.size_toArray, List.length_cons, List.length_nil, Nat.reduceAdd, Nat.reduceSub, Array.replicate_succ, Array.replicate_zero, List.push_toArray, List.append_toArray, List.nil_append, List.cons_append]
 go_wp2_with (go_at_call 179; refine c.mono ?_; rintro e w' ⟨rfl, rfl⟩)
 go_ret
 exact ⟨rfl, rfl⟩
theorem small64 : ∀ i, i < 64 → ∃ k : Nat, tz64Tab.getD i 0 = (k : Int) ∧ k < 64 := fun i hi => by
 have h : ∀ i : Fin 64, ∃ k : Fin 64, tz64Tab.getD i.val 0 = ((k.val : Nat) : Int) := by decide +kernel
 obtain ⟨k, hk⟩ := h ⟨i, hi⟩
 exact ⟨k.val, hk, k.isLt⟩
theorem small32 : ∀ i, i < 32 → ∃ k : Nat, tz32Tab.getD i 0 = (k : Int) ∧ k < 32 := fun i hi => by
 have h : ∀ i : Fin 32, ∃ k : Fin 32, tz32Tab.getD i.val 0 = ((k.val : Nat) : Int) := by decide +kernel
 obtain ⟨k, hk⟩ := h ⟨i, hi⟩
 exact ⟨k.val, hk, k.isLt⟩
def pTz (args : List Value) : Option Value :=
 match args with
 | [.int .u64 x] => match (!(x == 0) && (decide (0 ≤ tzIx x) && decide (tzIx x < 64))) with
  | true => some (.int .i64 (tz64Tab.getD (tzIx x).toNat 0))
  | false => none
 | _ => none
def pTz32 (args : List Value) : Option Value :=
 match args with
 | [.int .u32 x] => match (!(x == 0) && (decide (0 ≤ tzJx x) && decide (tzJx x < 32))) with
  | true => some (.int .i64 (tz32Tab.getD (tzJx x).toNat 0))
  | false => none
 | _ => none
def tzPrim (k : Nat) : Option (List Value → Option Value) :=
 match Nat.beq k 135 with
 | true => some pTz
 | false => match Nat.beq k 178 with
  | true => some pTz32
  | false => none
theorem tzPrim_ok : ∀ k g, tzPrim k = some g → (∃ F, Proofs.Tryz.prog.funcs[k]? = some F ∧ (F.name == "runtime.NumGoroutine") = false ∧ F.body.isSome = true) ∧
 ∀ args v, g args = some v → args.all plain = true ∧ plain v = true ∧ ∀ w, seatInv w → Calls Proofs.Tryz.prog k args.toArray w (fun e w' => e = .returned v ∧ Below w.heap.size w w') := by
 intro k g h
 unfold tzPrim at h
 split at h
 ·rename_i hk
  have hk := Nat.eq_of_beq_eq_true hk
  subst hk
  cases h
  refine ⟨⟨_, Proofs.Tryz.func135, by kernel_rfl, by kernel_rfl⟩, ?_⟩
  intro args v hv
  unfold pTz at hv
  split at hv
  ·rename_i x
   split at hv
   ·rename_i hs
    simp only [Bool.and_eq_true, Bool.not_eq_true', decide_eq_true_eq] at hs
    cases hv
    refine ⟨rfl, rfl, fun w hI => ?_⟩
    obtain ⟨hs0, hs1, hs2⟩ := hs
    obtain ⟨k, hk, hk2⟩ := small64 (tzIx x).toNat (by omega)
    have hc := hI.tabs.2 (tzIx x).toNat (by omega)
    rw [hk] at hc ⊢
    exact (tz hs0 (tzIx x).toNat k w (by show tzIx x = _; omega) (by omega) hk2 hc).mono (fun e w' ⟨he, hw⟩ => ⟨he, hw ▸ Below.refl _ _⟩)
   ·cases hv
  ·cases hv
 ·split at h
  ·rename_i hk
   have hk := Nat.eq_of_beq_eq_true hk
   subst hk
   cases h
   refine ⟨⟨_, Proofs.Tryz.func178, by kernel_rfl, by kernel_rfl⟩, ?_⟩
   intro args v hv
   unfold pTz32 at hv
   split at hv
   ·rename_i x
    split at hv
    ·rename_i hs
     simp only [Bool.and_eq_true, Bool.not_eq_true', decide_eq_true_eq] at hs
     cases hv
     refine ⟨rfl, rfl, fun w hI => ?_⟩
     obtain ⟨hs0, hs1, hs2⟩ := hs
     obtain ⟨k, hk, hk2⟩ := small32 (tzJx x).toNat (by omega)
     have hc := hI.tabs.1 (tzJx x).toNat (by omega)
     rw [hk] at hc ⊢
     exact (tz32 hs0 (tzJx x).toNat k w (by show tzJx x = _; omega) (by omega) hk2 hc).mono (fun e w' ⟨he, hw⟩ => ⟨he, hw ▸ Below.refl _ _⟩)
    ·cases hv
   ·cases hv
  ·cases h
def tzF (x : Int) : Int := tz64Tab.getD (tzIx x).toNat 0
def tzC (x : Int) : Bool := !(x == 0) && (decide (0 ≤ tzIx x) && decide (tzIx x < 64))
theorem tzF_ok {x : Int} (h : tzC x = true) (w : World) (hI : seatInv w) : Calls Proofs.Tryz.prog 135 #[.int .u64 x] w (fun e w' => e = .returned (.int .i64 (tzF x)) ∧ Below w.heap.size w w') := by
 have hp : pTz [.int .u64 x] = some (.int .i64 (tzF x)) := by
  unfold tzC at h
  simp only [pTz, h]
  rfl
 exact ((tzPrim_ok 135 pTz rfl).2 [.int .u64 x] _ hp).2.2 w hI
section
variable {P : Program} {ops : Array Oper} {md : Region.Mode} {C : World → Prop}
end
theorem v_mlen {J : Ins} {d : Option (List Bool)} {x : Src} {t : Tr} {h : Heap} (hI : J = .rd d (rMapLen x)) {b : Nat} (hx : ev t x = .map (some b)) {es : List (List Int × Value)} (hg : hget h b = some (.imap es)) {n : Nat} (hn : es.length = n) :
 insV J t h = some (.int .i64 ((n : Nat) : Int)) := by
 subst hI
 subst hn
 simp only [insV, rMapLen, hx, hg]
 rfl
theorem imC_len {α : Type} (g : α → Value) (l : List (Int × α)) : (imC g l).length = l.length := by simp [imC]
theorem HRel.extAt {B : Bd} {ρ : Rho} {h : Heap} {w : World} (H : HRel B ρ h w) {i : Nat} {p : Ext} {L : Loc} (hi : hget h i = some (.ext p)) (hL : ρ[i]? = some L) :
 ∃ F, p.P w L.b F ∧ L.b ∉ F ∧ L.sh = 0 ∧ L.es = 0 ∧ B.may L.b ∧ (∀ x, x ∈ F → B.may x) ∧
  ∀ (w' : World) (q : Ext) (F' : List Nat), q.P w' L.b F' → L.b ∉ F' → (∀ x, x ∈ F' → x ∈ F ∨ (w.heap.size ≤ x ∧ B.may x)) → (∀ k, k < w.heap.size → k ≠ L.b → k ∉ F → w'.heap[k]? = w.heap[k]?) → HRel B ρ (hset h i (.ext q)) w' := by
 obtain ⟨fp, e1, e2, e3⟩ := H.ext
 obtain ⟨M, m1, m2, m3⟩ := e1 i p hi
 rw [hL] at m1; cases m1
 obtain ⟨h1, h2⟩ := H.at hi hL
 have hng : ¬ L.gho := fun q => q.1 h2.2.1
 have hbm : B.may L.b := h1 rfl hng
 have hself : L.b ∉ fp i := e2 i p i _ L hi hi hL hng trivial
 refine ⟨fp i, m2, hself, h2.1, h2.2.1, hbm, m3, fun w' q F' hq hn hF hw => ?_⟩
 have hg := hget_hset hi (.ext q)
 have hlt := p.lt _ _ _ m2
 have hlq := q.lt _ _ _ hq
 have other : ∀ j o M, j ≠ i → hget h j = some o → ρ[j]? = some M → ¬ M.gho → own ρ M o → M.b < w.heap.size ∧ M.b ≠ L.b ∧ M.b ∉ fp i := fun j o M ne hj hM g ow => by
  obtain ⟨M', q1, q2, q3⟩ := H.ok j o hj
  rw [hM] at q1; cases q1
  exact ⟨q3.lt g ow, fun e => ne (H.inj j i o _ M L hj hi hM hL g hng ow trivial (.inr rfl) e), e2 i p j o M hi hj hM g ow⟩
 refine ⟨fun j o hj => ?_, fun j k o o' M M' hj hk hM hM' n1 n2 o1 o2 hz hb => ?_, ?_⟩
 ·rw [hg] at hj
  by_cases ej : j = i
  ·rw [if_pos ej] at hj; cases hj; subst ej
   refine ⟨L, hL, fun _ _ => hbm, h2.1, h2.2.1, ?_⟩
   have := hlq L.b (.inl rfl)
   rw [Array.getElem?_eq_getElem this]; rfl
  ·rw [if_neg ej] at hj
   obtain ⟨M, q1, q2, q3⟩ := H.ok j o hj
   refine ⟨M, q1, q2, q3.stay (fun lt g ow => ?_)⟩
   obtain ⟨a1, a2, a3⟩ := other j o M ej hj q1 g ow
   exact hw _ a1 a2 a3
 ·rw [hg] at hj hk
  have old : ∀ z u N, (if z = i then some (XObj.ext q) else hget h z) = some u → ρ[z]? = some N → own ρ N u → ∃ u', hget h z = some u' ∧ own ρ N u' ∧ (frz u = false → frz u' = false) := by
   intro z u N hz hN hu
   by_cases ez : z = i
   ·subst ez
    rw [hL] at hN; cases hN
    exact ⟨_, hi, trivial, fun _ => rfl⟩
   ·rw [if_neg ez] at hz; exact ⟨u, hz, hu, id⟩
  obtain ⟨x', a1, a2, a3⟩ := old j o M hj hM o1
  obtain ⟨y', b1, b2, b3⟩ := old k o' M' hk hM' o2
  exact H.inj j k x' y' M M' a1 b1 hM hM' n1 n2 a2 b2 (hz.imp a3 b3) hb
 ·obtain ⟨gf, ga, gb⟩ : ∃ gf : Nat → List Nat, gf i = F' ∧ ∀ j, j ≠ i → gf j = fp j := ⟨fun j => if j = i then F' else fp j, if_pos rfl, fun j e => if_neg e⟩
  refine ⟨gf, fun j r hj => ?_, fun j r k o M hj hk hM g ow hm => ?_, fun j r k t hj hk ne x hx hy => ?_⟩
  ·rw [hg] at hj
   by_cases ej : j = i
   ·rw [if_pos ej] at hj; cases hj; subst ej
    refine ⟨L, hL, by rw [ga]; exact hq, fun x hx => ?_⟩
    rw [ga] at hx
    rcases hF x hx with y | y
    ·exact m3 x y
    ·exact y.2
   ·rw [if_neg ej] at hj
    obtain ⟨M, q1, q2, q3⟩ := e1 j r hj
    rw [gb j ej]
    have hgo : ¬ M.gho := fun g => by
     obtain ⟨M', c1, _, c3⟩ := H.ok j _ hj
     rw [q1] at c1; cases c1
     exact g.1 c3.2.1
    obtain ⟨a1, a2, a3⟩ := other j _ M ej hj q1 hgo trivial
    refine ⟨M, q1, r.frame _ _ _ _ q2 (fun x hx => ?_), q3⟩
    rcases hx with hx | hx
    ·subst hx; exact hw _ a1 a2 a3
    ·refine hw x (r.lt _ _ _ q2 x (.inr hx)) (fun e => ?_) (fun e => e3 j r i p hj hi ej x hx e)
     subst e
     exact e2 j r i _ L hj hi hL hng trivial hx
  ·rw [hg] at hj hk
   by_cases ej : j = i
   ·subst ej
    rw [ga] at hm
    by_cases ek : k = j
    ·subst ek
     rw [hL] at hM; cases hM
     exact hn hm
    ·rw [if_neg ek] at hk
     obtain ⟨a1, a2, a3⟩ := other k o M ek hk hM g ow
     rcases hF _ hm with y | y
     ·exact a3 y
     ·omega
   ·rw [if_neg ej] at hj
    rw [gb j ej] at hm
    by_cases ek : k = i
    ·subst ek
     rw [hL] at hM; cases hM
     exact e2 j r k _ L hj hi hL hng trivial hm
    ·rw [if_neg ek] at hk
     exact e2 j r k o M hj hk hM g ow hm
  ·rw [hg] at hj hk
   by_cases ej : j = i
   ·subst ej
    rw [ga] at hx
    rw [if_neg (Ne.symm ne)] at hk
    rw [gb k (Ne.symm ne)] at hy
    rcases hF x hx with y | y
    ·exact e3 j p k t hi hk ne x y hy
    ·obtain ⟨M, q1, q2, _⟩ := e1 k t hk
     have := t.lt _ _ _ q2 x (.inr hy)
     omega
   ·rw [if_neg ej] at hj
    rw [gb j ej] at hx
    by_cases ek : k = i
    ·subst ek
     rw [ga] at hy
     rcases hF x hy with y | y
     ·exact e3 j r k p hj hi ne x hx y
     ·obtain ⟨M, q1, q2, _⟩ := e1 j r hj
      have := r.lt _ _ _ q2 x (.inr hx)
      omega
    ·rw [if_neg ek] at hk
     rw [gb k ek] at hy
     exact e3 j r k t hj hk ne x hx hy
theorem HRel.extNew {B : Bd} {ρ : Rho} {h : Heap} {w w' : World} (H : HRel B ρ h w) (hB : B.n ≤ w.heap.size) {q : Ext} {b : Nat} {F : List Nat} (hq : q.P w' b F) (hn : b ∉ F) (hb : w.heap.size ≤ b) (hF : ∀ x, x ∈ F → w.heap.size ≤ x)
 (e : ∀ k, k < w.heap.size → w'.heap[k]? = w.heap[k]?) : HRel B (ρ ++ [⟨b, 0, 0, 0⟩]) ((ρ.length, .ext q) :: h) w' := by
 have H' := H.keep (Rho.le_push ρ ⟨b, 0, 0, 0⟩) e
 have hnew : (ρ ++ [(⟨b, 0, 0, 0⟩ : Loc)])[ρ.length]? = some ⟨b, 0, 0, 0⟩ := by simp
 obtain ⟨fp, e1, e2, e3⟩ := H.ext
 have back : ∀ j o M, hget h j = some o → (ρ ++ [(⟨b, 0, 0, 0⟩ : Loc)])[j]? = some M → own (ρ ++ [(⟨b, 0, 0, 0⟩ : Loc)]) M o → ρ[j]? = some M ∧ own ρ M o := fun j o M hj hM ow => by
  obtain ⟨N, n1, _, n3⟩ := H.ok j o hj
  have := Rho.le_push ρ ⟨b, 0, 0, 0⟩ j N n1
  rw [hM] at this; cases this
  exact ⟨n1, own_down (Rho.le_push ρ _) n3 ow⟩
 have lo : ∀ j o M, hget h j = some o → ρ[j]? = some M → ¬ M.gho → own ρ M o → M.b < w.heap.size := fun j o M hj hM g ow => by
  obtain ⟨N, n1, _, n3⟩ := H.ok j o hj
  rw [hM] at n1; cases n1
  exact n3.lt g ow
 have hns : ∀ j o, hget h j = some o → ρ.length ≠ j := fun j o hj => by
  obtain ⟨N, n1, _⟩ := H.ok j o hj
  have := (List.getElem?_eq_some_iff.1 n1).1
  omega
 have lof : ∀ j r x, hget h j = some (.ext r) → x ∈ fp j → x < w.heap.size := fun j r x hj hx => by
  obtain ⟨M, m1, m2, m3⟩ := e1 j r hj
  exact r.lt _ _ _ m2 x (.inr hx)
 refine ⟨fun j o hj => ?_, fun j k o o' M M' hj hk hM hM' n1 n2 o1 o2 hz hbb => ?_, ?_⟩
 ·rw [hget_cons] at hj
  by_cases ej : ρ.length = j
  ·rw [if_pos ej] at hj; cases hj; subst ej
   refine ⟨_, hnew, fun _ _ => .inl (Nat.le_trans hB hb), rfl, rfl, ?_⟩
   have := q.lt _ _ _ hq b (.inl rfl)
   show (w'.heap[b]?).isSome = true
   rw [Array.getElem?_eq_getElem this]; rfl
  ·rw [if_neg ej] at hj; exact H'.ok j o hj
 ·rw [hget_cons] at hj hk
  by_cases ej : ρ.length = j <;> by_cases ek : ρ.length = k
  ·omega
  ·rw [if_neg ek] at hk
   subst ej
   rw [hnew] at hM; cases hM
   obtain ⟨c1, c2⟩ := back k o' M' hk hM' o2
   have := lo k o' M' hk c1 n2 c2
   have hbb : b = M'.b := hbb
   omega
  ·rw [if_neg ej] at hj
   subst ek
   rw [hnew] at hM'; cases hM'
   obtain ⟨c1, c2⟩ := back j o M hj hM o1
   have := lo j o M hj c1 n1 c2
   have hbb : M.b = b := hbb
   omega
  ·rw [if_neg ej] at hj
   rw [if_neg ek] at hk
   exact H'.inj j k o o' M M' hj hk hM hM' n1 n2 o1 o2 hz hbb
 ·obtain ⟨gf, ga, gb⟩ : ∃ gf : Nat → List Nat, gf ρ.length = F ∧ ∀ j, ρ.length ≠ j → gf j = fp j := ⟨fun j => if ρ.length = j then F else fp j, if_pos rfl, fun j e => if_neg e⟩
  refine ⟨gf, fun j r hj => ?_, fun j r k o M hj hk hM g ow hm => ?_, fun j r k t hj hk ne x hx hy => ?_⟩
  ·rw [hget_cons] at hj
   by_cases ej : ρ.length = j
   ·rw [if_pos ej] at hj; cases hj; subst ej
    exact ⟨_, hnew, by rw [ga]; exact hq, fun x hx => .inl (Nat.le_trans hB (hF x (by rw [ga] at hx; exact hx)))⟩
   ·rw [if_neg ej] at hj
    obtain ⟨M, q1, q2, q3⟩ := e1 j r hj
    rw [gb j ej]
    exact ⟨M, Rho.le_push ρ _ j M q1, r.frame _ _ _ _ q2 (fun x hx => e x (r.lt _ _ _ q2 x hx)), q3⟩
  ·rw [hget_cons] at hj hk
   by_cases ej : ρ.length = j
   ·subst ej
    rw [ga] at hm
    by_cases ek : ρ.length = k
    ·subst ek
     rw [hnew] at hM; cases hM
     exact hn hm
    ·rw [if_neg ek] at hk
     obtain ⟨c1, c2⟩ := back k o M hk hM ow
     have := lo k o M hk c1 g c2
     have := hF _ hm
     omega
   ·rw [if_neg ej] at hj
    rw [gb j ej] at hm
    by_cases ek : ρ.length = k
    ·subst ek
     rw [hnew] at hM; cases hM
     have hm : b ∈ fp j := hm
     have := lof j r b hj hm
     omega
    ·rw [if_neg ek] at hk
     obtain ⟨c1, c2⟩ := back k o M hk hM ow
     exact e2 j r k o M hj hk c1 g c2 hm
  ·rw [hget_cons] at hj hk
   by_cases ej : ρ.length = j
   ·rw [if_neg (fun e => ne (ej.symm.trans e))] at hk
    subst ej
    rw [ga] at hx
    rw [gb k ne] at hy
    have := hF x hx
    have := lof k t x hk hy
    omega
   ·rw [if_neg ej] at hj
    rw [gb j ej] at hx
    by_cases ek : ρ.length = k
    ·subst ek
     rw [ga] at hy
     have := hF x hy
     have := lof j r x hj hx
     omega
    ·rw [if_neg ek] at hk
     rw [gb k ek] at hy
     exact e3 j r k t hj hk ne x hx hy
def CX (E : Env) (K : Nat) (p : Ext) (args : List Value) (v : Value) (q : Ext) : Prop :=
 ∀ (w : World) (b : Nat) (F : List Nat), E.inv w → p.P w b F → b ∉ F → (∀ x, x = b ∨ x ∈ F → E.G ≤ x) → E.G ≤ w.heap.size →
  (callFunc K (.pointer (some ⟨b, 0, none⟩) :: args).toArray).run E.P w = .ok (.enter K (.pointer (some ⟨b, 0, none⟩) :: args).toArray) w ∧
  Calls E.P K (.pointer (some ⟨b, 0, none⟩) :: args).toArray w (fun e w' => e = .returned v ∧ Bel ⟨w.heap.size, b :: F⟩ w w' ∧ ∃ F', q.P w' b F' ∧ b ∉ F' ∧ ∀ x, x ∈ F' → x ∈ F ∨ w.heap.size ≤ x)
theorem bel_ext {B : Bd} {w w' : World} {b : Nat} {F : List Nat} (h : Bel ⟨w.heap.size, b :: F⟩ w w') (hB : B.n ≤ w.heap.size) (hb : B.may b) (hF : ∀ x, x ∈ F → B.may x) : Bel B w w' :=
 ⟨h.os, h.tape, h.output, h.size, fun k hk => h.block k (fun q => hk (by
  rcases q with q | q
  ·exact .inl (Nat.le_trans hB q)
  ·rcases List.mem_cons.1 q with e | e
   ·rw [e]; exact hb
   ·exact hF k e))⟩
theorem bel_at {w w' : World} {b : Nat} {F : List Nat} (h : Bel ⟨w.heap.size, b :: F⟩ w w') {k : Nat} (h1 : k < w.heap.size) (h2 : k ≠ b) (h3 : k ∉ F) : w'.heap[k]? = w.heap[k]? :=
 h.block k (fun q => by
  rcases q with q | q
  ·exact absurd (Nat.lt_of_lt_of_le h1 q) (Nat.lt_irrefl _)
  ·rcases List.mem_cons.1 q with e | e
   ·exact h2 e
   ·exact h3 e)
theorem Bd.may_ge {B : Bd} {G x : Nat} (h : B.ge G) (hm : B.may x) : G ≤ x := by
 rcases hm with q | q
 ·exact Nat.le_trans h.1 q
 ·exact h.2 x q
theorem ptr_args {ρ : Rho} {i : Nat} {args args' : List Value} (hp : args.all plain = true) (h : Cells ρ (.pointer (some ⟨i, 0, none⟩) :: args) args') {L : Loc} (hL : ρ[i]? = some L) (hs : L.sh = 0) : args' = .pointer (some ⟨L.b, 0, none⟩) :: args := by
 cases args' with
 | nil => have := h.1; simp at this
 | cons a l =>
  have h0 := h.2 0 _ a rfl rfl
  have ha : a = .pointer (some ⟨L.b, 0, none⟩) := by
   cases h0 with
   | ptr _ _ M hM =>
    rw [hL] at hM; cases hM
    rw [hs]
  have hl : Cells ρ args l := ⟨by have := h.1; simpa using this, fun j u u' e1 e2 => h.2 (j + 1) u u' (by simpa using e1) (by simpa using e2)⟩
  rw [ha, hl.plain_eq hp]
theorem KC.ofX {E : Env} {K : Nat} {p q : Ext} {args : List Value} {v : Value} (hp : args.all plain = true) (hv : plain v = true) (hx : CX E K p args v q) {i : Nat} {h h2 : Heap} {c : Nat} (hi : hget h i = some (.ext p)) (h2e : hset h i (.ext q) = h2) :
 KC E K (.pointer (some ⟨i, 0, none⟩) :: args) h c (fun v' h' c' => v' = v ∧ h' = h2 ∧ c' = c) := by
 intro B ρ w args' h1 hH h3 h4 h5 h6
 obtain ⟨L, hL, _⟩ := hH.ok i _ hi
 obtain ⟨F, f1, f2, f3, f4, f5, f6, f7⟩ := hH.extAt hi hL
 rw [ptr_args hp h1 hL f3]
 obtain ⟨q1, q2⟩ := hx w L.b F h6 f1 f2 (fun x hx => by
  rcases hx with e | e
  ·rw [e]; exact Bd.may_ge h5 f5
  ·exact Bd.may_ge h5 (f6 x e)) (Nat.le_trans h5.1 h4)
 refine ⟨q1, q2.mono ?_⟩
 rintro e w' ⟨rfl, hb, F', g1, g2, g3⟩
 subst h2e
 exact ⟨v, v, ρ, _, c, rfl, VRel.plain_refl ρ hv, Rho.le_refl ρ, h3, f7 w' q F' g1 g2 (fun x hx => (g3 x hx).imp id (fun y => ⟨y, .inl (Nat.le_trans h4 y)⟩)) (fun k k1 k2 k3 => bel_at hb k1 k2 k3), bel_ext hb h4 f5 f6, rfl, rfl, rfl⟩
theorem VRel.rowAt {L : Loc} {n : Nat} {v' : Value} (h : VRel [L] (.slice (some ⟨0, 0, none⟩) n n) v') (ρ : Rho) : VRel (ρ ++ [L]) (.slice (some ⟨ρ.length, 0, none⟩) n n) v' := by
 have hn : (ρ ++ [L])[ρ.length]? = some L := by simp
 cases h with
 | slice _ _ _ _ M o' cap' h hz h0 h1 => cases h; exact .slice _ _ _ _ _ o' cap' hn hz h0 h1
 | sliceN _ _ M h hes => cases h; exact .sliceN _ _ _ hn hes
theorem OOk.flt_any {ρ ρ' : Rho} {w : World} {L : Loc} {cs : List Value} {fz : Nat} {e : TypeId} {es : Nat} (h : OOk ρ w L (.cells cs fz e es)) (hc : cs.all flt = true) : OOk ρ' w L (.cells cs fz e es) := by
 obtain ⟨h0, hg | ⟨C, fr, h1, h2, h3, h4, h5⟩⟩ := h
 ·exact ⟨h0, .inl hg⟩
 ·exact ⟨h0, .inr ⟨C, fr, h1, h2, h3, fun i v hi => let ⟨v', a, b⟩ := h4 i v hi; ⟨v', a, b.flt_any (List.all_eq_true.1 hc v (List.mem_of_getElem? hi))⟩, h5⟩⟩
def CN (E : Env) (K : Nat) (args : List Value) (g : Value → Value) (q : Ext) : Prop :=
 ∀ (w : World), E.inv w → E.G ≤ w.heap.size →
  (callFunc K args.toArray).run E.P w = .ok (.enter K args.toArray) w ∧
  Calls E.P K args.toArray w (fun e w' => ∃ b F, e = .returned (g (.pointer (some ⟨b, 0, none⟩))) ∧ Below w.heap.size w w' ∧ w.heap.size ≤ b ∧ q.P w' b F ∧ b ∉ F ∧ ∀ x, x ∈ F → w.heap.size ≤ x)
theorem KC.ofN {E : Env} {K : Nat} {args : List Value} {g : Value → Value} {q : Ext} (hp : args.all plain = true) (hg : ∀ (ρ : Rho) (u u' : Value), VRel ρ u u' → VRel ρ (g u) (g u')) (hx : CN E K args g q) {h : Heap} {c : Nat} :
 KC E K args h c (fun v' h' c' => v' = g (.pointer (some ⟨c, 0, none⟩)) ∧ h' = (c, .ext q) :: h ∧ c' = c + 1) := by
 intro B ρ w args' h1 hH h3 h4 h5 h6
 obtain rfl := h1.plain_eq hp
 obtain ⟨q1, q2⟩ := hx w h6 (Nat.le_trans h5.1 h4)
 refine ⟨q1, q2.mono ?_⟩
 rintro e w' ⟨b, F, rfl, hb, g1, g2, g3, g4⟩
 subst h3
 refine ⟨_, _, ρ ++ [⟨b, 0, 0, 0⟩], _, _, rfl, hg _ _ (.pointer (some ⟨b, 0, none⟩)) ?_, Rho.le_push ρ _, by simp, hH.extNew h4 g2 g3 g1 g4 (fun k hk => hb.block k hk), Bel.of hb h4, rfl, rfl, rfl⟩
 have := VRel.ptr (ρ := ρ ++ [⟨b, 0, 0, 0⟩]) ρ.length 0 ⟨b, 0, 0, 0⟩ (by simp)
 simpa using this
theorem HRel.reB {B B' : Bd} {ρ : Rho} {h : Heap} {w : World} (H : HRel B ρ h w) (hx : noX h) (hm : ∀ i o L, hget h i = some o → ρ[i]? = some L → frz o = false → ¬ L.gho → B'.may L.b) : HRel B' ρ h w :=
 ⟨fun i o hi => let ⟨L, h1, _, h3⟩ := H.ok i o hi; ⟨L, h1, fun a b => hm i o L hi h1 a b, h3⟩, H.inj, .none hx⟩
def AfterD (k : Nat) (B : Bd) (nt : Nat) (ρ : Rho) (w : World) (Q : QP) (QD : Nat → List Value → QP) (e' : Exit) (a' : Act) (w' : World) : Prop :=
 After k B nt ρ w [] Q e' a' w' ∨ ∃ e σ h c ρ' fn cap cap', e' = exO e ∧ a'.defers = [{ target := .fn (.func fn) (List.toArray cap'), args := #[] }] ∧ Cells ρ' cap cap' ∧ SRel ρ' nt σ a' ∧ HRel B ρ' h w' ∧ ρ'.length = c ∧ Keeps k ρ ρ' ∧ Bel B w w' ∧ QD fn cap e σ h c
def XF (E : Env) (nt k : Nat) (code : Code) (σ : St) (h : Heap) (c : Nat) (Q : QP) (QD : Nat → List Value → QP) : Prop :=
 ∀ (B : Bd) (ρ : Rho) (a : Act) (w : World), SRel ρ nt σ a → HRel B ρ h w → ρ.length = c → B.n ≤ w.heap.size → B.ge E.G → E.inv w → k ≤ ρ.length → a.defers = [] → code.wp E.P (AfterD k B nt ρ w Q QD) a w
theorem AfterD.trans {k : Nat} {B : Bd} {nt : Nat} {ρ ρ1 : Rho} {w w1 w2 : World} {Q : QP} {QD : Nat → List Value → QP} {e : Exit} {a : Act} (hk : Keeps k ρ ρ1) (hb : Bel B w w1) (h : AfterD k B nt ρ1 w1 Q QD e a w2) : AfterD k B nt ρ w Q QD e a w2 := by
 rcases h with h | ⟨e, σ, h, c, ρ', fn, cap, cap', q1, q2, q3, q4, q5, q6, q7, q8, q9⟩
 ·exact .inl (h.trans hk hb)
 ·exact .inr ⟨e, σ, h, c, ρ', fn, cap, cap', q1, q2, q3, q4, q5, q6, hk.trans q7, hb.trans q8, q9⟩
theorem XF.seq {E : Env} (hE : E.Ok) {nt k : Nat} {code : Code} (hs : isSeq code = true) {σ : St} {h : Heap} {c : Nat} {Q : QP} {QD : Nat → List Value → QP}
 (hx : XQ E nt k (lft code) σ h c (Then (fun σ h c => XF E nt k (rgt code) σ h c Q QD) Q)) : XF E nt k code σ h c Q QD := by
 cases code with
 | seq x y =>
  intro B ρ a w h1 h2 h3 h4 h5 h6 h7 h8
  refine wp_seq (wp_mono (hx B ρ a w h1 h2 h3 h4 h5 h6 h7) ?_)
  rintro e' a1 w1 ⟨e, σ', h', c', ρ', rfl, q2, q3, q4, q5, q6, q7, q8⟩
  cases e with
  | normal =>
   have := q8 B ρ' a1 w1 q3 q4 q5 (Nat.le_trans h4 q7.size) h5 (hE.keep h5 h6 q7) q6.le (q2.trans h8)
   exact wp_mono this (fun e2 a2 w2 hA => hA.trans q6 q7)
  | exit i => exact .inl ⟨.exit i, σ', h', c', ρ', rfl, q2.trans h8, q3, q4, q5, q6, q7, q8⟩
  | ret => exact .inl ⟨.ret, σ', h', c', ρ', rfl, q2.trans h8, q3, q4, q5, q6, q7, q8⟩
 | _ => cases hs
def deferOf (o : Oper) : Option (Nat × List Operand) :=
 match o.op with
 | .defer c => match c.callee with
  | .value (.tmp t) => some (t, c.args.toList)
  | _ => none
 | _ => none
theorem XF.defer {E : Env} (hE : E.Ok) (n : Nat) {nt k : Nat} {code : Code} (hs : isSeq code = true) (hd : drawOf (lft code) = some false) (j : Nat) {t : Nat} (live : List Nat) {σ σ' : St} {h h' : Heap} {c c' : Nat} {fn : Nat} {cap : List Value} {Q : QP} {QD : Nat → List Value → QP}
 (hl : live.all (fun i => Nat.blt i nt) = true) (hsz : (opsOf (lft code)).size = j + 1)
 (hr : obsO live (xops (callF E (exec E n)) ((gsOf E nt (opsOf (lft code))).take j) (trS nt σ) h c) = some (σ', h', c'))
 (ho : ((opsOf (lft code))[j]?).bind deferOf = some (t, [])) (hg : ((opsOf (lft code))[j]?).bind (fun o => o.guard) = none) (hdst : ((opsOf (lft code))[j]?).bind (fun o => o.dst) = none)
 (hc : lookS σ' t = some (.func (.func fn) #[] cap.toArray))
 (hx : XQ E nt c' (rgt code) σ' h' c' (QD fn cap)) : XF E nt k code σ h c Q QD := by
 cases code with
 | seq x y =>
  cases x with
  | region id ops d =>
   cases hd
   intro B ρ a w h1 h2 h3 h4 h5 h6 h7 h8
   have hsz : ops.size = j + 1 := hsz
   have hr : obsO live (xops (callF E (exec E n)) ((gsOf E nt ops).take j) (trS nt σ) h c) = some (σ', h', c') := hr
   have hj : j < ops.size := by omega
   have hoj : ops[j]? = some ops[j] := Array.getElem?_eq_getElem hj
   have ho : deferOf ops[j] = some (t, []) := by
    have : (ops[j]?).bind deferOf = some (t, []) := ho
    rwa [hoj] at this
   have hg : ops[j].guard = none := by
    have : (ops[j]?).bind (fun o => o.guard) = none := hg
    rwa [hoj] at this
   have hdst : ops[j].dst = none := by
    have : (ops[j]?).bind (fun o => o.dst) = none := hdst
    rwa [hoj] at this
   cases hx0 : xops (callF E (exec E n)) ((gsOf E nt ops).take j) (trS nt σ) h c with
   | none => rw [hx0] at hr; cases hr
   | some t2 h2' c2 =>
    rw [hx0] at hr
    cases hr
    refine wp_seq (wp_region_list ?_)
    obtain ⟨s1, s2⟩ := sub_ok hE nt ops 0 j
    simp only [List.drop_zero] at s1 s2
    have hlist : ops.toList = ops.toList.take j ++ [ops[j]] := by
     conv => lhs; rw [← List.take_append_drop j ops.toList]
     congr 1
     rw [List.drop_eq_getElem_cons (by simpa using hj)]
     simp only [Array.getElem_toList, List.cons.injEq, true_and]
     exact List.drop_eq_nil_of_le (by simp; omega)
    have harr : ops.toList.toArray = ops := by simp
    rw [hlist]
    have key := xops_pre hE (callF_ok hE (exec_ok hE n).1) (all := ops.toList) (Q := Exit.then (fun a' w' => y.wp E.P (AfterD k B nt ρ w Q QD) a' w') (AfterD k B nt ρ w Q QD)) [ops[j]] _ _ s1 s2 _ t2 h _ c _ hx0 B ρ a w h1.tr h2 h3 h4 h5 h6 ?_
    ·rw [harr] at key; exact key
    ·rintro a' w' ⟨d1, ρ', p1, p2, p3, p4, p5⟩
     have hs' : SRel ρ' nt (readS t2 live) a' := SRel.of_tr p1 hl
     obtain ⟨hv1, hv2⟩ := hs'.2.2 t _ (lookS_mem hc)
     refine wpList_step (fun N hN => ?_)
     rw [if_pos (by simp only [Region.wanted]; rw [hg])]
     generalize hu : a'.tmps.getD t undef = u at hv2
     cases hv2 with
     | func _ _ f2 _ c2' hf hcc hA1 hA2 =>
      have hf2 : f2 = #[] := Array.eq_empty_of_size_eq_zero hf.symm
      subst hf2
      have hex : (execOp a'.eval ops[j]).run E.P w' = .ok (.defer { target := .fn (.func fn) c2', args := #[] }) w' := by
       unfold deferOf at ho
       split at ho
       ·rename_i cc hop
        split at ho
        ·rename_i t' hcal
         simp only [Option.some.injEq, Prod.mk.injEq] at ho
         obtain ⟨rfl, ha⟩ := ho
         have hev : a'.eval (.tmp t') = .func (.func fn) #[] c2' := hu
         have hargs : cc.args = #[] := by
          have := congrArg List.toArray ha
          simpa using this
         simp [execOp, hop, resolve, hcal, hev, hargs, Deferred.ofValue]
        ·cases ho
       ·cases ho
      unfold Oper.wp
      rw [hex, Oper.upon_defer, hdst]
      refine hN _ _ (wpList_nil ?_)
      show y.wp E.P (AfterD k B nt ρ w Q QD) _ w'
      have hsR : SRel ρ' nt (readS t2 live) (({ a' with defers := { target := .fn (.func fn) c2', args := #[] } :: a'.defers } : Act).put none undef) := hs'
      refine wp_mono (hx B ρ' _ w' hsR p4 p3 (Nat.le_trans h4 p5.size) h5 (hE.keep h5 h6 p5) (Nat.le_of_eq p3.symm)) ?_
      rintro e'' a'' w'' ⟨e, σ2, h2, c3, ρ2, rfl, d2, r3, r4, r5, r6, r7, r8⟩
      have hle : Rho.le ρ' ρ2 := fun i L hi => by
       have := (List.getElem?_eq_some_iff.1 hi).1
       rw [r6.2 i (by omega)]; exact hi
      refine .inr ⟨e, σ2, h2, c3, ρ2, fn, cap, c2'.toList, rfl, ?_, ?_, r3, r4, r5, Keeps.of_le h7 (Rho.le_trans p2 hle), p5.trans r7, r8⟩
      ·rw [d2]
       show { target := Target.fn (.func fn) c2', args := #[] } :: a'.defers = _
       rw [d1, h8]
      ·exact ⟨by simpa using hcc, fun i v v' e1 e2 => (hA2 i v v' (by simpa using e1) (by simpa using e2)).mono hle⟩
  | _ => cases hd
 | _ => cases hs
def KD (E : Env) (fn : Nat) (cap : List Value) (h : Heap) (c : Nat) (R : Heap → Nat → Prop) : Prop :=
 ∃ F code, E.fn fn = some F ∧ F.body = some code ∧ (Nat.ble cap.length F.ntmps && Nat.ble F.ntmps 4000) = true ∧
  XQ E F.ntmps c code (argS cap 0) h c (fun e σ h' c' => (∀ i, e ≠ .exit i) ∧ (∃ v, resOf E F.ntmps (trS F.ntmps σ) h' F.results.toList = some v) ∧ R h' c')
theorem arg_rel {ρ : Rho} {cap cap' : List Value} {n : Nat} (h1 : Cells ρ cap cap') (hn : (Nat.ble cap.length n && Nat.ble n 4000) = true) : SRel ρ n (argS cap 0) { tmps := cap'.toArray ++ Array.replicate (n - cap'.toArray.size) undef, defers := [] } := by
 simp only [Bool.and_eq_true, Nat.ble_eq] at hn
 have ht := initTm_rel h1 hn.1 hn.2
 refine ⟨ht.1, ht.2.1, fun i v hm => ?_⟩
 obtain ⟨_, q⟩ := argS_mem hm
 have hi : i < cap.length := by have := (List.getElem?_eq_some_iff.1 q).1; simpa using this
 have := ht.2.2 i (by omega)
 rw [initTm_get cap 0 .nil i (by omega) (by omega), if_pos (by omega), q] at this
 exact ⟨by omega, this⟩
theorem KC.bodyD {E : Env} (hE : E.Ok) {K : Nat} {F : Func} (hF : E.fn K = some F) {code : Code} (hb : F.body = some code) {args : List Value} (hn : (Nat.ble args.length F.ntmps && Nat.ble F.ntmps 4000) = true) {h : Heap} {c : Nat} {R : Value → Heap → Nat → Prop}
 (hx : XF E F.ntmps c code (argS args 0) h c (fun e σ h' c' => (∀ i, e ≠ .exit i) ∧ ∃ v, resOf E F.ntmps (trS F.ntmps σ) h' F.results.toList = some v ∧ R v h' c')
  (fun fn cap e σ h' c' => (∀ i, e ≠ .exit i) ∧ KD E fn cap h' c' (fun h2 c2 => ∃ v, resOf E F.ntmps (trS F.ntmps σ) h2 F.results.toList = some v ∧ R v h2 c2))) : KC E K args h c R := by
 intro B ρ w args' h1 h2 h3 h4 h5 h6
 obtain ⟨f1, f2, f3⟩ := hE.fn K F hF
 refine ⟨run_callFunc_go f1 f2 f3 _ w, calls_of_wp_defers f1 hb ?_⟩
 refine wp_mono (hx B ρ _ w (arg_rel h1 hn) h2 h3 h4 h5 h6 (by omega) rfl) ?_
 rintro e' a' w' (⟨e, σ, h', c', ρ', rfl, d, p1, p2, p3, p4, p5, p6, v, p7, p8⟩ | ⟨e, σ, h', c', ρ', fn, cap, cap', rfl, d, pc, p1, p2, p3, p4, p5, p6, F1, code1, g1, g2, g3, g4⟩)
 ·obtain ⟨v', q1, q2⟩ := resOf_ok hE p7 p1.tr p2
  have hle : Rho.le ρ ρ' := fun i L hi => by
   have := (List.getElem?_eq_some_iff.1 hi).1
   rw [p4.2 i (by omega)]; exact hi
  have fin : ∃ v, (results F a'.tmps).run E.P w' = .ok v w' ∧ ∃ u u' ρ' h' c', (Ending.returned v) = .returned u' ∧ VRel ρ' u u' ∧ Rho.le ρ ρ' ∧ ρ'.length = c' ∧ HRel B ρ' h' w' ∧ Bel B w w' ∧ R u h' c' := ⟨v', q2, v, v', ρ', h', c', rfl, q1, hle, p3, p2, p5, p8⟩
  cases e with
  | normal => show Leaves _ _ _ _ a'.defers _ _; rw [d]; exact fin
  | exit i => exact absurd rfl (p6 i)
  | ret => show Leaves _ _ _ _ a'.defers _ _; rw [d]; exact fin
 ·have hle : Rho.le ρ ρ' := fun i L hi => by
   have := (List.getElem?_eq_some_iff.1 hi).1
   rw [p4.2 i (by omega)]; exact hi
  obtain ⟨k1, k2, k3⟩ := hE.fn fn F1 g1
  have hi : (invoke (.fn (.func fn) cap'.toArray) #[]).run E.P w' = .ok (.enter fn cap'.toArray) w' := by
   have := run_callFunc_go k1 k2 k3 cap'.toArray w'
   simpa [invoke] using this
  have hwp := g4 B ρ' _ w' (arg_rel pc g3) p2 p3 (Nat.le_trans h4 p5.size) h5 (hE.keep h5 h6 p5) (by omega)
  have hcall : CallsD E.P fn cap'.toArray .returning w' (fun e u' w'' => u' = .returning ∧ (∃ v, e = .returned v) ∧ ∃ v v' ρ' h' c', (results F a'.tmps).run E.P w'' = .ok v' w'' ∧ VRel ρ' v v' ∧ Rho.le ρ ρ' ∧ ρ'.length = c' ∧ HRel B ρ' h' w'' ∧ Bel B w w'' ∧ R v h' c') := by
   refine callsD_of_wp (R := fun e w'' => (∃ v, e = .returned v) ∧ ∃ v v' ρ' h' c', (results F a'.tmps).run E.P w'' = .ok v' w'' ∧ VRel ρ' v v' ∧ Rho.le ρ ρ' ∧ ρ'.length = c' ∧ HRel B ρ' h' w'' ∧ Bel B w w'' ∧ R v h' c') k1 g2 ?_
   refine wp_mono hwp ?_
   rintro e2 a2 w2 ⟨e2, σ2, h2', c2, ρ2, rfl, d2, r1, r2, r3, r4, r5, r6, ⟨v2, r7⟩, v, r8, r9⟩
   obtain ⟨v2', s1, s2⟩ := resOf_ok hE r7 r1.tr r2
   have hle2 : Rho.le ρ' ρ2 := fun i L hi => by
    have := (List.getElem?_eq_some_iff.1 hi).1
    rw [r4.2 i (by omega)]; exact hi
   obtain ⟨v', t1, t2⟩ := resOf_ok hE r8 ((p1.mono hle2).tr) r2
   have fin : a2.defers = [] ∧ ∃ v0, (results F1 a2.tmps).run E.P w2 = .ok v0 w2 ∧ (∃ v, Ending.returned v0 = .returned v) ∧ ∃ v v' ρ' h' c', (results F a'.tmps).run E.P w2 = .ok v' w2 ∧ VRel ρ' v v' ∧ Rho.le ρ ρ' ∧ ρ'.length = c' ∧ HRel B ρ' h' w2 ∧ Bel B w w2 ∧ R v h' c' :=
    ⟨d2, v2', s2, ⟨_, rfl⟩, v, v', ρ2, h2', c2, t2, t1, Rho.le_trans hle hle2, r3, r2, p5.trans r5, r9⟩
   cases e2 with
   | normal => exact fin
   | exit i => exact absurd rfl (r6 i)
   | ret => exact fin
  have fin : Leaves E.P F a'.tmps (fun e w' => ∃ v v' ρ' h' c', e = .returned v' ∧ VRel ρ' v v' ∧ Rho.le ρ ρ' ∧ ρ'.length = c' ∧ HRel B ρ' h' w' ∧ Bel B w w' ∧ R v h' c') [{ target := .fn (.func fn) cap'.toArray, args := #[] }] .returning w' := by
   refine leaves_cons (fun q => by cases q) hi (CallsD.mono hcall ?_)
   rintro e2 u' w'' ⟨rfl, ⟨v, rfl⟩, v, v', ρ2, h2', c2, t2, t1, t3, t4, t5, t6, t7⟩
   exact ⟨v', t2, v, v', ρ2, h2', c2, rfl, t1, t3, t4, t5, t6, t7⟩
  cases e with
  | normal => show Leaves _ _ _ _ a'.defers _ _; rw [d]; exact fin
  | exit i => exact absurd rfl (p6 i)
  | ret => show Leaves _ _ _ _ a'.defers _ _; rw [d]; exact fin
def imS {α : Type} (g : α → Value) (l : List (ByteArray × α)) : List (List Int × Value) := l.map fun p => (strK p.1, g p.2)
def getS {α : Type} (d : α) : List (ByteArray × α) → ByteArray → α
 | [], _ => d
 | p :: t, k => if p.1 = k then p.2 else getS d t k
def hasS {α : Type} : List (ByteArray × α) → ByteArray → Bool
 | [], _ => false
 | p :: t, k => if p.1 = k then true else hasS t k
def putS {α : Type} : List (ByteArray × α) → ByteArray → α → List (ByteArray × α)
 | [], k, v => [(k, v)]
 | p :: t, k, v => if p.1 = k then (k, v) :: t else p :: putS t k v
def delS {α : Type} : List (ByteArray × α) → ByteArray → List (ByteArray × α)
 | [], _ => []
 | p :: t, k => if p.1 = k then t else p :: delS t k
theorem strK_iff {a b : ByteArray} : strK a = strK b ↔ a = b := ⟨strK_inj, fun e => by rw [e]⟩
theorem mfind_imS {α : Type} (g : α → Value) (d : α) (k : ByteArray) : ∀ l : List (ByteArray × α), (mfind (imS g l) (strK k)).getD (g d) = g (getS d l k)
 | [] => rfl
 | p :: l => by
  have ih := mfind_imS g d k l
  show (if strK p.1 = strK k then some (g p.2) else mfind (imS g l) (strK k)).getD (g d) = g (if p.1 = k then p.2 else getS d l k)
  by_cases e : p.1 = k
  ·rw [if_pos (strK_iff.2 e), if_pos e]; rfl
  ·rw [if_neg (fun q => e (strK_iff.1 q)), if_neg e, ih]
theorem hasS_imS {α : Type} (g : α → Value) (k : ByteArray) : ∀ l : List (ByteArray × α), (mfind (imS g l) (strK k)).isSome = hasS l k
 | [] => rfl
 | p :: l => by
  have ih := hasS_imS g k l
  show (if strK p.1 = strK k then some (g p.2) else mfind (imS g l) (strK k)).isSome = (if p.1 = k then true else hasS l k)
  by_cases e : p.1 = k
  ·rw [if_pos (strK_iff.2 e), if_pos e]; rfl
  ·rw [if_neg (fun q => e (strK_iff.1 q)), if_neg e, ih]
theorem mput_imS {α : Type} (g : α → Value) (k : ByteArray) (v : α) : ∀ l : List (ByteArray × α), mput (imS g l) (strK k) (g v) = imS g (putS l k v)
 | [] => rfl
 | p :: l => by
  have ih := mput_imS g k v l
  show (if strK p.1 = strK k then (strK k, g v) :: imS g l else (strK p.1, g p.2) :: mput (imS g l) (strK k) (g v)) = imS g (if p.1 = k then (k, v) :: l else p :: putS l k v)
  by_cases e : p.1 = k
  ·rw [if_pos (strK_iff.2 e), if_pos e]; rfl
  ·rw [if_neg (fun q => e (strK_iff.1 q)), if_neg e, ih]; rfl
theorem mdel_imS {α : Type} (g : α → Value) (k : ByteArray) : ∀ l : List (ByteArray × α), mdel (imS g l) (strK k) = imS g (delS l k)
 | [] => rfl
 | p :: l => by
  have ih := mdel_imS g k l
  show (if strK p.1 = strK k then imS g l else (strK p.1, g p.2) :: mdel (imS g l) (strK k)) = imS g (if p.1 = k then l else p :: delS l k)
  by_cases e : p.1 = k
  ·rw [if_pos (strK_iff.2 e), if_pos e]
  ·rw [if_neg (fun q => e (strK_iff.1 q)), if_neg e, ih]; rfl
theorem lens_imS {α : Type} (g : α → Value) (l : List (ByteArray × α)) : lens 0 (imS g l) = true := by
 unfold lens imS
 rw [List.all_map]
 exact List.all_eq_true.2 (fun p _ => fitK_str p.1)
theorem v_mgetSo {α : Type} (g : α → Value) {J : Ins} {d : Option (List Bool)} {x i : Src} {z : Value} {t : Tr} {h : Heap} (hI : J = .rd d (rLookup 0 x i z true)) {b : Nat} {k : ByteArray} (hx : ev t x = .map (some b)) (hi : ev t i = .string k) {l : List (ByteArray × α)}
 (hg : hget h b = some (.imap (imS g l))) {d0 : α} (hz : z = g d0) (hs : pl1 z = true) {v : Value} (hv : .tuple #[g (getS d0 l k), .bool (hasS l k)] = v) : insV J t h = some v := by
 subst hI
 simp only [insV, rLookup, hx, hg, hi, hs, keyL, fitK_str, lens_imS, Bool.and_self]
 rw [hz, mfind_imS, hasS_imS, hv]
theorem e_mputS {α : Type} (g : α → Value) {J : Ins} {d : Option (List Bool)} {m i x : Src} {t : Tr} {h h' : Heap} {c : Nat} (hI : J = .ef d (eMapUpdate 0 m i x)) {b : Nat} {k : ByteArray} (hx : ev t m = .map (some b)) (hi : ev t i = .string k) {l : List (ByteArray × α)}
 (hg : hget h b = some (.imap (imS g l))) {a : α} (hv : ev t x = g a) (hs : pl1 (g a) = true) (hh : hset h b (.imap (imS g (putS l k a))) = h') : insE J t h c = some (undef, h', c) := by
 subst hI
 simp only [insE, eMapUpdate, hx, hg, hi, hv, hs, keyL, fitK_str, lens_imS, Bool.and_self]
 rw [mput_imS, hh]
theorem e_mdelS {α : Type} (g : α → Value) {J : Ins} {d : Option (List Bool)} {m i : Src} {t : Tr} {h h' : Heap} {c : Nat} (hI : J = .ef d (eMapDelete 0 m i)) {b : Nat} {k : ByteArray} (hx : ev t m = .map (some b)) (hi : ev t i = .string k) {l : List (ByteArray × α)}
 (hg : hget h b = some (.imap (imS g l))) (hh : hset h b (.imap (imS g (delS l k))) = h') : insE J t h c = some (.tuple #[], h', c) := by
 subst hI
 simp only [insE, eMapDelete, hx, hg, hi, keyL, fitK_str, lens_imS, Bool.and_self]
 rw [mdel_imS, hh]
abbrev Bl := ByteArray × Int × Int
def blV (x : Bl) : Value := .agg #[.string x.1, .int .i64 x.2.1, .int .i64 x.2.2]
def encL (x : Bl) : List Value := [.string x.1, .int .i64 x.2.1, .int .i64 x.2.2]
theorem encL_ok : Enc encL 3 := ⟨fun _ => rfl, fun _ => rfl⟩
end Go.Xm
