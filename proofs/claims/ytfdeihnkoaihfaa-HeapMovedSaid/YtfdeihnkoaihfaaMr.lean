/- The abstract machine, part 16: append of a row of any length: the answer has a new number, whether a block is made or not. Conditions: none; nothing here speaks of one program. -/
import Derived.Test.YtfdeihnkoaihfaaMx
namespace Go.Xm
open Go.RowKit
end Go.Xm
namespace Go.Xm
open Go.RowKit
section
variable {P : Program} {ops : Array Oper} {md : Region.Mode} {C : World → Prop}
end
theorem wpPure_append {P : Program} {ops : Array Oper} {Q : Act → Prop} : ∀ (l l2 : List Oper) (a : Act), wpPure P ops (fun a' => wpPure P ops Q l2 a') l a → wpPure P ops Q (l ++ l2) a
 | [], _, _, h => h
 | _ :: l, l2, _, ⟨v, h1, h2⟩ => ⟨v, h1, wpPure_append l l2 _ h2⟩
theorem wpPure_other {P : Program} {ops ops' : Array Oper} {Q Q' : Act → Prop} (hQ : ∀ a, Q a → Q' a) : ∀ (l : List Oper), freeOf l = true → ∀ a, wpPure P ops Q l a → wpPure P ops' Q' l a
 | [], _, a, h => hQ a h
 | o :: l, hf, a, ⟨v, h1, h2⟩ => by
  simp only [freeOf, List.all_cons, Bool.and_eq_true] at hf
  refine ⟨v, ?_, wpPure_other hQ l hf.2 _ h2⟩
  rcases h1 with ⟨_, h1⟩ | ⟨h1, _⟩
  ·exact .inl ⟨free_wanted hf.1 _, h1⟩
  ·rw [free_wanted hf.1 _] at h1; cases h1
def XP (E : Env) (nt : Nat) (ops : Array Oper) (j : Nat) (σ : St) (Q : St → Prop) : Prop :=
 ∀ (ρ : Rho) (a : Act), SRel ρ nt σ a → ∀ ds : List Deferred, a.defers = ds → wpPure E.P ops (fun a' => ∃ σ', a'.defers = ds ∧ SRel ρ nt σ' a' ∧ Q σ') (ops.toList.drop j) a
theorem XP.done {E : Env} {nt : Nat} {ops : Array Oper} {j : Nat} (hj : Nat.ble ops.size j = true) {σ : St} {Q : St → Prop} (hq : Q σ) : XP E nt ops j σ Q := by
 intro ρ a h1 ds h2
 have : ops.toList.drop j = [] := List.drop_eq_nil_of_le (by simpa using hj)
 rw [this]
 exact ⟨σ, h2, h1, hq⟩
theorem XP.step {E : Env} (hE : E.Ok) {nt : Nat} {ops : Array Oper} {j : Nat} (i : Nat) (live : List Nat) {σ σ' : St} {Q : St → Prop} (hl : live.all (fun i => Nat.blt i nt) = true)
  (hr : obsT live (pops (((ops.toList.drop j).take i).map fun o => (isMove o, compG E nt ops.toList o)) (trS nt σ)) = some σ') (hx : XP E nt ops (j + i) σ' Q) : XP E nt ops j σ Q := by
 intro ρ a h1 ds h2
 cases hx0 : pops (((ops.toList.drop j).take i).map fun o => (isMove o, compG E nt ops.toList o)) (trS nt σ) with
 | none => rw [hx0] at hr; cases hr
 | some t2 =>
  rw [hx0] at hr
  cases hr
  have hlist : ops.toList.drop j = (ops.toList.drop j).take i ++ ops.toList.drop (j + i) := by
   rw [← List.drop_drop, List.take_append_drop]
  rw [hlist]
  refine wpPure_append _ _ a ?_
  have key := pops_ok hE (World.settled E.P default) (all := ops.toList) (Q := fun a' => wpPure E.P ops (fun a' => ∃ σ', a'.defers = ds ∧ SRel ρ nt σ' a' ∧ Q σ') (ops.toList.drop (j + i)) a') ((ops.toList.drop j).take i) _ t2 hx0 a h1.tr (fun a' d1 r1 => hx ρ a' (SRel.of_tr r1 hl) ds (d1.trans h2))
  have harr : ops.toList.toArray = ops := by simp
  rw [harr] at key
  exact key
theorem XP.rd {E : Env} (hE : E.Ok) {nt : Nat} {ops : Array Oper} {j : Nat} (hf : freeOf ops.toList = true) (live : List Nat) {σ σ' : St} {v : Value} {Q : St → Prop} (hl : live.all (fun i => Nat.blt i nt) = true) (hp : (plain v || ptrV v) = true)
  (hv : insV (headI ((gsOf E nt ops).drop j) (trS nt σ)) (trS nt σ) [] = some v) (hσ : readS (putX (insD (headI ((gsOf E nt ops).drop j) (trS nt σ))) v (trS nt σ)) live = σ')
  (hx : XP E nt ops (j + 1) σ' Q) : XP E nt ops j σ Q := by
 refine XP.step hE 1 live (σ' := σ') hl ?_ hx
 have e1 : (gsOf E nt ops).drop j = (ops.toList.drop j).map (compG E nt ops.toList) := by simp [gsOf, List.map_drop]
 rw [e1] at hv hσ
 cases hd : ops.toList.drop j with
 | nil => rw [hd] at hv; cases hv
 | cons o l =>
  rw [hd] at hv hσ
  have ho : o ∈ ops.toList := List.mem_of_mem_drop (i := j) (by rw [hd]; exact List.mem_cons_self ..)
  have hg : o.guard = none := by simpa using List.all_eq_true.1 hf o ho
  have ec : compG E nt ops.toList o = .ins (compOp E nt o) := by unfold compG; rw [hg]
  have hv' : insV (compOp E nt o) (trS nt σ) [] = some v := by
   have : headI ((o :: l).map (compG E nt ops.toList)) (trS nt σ) = compOp E nt o := by
    show headI (compG E nt ops.toList o :: _) _ = _
    rw [ec]; rfl
   rw [this] at hv; exact hv
  have hd' : insD (headI ((o :: l).map (compG E nt ops.toList)) (trS nt σ)) = insD (compOp E nt o) := by
   show insD (headI (compG E nt ops.toList o :: _) _) = _
   rw [ec]; rfl
  rw [hd'] at hσ
  have hpin : pins (isMove o) (.ins (compOp E nt o)) (trS nt σ) = some (putX (insD (compOp E nt o)) v (trS nt σ)) := by
   generalize compOp E nt o = ins at hv'
   cases ins with
   | rd d f =>
    have hf2 : f (trS nt σ) [] = some v := hv'
    show Option.casesOn (motive := fun _ => Option Tr) (f (trS nt σ) []) none (fun v => Bool.casesOn (isMove o || (plain v || ptrV v)) none (some (putX d v (trS nt σ)))) = _
    rw [hf2]
    show Bool.casesOn (motive := fun _ => Option Tr) (isMove o || (plain v || ptrV v)) none (some (putX d v (trS nt σ))) = _
    rw [hp, Bool.or_true]
    rfl
   | _ => cases hv'
  show obsT live (Option.casesOn (motive := fun _ => Option Tr) (pins (isMove o) (compG E nt ops.toList o) (trS nt σ)) none (pops [])) = some σ'
  rw [ec, hpin, ← hσ]
  rfl
theorem XQ.preP {E : Env} (hE : E.Ok) {nt k : Nat} {code : Code} (p H : List Nat) (t0 : Nat) (T : List Nat) (hs : drawOf code = some true) (hB : preTailB .any (opsOf code).toList.toArray p H t0 T = true) (hf : freeOf (opsOf code).toList = true)
  {σ : St} {h : Heap} {c : Nat} {Q : QP} (hx : XP E nt (reOps (opsOf code) p) 0 σ (fun σ' => XS E nt k (reOps (opsOf code) (H ++ t0 :: T)) H.length 0 σ' h c Q)) : XQ E nt k code σ h c Q := by
 cases code with
 | region id ops d =>
  cases hs
  intro B ρ a w h1 h2 h3 h4 h5 h6 h7
  have hb := drew_below w
  have hhd : HRel B ρ h w.drew := h2.keepB hb
  have hId : E.inv w.drew := hE.keep (Nat.le_trans h5 h4) h6 hb
  have hf : freeOf ops.toList = true := hf
  have hB : preTailB .any ops.toList.toArray p H t0 T = true := hB
  have hlt : ∀ i ∈ H, i < ops.toList.length := by
   have hB2 := hB
   simp only [preTailB, Bool.and_eq_true] at hB2
   intro i hi
   have := List.all_eq_true.1 hB2.1.1.1.1.1.1.2 i (by simp only [List.mem_append]; exact .inl (.inr hi))
   simpa [Nat.blt_eq] using this
  have hlen : (opsAt ops.toList H).length = H.length := by
   have := congrArg List.length (opsAt_map (l := ops.toList) H hlt)
   simpa using this.symm
  have hwp := wp_region_pre (P := E.P) (id := id) (Q := After k B nt ρ w a.defers Q) (a := a) (w := w) (l := ops.toList) p H t0 T hE.mixed hB (fun cc a w ⟨e, _, _, _, _, q, _⟩ => by cases e <;> cases q) ?_
  ·simpa using hwp
  ·refine wpPure_other ?_ (opsAt ops.toList p) (opsAt_free hf _) a (hx ρ a h1 a.defers rfl)
   rintro a' ⟨σ', d1, s1, q1⟩
   have key := q1 B ρ a' w.drew s1 hhd h3 h4 h5 hId ρ w a.defers ⟨h7, fun _ _ => rfl⟩ (Below.refl B w).drew d1
   have e1 : (reOps ops (H ++ t0 :: T)).toList = opsAt ops.toList H ++ opsAt ops.toList (t0 :: T) := by
    show (opsAt ops.toList (H ++ t0 :: T)).toArray.toList = _
    rw [opsAt_append]
   have e2 : (reOps (opsOf (.region id ops true)) (H ++ t0 :: T)) = reOps ops (H ++ t0 :: T) := rfl
   rw [e2, e1, ← hlen, List.take_left', List.drop_left', List.drop_zero] at key
   ·exact wpStill_other (fun a h => wpList_other _ (opsAt_free hf _) a _ h) _ (opsAt_free hf _) a' key
   ·rfl
   ·rfl
 | _ => cases hs
end Go.Xm
namespace Go.Xm
open Go.RowKit
theorem e_appendK {α : Type} {f : α → List Value} {s : Nat} (hf : Enc f s) {g : Ins} {d : Option (List Bool)} {bytes : Nat} {e : TypeId} {x y : Src} {t : Tr} {h h' : Heap} {c : Nat} (hI : g = .ef d (eAppendK s bytes e x y)) {b len cap : Nat} (hx : ev t x = .slice (some ⟨b, 0, none⟩) len cap) {xs : List α}
  (hg : hget h b = some (.cells (rowC f xs) 0 e s)) {m : Nat} {ys : List α} (hy : fetch h s (ev t y) = some (m + 1, rowC f ys)) (hs1 : Nat.ble 1 s = true) (hlen : len = xs.length) (hcap : cap = xs.length) (h1 : decide (1 ≤ xs.length) = true) (hft : fitsB (len + (m + 1)) bytes = true) {n' : Nat} (hn' : len + (m + 1) = n')
  (hh : (c, .cells (rowC f (xs ++ ys)) 0 e s) :: hset h b (.was (rowC f xs) c 0 e s) = h') :
  insE g t h c = some (.slice (some ⟨c, 0, none⟩) n' n', h', c + 1) := by
 subst hI
 subst hlen
 subst hcap
 subst hn'
 have h1 := of_decide_eq_true h1
 simp only [fitsB, Bool.and_eq_true] at hft
 obtain ⟨t1, t2⟩ := hft
 have hl := rowC_length hf xs
 have hrv : reviveH 30 h b = h := by simp only [reviveH, hg]
 have b1 : Nat.ble xs.length xs.length = true := Nat.ble_self_eq_true xs.length
 have b2 : Nat.ble (0 + xs.length * s) (rowC f xs).length = true := by rw [Nat.ble_eq]; omega
 have b3 : Nat.beq e e = true := Nat.beq_refl e
 have b4 : Nat.ble 0 (xs.length * s) = true := by rw [Nat.ble_eq]; omega
 have b5 : Nat.beq s s = true := Nat.beq_refl s
 simp only [insE, eAppendK, hx, hrv, eAppend, hg, hy, b1, b2, b3, t1, t2, rowC_one1 hf ys, hs1, Bool.and_self]
 cases s with
 | zero => cases hs1
 | succ s' =>
  simp only [b4, b5, Bool.and_self]
  have h3 : ((rowC f xs).drop 0).take (xs.length * (s' + 1)) = rowC f xs := by
   rw [List.drop_zero]; exact List.take_of_length_le (by omega)
  have hw : wasH true h b 0 xs.length (s' + 1) c (rowC f xs) 0 e (s' + 1) = hset h b (.was (rowC f xs) c 0 e (s' + 1)) := by
   have q1 : Nat.ble 1 xs.length = true := by rw [Nat.ble_eq]; exact h1
   have q2 : Nat.beq (xs.length * (s' + 1)) (rowC f xs).length = true := by rw [hl]; exact Nat.beq_refl _
   simp only [wasH, q1, q2, Nat.beq_refl, Bool.and_self]
  rw [h3, ← rowC_append, hw, hh]
theorem eqV_refl {a : Value} (h : scal a = true) : eqV a a = true := by
 cases a with
 | bool b => cases b <;> rfl
 | _ => simp_all [scal, eqV]
theorem eqVs_refl : ∀ {l : List Value}, l.all scal = true → eqVs l l = true
 | [], _ => rfl
 | a :: l, h => by
  simp only [List.all_cons, Bool.and_eq_true] at h
  simp only [eqVs, eqV_refl h.1, eqVs_refl h.2, Bool.and_self]
theorem XQ.backR {E : Env} {nt k : Nat} {code : Code} {α : Type} {f : α → List Value} {s : Nat} (hf : Enc f s) (hs1 : Nat.ble 1 s = true) (i j : Nat) {xs ys : List α} {e : TypeId} {σ : St} {h h' : Heap} {c : Nat} {Q : QP}
  (hi : hget h i = some (.was (rowC f xs) j 0 e s)) (hj : hget h j = some (.cells (rowC f (xs ++ ys)) 0 e s)) (hh : hset (hdel h j) i (.cells (rowC f xs) 0 e s) = h') (hx : XQ E nt k code σ h' c Q) : XQ E nt k code σ h c Q := by
 have hb : backH h i = h' := by
  rw [← hh]
  have b1 : Nat.beq e e = true := Nat.beq_refl e
  have b2 : Nat.beq s s = true := Nat.beq_refl s
  have b3 : (rowC f (xs ++ ys)).take (rowC f xs).length = rowC f xs := by rw [rowC_append, List.take_left]
  simp only [backH, hi, hj, b1, b2, hs1, b3, eqVs_refl (rowC_scal hf xs), Bool.and_self]
  rfl
 intro B ρ a w h1 h2 h3 h4 h5 h6 h7
 subst hb
 exact hx B ρ a w h1 (h2.backH i) h3 h4 h5 h6 h7
theorem Oper.wp_two {P : Program} {o : Oper} {a : Act} {w : World} {K K' : Act → World → Prop} {Q Q' : Exit → Act → World → Prop} (h : ∀ a w, K a w → K' a w) (hp : ∀ c a w, Q (.panic c) a w → Q' (.panic c) a w) (ho : LetsOut Q → LetsOut Q')
  (hh : o.wp P a w K Q) : o.wp P a w K' Q' := by
 unfold Oper.wp at *
 generalize (execOp a.eval o).run P w = r at *
 cases r with
 | ok n w' =>
  cases n with
  | value v => exact h _ _ hh
  | skip => exact h _ _ hh
  | defer d => exact h _ _ hh
  | enter f args =>
   refine Calls.mono hh ?_
   intro e w'' he
   cases e with
   | returned v => exact h _ _ he
   | panicked c => exact hp _ _ _ he
   | outgrown => exact ho he
  | row r args => exact Rows.mono hh (fun v w'' he => h _ _ he)
  | _ => exact hh
 | halt c w' =>
  cases c with
  | panic v => exact hp _ _ _ hh
  | _ => exact hh
theorem wpAny_mono2 {P : Program} {md : Region.Mode} {ops : Array Oper} {Q Q' : Exit → Act → World → Prop} (h : ∀ e a w, Q e a w → Q' e a w) : ∀ (g : Nat) (listed : Array Bool) (a : Act) (w : World), wpAny P md ops Q g listed a w → wpAny P md ops Q' g listed a w
 | 0, listed, a, w, hh => ⟨hh.1, h _ _ _ hh.2⟩
 | g + 1, listed, a, w, hh => by
  refine ⟨fun h0 => h _ _ _ (hh.1 h0), fun i hi => ?_⟩
  have hi2 := hh.2 i hi
  unfold wpOp at hi2 ⊢
  split
  ·rename_i hn
   simp only [hn] at hi2
   exact wpAny_mono2 h g _ _ _ hi2
  ·rename_i o ho
   simp only [ho] at hi2
   split
   ·rename_i hw
    rw [if_pos hw] at hi2
    rcases hi2 with q | ⟨q, a', w', q2⟩
    ·exact .inl (Oper.wp_two (fun a w => wpAny_mono2 h g _ a w) (fun c a w => h _ a w) (fun ⟨a, w, q⟩ => ⟨a, w, h _ _ _ q⟩) q)
    ·exact .inr ⟨q, a', w', h _ _ _ q2⟩
   ·rename_i hw
    rw [if_neg hw] at hi2
    exact wpAny_mono2 h g _ _ _ hi2
def XA (E : Env) (nt k : Nat) (ops : Array Oper) (g : Nat) (listed : Array Bool) (σ : St) (h : Heap) (c : Nat) (Q : QP) : Prop :=
 ∀ (B : Nat) (ρ : Rho) (a : Act) (w : World), SRel ρ nt σ a → HRel B ρ h w → ρ.length = c → B ≤ w.heap.size → E.G ≤ B → E.inv w →
  ∀ (ρ0 : Rho) (w0 : World) (ds : List Deferred), Keeps k ρ0 ρ → Below B w0 w → a.defers = ds → wpAny E.P .any ops (After k B nt ρ0 w0 ds Q) g listed a w
theorem XA.done {E : Env} {nt k : Nat} {ops : Array Oper} {listed : Array Bool} (hr : (Region.ready .any ops listed).isEmpty = true) {σ : St} {h : Heap} {c : Nat} {Q : QP} (hq : Q .normal σ h c) : XA E nt k ops 0 listed σ h c Q := by
 intro B ρ a w h1 h2 h3 h4 h5 h6 ρ0 w0 ds h7 h8 h9
 exact ⟨List.isEmpty_iff.1 hr, .normal, σ, h, c, ρ, rfl, h9, h1, h2, h3, h7, h8, hq⟩
theorem XA.ren {E : Env} {nt k : Nat} {ops : Array Oper} {g : Nat} {listed : Array Bool} (s : List Nat) (hn : s.Nodup) (hk : s.take k = List.range k) {σ σ' : St} {h h' : Heap} {c c' : Nat} {Q : QP} (hσ : SubS s σ σ') (hh : RenH s h h') (hc : s.length = c')
  (hx : XA E nt k ops g listed σ' h' c' Q) : XA E nt k ops g listed σ h c Q := by
 intro B ρ a w h1 h2 h3 h4 h5 h6 ρ0 w0 ds h7 h8 h9
 exact hx B (renR s ρ) a w (h1.ren hσ) (h2.ren hn hh) (by simpa [renR] using hc) h4 h5 h6 ρ0 w0 ds (h7.trans (Keeps.ren h7.le hk)) h8 h9
theorem XA.conv {E : Env} {nt k : Nat} {ops : Array Oper} {g : Nat} {listed : Array Bool} {σ σ' : St} {h h' : Heap} {c c' : Nat} {Q : QP} (hx : XA E nt k ops g listed σ' h' c' Q) (e : (σ, h, c) = (σ', h', c')) : XA E nt k ops g listed σ h c Q := by cases e; exact hx
def AllJ : List Nat → (Nat → Prop) → Prop
 | [], _ => True
 | j :: l, p => p j ∧ AllJ l p
theorem AllJ.mem {p : Nat → Prop} : ∀ {l : List Nat}, AllJ l p → ∀ j ∈ l, p j
 | _ :: l, h, j, hj => by
  rcases List.mem_cons.1 hj with rfl | hj
  ·exact h.1
  ·exact AllJ.mem h.2 j hj
theorem XA.step {E : Env} (hE : E.Ok) {nt k : Nat} {ops : Array Oper} {g : Nat} {listed : Array Bool} (js : List Nat) (hr : Region.ready .any ops listed = js) (hn : js.isEmpty = false) (hf : freeOf ops.toList = true) {σ : St} {h : Heap} {c : Nat} {Q : QP}
  (hx : AllJ js fun j => XR E nt k (reOps ops [j]) 0 σ h c (fun e σ' h' c' => e = .normal ∧ XA E nt k ops g (listed.setIfInBounds j true) σ' h' c' Q)) : XA E nt k ops (g + 1) listed σ h c Q := by
 intro B ρ a w h1 h2 h3 h4 h5 h6 ρ0 w0 ds h7 h8 h9
 subst hr
 refine ⟨fun h0 => (by rw [h0] at hn; cases hn), fun j hj => ?_⟩
 obtain ⟨_, o, ho, _⟩ := mem_ready.1 hj
 have hxj := hx.mem j hj B ρ a w h1 h2 h3 h4 h5 h6 ρ w ds ⟨h7.le, fun _ _ => rfl⟩ (Below.refl B w) h9
 have hoj : ops.toList[j]? = some o := by simpa using ho
 have hfo : o.guard.isNone = true := by
  have := List.all_eq_true.1 hf o (List.mem_of_getElem? hoj)
  exact this
 have hl : (reOps ops [j]).toList.drop 0 = [o] := by simp [reOps, opsAt, ho]
 rw [hl] at hxj
 unfold wpOp
 simp only [ho]
 rw [if_pos (free_wanted hfo _)]
 unfold wpList at hxj
 rw [if_pos (free_wanted hfo _)] at hxj
 have np : ∀ c a' w', ¬ After k B nt ρ w ds (fun e σ' h' c' => e = .normal ∧ XA E nt k ops g (listed.setIfInBounds j true) σ' h' c' Q) (.panic c) a' w' := by
  rintro c a' w' ⟨e, _, _, _, _, q, _, _, _, _, _, _, rfl, _⟩
  cases q
 have no : ¬ LetsOut (After k B nt ρ w ds (fun e σ' h' c' => e = .normal ∧ XA E nt k ops g (listed.setIfInBounds j true) σ' h' c' Q)) := by
  rintro ⟨a, w, e, _, _, _, _, q, _, _, _, _, _, _, rfl, _⟩
  cases q
 rcases hxj with hxj | ⟨_, hxj⟩
 ·refine .inl (Oper.wp_two ?_ (fun c a w q => absurd q (np c a w)) (fun q => absurd q no) hxj)
  rintro a' w' ⟨e, σ', h', c', ρ', _, d1, s1, s2, s3, s4, s5, rfl, s6⟩
  exact s6 B ρ' a' w' s1 s2 s3 (Nat.le_trans h4 s5.size) h5 (hE.keep h5 h6 s5) ρ0 w0 ds (h7.trans s4) (h8.trans s5) d1
 ·exact absurd hxj no
theorem XQ.anyC {E : Env} (hE : E.Ok) {nt k : Nat} {code : Code} (hs : drawOf code = some true) {g : Nat} (hg : (opsOf code).size = g) {σ σ' : St} {h h' : Heap} {c c' : Nat} {Q : QP} (hq : Q .normal σ' h' c')
  (hx : XA E nt k (opsOf code) g (Array.replicate g false) σ h c (fun e σ1 h1 c1 => e = .normal ∧ (σ1, h1, c1) = (σ', h', c'))) : XQ E nt k code σ h c Q := by
 cases code with
 | region id ops d =>
  cases hs
  subst hg
  intro B ρ a w h1 h2 h3 h4 h5 h6 h7
  have hb := drew_below w
  have hhd : HRel B ρ h w.drew := h2.keepB hb
  have hId : E.inv w.drew := hE.keep (Nat.le_trans h5 h4) h6 hb
  refine wp_region_any hE.mixed ?_
  have key := hx B ρ a w.drew h1 hhd h3 h4 h5 hId ρ w a.defers ⟨h7, fun _ _ => rfl⟩ ((Below.refl B w).drew) rfl
  refine wpAny_mono2 ?_ _ _ _ _ key
  rintro e' a' w' ⟨e, σ1, h1', c1, ρ', q1, q2, q3, q4, q5, q6, q7, rfl, q9⟩
  cases q9
  exact ⟨.normal, _, _, _, ρ', q1, q2, q3, q4, q5, q6, q7, hq⟩
 | _ => cases hs
theorem XQ.preA {E : Env} (hE : E.Ok) {nt k : Nat} {code : Code} (p : List Nat) (hs : drawOf code = some true) {g : Nat} {listed : Array Bool} (hB : preB .any (opsOf code).toList.toArray p (Array.replicate (opsOf code).toList.toArray.size false) = some listed) (hsel : Region.noSelect (opsOf code).toList.toArray = true)
  (hlt : p.all (fun i => Nat.blt i (opsOf code).toList.toArray.size) = true) (hg : Nat.beq (p.length + g) (opsOf code).toList.toArray.size = true) (hf : freeOf (opsOf code).toList = true) {σ σ' : St} {h h' : Heap} {c c' : Nat} {Q : QP} (hq : Q .normal σ' h' c')
  (hx : XP E nt (reOps (opsOf code) p) 0 σ (fun σ2 => XA E nt k (opsOf code) g listed σ2 h c (fun e σ1 h1 c1 => e = .normal ∧ (σ1, h1, c1) = (σ', h', c')))) : XQ E nt k code σ h c Q := by
 cases code with
 | region id ops d =>
  cases hs
  have hf : freeOf ops.toList = true := hf
  have hB : preB .any ops.toList.toArray p (Array.replicate ops.toList.toArray.size false) = some listed := hB
  have harr : ops.toList.toArray = ops := by simp
  have hsel : Region.noSelect ops.toList.toArray = true := hsel
  have hg : Nat.beq (p.length + g) ops.toList.toArray.size = true := hg
  have hlt : p.all (fun i => Nat.blt i ops.toList.toArray.size) = true := hlt
  intro B ρ a w h1 h2 h3 h4 h5 h6 h7
  have hb := drew_below w
  have hhd : HRel B ρ h w.drew := h2.keepB hb
  have hId : E.inv w.drew := hE.keep (Nat.le_trans h5 h4) h6 hb
  refine wp_region_any hE.mixed ?_
  have hlt' : ∀ i ∈ p, i < ops.toList.length := fun i hi => by
   have := List.all_eq_true.1 hlt i hi
   simpa [Nat.blt_eq] using this
  have hps := Nat.eq_of_beq_eq_true hg
  have key := hx ρ a h1 a.defers rfl
  have key2 : wpPure E.P ops.toList.toArray (fun a' => wpAny E.P .any ops.toList.toArray (After k B nt ρ w a.defers Q) g listed a' w.drew) (opsAt ops.toList p) a := by
   refine wpPure_other ?_ (opsAt ops.toList p) (opsAt_free hf _) a key
   rintro a' ⟨σ2, d1, s1, q1⟩
   have q2 := q1 B ρ a' w.drew s1 hhd h3 h4 h5 hId ρ w a.defers ⟨h7, fun _ _ => rfl⟩ ((Below.refl B w).drew) d1
   rw [harr]
   refine wpAny_mono2 ?_ _ _ _ _ q2
   rintro e' a' w' ⟨e, σ1, h1', c1, ρ', q1, q2, q3, q4, q5, q6, q7, rfl, q9⟩
   cases q9
   exact ⟨.normal, _, _, _, ρ', q1, q2, q3, q4, q5, q6, q7, hq⟩
  have fin := pre_lex (P := E.P) (md := .any) (ops := ops.toList.toArray) (fun cc a w ⟨e, _, _, _, _, q, _⟩ => by cases e <;> cases q) hsel p (T := []) (opsAt ops.toList p) (Array.replicate ops.toList.toArray.size false) listed a (w := w.drew) (g := g) (Q := After k B nt ρ w a.defers Q) (opsAt_map _ hlt') (fun _ _ q => by cases q) ⟨by simp, fun j oj _ hl => (by rw [getD_replicate_false] at hl; cases hl), fun t ht => by cases ht⟩ hB (wpPure_mono (fun a h _ => h) _ _ key2)
  rw [hps, harr] at fin
  exact fin
 | _ => cases hs
theorem KC.keep {E : Env} {K : Nat} {args : List Value} {h : Heap} {c : Nat} {R : Value → Heap → Nat → Prop} (hx : KC E K args h c R) : KC (keepEnv E) K args h c R := hx
theorem KC.unkeep {E : Env} {K : Nat} {args : List Value} {h : Heap} {c : Nat} {R : Value → Heap → Nat → Prop} (hx : KC (keepEnv E) K args h c R) : KC E K args h c R := hx
end Go.Xm
namespace Go.Xm
abbrev ii (n : Int) : Value := .int .i64 n
abbrev pp (i o : Nat) : Value := .pointer (some ⟨i, o, none⟩)
abbrev sl (i o len cap : Nat) : Value := .slice (some ⟨i, o, none⟩) len cap
abbrev s0 (i len : Nat) : Value := .slice (some ⟨i, 0, none⟩) len len
abbrev rc {α : Type} (f : α → List Value) (xs : List α) (fz : Nat) (e : TypeId) (es : Nat) : XObj := .cells (rowC f xs) fz e es
theorem XR.runS {E : Env} (hE : E.Ok) {nt k : Nat} {ops : Array Oper} {j : Nat} (n m : Nat) (σ' : St) {σ : St} {h : Heap} {c : Nat} {Q : QP} (hl : (σ'.map Prod.fst).all (fun i => Nat.blt i nt) = true)
  (hr : obsO (σ'.map Prod.fst) (xops (callF E (exec E n)) (((gsOf E nt ops).drop j).take m) (trS nt σ) h c) = some (σ', h, c)) (hx : XR E nt k ops (j + m) σ' h c Q) : XR E nt k ops j σ h c Q :=
 XR.run hE n m _ hl hr hx
theorem XR.runT {E : Env} (hE : E.Ok) {nt k : Nat} {ops : Array Oper} {j : Nat} (n m : Nat) (σ' : St) (h' : Heap) (c' : Nat) {σ : St} {h : Heap} {c : Nat} {Q : QP} (hl : (σ'.map Prod.fst).all (fun i => Nat.blt i nt) = true)
  (hr : obsO (σ'.map Prod.fst) (xops (callF E (exec E n)) (((gsOf E nt ops).drop j).take m) (trS nt σ) h c) = some (σ', h', c')) (hx : XR E nt k ops (j + m) σ' h' c' Q) : XR E nt k ops j σ h c Q :=
 XR.run hE n m _ hl hr hx
end Go.Xm
namespace Go.Xm
open Go.RowKit
theorem HRel.shrink {B : Nat} {ρ : Rho} {h : Heap} {w : World} (H : HRel B ρ h w) {i : Nat} {cs : List Value} {e : TypeId} {es : Nat} (hi : hget h i = some (.cells cs 0 e es)) (hes : es ≠ 0) (m : Nat) : HRel B ρ (hset h i (.cells (cs.take m) 0 e es)) w := by
 have hg := hget_hset hi (.cells (cs.take m) 0 e es)
 have f0 : ∀ l : List Value, frz (.cells l 0 e es) = false := fun l => by
  show Nat.blt l.length 0 = false
  cases hb : Nat.blt l.length 0 with
  | false => rfl
  | true => rw [Nat.blt_eq] at hb; omega
 refine ⟨fun j o hj => ?_, fun j k x y L L' hj hk hL hL' n1 n2 o1 o2 hz hb => ?_⟩
 ·rw [hg] at hj
  by_cases ej : j = i
  ·rw [if_pos ej] at hj
   cases hj
   subst ej
   obtain ⟨L, l1, l2, l3⟩ := H.ok j _ hi
   refine ⟨L, l1, fun _ => l2 (f0 cs), ?_⟩
   obtain ⟨q0, q | ⟨C, fr, q1, q2, q3, q4, q5, q6⟩⟩ := l3
   ·exact ⟨q0, .inl ⟨q.1, by rw [q.2]; simp⟩⟩
   ·have hl : (cs.take m).length ≤ cs.length := by rw [List.length_take]; omega
    refine ⟨q0, .inr ⟨C, fr, q1, q2, by omega, fun a v hv => ?_, q5, fun q => absurd (q0 ▸ q) hes⟩⟩
    rw [List.getElem?_take] at hv
    split at hv
    ·exact q4 a v hv
    ·cases hv
  ·rw [if_neg ej] at hj
   exact H.ok j o hj
 ·have old : ∀ z u, hget (hset h i (.cells (cs.take m) 0 e es)) z = some u → ∃ u', hget h z = some u' ∧ (∀ M, own ρ M u → own ρ M u') ∧ (frz u = false → frz u' = false) := by
   intro z u hz
   rw [hg] at hz
   by_cases ez : z = i
   ·rw [if_pos ez] at hz
    cases hz
    subst ez
    exact ⟨_, hi, fun _ _ => trivial, fun _ => f0 cs⟩
   ·rw [if_neg ez] at hz
    exact ⟨u, hz, fun _ q => q, id⟩
  obtain ⟨x', a1, a2, a3⟩ := old j x hj
  obtain ⟨y', b1, b2, b3⟩ := old k y hk
  exact H.inj j k x' y' L L' a1 b1 hL hL' n1 n2 (a2 L o1) (b2 L' o2) (hz.imp a3 b3) hb
def Shr {α : Type} (f : α → List Value) (s : Nat) (e : TypeId) (i : Nat) (R : Value → Heap → Nat → Prop) (v : Value) (h : Heap) (c : Nat) : Prop :=
 ∃ (xs : List α) (n cp : Nat) (h2 : Heap), v = .slice (some ⟨i, 0, none⟩) n cp ∧ hget h i = some (.cells (rowC f xs) 0 e s) ∧ n ≤ xs.length ∧ n ≤ cp ∧ hset h i (.cells (rowC f (xs.take n)) 0 e s) = h2 ∧ R (.slice (some ⟨i, 0, none⟩) (xs.take n).length (xs.take n).length) h2 c
theorem KC.shrink {α : Type} {f : α → List Value} {s : Nat} (hf : Enc f s) (hs1 : Nat.ble 1 s = true) {e : TypeId} (i : Nat) {E : Env} {K : Nat} {args : List Value} {h : Heap} {c : Nat} {R : Value → Heap → Nat → Prop} (hx : KC E K args h c (Shr f s e i R)) : KC E K args h c R := by
 have hs : s ≠ 0 := by rw [Nat.ble_eq] at hs1; omega
 intro B ρ w args' h1 h2 h3 h4 h5 h6
 obtain ⟨q1, q2⟩ := hx B ρ w args' h1 h2 h3 h4 h5 h6
 refine ⟨q1, q2.mono ?_⟩
 rintro en w' ⟨v, v', ρ', h', c', rfl, e2, e3, e4, e5, e6, xs, n, cp, hh2, rfl, hg, hn, hc, rfl, hR⟩
 have hl : (xs.take n).length = n := by rw [List.length_take]; omega
 rw [hl] at hR
 have hsh := e5.shrink hg hs (n * s)
 rw [rowC_take hf] at hsh
 refine ⟨_, v', ρ', _, c', rfl, ?_, e3, e4, hsh, e6, hR⟩
 cases e2 with
 | slice _ _ _ _ L o' cap' hL hz h0 hh1 =>
  obtain ⟨M, m1, _, m3⟩ := e5.ok i _ hg
  rw [hL] at m1; cases m1
  have hLes : L.es = s := m3.1
  obtain ⟨g1, g2, g3⟩ := hh1 (by rw [hLes]; exact hs)
  exact .slice i 0 n n L o' cap' hL (hz.imp id (fun q => by omega)) (fun q => absurd (hLes ▸ q) hs) (fun _ => ⟨by omega, g2, g3⟩)
 | sliceN _ _ L hL hes => exact .sliceN i 0 L hL hes
end Go.Xm
namespace Go.Xm
open Go.RowKit
def jn {α : Type} (x : Option (Option α)) (r : Option α) : Option α := x.bind fun j => match j with | none => r | some v => some v
theorem jS {α : Type} {x : Option (Option α)} {r : Option α} {o : α} (h : jn x r = some o) : (x = some none ∧ r = some o) ∨ x = some (some o) := by
  cases x with
  | none => cases h
  | some j =>
    cases j with
    | none => exact .inl ⟨rfl, h⟩
    | some v =>
      have h : some v = some o := h
      cases h
      exact .inr rfl
theorem jN {α : Type} {x : Option α} (h : x.map some = some none) : False := by
  cases x with
  | none => cases h
  | some v => cases h
theorem jM {α : Type} {x : Option α} {o : α} (h : x.map some = some (some o)) : x = some o := by
  cases x with
  | none => cases h
  | some v => cases h; rfl
theorem jC {α : Type} {o : α} (h : (some none : Option (Option α)) = some (some o)) : False := by cases h
end Go.Xm
