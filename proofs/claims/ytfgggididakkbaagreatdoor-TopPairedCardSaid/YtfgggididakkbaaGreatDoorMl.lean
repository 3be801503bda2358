/- The abstract machine, part 12: regions that draw, walked at a state that is known in part; blocks under other numbers. -/
import Derived.Test.YtfgggididakkbaaGreatDoorMk
namespace Go.Xm
open Go.RowKit
set_option linter.unusedVariables false
set_option linter.unusedSimpArgs false

/-! ### Regions that draw: operations that only read -/
def XU (E : Env) (nt : Nat) (ops : Array Oper) (j : Nat) (σ : St) (h : Heap) (c : Nat) (Q : St → Prop) : Prop :=
  ∀ (ρ : Rho) (a : Act) (w : World) (B : Bd), SRel ρ nt σ a → HRel B ρ h w → ρ.length = c → E.G ≤ w.heap.size → E.inv w →
    ∀ ds : List Deferred, a.defers = ds → wpQuiet E.P ops (fun w' => Below w.heap.size w w') (fun a' => ∃ σ', a'.defers = ds ∧ SRel ρ nt σ' a' ∧ Q σ') (ops.toList.drop j) a

theorem wpQuiet_mono {P : Program} {all : Array Oper} {C : World → Prop} {Q Q' : Act → Prop} (hQ : ∀ a, Q a → Q' a) : ∀ (l : List Oper) (a : Act), wpQuiet P all C Q l a → wpQuiet P all C Q' l a
  | [], a, h => hQ a h
  | o :: l, a, h => by
    unfold wpQuiet at h ⊢
    split at h
    · rename_i hw
      rw [if_pos hw]
      exact Oper.quiet_mono (fun a h => wpQuiet_mono hQ l a h) h
    · rename_i hw
      rw [if_neg hw]
      exact wpQuiet_mono hQ l _ h

theorem XQ.quiet {E : Env} (hE : E.Ok) {nt k : Nat} {code : Code} (hs : drawOf code = some true) (hlex : Region.lexB .any (opsOf code) = true) {σ : St} {h : Heap} {c : Nat} {Q : QP}
    (hx : XU E nt (opsOf code) 0 σ h c (fun σ' => Q .normal σ' h c)) : XQ E nt k code σ h c Q := by
  cases code with
  | region id ops d =>
    cases hs
    intro B ρ a w h1 h2 h3 h4 h5 h6 h7
    have hb := drew_below w
    have hhd : HRel B ρ h w.drew := h2.keepB hb
    have hId : E.inv w.drew := hE.keepN (Nat.le_trans h5.1 h4) h6 hb
    refine wp_region_quiet (C := fun w' => Below w.drew.heap.size w.drew w') hE.mixed hlex (Below.refl _ _) ?_
    refine wpQuiet_mono ?_ _ _ (hx ρ a w.drew B h1 hhd h3 (Nat.le_trans h5.1 h4) hId a.defers rfl)
    rintro a' ⟨σ', d1, s1, q1⟩ w' hw'
    exact ⟨.normal, σ', h, c, ρ, rfl, d1, s1, hhd.keepB hw', h3, ⟨h7, fun _ _ => rfl⟩, (Bel.refl B w).drew.trans (Bel.of hw' h4), q1⟩
  | _ => cases hs

theorem XU.done {E : Env} {nt : Nat} {ops : Array Oper} {j : Nat} (hj : Nat.ble ops.size j = true) {σ : St} {h : Heap} {c : Nat} {Q : St → Prop} (hq : Q σ) : XU E nt ops j σ h c Q := by
  intro ρ a w B h1 h2 h3 h4 h5 ds h6
  have : ops.toList.drop j = [] := List.drop_eq_nil_of_le (by simpa using hj)
  rw [this]
  exact wpQuiet_nil ⟨σ, h6, h1, hq⟩

noncomputable def obsT (live : List Nat) (r : Option Tr) : Option St := Option.casesOn r none (fun t => some (readS t live))

theorem XU.step {E : Env} (hE : E.Ok) {call : CallQ} {h : Heap} {c : Nat} (hcall : CallQOk E h c call) {nt : Nat} {ops : Array Oper} {j : Nat} (m : Nat) (live : List Nat) {σ σ' : St} {Q : St → Prop} (hl : live.all (fun i => Nat.blt i nt) = true)
    (hr : obsT live (qops call (((gsOf E nt ops).drop j).take m) h (trS nt σ)) = some σ') (hx : XU E nt ops (j + m) σ' h c Q) : XU E nt ops j σ h c Q := by
  intro ρ a w B h1 h2 h3 h4 h5 ds h6
  cases hx0 : qops call (((gsOf E nt ops).drop j).take m) h (trS nt σ) with
  | none => rw [hx0] at hr; cases hr
  | some t2 =>
    rw [hx0] at hr
    cases hr
    obtain ⟨s1, s2⟩ := sub_ok hE nt ops j m
    have hlist : ops.toList.drop j = (ops.toList.drop j).take m ++ ops.toList.drop (j + m) := by
      rw [← List.drop_drop, List.take_append_drop]
    have harr : ops.toList.toArray = ops := by simp
    rw [hlist]
    have key := qops_pre hcall (all := ops.toList) (Q := fun a' => ∃ σ', a'.defers = ds ∧ SRel ρ nt σ' a' ∧ Q σ') h2 h3 h4 h5 (ops.toList.drop (j + m)) _ _ s1 s2 _ t2 hx0 a h1.tr ?_
    · rw [harr] at key; exact key
    · intro a' d1 r1
      rw [harr]
      exact hx ρ a' w B (SRel.of_tr r1 hl) h2 h3 h4 h5 ds (d1.trans h6)

theorem XU.run {E : Env} (hE : E.Ok) (n : Nat) {nt : Nat} {ops : Array Oper} {j : Nat} (m : Nat) (live : List Nat) {σ σ' : St} {h : Heap} {c : Nat} {Q : St → Prop} (hl : live.all (fun i => Nat.blt i nt) = true)
    (hr : obsT live (qops (callQ E (exec E n) h c) (((gsOf E nt ops).drop j).take m) h (trS nt σ)) = some σ') (hx : XU E nt ops (j + m) σ' h c Q) : XU E nt ops j σ h c Q :=
  XU.step hE (callQ_ok hE (exec_ok hE n).1) m live hl hr hx

/-! ### Regions that draw: reads first, then one operation behind the other -/
def XS (E : Env) (nt k : Nat) (ops : Array Oper) (m j : Nat) (σ : St) (h : Heap) (c : Nat) (Q : QP) : Prop :=
  ∀ (B : Bd) (ρ : Rho) (a : Act) (w : World), SRel ρ nt σ a → HRel B ρ h w → ρ.length = c → B.n ≤ w.heap.size → B.ge E.G → E.inv w →
    ∀ (ρ0 : Rho) (w0 : World) (ds : List Deferred), Keeps k ρ0 ρ → Bel B w0 w → a.defers = ds →
      wpStill E.P ops w (fun a' => wpList E.P ops (After k B nt ρ0 w0 ds Q) (ops.toList.drop m) a' w) ((ops.toList.take m).drop j) a

theorem XQ.tail {E : Env} (hE : E.Ok) {nt k : Nat} {code : Code} (m : Nat) (hs : drawOf code = some true) (hlex : Region.lexTailB .any (opsOf code).toList.toArray m = true) {σ : St} {h : Heap} {c : Nat} {Q : QP}
    (hx : XS E nt k (opsOf code) m 0 σ h c Q) : XQ E nt k code σ h c Q := by
  cases code with
  | region id ops d =>
    cases hs
    intro B ρ a w h1 h2 h3 h4 h5 h6 h7
    have hb := drew_below w
    have hhd : HRel B ρ h w.drew := h2.keepB hb
    have hId : E.inv w.drew := hE.keepN (Nat.le_trans h5.1 h4) h6 hb
    have hwp := wp_region_still_tail (P := E.P) (id := id) (Q := After k B nt ρ w a.defers Q) (a := a) (w := w) (l := ops.toList) m hE.mixed hlex ?_
    · simpa using hwp
    · have := hx B ρ a w.drew h1 hhd h3 h4 h5 hId ρ w a.defers ⟨h7, fun _ _ => rfl⟩ (Bel.refl B w).drew rfl
      have harr : ops.toList.toArray = ops := by simp
      rw [harr]
      exact this
  | _ => cases hs

theorem XS.done {E : Env} {nt k : Nat} {ops : Array Oper} {m j : Nat} (hj : Nat.beq m j = true) {σ : St} {h : Heap} {c : Nat} {Q : QP} (hx : XR E nt k ops m σ h c Q) : XS E nt k ops m j σ h c Q := by
  intro B ρ a w h1 h2 h3 h4 h5 h6 ρ0 w0 ds h7 h8 h9
  have := Nat.eq_of_beq_eq_true hj
  subst this
  have : (ops.toList.take m).drop m = [] := List.drop_eq_nil_of_le (by simp; omega)
  rw [this]
  exact wpStill_nil (hx B ρ a w h1 h2 h3 h4 h5 h6 ρ0 w0 ds h7 h8 h9)

theorem XS.step {E : Env} (hE : E.Ok) {nt k : Nat} {ops : Array Oper} {m j : Nat} (i : Nat) (hi : Nat.ble (j + i) m = true) (live : List Nat) {σ σ' : St} {h : Heap} {c : Nat} {Q : QP} (hl : live.all (fun i => Nat.blt i nt) = true)
    (hr : obsT live (qops noCall (((gsOf E nt ops).drop j).take i) h (trS nt σ)) = some σ') (hx : XS E nt k ops m (j + i) σ' h c Q) : XS E nt k ops m j σ h c Q := by
  intro B ρ a w h1 h2 h3 h4 h5 h6 ρ0 w0 ds h7 h8 h9
  cases hx0 : qops noCall (((gsOf E nt ops).drop j).take i) h (trS nt σ) with
  | none => rw [hx0] at hr; cases hr
  | some t2 =>
    rw [hx0] at hr
    cases hr
    have hi := Nat.le_of_ble_eq_true hi
    obtain ⟨s1, s2⟩ := sub_ok hE nt ops j i
    have hlist : (ops.toList.take m).drop j = (ops.toList.drop j).take i ++ (ops.toList.take m).drop (j + i) := by
      have e1 : (ops.toList.drop j).take i = ((ops.toList.take m).drop j).take i := by
        rw [List.drop_take, List.take_take]
        congr 1
        omega
      rw [e1, ← List.drop_drop, List.take_append_drop]
    have harr : ops.toList.toArray = ops := by simp
    rw [hlist]
    have key := qops_still_pre (all := ops.toList) (Q := fun a' => wpList E.P ops (After k B nt ρ0 w0 ds Q) (ops.toList.drop m) a' w) h2 (Nat.le_trans h5.1 h4) h6 ((ops.toList.take m).drop (j + i)) _ _ s1 s2 _ t2 hx0 a h1.tr ?_
    · rw [harr] at key; exact key
    · intro a' d1 r1
      rw [harr]
      exact hx B ρ a' w (SRel.of_tr r1 hl) h2 h3 h4 h5 h6 ρ0 w0 ds h7 h8 (d1.trans h9)

/-! ### Blocks under other numbers -/
noncomputable def lookS (σ : St) (i : Nat) : Option Value := List.rec none (fun p _ ih => Bool.casesOn (Nat.beq p.1 i) ih (some p.2)) σ

theorem lookS_mem : ∀ {σ : St} {i : Nat} {v : Value}, lookS σ i = some v → (i, v) ∈ σ
  | [], i, v, h => by cases h
  | (j, u) :: σ, i, v, h => by
    have h0 : lookS ((j, u) :: σ) i = Bool.casesOn (Nat.beq j i) (lookS σ i) (some u) := rfl
    rw [h0] at h
    cases hb : Nat.beq j i with
    | true =>
      rw [hb] at h
      have := Nat.eq_of_beq_eq_true hb
      subst this
      cases h
      exact List.mem_cons_self ..
    | false =>
      rw [hb] at h
      exact List.mem_cons_of_mem _ (lookS_mem h)

def SubS (s : List Nat) (σ : St) : St → Prop
  | [] => True
  | (i, v) :: l => lookS σ i = some (renV s v) ∧ SubS s σ l

theorem SubS.mem {s : List Nat} {σ : St} : ∀ {σ' : St}, SubS s σ σ' → ∀ {i : Nat} {v : Value}, (i, v) ∈ σ' → (i, renV s v) ∈ σ
  | [], _, _, _, hm => by cases hm
  | (_, _) :: _, hs, _, _, hm => by
    rcases List.mem_cons.1 hm with e | e
    · cases e; exact lookS_mem hs.1
    · exact SubS.mem hs.2 e

theorem SRel.ren {s : List Nat} {ρ : Rho} {nt : Nat} {σ σ' : St} {a : Act} (h : SRel ρ nt σ a) (hs : SubS s σ σ') : SRel (renR s ρ) nt σ' a :=
  ⟨h.1, h.2.1, fun i _ hm => ⟨(h.2.2 i _ (hs.mem hm)).1, (h.2.2 i _ (hs.mem hm)).2.renV⟩⟩

theorem Keeps.ren {s : List Nat} {k : Nat} {ρ : Rho} (hk : k ≤ ρ.length) (hs : s.take k = List.range k) : Keeps k ρ (renR s ρ) := by
  refine ⟨hk, fun i hi => ?_⟩
  have h1 : s[i]? = some i := by
    have h2 : (s.take k)[i]? = some i := by rw [hs]; simp [hi]
    rw [List.getElem?_take, if_pos hi] at h2
    exact h2
  have h2 : ρ[i]? = some ρ[i] := List.getElem?_eq_getElem (by omega)
  rw [h2]
  exact renR_at h1 h2

theorem XQ.ren {E : Env} {nt k : Nat} {code : Code} (s : List Nat) (hn : s.Nodup) (hk : s.take k = List.range k) {σ σ' : St} {h h' : Heap} {c c' : Nat} {Q : QP} (hσ : SubS s σ σ') (hh : RenH s h h') (hc : s.length = c')
    (hx : XQ E nt k code σ' h' c' Q) : XQ E nt k code σ h c Q := by
  intro B ρ a w h1 h2 h3 h4 h5 h6 h7
  have hK := Keeps.ren h7 hk
  exact wp_mono (hx B (renR s ρ) a w (h1.ren hσ) (h2.ren hn hh) (by simpa [renR] using hc) h4 h5 h6 hK.le) (fun e a' w' hA => hA.trans hK (Bel.refl B w))

theorem XL.ren {E : Env} {nt k n : Nat} {code : Code} (s : List Nat) (hn : s.Nodup) (hk : s.take k = List.range k) {σ σ' : St} {h h' : Heap} {c c' : Nat} {Q : QP} (hσ : SubS s σ σ') (hh : RenH s h h') (hc : s.length = c')
    (hx : XL E nt k n code σ' h' c' Q) : XL E nt k n code σ h c Q := by
  intro B ρ a w h1 h2 h3 h4 h5 h6 h7
  have hK := Keeps.ren h7 hk
  exact rounds_mono (fun e a' w' hA => hA.trans hK (Bel.refl B w)) n a w (hx B (renR s ρ) a w (h1.ren hσ) (h2.ren hn hh) (by simpa [renR] using hc) h4 h5 h6 hK.le)

/-! ### One operation, by an equation -/
noncomputable def insV (i : Ins) (t : Tr) (h : Heap) : Option Value :=
  match i with
  | .rd _ f => f t h
  | _ => none

noncomputable def insE (i : Ins) (t : Tr) (h : Heap) (c : Nat) : Option (Value × Heap × Nat) :=
  match i with
  | .ef _ f => f t h c
  | _ => none

noncomputable def insD (i : Ins) : Option (List Bool) :=
  match i with
  | .rd d _ => d
  | .ef d _ => d
  | .call d _ _ => d
  | .bad => none

/-- The instruction that comes next, if it is wanted. -/
noncomputable def headI (gs : List GI) (t : Tr) : Ins :=
  match gs with
  | .ins i :: _ => i
  | .g p want _ i :: _ => match wantB (t.get p) want with
    | some true => i
    | _ => .bad
  | _ => .bad

theorem take_one {l : List GI} {g : GI} {gs : List GI} (h : l = g :: gs) : l.take 1 = [g] := by rw [h]; rfl

theorem xops_rd {call : CallF} {gs : List GI} {t : Tr} {h : Heap} {c : Nat} {v : Value} (hv : insV (headI gs t) t h = some v) : xops call (gs.take 1) t h c = .some (putX (insD (headI gs t)) v t) h c := by
  cases gs with
  | nil => cases hv
  | cons g gs =>
    cases g with
    | bad => cases hv
    | ins i =>
      have hv' : insV i t h = some v := hv
      cases i with
      | rd d f =>
        have h0 : xops call ([GI.ins (.rd d f)]) t h c = Os.casesOn (motive := fun _ => Os) (Option.casesOn (motive := fun _ => Os) (f t h) .none (fun v => .some (putX d v t) h c)) .none (xops call []) := rfl
        have hf : f t h = some v := hv'
        show xops call ([GI.ins (.rd d f)]) t h c = _
        rw [h0, hf]
        rfl
      | _ => cases hv'
    | g p want d0 i =>
      cases hw : wantB (t.get p) want with
      | none => simp only [headI, hw] at hv; cases hv
      | some b =>
        cases b with
        | false => simp only [headI, hw] at hv; cases hv
        | true =>
          have hi : headI (.g p want d0 i :: gs) t = i := by simp only [headI, hw]
          rw [hi] at hv ⊢
          cases i with
          | rd d f =>
            have h0 : xops call ([GI.g p want d0 (.rd d f)]) t h c = Os.casesOn (motive := fun _ => Os) (Option.casesOn (motive := fun _ => Os) (wantB (t.get p) want) .none (fun b => Bool.casesOn b (.some (putX d0 undef t) h c) (Option.casesOn (f t h) .none (fun v => .some (putX d v t) h c)))) .none (xops call []) := rfl
            have hf : f t h = some v := hv
            show xops call ([GI.g p want d0 (.rd d f)]) t h c = _
            rw [h0, hw, hf]
            rfl
          | _ => cases hv

theorem xops_ef {call : CallF} {gs : List GI} {t : Tr} {h h' : Heap} {c c' : Nat} {v : Value} (hv : insE (headI gs t) t h c = some (v, h', c')) : xops call (gs.take 1) t h c = .some (putX (insD (headI gs t)) v t) h' c' := by
  cases gs with
  | nil => cases hv
  | cons g gs =>
    cases g with
    | bad => cases hv
    | ins i =>
      have hv' : insE i t h c = some (v, h', c') := hv
      cases i with
      | ef d f =>
        have h0 : xops call ([GI.ins (.ef d f)]) t h c = Os.casesOn (motive := fun _ => Os) (Option.casesOn (motive := fun _ => Os) (f t h c) .none (fun r => .some (putX d r.1 t) r.2.1 r.2.2)) .none (xops call []) := rfl
        have hf : f t h c = some (v, h', c') := hv'
        show xops call ([GI.ins (.ef d f)]) t h c = _
        rw [h0, hf]
        rfl
      | _ => cases hv'
    | g p want d0 i =>
      cases hw : wantB (t.get p) want with
      | none => simp only [headI, hw] at hv; cases hv
      | some b =>
        cases b with
        | false => simp only [headI, hw] at hv; cases hv
        | true =>
          have hi : headI (.g p want d0 i :: gs) t = i := by simp only [headI, hw]
          rw [hi] at hv ⊢
          cases i with
          | ef d f =>
            have h0 : xops call ([GI.g p want d0 (.ef d f)]) t h c = Os.casesOn (motive := fun _ => Os) (Option.casesOn (motive := fun _ => Os) (wantB (t.get p) want) .none (fun b => Bool.casesOn b (.some (putX d0 undef t) h c) (Option.casesOn (f t h c) .none (fun r => .some (putX d r.1 t) r.2.1 r.2.2)))) .none (xops call []) := rfl
            have hf : f t h c = some (v, h', c') := hv
            show xops call ([GI.g p want d0 (.ef d f)]) t h c = _
            rw [h0, hw, hf]
            rfl
          | _ => cases hv

/-- One operation that reads, by an equation. -/
theorem XR.rd {E : Env} (hE : E.Ok) {nt k : Nat} {ops : Array Oper} {j : Nat} (live : List Nat) {σ σ' : St} {h : Heap} {c : Nat} {v : Value} {Q : QP} (hl : live.all (fun i => Nat.blt i nt) = true)
    (hv : insV (headI ((gsOf E nt ops).drop j) (trS nt σ)) (trS nt σ) h = some v) (hσ : readS (putX (insD (headI ((gsOf E nt ops).drop j) (trS nt σ))) v (trS nt σ)) live = σ')
    (hx : XR E nt k ops (j + 1) σ' h c Q) : XR E nt k ops j σ h c Q := by
  refine XR.step hE (callF_ok hE (exec_ok hE 0).1) 1 live (σ' := σ') (h' := h) (c' := c) hl ?_ hx
  rw [xops_rd hv, ← hσ]
  rfl

/-- One operation that writes, by an equation. -/
theorem XR.ef {E : Env} (hE : E.Ok) {nt k : Nat} {ops : Array Oper} {j : Nat} (live : List Nat) {σ σ' : St} {h h' : Heap} {c c' : Nat} {v : Value} {Q : QP} (hl : live.all (fun i => Nat.blt i nt) = true)
    (hv : insE (headI ((gsOf E nt ops).drop j) (trS nt σ)) (trS nt σ) h c = some (v, h', c')) (hσ : readS (putX (insD (headI ((gsOf E nt ops).drop j) (trS nt σ))) v (trS nt σ)) live = σ')
    (hx : XR E nt k ops (j + 1) σ' h' c' Q) : XR E nt k ops j σ h c Q := by
  refine XR.step hE (callF_ok hE (exec_ok hE 0).1) 1 live (σ' := σ') (h' := h') (c' := c') hl ?_ hx
  rw [xops_ef hv, ← hσ]
  rfl

end Go.Xm
