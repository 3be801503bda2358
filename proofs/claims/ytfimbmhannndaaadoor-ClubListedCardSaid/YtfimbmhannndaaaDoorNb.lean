/- The abstract machine, more: 'range' over a map, in a loop whose rounds only read, and which no round leaves. -/
import Derived.Test.YtfimbmhannndaaaDoorNa
import Derived.Maps.RangeRun
namespace Go.Xm
open Go.RowKit
set_option linter.unusedVariables false
set_option linter.unusedSimpArgs false
def XW (E : Env) (nt : Nat) (ops : Array Oper) (j : Nat) (σ : St) (h : Heap) (c : Nat) (Q : St → Prop) : Prop :=
  ∀ (B : Bd) (ρ : Rho) (a : Act) (w : World), SRel ρ nt σ a → HRel B ρ h w → ρ.length = c →
    ∀ ds : List Deferred, a.defers = ds → wpStill E.P ops w (fun a' => ∃ σ', a'.defers = ds ∧ SRel ρ nt σ' a' ∧ Q σ') (ops.toList.drop j) a
theorem XW.done {E : Env} {nt : Nat} {ops : Array Oper} {j : Nat} (hj : Nat.ble ops.size j = true) {σ : St} {h : Heap} {c : Nat} {Q : St → Prop} (hq : Q σ) : XW E nt ops j σ h c Q := by
  intro B ρ a w h1 h2 h3 ds h6
  have : ops.toList.drop j = [] := List.drop_eq_nil_of_le (by simpa using hj)
  rw [this]
  exact wpStill_nil ⟨σ, h6, h1, hq⟩
theorem XW.step {E : Env} (hE : E.Ok) {nt : Nat} {ops : Array Oper} {j : Nat} (m : Nat) (live : List Nat) {σ σ' : St} {h : Heap} {c : Nat} {Q : St → Prop} (hl : live.all (fun i => Nat.blt i nt) = true)
    (hr : obsT live (qops noCall (((gsOf E nt ops).drop j).take m) h (trS nt σ)) = some σ') (hx : XW E nt ops (j + m) σ' h c Q) : XW E nt ops j σ h c Q := by
  intro B ρ a w h1 h2 h3 ds h9
  cases hx0 : qops noCall (((gsOf E nt ops).drop j).take m) h (trS nt σ) with
  | none => rw [hx0] at hr; cases hr
  | some t2 =>
    rw [hx0] at hr
    cases hr
    obtain ⟨s1, s2⟩ := sub_ok hE nt ops j m
    have hlist : ops.toList.drop j = (ops.toList.drop j).take m ++ ops.toList.drop (j + m) := by
      rw [← List.drop_drop, List.take_append_drop]
    have harr : ops.toList.toArray = ops := by simp
    rw [hlist]
    have key := qops_still_pre (all := ops.toList) (Q := fun a' => ∃ σ', a'.defers = ds ∧ SRel ρ nt σ' a' ∧ Q σ') h2 (ops.toList.drop (j + m)) _ _ s1 s2 _ t2 hx0 a h1.tr ?_
    · rw [harr] at key; exact key
    · intro a' d1 r1
      rw [harr]
      exact hx B ρ a' w (SRel.of_tr r1 hl) h2 h3 ds (d1.trans h9)
theorem XW.rd {E : Env} (hE : E.Ok) {nt : Nat} {ops : Array Oper} {j : Nat} (live : List Nat) {σ σ' : St} {h : Heap} {c : Nat} {v : Value} {Q : St → Prop} (hl : live.all (fun i => Nat.blt i nt) = true)
    (hv : insV (headI ((gsOf E nt ops).drop j) (trS nt σ)) (trS nt σ) h = some v) (hσ : readS (putX (insD (headI ((gsOf E nt ops).drop j) (trS nt σ))) v (trS nt σ)) live = σ')
    (hx : XW E nt ops (j + 1) σ' h c Q) : XW E nt ops j σ h c Q := by
  refine XW.step hE 1 live (σ' := σ') hl ?_ hx
  rw [qops_rd hv, ← hσ]
  rfl
theorem wpList_still {P : Program} {ops : Array Oper} {w : World} {Q : Act → Prop} {Q' : Exit → Act → World → Prop} (hQ : ∀ a, Q a → Q' .normal a w) : ∀ (l : List Oper) (a : Act), wpStill P ops w Q l a → wpList P ops Q' l a w
  | [], a, h => hQ a h
  | o :: l, a, h => by
    unfold wpStill at h
    refine wpList_step (fun K hK => ?_)
    split at h
    · rename_i hw
      rw [if_pos hw]
      exact Oper.wp_of_still (fun a' ha' => hK _ _ (wpList_still hQ l a' ha')) h
    · rename_i hw
      rw [if_neg hw]
      exact hK _ _ (wpList_still hQ l _ h)
def XV (E : Env) (nt : Nat) (code : Code) (σ : St) (h : Heap) (c : Nat) (Q : Ex → St → Prop) : Prop :=
  ∀ (B : Bd) (ρ : Rho) (a : Act) (w : World), SRel ρ nt σ a → HRel B ρ h w → ρ.length = c →
    code.wp E.P (fun e' a' w' => w' = w ∧ a'.defers = a.defers ∧ ∃ e σ', e' = exOf e ∧ SRel ρ nt σ' a' ∧ Q e σ') a w
theorem XV.skip {E : Env} {nt : Nat} {code : Code} (hs : isSkip code = true) {σ : St} {h : Heap} {c : Nat} {Q : Ex → St → Prop} (hq : Q .normal σ) : XV E nt code σ h c Q := by
  cases code with
  | skip =>
    intro B ρ a w h1 h2 h3
    exact wp_skip ⟨rfl, rfl, .normal, σ, rfl, h1, hq⟩
  | _ => cases hs
theorem XV.region {E : Env} {nt : Nat} {code : Code} (hs : drawOf code = some false) {σ : St} {h : Heap} {c : Nat} {Q : Ex → St → Prop} (hx : XW E nt (opsOf code) 0 σ h c (Q .normal)) : XV E nt code σ h c Q := by
  cases code with
  | region id ops d =>
    cases hs
    intro B ρ a w h1 h2 h3
    refine wp_region_list (wpList_still (fun a' ha' => ?_) _ _ (hx B ρ a w h1 h2 h3 a.defers rfl))
    obtain ⟨σ', d1, s1, q1⟩ := ha'
    exact ⟨rfl, d1, .normal, σ', rfl, s1, q1⟩
  | _ => cases hs
theorem XV.cond {E : Env} {nt : Nat} {code : Code} {s : Operand} (hs : condOf code = some s) {σ : St} {h : Heap} {c : Nat} {Q : Ex → St → Prop} {b : Bool} (hb : ev (trS nt σ) (src nt s) = .bool b)
    (ht : b = true → XV E nt (lft code) σ h c Q) (hf : b = false → XV E nt (rgt code) σ h c Q) : XV E nt code σ h c Q := by
  cases code with
  | cond s' x y =>
    cases hs
    intro B ρ a w h1 h2 h3
    have hv := src_ok h1.tr s
    rw [hb] at hv
    generalize e1 : a.eval s = v at hv
    cases hv
    cases b with
    | true => exact wp_cond e1 (ht rfl B ρ a w h1 h2 h3)
    | false => exact wp_cond e1 (hf rfl B ρ a w h1 h2 h3)
  | _ => cases hs
theorem XV.seq {E : Env} {nt : Nat} {code : Code} (hs : isSeq code = true) {σ : St} {h : Heap} {c : Nat} {Q : Ex → St → Prop}
    (hx : XV E nt (lft code) σ h c (fun e σ' => match e with | .normal => XV E nt (rgt code) σ' h c Q | e => Q e σ')) : XV E nt code σ h c Q := by
  cases code with
  | seq x y =>
    intro B ρ a w h1 h2 h3
    refine wp_seq (wp_mono (hx B ρ a w h1 h2 h3) ?_)
    rintro e' a1 w1 ⟨rfl, d1, e, σ', rfl, s1, q1⟩
    cases e with
    | normal =>
      refine wp_mono (q1 B ρ a1 w1 s1 h2 h3) ?_
      rintro e2 a2 w2 ⟨rfl, d2, e, σ2, rfl, s2, q2⟩
      exact ⟨rfl, d2.trans d1, e, σ2, rfl, s2, q2⟩
    | exit i => exact ⟨rfl, d1, .exit i, σ', rfl, s1, q1⟩
    | ret => exact ⟨rfl, d1, .ret, σ', rfl, s1, q1⟩
  | _ => cases hs
theorem SRel.put {ρ : Rho} {nt : Nat} {σ : St} {a : Act} (h : SRel ρ nt σ a) {t : Nat} (ht : t < nt) {v v' : Value} (hv : VRel ρ v v') {σ' : St} (hs : ∀ i u, (i, u) ∈ σ' → i ≠ t ∧ (i, u) ∈ σ) : SRel ρ nt ((t, v) :: σ') (a.put (some t) v') := by
  have hsz : t < a.tmps.size := by rw [h.1]; exact ht
  refine ⟨by simp [Act.put, h.1], h.2.1, fun i u hm => ?_⟩
  rcases List.mem_cons.1 hm with e | e
  · cases e
    refine ⟨ht, ?_⟩
    have : (a.put (some t) v').tmps.getD t undef = v' := by simp [Act.put, hsz]
    rw [this]; exact hv
  · obtain ⟨n1, m1⟩ := hs i u e
    obtain ⟨q1, q2⟩ := h.2.2 i u m1
    refine ⟨q1, ?_⟩
    have : (a.put (some t) v').tmps.getD i undef = a.tmps.getD i undef := by
      simp only [Act.put, Array.getD_eq_getD_getElem?]
      rw [Array.getElem?_setIfInBounds_ne (Ne.symm n1)]
    rw [this]; exact q2
def SubN (t : Nat) (σ : St) : St → Prop
  | [] => True
  | (i, v) :: l => (Nat.beq i t = false ∧ lookS σ i = some v) ∧ SubN t σ l
theorem SubN.mem {t : Nat} {σ : St} : ∀ {σ' : St}, SubN t σ σ' → ∀ i v, (i, v) ∈ σ' → i ≠ t ∧ (i, v) ∈ σ
  | [], _, _, _, hm => by cases hm
  | (_, _) :: _, hs, _, _, hm => by
    rcases List.mem_cons.1 hm with e | e
    · cases e
      refine ⟨fun q => ?_, lookS_mem hs.1.2⟩
      have := hs.1.1
      rw [q] at this
      simp at this
    · exact SubN.mem hs.2 _ _ e
end Go.Xm
