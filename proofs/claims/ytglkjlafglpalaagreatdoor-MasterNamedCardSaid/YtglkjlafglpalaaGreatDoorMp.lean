/- The abstract machine, part 11: code walked at a state that is known in part; loops by rounds, branches by cases. -/
import Derived.Test.YtglkjlafglpalaaGreatDoorMj
namespace Go.Xm
open Go.RowKit
set_option linter.unusedVariables false
set_option linter.unusedSimpArgs false
abbrev St := List (Nat × Value)
noncomputable def blank (nt : Nat) : Tr := initTm (List.replicate nt poison) 0 .nil
noncomputable def trS (nt : Nat) (σ : St) : Tr := List.rec (blank nt) (fun p _ ih => ih.set (path 12 p.1) p.2) σ
noncomputable def readS (t : Tr) (live : List Nat) : St := List.rec [] (fun i _ ih => (i, t.get (path 12 i)) :: ih) live
def SRel (ρ : Rho) (nt : Nat) (σ : St) (a : Act) : Prop :=
 a.tmps.size = nt ∧ nt ≤ 4000 ∧ ∀ i v, (i, v) ∈ σ → i < nt ∧ VRel ρ v (a.tmps.getD i undef)
theorem blank_get {nt t : Nat} (h : nt ≤ 4000) (ht : t < nt) : (blank nt).get (path 12 t) = poison := by
 unfold blank
 rw [initTm_get _ 0 .nil t (by simp; omega) (by omega), if_pos (by simp; omega)]
 simp [ht]
theorem trS_get {ρ : Rho} {nt : Nat} (hn : nt ≤ 4000) (F : Nat → Value) : ∀ (σ : St), (∀ i v, (i, v) ∈ σ → i < nt ∧ VRel ρ v (F i)) → ∀ t, t < nt → VRel ρ ((trS nt σ).get (path 12 t)) (F t)
 | [], _, t, ht => by
  have : trS nt [] = blank nt := rfl
  rw [this, blank_get hn ht]
  exact .poison _
 | (i, v) :: σ, h, t, ht => by
  have : trS nt ((i, v) :: σ) = (trS nt σ).set (path 12 i) v := rfl
  rw [this]
  have hi := h i v (List.mem_cons_self ..)
  by_cases e : t = i
  ·subst e
   rw [Tr.get_set_same]
   exact hi.2
  ·rw [Tr.get_set_ne _ _ _ _ (fun q => e (path_inj 12 i t (by omega) (by omega) q).symm)]
   exact trS_get hn F σ (fun j u hj => h j u (List.mem_cons_of_mem _ hj)) t ht
theorem SRel.tr {ρ : Rho} {nt : Nat} {σ : St} {a : Act} (h : SRel ρ nt σ a) : TRel ρ nt (trS nt σ) a :=
 ⟨h.1, h.2.1, fun t ht => trS_get h.2.1 (fun i => a.tmps.getD i undef) σ h.2.2 t ht⟩
theorem readS_mem {t : Tr} : ∀ {live : List Nat} {i : Nat} {v : Value}, (i, v) ∈ readS t live → i ∈ live ∧ v = t.get (path 12 i)
 | [], i, v, h => by cases h
 | j :: l, i, v, h => by
  have h0 : readS t (j :: l) = (j, t.get (path 12 j)) :: readS t l := rfl
  rw [h0] at h
  rcases List.mem_cons.1 h with e | e
  ·cases e
   exact ⟨List.mem_cons_self .., rfl⟩
  ·exact ⟨List.mem_cons_of_mem _ (readS_mem e).1, (readS_mem e).2⟩
theorem SRel.of_tr {ρ : Rho} {nt : Nat} {t : Tr} {a : Act} (h : TRel ρ nt t a) {live : List Nat} (hl : live.all (fun i => Nat.blt i nt) = true) : SRel ρ nt (readS t live) a := by
 refine ⟨h.1, h.2.1, fun i v hm => ?_⟩
 obtain ⟨h1, rfl⟩ := readS_mem hm
 have h2 : i < nt := by simpa [Nat.blt_eq] using List.all_eq_true.1 hl i h1
 exact ⟨h2, h.2.2 i h2⟩
theorem SRel.mono {ρ ρ' : Rho} (hle : Rho.le ρ ρ') {nt : Nat} {σ : St} {a : Act} (h : SRel ρ nt σ a) : SRel ρ' nt σ a :=
 ⟨h.1, h.2.1, fun i v hm => ⟨(h.2.2 i v hm).1, (h.2.2 i v hm).2.mono hle⟩⟩
abbrev QP := Ex → St → Heap → Nat → Prop
def Keeps (k : Nat) (ρ ρ' : Rho) : Prop := k ≤ ρ.length ∧ ∀ i, i < k → ρ'[i]? = ρ[i]?
theorem Keeps.le {k : Nat} {ρ ρ' : Rho} (h : Keeps k ρ ρ') : k ≤ ρ'.length := by
 cases k with
 | zero => exact Nat.zero_le _
 | succ n =>
  have h1 := h.2 n (Nat.lt_succ_self n)
  have h2 : ρ[n]? = some (ρ[n]'h.1) := List.getElem?_eq_getElem h.1
  rw [h2] at h1
  exact (List.getElem?_eq_some_iff.1 h1).1
theorem Keeps.trans {k : Nat} {a b c : Rho} (h : Keeps k a b) (h' : Keeps k b c) : Keeps k a c := ⟨h.1, fun i hi => (h'.2 i hi).trans (h.2 i hi)⟩
theorem Keeps.of_le {k : Nat} {ρ ρ' : Rho} (hk : k ≤ ρ.length) (h : Rho.le ρ ρ') : Keeps k ρ ρ' :=
 ⟨hk, fun i hi => by
  have h2 : ρ[i]? = some ρ[i] := List.getElem?_eq_getElem (by omega)
  rw [h2]; exact h i _ h2⟩
def After (k : Nat) (B : Bd) (nt : Nat) (ρ : Rho) (w : World) (ds : List Deferred) (Q : QP) (e' : Exit) (a' : Act) (w' : World) : Prop :=
 ∃ e σ h c ρ', e' = exO e ∧ a'.defers = ds ∧ SRel ρ' nt σ a' ∧ HRel B ρ' h w' ∧ ρ'.length = c ∧ Keeps k ρ ρ' ∧ Bel B w w' ∧ Q e σ h c
theorem After.trans {k : Nat} {B : Bd} {nt : Nat} {ρ ρ1 : Rho} {w w1 w2 : World} {ds : List Deferred} {Q : QP} {e : Exit} {a : Act} (hk : Keeps k ρ ρ1) (hb : Bel B w w1) (h : After k B nt ρ1 w1 ds Q e a w2) : After k B nt ρ w ds Q e a w2 := by
 obtain ⟨e, σ, h, c, ρ', q1, q2, q3, q4, q5, q6, q7, q8⟩ := h
 exact ⟨e, σ, h, c, ρ', q1, q2, q3, q4, q5, hk.trans q6, hb.trans q7, q8⟩
def XQ (E : Env) (nt k : Nat) (code : Code) (σ : St) (h : Heap) (c : Nat) (Q : QP) : Prop :=
 ∀ (B : Bd) (ρ : Rho) (a : Act) (w : World), SRel ρ nt σ a → HRel B ρ h w → ρ.length = c → B.n ≤ w.heap.size → B.ge E.G → E.inv w → k ≤ ρ.length → code.wp E.P (After k B nt ρ w a.defers Q) a w
def XL (E : Env) (nt k n : Nat) (code : Code) (σ : St) (h : Heap) (c : Nat) (Q : QP) : Prop :=
 ∀ (B : Bd) (ρ : Rho) (a : Act) (w : World), SRel ρ nt σ a → HRel B ρ h w → ρ.length = c → B.n ≤ w.heap.size → B.ge E.G → E.inv w → k ≤ ρ.length → Code.rounds E.P code (After k B nt ρ w a.defers Q) n a w
def XR (E : Env) (nt k : Nat) (ops : Array Oper) (j : Nat) (σ : St) (h : Heap) (c : Nat) (Q : QP) : Prop :=
 ∀ (B : Bd) (ρ : Rho) (a : Act) (w : World), SRel ρ nt σ a → HRel B ρ h w → ρ.length = c → B.n ≤ w.heap.size → B.ge E.G → E.inv w →
  ∀ (ρ0 : Rho) (w0 : World) (ds : List Deferred), Keeps k ρ0 ρ → Bel B w0 w → a.defers = ds → wpList E.P ops (After k B nt ρ0 w0 ds Q) (ops.toList.drop j) a w
def lft : Code → Code
 | .seq a _ => a
 | .cond _ a _ => a
 | .block _ a => a
 | .loop a => a
 | .scope a => a
 | _ => .skip
def rgt : Code → Code
 | .seq _ b => b
 | .cond _ _ b => b
 | _ => .skip
def opsOf : Code → Array Oper
 | .region _ o _ => o
 | _ => #[]
def isSeq : Code → Bool
 | .seq _ _ => true
 | _ => false
def condOf : Code → Option Operand
 | .cond s _ _ => some s
 | _ => none
def blockOf : Code → Option Nat
 | .block i _ => some i
 | _ => none
def isLoop : Code → Bool
 | .loop _ => true
 | _ => false
def exitOf : Code → Option Nat
 | .exit i => some i
 | _ => none
def isRet : Code → Bool
 | .ret => true
 | _ => false
def isSkip : Code → Bool
 | .skip => true
 | _ => false
def drawOf : Code → Option Bool
 | .region _ _ d => some d
 | _ => none
theorem XQ.mono {E : Env} {nt k : Nat} {code : Code} {σ : St} {h : Heap} {c : Nat} {Q Q' : QP} (hq : ∀ e σ h c, Q e σ h c → Q' e σ h c) (hx : XQ E nt k code σ h c Q) : XQ E nt k code σ h c Q' := by
 intro B ρ a w h1 h2 h3 h4 h5 h6 h7
 refine wp_mono (hx B ρ a w h1 h2 h3 h4 h5 h6 h7) ?_
 rintro e a' w' ⟨e, σ, h, c, ρ', q1, q2, q3, q4, q5, q6, q7, q8⟩
 exact ⟨e, σ, h, c, ρ', q1, q2, q3, q4, q5, q6, q7, hq _ _ _ _ q8⟩
def Then (next : St → Heap → Nat → Prop) (Q : QP) : QP
 | .normal, σ, h, c => next σ h c
 | e, σ, h, c => Q e σ h c
theorem XQ.seq {E : Env} (hE : E.Ok) {nt k : Nat} {code : Code} (hs : isSeq code = true) {σ : St} {h : Heap} {c : Nat} {Q : QP}
 (hx : XQ E nt k (lft code) σ h c (Then (fun σ h c => XQ E nt k (rgt code) σ h c Q) Q)) : XQ E nt k code σ h c Q := by
 cases code with
 | seq x y =>
  intro B ρ a w h1 h2 h3 h4 h5 h6 h7
  refine wp_seq (wp_mono (hx B ρ a w h1 h2 h3 h4 h5 h6 h7) ?_)
  rintro e' a1 w1 ⟨e, σ', h', c', ρ', rfl, q2, q3, q4, q5, q6, q7, q8⟩
  cases e with
  | normal =>
   have := q8 B ρ' a1 w1 q3 q4 q5 (Nat.le_trans h4 q7.size) h5 (hE.keep h5 h6 q7) q6.le
   refine wp_mono this (fun e2 a2 w2 hA => ?_)
   rw [q2] at hA
   exact hA.trans q6 q7
  | exit i => exact ⟨.exit i, σ', h', c', ρ', rfl, q2, q3, q4, q5, q6, q7, q8⟩
  | ret => exact ⟨.ret, σ', h', c', ρ', rfl, q2, q3, q4, q5, q6, q7, q8⟩
 | _ => cases hs
theorem XQ.cond {E : Env} {nt k : Nat} {code : Code} {s : Operand} (hs : condOf code = some s) {σ : St} {h : Heap} {c : Nat} {Q : QP} {b : Bool} (hb : ev (trS nt σ) (src nt s) = .bool b)
 (ht : b = true → XQ E nt k (lft code) σ h c Q) (hf : b = false → XQ E nt k (rgt code) σ h c Q) : XQ E nt k code σ h c Q := by
 cases code with
 | cond s' x y =>
  cases hs
  intro B ρ a w h1 h2 h3 h4 h5 h6 h7
  have hv := src_ok h1.tr s
  rw [hb] at hv
  generalize e1 : a.eval s = v at hv
  cases hv
  cases b with
  | true => exact wp_cond e1 (ht rfl B ρ a w h1 h2 h3 h4 h5 h6 h7)
  | false => exact wp_cond e1 (hf rfl B ρ a w h1 h2 h3 h4 h5 h6 h7)
 | _ => cases hs
def InBlk (id : Nat) (Q : QP) : QP
 | .exit i, σ, h, c => match Nat.beq i id with
  | true => Q .normal σ h c
  | false => Q (.exit i) σ h c
 | e, σ, h, c => Q e σ h c
theorem XQ.block {E : Env} {nt k : Nat} {code : Code} {id : Nat} (hs : blockOf code = some id) {σ : St} {h : Heap} {c : Nat} {Q : QP} (hx : XQ E nt k (lft code) σ h c (InBlk id Q)) : XQ E nt k code σ h c Q := by
 cases code with
 | block id' x =>
  cases hs
  intro B ρ a w h1 h2 h3 h4 h5 h6 h7
  refine wp_block (wp_mono (hx B ρ a w h1 h2 h3 h4 h5 h6 h7) ?_)
  rintro e' a1 w1 ⟨e, σ', h', c', ρ', rfl, q2, q3, q4, q5, q6, q7, q8⟩
  cases e with
  | normal => exact ⟨.normal, σ', h', c', ρ', rfl, q2, q3, q4, q5, q6, q7, q8⟩
  | ret => exact ⟨.ret, σ', h', c', ρ', rfl, q2, q3, q4, q5, q6, q7, q8⟩
  | exit i =>
   by_cases hi : i = id
   ·subst hi
    have q8' : Q .normal σ' h' c' := by simpa [InBlk] using q8
    simp only [exO, Exit.inBlock, if_true]
    exact ⟨.normal, σ', h', c', ρ', rfl, q2, q3, q4, q5, q6, q7, q8'⟩
   ·have hbf : Nat.beq i id = false := by
     cases hb : Nat.beq i id with
     | false => rfl
     | true => exact absurd (Nat.eq_of_beq_eq_true hb) hi
    have q8' : Q (.exit i) σ' h' c' := by simpa only [InBlk, hbf] using q8
    simp only [exO, Exit.inBlock, if_neg hi]
    exact ⟨.exit i, σ', h', c', ρ', rfl, q2, q3, q4, q5, q6, q7, q8'⟩
 | _ => cases hs
theorem XQ.exit {E : Env} {nt k : Nat} {code : Code} {i : Nat} (hs : exitOf code = some i) {σ : St} {h : Heap} {c : Nat} {Q : QP} (hq : Q (.exit i) σ h c) : XQ E nt k code σ h c Q := by
 cases code with
 | exit j =>
  cases hs
  intro B ρ a w h1 h2 h3 h4 h5 h6 h7
  exact wp_exit ⟨.exit i, σ, h, c, ρ, rfl, rfl, h1, h2, h3, ⟨h7, fun _ _ => rfl⟩, Bel.refl B w, hq⟩
 | _ => cases hs
theorem XQ.ret {E : Env} {nt k : Nat} {code : Code} (hs : isRet code = true) {σ : St} {h : Heap} {c : Nat} {Q : QP} (hq : Q .ret σ h c) : XQ E nt k code σ h c Q := by
 cases code with
 | ret =>
  intro B ρ a w h1 h2 h3 h4 h5 h6 h7
  exact wp_ret ⟨.ret, σ, h, c, ρ, rfl, rfl, h1, h2, h3, ⟨h7, fun _ _ => rfl⟩, Bel.refl B w, hq⟩
 | _ => cases hs
theorem XQ.skip {E : Env} {nt k : Nat} {code : Code} (hs : isSkip code = true) {σ : St} {h : Heap} {c : Nat} {Q : QP} (hq : Q .normal σ h c) : XQ E nt k code σ h c Q := by
 cases code with
 | skip =>
  intro B ρ a w h1 h2 h3 h4 h5 h6 h7
  exact wp_skip ⟨.normal, σ, h, c, ρ, rfl, rfl, h1, h2, h3, ⟨h7, fun _ _ => rfl⟩, Bel.refl B w, hq⟩
 | _ => cases hs
theorem rounds_mono {P : Program} {code : Code} {Q Q' : Exit → Act → World → Prop} (hQ : ∀ e a w, Q e a w → Q' e a w) : ∀ (n : Nat) (a : Act) (w : World), Code.rounds P code Q n a w → Code.rounds P code Q' n a w
 | 0, _, _, q => q
 | n + 1, a, w, q => by
  rw [rounds_succ] at q ⊢
  exact wp_mono q (fun e a w q => by
   cases e with
   | normal => exact rounds_mono hQ n a w q
   | _ => exact hQ _ _ _ q)
theorem XL.succ {E : Env} (hE : E.Ok) {nt k n : Nat} {code : Code} {σ : St} {h : Heap} {c : Nat} {Q : QP} (hx : XQ E nt k code σ h c (Then (fun σ h c => XL E nt k n code σ h c Q) Q)) : XL E nt k (n + 1) code σ h c Q := by
 intro B ρ a w h1 h2 h3 h4 h5 h6 h7
 rw [rounds_succ]
 refine wp_mono (hx B ρ a w h1 h2 h3 h4 h5 h6 h7) ?_
 rintro e' a1 w1 ⟨e, σ', h', c', ρ', rfl, q2, q3, q4, q5, q6, q7, q8⟩
 cases e with
 | normal =>
  have := q8 B ρ' a1 w1 q3 q4 q5 (Nat.le_trans h4 q7.size) h5 (hE.keep h5 h6 q7) q6.le
  refine rounds_mono (fun e2 a2 w2 hA => ?_) n a1 w1 this
  rw [q2] at hA
  exact hA.trans q6 q7
 | exit i => exact ⟨.exit i, σ', h', c', ρ', rfl, q2, q3, q4, q5, q6, q7, q8⟩
 | ret => exact ⟨.ret, σ', h', c', ρ', rfl, q2, q3, q4, q5, q6, q7, q8⟩
theorem XQ.loop {E : Env} {nt k : Nat} (n : Nat) {code : Code} (hs : isLoop code = true) {σ : St} {h : Heap} {c : Nat} {Q : QP} (hx : XL E nt k n (lft code) σ h c Q) : XQ E nt k code σ h c Q := by
 cases code with
 | loop x =>
  intro B ρ a w h1 h2 h3 h4 h5 h6 h7
  exact wp_loop_rounds n (hx B ρ a w h1 h2 h3 h4 h5 h6 h7)
 | _ => cases hs
theorem XQ.weak {E : Env} {nt k : Nat} {code : Code} {σ σ' : St} {h h' : Heap} {c : Nat} {Q : QP} (hs : ∀ i v, (i, v) ∈ σ' → (i, v) ∈ σ) (hh : ∀ i o, hget h' i = some o → hget h i = some o) (hx : XQ E nt k code σ' h' c Q) : XQ E nt k code σ h c Q :=
 fun B ρ a w h1 h2 h3 h4 h5 h6 h7 => hx B ρ a w ⟨h1.1, h1.2.1, fun i v hm => h1.2.2 i v (hs i v hm)⟩ (h2.sub hh) h3 h4 h5 h6 h7
noncomputable def gsOf (E : Env) (nt : Nat) (ops : Array Oper) : List GI := ops.toList.map (compG E nt ops.toList)
theorem XQ.region {E : Env} {nt k : Nat} {code : Code} (hs : drawOf code = some false) {σ : St} {h : Heap} {c : Nat} {Q : QP} (hx : XR E nt k (opsOf code) 0 σ h c Q) : XQ E nt k code σ h c Q := by
 cases code with
 | region id ops d =>
  cases hs
  intro B ρ a w h1 h2 h3 h4 h5 h6 h7
  exact wp_region_list (hx B ρ a w h1 h2 h3 h4 h5 h6 ρ w a.defers ⟨h7, fun _ _ => rfl⟩ (Bel.refl B w) rfl)
 | _ => cases hs
theorem XR.done {E : Env} {nt k : Nat} {ops : Array Oper} {j : Nat} (hj : Nat.ble ops.size j = true) {σ : St} {h : Heap} {c : Nat} {Q : QP} (hq : Q .normal σ h c) : XR E nt k ops j σ h c Q := by
 intro B ρ a w h1 h2 h3 h4 h5 h6 ρ0 w0 ds h7 h8 h9
 have : ops.toList.drop j = [] := List.drop_eq_nil_of_le (by simpa using hj)
 rw [this]
 exact wpList_nil ⟨.normal, σ, h, c, ρ, rfl, h9, h1, h2, h3, h7, h8, hq⟩
noncomputable def obsO (live : List Nat) (r : Os) : Option (St × Heap × Nat) := Os.casesOn r none (fun t h c => some (readS t live, h, c))
theorem sub_ok {E : Env} (hE : E.Ok) (nt : Nat) (ops : Array Oper) (j m : Nat) : ((((gsOf E nt ops).drop j).take m).length = ((ops.toList.drop j).take m).length) ∧
 ∀ (i : Nat) o g, ((ops.toList.drop j).take m)[i]? = some o → (((gsOf E nt ops).drop j).take m)[i]? = some g → GIOk E nt ops.toList o g := by
 refine ⟨by simp [gsOf], fun i o g e1 e2 => ?_⟩
 rw [List.getElem?_take] at e1 e2
 by_cases hlt : i < m
 ·rw [if_pos hlt, List.getElem?_drop] at e1 e2
  exact map_get hE nt ops.toList _ o g e1 e2
 ·rw [if_neg hlt] at e1
  cases e1
theorem XR.step {E : Env} (hE : E.Ok) {call : CallF} (hcall : CallOk E call) {nt k : Nat} {ops : Array Oper} {j : Nat} (m : Nat) (live : List Nat) {σ σ' : St} {h h' : Heap} {c c' : Nat} {Q : QP} (hl : live.all (fun i => Nat.blt i nt) = true)
 (hr : obsO live (xops call (((gsOf E nt ops).drop j).take m) (trS nt σ) h c) = some (σ', h', c')) (hx : XR E nt k ops (j + m) σ' h' c' Q) : XR E nt k ops j σ h c Q := by
 intro B ρ a w h1 h2 h3 h4 h5 h6 ρ0 w0 ds h7 h8 h9
 cases hx0 : xops call (((gsOf E nt ops).drop j).take m) (trS nt σ) h c with
 | none => rw [hx0] at hr; cases hr
 | some t2 h2' c2 =>
  rw [hx0] at hr
  cases hr
  obtain ⟨s1, s2⟩ := sub_ok hE nt ops j m
  have hlist : ops.toList.drop j = (ops.toList.drop j).take m ++ ops.toList.drop (j + m) := by
   rw [← List.drop_drop, List.take_append_drop]
  have harr : ops.toList.toArray = ops := by simp
  rw [hlist]
  have key := xops_pre hE hcall (all := ops.toList) (Q := After k B nt ρ0 w0 ds Q) (ops.toList.drop (j + m)) _ _ s1 s2 _ t2 h _ c _ hx0 B ρ a w h1.tr h2 h3 h4 h5 h6 ?_
  ·rw [harr] at key; exact key
  ·rintro a' w' ⟨d, ρ', p1, p2, p3, p4, p5⟩
   rw [harr]
   exact hx B ρ' a' w' (SRel.of_tr p1 hl) p4 p3 (Nat.le_trans h4 p5.size) h5 (hE.keep h5 h6 p5) ρ0 w0 ds (h7.trans (Keeps.of_le h7.le p2)) (h8.trans p5) (d.trans h9)
theorem XR.run {E : Env} (hE : E.Ok) (n : Nat) {nt k : Nat} {ops : Array Oper} {j : Nat} (m : Nat) (live : List Nat) {σ σ' : St} {h h' : Heap} {c c' : Nat} {Q : QP} (hl : live.all (fun i => Nat.blt i nt) = true)
 (hr : obsO live (xops (callF E (exec E n)) (((gsOf E nt ops).drop j).take m) (trS nt σ) h c) = some (σ', h', c')) (hx : XR E nt k ops (j + m) σ' h' c' Q) : XR E nt k ops j σ h c Q :=
 XR.step hE (callF_ok hE (exec_ok hE n).1) m live hl hr hx
def KC (E : Env) (K : Nat) (args : List Value) (h : Heap) (c : Nat) (R : Value → Heap → Nat → Prop) : Prop :=
 ∀ (B : Bd) (ρ : Rho) (w : World) (args' : List Value), Cells ρ args args' → HRel B ρ h w → ρ.length = c → B.n ≤ w.heap.size → B.ge E.G → E.inv w →
  (callFunc K args'.toArray).run E.P w = .ok (.enter K args'.toArray) w ∧
   Calls E.P K args'.toArray w (fun e w' => ∃ v v' ρ' h' c', e = .returned v' ∧ VRel ρ' v v' ∧ Rho.le ρ ρ' ∧ ρ'.length = c' ∧ HRel B ρ' h' w' ∧ Bel B w w' ∧ R v h' c')
theorem KC.mono {E : Env} {K : Nat} {args : List Value} {h : Heap} {c : Nat} {R R' : Value → Heap → Nat → Prop} (hr : ∀ v h c, R v h c → R' v h c) (hx : KC E K args h c R) : KC E K args h c R' := by
 intro B ρ w args' h1 h2 h3 h4 h5 h6
 obtain ⟨q1, q2⟩ := hx B ρ w args' h1 h2 h3 h4 h5 h6
 refine ⟨q1, q2.mono ?_⟩
 rintro e w' ⟨v, v', ρ', h', c', e1, e2, e3, e4, e5, e6, e7⟩
 exact ⟨v, v', ρ', h', c', e1, e2, e3, e4, e5, e6, hr _ _ _ e7⟩
noncomputable def argS (args : List Value) : Nat → St := List.rec (fun _ => []) (fun v _ ih i => (i, v) :: ih (i + 1)) args
theorem argS_mem : ∀ {args : List Value} {i j : Nat} {v : Value}, (j, v) ∈ argS args i → i ≤ j ∧ args[j - i]? = some v
 | [], i, j, v, h => by cases h
 | u :: l, i, j, v, h => by
  have h0 : argS (u :: l) i = (i, u) :: argS l (i + 1) := rfl
  rw [h0] at h
  rcases List.mem_cons.1 h with e | e
  ·cases e; simp
  ·obtain ⟨h1, h2⟩ := argS_mem e
   have : j - i = (j - (i + 1)) + 1 := by omega
   rw [this, List.getElem?_cons_succ]
   exact ⟨by omega, h2⟩
theorem KC.body {E : Env} (hE : E.Ok) {K : Nat} {F : Func} (hF : E.fn K = some F) {code : Code} (hb : F.body = some code) {args : List Value} (hn : (Nat.ble args.length F.ntmps && Nat.ble F.ntmps 4000) = true) {h : Heap} {c : Nat} {R : Value → Heap → Nat → Prop}
 (hx : XQ E F.ntmps c code (argS args 0) h c (fun e σ h' c' => (∀ i, e ≠ .exit i) ∧ ∃ v, resOf E F.ntmps (trS F.ntmps σ) h' F.results.toList = some v ∧ R v h' c')) : KC E K args h c R := by
 intro B ρ w args' h1 h2 h3 h4 h5 h6
 obtain ⟨f1, f2, f3⟩ := hE.fn K F hF
 refine ⟨run_callFunc_go f1 f2 f3 _ w, calls_of_wp f1 hb ?_⟩
 simp only [Bool.and_eq_true, Nat.ble_eq] at hn
 have ht := initTm_rel h1 hn.1 hn.2
 have hs : SRel ρ F.ntmps (argS args 0) { tmps := args'.toArray ++ Array.replicate (F.ntmps - args'.toArray.size) undef, defers := [] } := by
  refine ⟨ht.1, ht.2.1, fun i v hm => ?_⟩
  obtain ⟨_, q⟩ := argS_mem hm
  have hi : i < args.length := by have := (List.getElem?_eq_some_iff.1 q).1; simpa using this
  have := ht.2.2 i (by omega)
  rw [initTm_get args 0 .nil i (by omega) (by omega), if_pos (by omega), q] at this
  exact ⟨by omega, this⟩
 refine wp_mono (hx B ρ _ w hs h2 h3 h4 h5 h6 (by omega)) ?_
 rintro e' a' w' ⟨e, σ, h', c', ρ', rfl, d, p1, p2, p3, p4, p5, p6, v, p7, p8⟩
 obtain ⟨v', q1, q2⟩ := resOf_ok hE p7 p1.tr p2
 have hle : Rho.le ρ ρ' := fun i L hi => by
  have := (List.getElem?_eq_some_iff.1 hi).1
  rw [p4.2 i (by omega)]; exact hi
 cases e with
 | normal => exact ⟨d, v', q2, v, v', ρ', h', c', rfl, q1, hle, p3, p2, p5, p8⟩
 | exit i => exact absurd rfl (p6 i)
 | ret => exact ⟨d, v', q2, v, v', ρ', h', c', rfl, q1, hle, p3, p2, p5, p8⟩
theorem KC.of_calls {E : Env} (hE : E.Ok) {K : Nat} {F : Func} (hF : E.fn K = some F) {args : List Value} (hp : args.all plain = true) {v : Value} (hv : plain v = true)
 (hc : ∀ w, E.inv w → Calls E.P K args.toArray w (fun e w' => e = .returned v ∧ Below w.heap.size w w')) {h : Heap} {c : Nat} : KC E K args h c (fun v' h' c' => v' = v ∧ h' = h ∧ c' = c) := by
 intro B ρ w args' h1 h2 h3 h4 h5 h6
 obtain ⟨f1, f2, f3⟩ := hE.fn K F hF
 have he := h1.plain_eq hp
 subst he
 refine ⟨run_callFunc_go f1 f2 f3 _ w, (hc w h6).mono ?_⟩
 rintro e w' ⟨rfl, hb⟩
 exact ⟨v, v, ρ, h, c, rfl, VRel.plain_refl ρ hv, Rho.le_refl ρ, h3, h2.keepB hb, Bel.of hb h4, rfl, rfl, rfl⟩
theorem KC.calls {E : Env} {K : Nat} {args : List Value} (hp : args.all plain = true) {v : Value} (hv : plain v = true) (hx : KC E K args [] 0 (fun v' _ _ => v' = v)) (w : World) (hG : E.G ≤ w.heap.size) (hI : E.inv w) :
 Calls E.P K args.toArray w (fun e w' => e = .returned v ∧ Below w.heap.size w w') := by
 obtain ⟨q1, q2⟩ := hx w.heap.size [] w args (Cells.plain_refl [] hp) (HRel.nil _ _ _) rfl (Nat.le_refl _) (Bd.ge_at hG) hI
 refine q2.mono ?_
 rintro e w' ⟨v1, v', ρ', h', c', rfl, e2, e3, e4, e5, e6, rfl⟩
 exact ⟨by rw [e2.plain_eq hv], e6.below⟩
noncomputable def insCallee (i : Ins) (t : Tr) : Option (Nat × List Value × Option (List Bool)) :=
 match i with
 | .call d f args => match calleeV (ev t f) (args.map (ev t)) with
  | some (k, xs) => some (k, xs, d)
  | none => none
 | _ => none
noncomputable def callee (g : List GI) (t : Tr) : Option (Nat × List Value × Option (List Bool)) :=
 match g with
 | .ins i :: _ => insCallee i t
 | .g p want _ i :: _ => match wantB (t.get p) want with
  | some true => insCallee i t
  | _ => none
 | _ => none
theorem xcall_wp {E : Env} {nt : Nat} {o : Oper} {i : Ins} (hi : InsOk E nt o i) {t : Tr} {K : Nat} {args : List Value} {d : Option (List Bool)} (hc : insCallee i t = some (K, args, d)) {h : Heap} {c : Nat} {R : Value → Heap → Nat → Prop} (hx : KC E K args h c R)
 {B : Bd} {ρ : Rho} {a : Act} {w : World} (ht : TRel ρ nt t a) (hh : HRel B ρ h w) (hρ : ρ.length = c) (hB : B.n ≤ w.heap.size) (hG : B.ge E.G) (hI : E.inv w) {N : Act → World → Prop} {Q : Exit → Act → World → Prop}
 (hK : ∀ v h' c' a' w', R v h' c' → Post B nt ρ w a.defers (putX d v t) h' c' a' w' → N a' w') : o.wp E.P a w N Q := by
 cases i with
 | call d0 f as =>
  obtain ⟨hd, hcs⟩ := hi
  simp only [insCallee] at hc
  split at hc
  ·rename_i k xs hev
   cases hc
   obtain ⟨xs', hargs, hex⟩ := hcs ρ t a ht _ _ hev
   obtain ⟨q1, q2⟩ := hx B ρ w _ hargs hh hρ hB hG hI
   unfold Oper.wp
   rw [hex, q1]
   refine q2.mono ?_
   rintro e w' ⟨v, v', ρ', h', c', rfl, p1, p2, p3, p4, p5, p6⟩
   exact hK v h' c' _ _ p6 ⟨put_defers _ _ _, ρ', putX_ok (ht.mono p2) hd p1, p2, p3, p4, p5⟩
  ·cases hc
 | _ => cases hc
theorem XR.call {E : Env} (hE : E.Ok) {nt k : Nat} {ops : Array Oper} {j : Nat} (live : List Nat) {K : Nat} {args : List Value} {d : Option (List Bool)} {σ : St} {h : Heap} {c : Nat} {Q : QP} (hl : live.all (fun i => Nat.blt i nt) = true)
 (hc : callee ((gsOf E nt ops).drop j) (trS nt σ) = some (K, args, d)) {R : Value → Heap → Nat → Prop} (hx : KC E K args h c R)
 (hn : ∀ v h' c', R v h' c' → XR E nt k ops (j + 1) (readS (putX d v (trS nt σ)) live) h' c' Q) : XR E nt k ops j σ h c Q := by
 intro B ρ a w h1 h2 h3 h4 h5 h6 ρ0 w0 ds h7 h8 h9
 cases hgs : (gsOf E nt ops).drop j with
 | nil => rw [hgs] at hc; cases hc
 | cons g gs =>
  have hg : (gsOf E nt ops)[j]? = some g := by
   have h0 : ((gsOf E nt ops).drop j)[0]? = some g := by rw [hgs]; rfl
   rw [List.getElem?_drop, Nat.add_zero] at h0
   exact h0
  have hlen : (gsOf E nt ops).length = ops.toList.length := by simp [gsOf]
  have hj : j < ops.toList.length := by rw [← hlen]; exact (List.getElem?_eq_some_iff.1 hg).1
  have ho : ops.toList[j]? = some ops.toList[j] := List.getElem?_eq_getElem hj
  have hok : GIOk E nt ops.toList ops.toList[j] g := map_get hE nt ops.toList j _ g ho hg
  have hdrop : ops.toList.drop j = ops.toList[j] :: ops.toList.drop (j + 1) := by
   rw [List.drop_eq_getElem_cons hj]
  rw [hdrop]
  have harr : ops.toList.toArray = ops := by simp
  refine wpList_step (fun N hN => ?_)
  have after : ∀ v h' c' a' w', R v h' c' → Post B nt ρ w a.defers (putX d v (trS nt σ)) h' c' a' w' → N a' w' := by
   rintro v h' c' a' w' hR ⟨dd, ρ', p1, p2, p3, p4, p5⟩
   exact hN _ _ (hn v h' c' hR B ρ' a' w' (SRel.of_tr p1 hl) p4 p3 (Nat.le_trans h4 p5.size) h5 (hE.keep h5 h6 p5) ρ0 w0 ds (h7.trans (Keeps.of_le h7.le p2)) (h8.trans p5) (dd.trans h9))
  rw [hgs] at hc
  cases g with
  | ins i =>
   obtain ⟨hgd, hi⟩ := hok
   rw [if_pos (by simp only [Region.wanted]; rw [hgd])]
   exact xcall_wp hi hc hx h1.tr h2 h3 h4 h5 h6 after
  | g p want d1 i =>
   obtain ⟨j1, dj, q1, q2, q3, q4, q5, q6⟩ := hok
   subst q4
   simp only [callee] at hc
   cases hw : wantB ((trS nt σ).get (path 12 dj)) want with
   | none => rw [hw] at hc; cases hc
   | some r =>
    rw [hw] at hc
    have hwd := wanted_of h1.tr q1 q2 q3 hw
    rw [harr] at hwd
    cases r with
    | true =>
     rw [if_pos hwd]
     exact xcall_wp q6 hc hx h1.tr h2 h3 h4 h5 h6 after
    | false => cases hc
  | bad => cases hc
def XU (E : Env) (nt : Nat) (ops : Array Oper) (j : Nat) (σ : St) (h : Heap) (c : Nat) (Q : St → Prop) : Prop :=
 ∀ (ρ : Rho) (a : Act) (w : World) (B : Bd), SRel ρ nt σ a → HRel B ρ h w → ρ.length = c → E.G ≤ w.heap.size → E.inv w →
  ∀ ds : List Deferred, a.defers = ds → wpQuiet E.P ops (fun w' => Below w.heap.size w w') (fun a' => ∃ σ', a'.defers = ds ∧ SRel ρ nt σ' a' ∧ Q σ') (ops.toList.drop j) a
theorem wpQuiet_mono {P : Program} {all : Array Oper} {C : World → Prop} {Q Q' : Act → Prop} (hQ : ∀ a, Q a → Q' a) : ∀ (l : List Oper) (a : Act), wpQuiet P all C Q l a → wpQuiet P all C Q' l a
 | [], a, h => hQ a h
 | o :: l, a, h => by
  unfold wpQuiet at h ⊢
  split at h
  ·rename_i hw
   rw [if_pos hw]
   exact Oper.quiet_mono (fun a h => wpQuiet_mono hQ l a h) h
  ·rename_i hw
   rw [if_neg hw]
   exact wpQuiet_mono hQ l _ h
theorem XQ.quiet {E : Env} (hE : E.Ok) {nt k : Nat} {code : Code} (hs : drawOf code = some true) (hlex : Region.lexB .any (opsOf code) = true) {σ : St} {h : Heap} {c : Nat} {Q : QP}
 (hx : XU E nt (opsOf code) 0 σ h c (fun σ' => Q .normal σ' h c)) : XQ E nt k code σ h c Q := by
 cases code with
 | region id ops d =>
  cases hs
  intro B ρ a w h1 h2 h3 h4 h5 h6 h7
  have hb := drew_below w
  have hhd : HRel B ρ h w.drew := h2.keepB hb
  have hId : E.inv w.drew := hE.keepN (Nat.le_trans h5.1 h4) h6 hb
  refine wp_region_quiet (C := fun w' => Below w.drew.heap.size w.drew w') hE.mixed hlex (Below.refl _ _) ?_
  refine wpQuiet_mono ?_ _ _ (hx ρ a w.drew B h1 hhd h3 (Nat.le_trans h5.1 h4) hId a.defers rfl)
  rintro a' ⟨σ', d1, s1, q1⟩ w' hw'
  exact ⟨.normal, σ', h, c, ρ, rfl, d1, s1, hhd.keepB hw', h3, ⟨h7, fun _ _ => rfl⟩, (Bel.refl B w).drew.trans (Bel.of hw' h4), q1⟩
 | _ => cases hs
theorem XU.done {E : Env} {nt : Nat} {ops : Array Oper} {j : Nat} (hj : Nat.ble ops.size j = true) {σ : St} {h : Heap} {c : Nat} {Q : St → Prop} (hq : Q σ) : XU E nt ops j σ h c Q := by
 intro ρ a w B h1 h2 h3 h4 h5 ds h6
 have : ops.toList.drop j = [] := List.drop_eq_nil_of_le (by simpa using hj)
 rw [this]
 exact wpQuiet_nil ⟨σ, h6, h1, hq⟩
noncomputable def obsT (live : List Nat) (r : Option Tr) : Option St := Option.casesOn r none (fun t => some (readS t live))
theorem XU.step {E : Env} (hE : E.Ok) {call : CallQ} {h : Heap} {c : Nat} (hcall : CallQOk E h c call) {nt : Nat} {ops : Array Oper} {j : Nat} (m : Nat) (live : List Nat) {σ σ' : St} {Q : St → Prop} (hl : live.all (fun i => Nat.blt i nt) = true)
 (hr : obsT live (qops call (((gsOf E nt ops).drop j).take m) h (trS nt σ)) = some σ') (hx : XU E nt ops (j + m) σ' h c Q) : XU E nt ops j σ h c Q := by
 intro ρ a w B h1 h2 h3 h4 h5 ds h6
 cases hx0 : qops call (((gsOf E nt ops).drop j).take m) h (trS nt σ) with
 | none => rw [hx0] at hr; cases hr
 | some t2 =>
  rw [hx0] at hr
  cases hr
  obtain ⟨s1, s2⟩ := sub_ok hE nt ops j m
  have hlist : ops.toList.drop j = (ops.toList.drop j).take m ++ ops.toList.drop (j + m) := by
   rw [← List.drop_drop, List.take_append_drop]
  have harr : ops.toList.toArray = ops := by simp
  rw [hlist]
  have key := qops_pre hcall (all := ops.toList) (Q := fun a' => ∃ σ', a'.defers = ds ∧ SRel ρ nt σ' a' ∧ Q σ') h2 h3 h4 h5 (ops.toList.drop (j + m)) _ _ s1 s2 _ t2 hx0 a h1.tr ?_
  ·rw [harr] at key; exact key
  ·intro a' d1 r1
   rw [harr]
   exact hx ρ a' w B (SRel.of_tr r1 hl) h2 h3 h4 h5 ds (d1.trans h6)
theorem XU.run {E : Env} (hE : E.Ok) (n : Nat) {nt : Nat} {ops : Array Oper} {j : Nat} (m : Nat) (live : List Nat) {σ σ' : St} {h : Heap} {c : Nat} {Q : St → Prop} (hl : live.all (fun i => Nat.blt i nt) = true)
 (hr : obsT live (qops (callQ E (exec E n) h c) (((gsOf E nt ops).drop j).take m) h (trS nt σ)) = some σ') (hx : XU E nt ops (j + m) σ' h c Q) : XU E nt ops j σ h c Q :=
 XU.step hE (callQ_ok hE (exec_ok hE n).1) m live hl hr hx
def XS (E : Env) (nt k : Nat) (ops : Array Oper) (m j : Nat) (σ : St) (h : Heap) (c : Nat) (Q : QP) : Prop :=
 ∀ (B : Bd) (ρ : Rho) (a : Act) (w : World), SRel ρ nt σ a → HRel B ρ h w → ρ.length = c → B.n ≤ w.heap.size → B.ge E.G → E.inv w →
  ∀ (ρ0 : Rho) (w0 : World) (ds : List Deferred), Keeps k ρ0 ρ → Bel B w0 w → a.defers = ds →
   wpStill E.P ops w (fun a' => wpList E.P ops (After k B nt ρ0 w0 ds Q) (ops.toList.drop m) a' w) ((ops.toList.take m).drop j) a
theorem XQ.tail {E : Env} (hE : E.Ok) {nt k : Nat} {code : Code} (m : Nat) (hs : drawOf code = some true) (hlex : Region.lexTailB .any (opsOf code).toList.toArray m = true) {σ : St} {h : Heap} {c : Nat} {Q : QP}
 (hx : XS E nt k (opsOf code) m 0 σ h c Q) : XQ E nt k code σ h c Q := by
 cases code with
 | region id ops d =>
  cases hs
  intro B ρ a w h1 h2 h3 h4 h5 h6 h7
  have hb := drew_below w
  have hhd : HRel B ρ h w.drew := h2.keepB hb
  have hId : E.inv w.drew := hE.keepN (Nat.le_trans h5.1 h4) h6 hb
  have hwp := wp_region_still_tail (P := E.P) (id := id) (Q := After k B nt ρ w a.defers Q) (a := a) (w := w) (l := ops.toList) m hE.mixed hlex ?_
  ·simpa using hwp
  ·have := hx B ρ a w.drew h1 hhd h3 h4 h5 hId ρ w a.defers ⟨h7, fun _ _ => rfl⟩ (Bel.refl B w).drew rfl
   have harr : ops.toList.toArray = ops := by simp
   rw [harr]
   exact this
 | _ => cases hs
theorem XS.done {E : Env} {nt k : Nat} {ops : Array Oper} {m j : Nat} (hj : Nat.beq m j = true) {σ : St} {h : Heap} {c : Nat} {Q : QP} (hx : XR E nt k ops m σ h c Q) : XS E nt k ops m j σ h c Q := by
 intro B ρ a w h1 h2 h3 h4 h5 h6 ρ0 w0 ds h7 h8 h9
 have := Nat.eq_of_beq_eq_true hj
 subst this
 have : (ops.toList.take m).drop m = [] := List.drop_eq_nil_of_le (by simp; omega)
 rw [this]
 exact wpStill_nil (hx B ρ a w h1 h2 h3 h4 h5 h6 ρ0 w0 ds h7 h8 h9)
theorem XS.step {E : Env} (hE : E.Ok) {nt k : Nat} {ops : Array Oper} {m j : Nat} (i : Nat) (hi : Nat.ble (j + i) m = true) (live : List Nat) {σ σ' : St} {h : Heap} {c : Nat} {Q : QP} (hl : live.all (fun i => Nat.blt i nt) = true)
 (hr : obsT live (qops noCall (((gsOf E nt ops).drop j).take i) h (trS nt σ)) = some σ') (hx : XS E nt k ops m (j + i) σ' h c Q) : XS E nt k ops m j σ h c Q := by
 intro B ρ a w h1 h2 h3 h4 h5 h6 ρ0 w0 ds h7 h8 h9
 cases hx0 : qops noCall (((gsOf E nt ops).drop j).take i) h (trS nt σ) with
 | none => rw [hx0] at hr; cases hr
 | some t2 =>
  rw [hx0] at hr
  cases hr
  have hi := Nat.le_of_ble_eq_true hi
  obtain ⟨s1, s2⟩ := sub_ok hE nt ops j i
  have hlist : (ops.toList.take m).drop j = (ops.toList.drop j).take i ++ (ops.toList.take m).drop (j + i) := by
   have e1 : (ops.toList.drop j).take i = ((ops.toList.take m).drop j).take i := by
    rw [List.drop_take, List.take_take]
    congr 1
    omega
   rw [e1, ← List.drop_drop, List.take_append_drop]
  have harr : ops.toList.toArray = ops := by simp
  rw [hlist]
  have key := qops_still_pre (all := ops.toList) (Q := fun a' => wpList E.P ops (After k B nt ρ0 w0 ds Q) (ops.toList.drop m) a' w) h2 (Nat.le_trans h5.1 h4) h6 ((ops.toList.take m).drop (j + i)) _ _ s1 s2 _ t2 hx0 a h1.tr ?_
  ·rw [harr] at key; exact key
  ·intro a' d1 r1
   rw [harr]
   exact hx B ρ a' w (SRel.of_tr r1 hl) h2 h3 h4 h5 h6 ρ0 w0 ds h7 h8 (d1.trans h9)
noncomputable def lookS (σ : St) (i : Nat) : Option Value := List.rec none (fun p _ ih => Bool.casesOn (Nat.beq p.1 i) ih (some p.2)) σ
theorem lookS_mem : ∀ {σ : St} {i : Nat} {v : Value}, lookS σ i = some v → (i, v) ∈ σ
 | [], i, v, h => by cases h
 | (j, u) :: σ, i, v, h => by
  have h0 : lookS ((j, u) :: σ) i = Bool.casesOn (Nat.beq j i) (lookS σ i) (some u) := rfl
  rw [h0] at h
  cases hb : Nat.beq j i with
  | true =>
   rw [hb] at h
   have := Nat.eq_of_beq_eq_true hb
   subst this
   cases h
   exact List.mem_cons_self ..
  | false =>
   rw [hb] at h
   exact List.mem_cons_of_mem _ (lookS_mem h)
def SubS (s : List Nat) (σ : St) : St → Prop
 | [] => True
 | (i, v) :: l => lookS σ i = some (renV s v) ∧ SubS s σ l
theorem SubS.mem {s : List Nat} {σ : St} : ∀ {σ' : St}, SubS s σ σ' → ∀ {i : Nat} {v : Value}, (i, v) ∈ σ' → (i, renV s v) ∈ σ
 | [], _, _, _, hm => by cases hm
 | (_, _) :: _, hs, _, _, hm => by
  rcases List.mem_cons.1 hm with e | e
  ·cases e; exact lookS_mem hs.1
  ·exact SubS.mem hs.2 e
theorem SRel.ren {s : List Nat} {ρ : Rho} {nt : Nat} {σ σ' : St} {a : Act} (h : SRel ρ nt σ a) (hs : SubS s σ σ') : SRel (renR s ρ) nt σ' a :=
 ⟨h.1, h.2.1, fun i _ hm => ⟨(h.2.2 i _ (hs.mem hm)).1, (h.2.2 i _ (hs.mem hm)).2.renV⟩⟩
theorem Keeps.ren {s : List Nat} {k : Nat} {ρ : Rho} (hk : k ≤ ρ.length) (hs : s.take k = List.range k) : Keeps k ρ (renR s ρ) := by
 refine ⟨hk, fun i hi => ?_⟩
 have h1 : s[i]? = some i := by
  have h2 : (s.take k)[i]? = some i := by rw [hs]; simp [hi]
  rw [List.getElem?_take, if_pos hi] at h2
  exact h2
 have h2 : ρ[i]? = some ρ[i] := List.getElem?_eq_getElem (by omega)
 rw [h2]
 exact renR_at h1 h2
theorem XQ.ren {E : Env} {nt k : Nat} {code : Code} (s : List Nat) (hn : s.Nodup) (hk : s.take k = List.range k) {σ σ' : St} {h h' : Heap} {c c' : Nat} {Q : QP} (hσ : SubS s σ σ') (hh : RenH s h h') (hc : s.length = c')
 (hx : XQ E nt k code σ' h' c' Q) : XQ E nt k code σ h c Q := by
 intro B ρ a w h1 h2 h3 h4 h5 h6 h7
 have hK := Keeps.ren h7 hk
 exact wp_mono (hx B (renR s ρ) a w (h1.ren hσ) (h2.ren hn hh) (by simpa [renR] using hc) h4 h5 h6 hK.le) (fun e a' w' hA => hA.trans hK (Bel.refl B w))
theorem XL.ren {E : Env} {nt k n : Nat} {code : Code} (s : List Nat) (hn : s.Nodup) (hk : s.take k = List.range k) {σ σ' : St} {h h' : Heap} {c c' : Nat} {Q : QP} (hσ : SubS s σ σ') (hh : RenH s h h') (hc : s.length = c')
 (hx : XL E nt k n code σ' h' c' Q) : XL E nt k n code σ h c Q := by
 intro B ρ a w h1 h2 h3 h4 h5 h6 h7
 have hK := Keeps.ren h7 hk
 exact rounds_mono (fun e a' w' hA => hA.trans hK (Bel.refl B w)) n a w (hx B (renR s ρ) a w (h1.ren hσ) (h2.ren hn hh) (by simpa [renR] using hc) h4 h5 h6 hK.le)
noncomputable def insV (i : Ins) (t : Tr) (h : Heap) : Option Value :=
 match i with
 | .rd _ f => f t h
 | _ => none
noncomputable def insE (i : Ins) (t : Tr) (h : Heap) (c : Nat) : Option (Value × Heap × Nat) :=
 match i with
 | .ef _ f => f t h c
 | _ => none
noncomputable def insD (i : Ins) : Option (List Bool) :=
 match i with
 | .rd d _ => d
 | .ef d _ => d
 | .call d _ _ => d
 | .bad => none
noncomputable def headI (gs : List GI) (t : Tr) : Ins :=
 match gs with
 | .ins i :: _ => i
 | .g p want _ i :: _ => match wantB (t.get p) want with
  | some true => i
  | _ => .bad
 | _ => .bad
theorem xops_rd {call : CallF} {gs : List GI} {t : Tr} {h : Heap} {c : Nat} {v : Value} (hv : insV (headI gs t) t h = some v) : xops call (gs.take 1) t h c = .some (putX (insD (headI gs t)) v t) h c := by
 cases gs with
 | nil => cases hv
 | cons g gs =>
  cases g with
  | bad => cases hv
  | ins i =>
   have hv' : insV i t h = some v := hv
   cases i with
   | rd d f =>
    have h0 : xops call ([GI.ins (.rd d f)]) t h c = Os.casesOn (motive := fun _ => Os) (Option.casesOn (motive := fun _ => Os) (f t h) .none (fun v => .some (putX d v t) h c)) .none (xops call []) := rfl
    have hf : f t h = some v := hv'
    show xops call ([GI.ins (.rd d f)]) t h c = _
    rw [h0, hf]
    rfl
   | _ => cases hv'
  | g p want d0 i =>
   cases hw : wantB (t.get p) want with
   | none => simp only [headI, hw] at hv; cases hv
   | some b =>
    cases b with
    | false => simp only [headI, hw] at hv; cases hv
    | true =>
     have hi : headI (.g p want d0 i :: gs) t = i := by simp only [headI, hw]
     rw [hi] at hv ⊢
     cases i with
     | rd d f =>
      have h0 : xops call ([GI.g p want d0 (.rd d f)]) t h c = Os.casesOn (motive := fun _ => Os) (Option.casesOn (motive := fun _ => Os) (wantB (t.get p) want) .none (fun b => Bool.casesOn b (.some (putX d0 undef t) h c) (Option.casesOn (f t h) .none (fun v => .some (putX d v t) h c)))) .none (xops call []) := rfl
      have hf : f t h = some v := hv
      show xops call ([GI.g p want d0 (.rd d f)]) t h c = _
      rw [h0, hw, hf]
      rfl
     | _ => cases hv
theorem xops_ef {call : CallF} {gs : List GI} {t : Tr} {h h' : Heap} {c c' : Nat} {v : Value} (hv : insE (headI gs t) t h c = some (v, h', c')) : xops call (gs.take 1) t h c = .some (putX (insD (headI gs t)) v t) h' c' := by
 cases gs with
 | nil => cases hv
 | cons g gs =>
  cases g with
  | bad => cases hv
  | ins i =>
   have hv' : insE i t h c = some (v, h', c') := hv
   cases i with
   | ef d f =>
    have h0 : xops call ([GI.ins (.ef d f)]) t h c = Os.casesOn (motive := fun _ => Os) (Option.casesOn (motive := fun _ => Os) (f t h c) .none (fun r => .some (putX d r.1 t) r.2.1 r.2.2)) .none (xops call []) := rfl
    have hf : f t h c = some (v, h', c') := hv'
    show xops call ([GI.ins (.ef d f)]) t h c = _
    rw [h0, hf]
    rfl
   | _ => cases hv'
  | g p want d0 i =>
   cases hw : wantB (t.get p) want with
   | none => simp only [headI, hw] at hv; cases hv
   | some b =>
    cases b with
    | false => simp only [headI, hw] at hv; cases hv
    | true =>
     have hi : headI (.g p want d0 i :: gs) t = i := by simp only [headI, hw]
     rw [hi] at hv ⊢
     cases i with
     | ef d f =>
      have h0 : xops call ([GI.g p want d0 (.ef d f)]) t h c = Os.casesOn (motive := fun _ => Os) (Option.casesOn (motive := fun _ => Os) (wantB (t.get p) want) .none (fun b => Bool.casesOn b (.some (putX d0 undef t) h c) (Option.casesOn (f t h c) .none (fun r => .some (putX d r.1 t) r.2.1 r.2.2)))) .none (xops call []) := rfl
      have hf : f t h c = some (v, h', c') := hv
      show xops call ([GI.g p want d0 (.ef d f)]) t h c = _
      rw [h0, hw, hf]
      rfl
     | _ => cases hv
theorem XR.rd {E : Env} (hE : E.Ok) {nt k : Nat} {ops : Array Oper} {j : Nat} (live : List Nat) {σ σ' : St} {h : Heap} {c : Nat} {v : Value} {Q : QP} (hl : live.all (fun i => Nat.blt i nt) = true)
 (hv : insV (headI ((gsOf E nt ops).drop j) (trS nt σ)) (trS nt σ) h = some v) (hσ : readS (putX (insD (headI ((gsOf E nt ops).drop j) (trS nt σ))) v (trS nt σ)) live = σ')
 (hx : XR E nt k ops (j + 1) σ' h c Q) : XR E nt k ops j σ h c Q := by
 refine XR.step hE (callF_ok hE (exec_ok hE 0).1) 1 live (σ' := σ') (h' := h) (c' := c) hl ?_ hx
 rw [xops_rd hv, ← hσ]
 rfl
theorem XR.ef {E : Env} (hE : E.Ok) {nt k : Nat} {ops : Array Oper} {j : Nat} (live : List Nat) {σ σ' : St} {h h' : Heap} {c c' : Nat} {v : Value} {Q : QP} (hl : live.all (fun i => Nat.blt i nt) = true)
 (hv : insE (headI ((gsOf E nt ops).drop j) (trS nt σ)) (trS nt σ) h c = some (v, h', c')) (hσ : readS (putX (insD (headI ((gsOf E nt ops).drop j) (trS nt σ))) v (trS nt σ)) live = σ')
 (hx : XR E nt k ops (j + 1) σ' h' c' Q) : XR E nt k ops j σ h c Q := by
 refine XR.step hE (callF_ok hE (exec_ok hE 0).1) 1 live (σ' := σ') (h' := h') (c' := c') hl ?_ hx
 rw [xops_ef hv, ← hσ]
 rfl
def rowC {α : Type} (f : α → List Value) (xs : List α) : List Value := xs.flatMap f
structure Enc {α : Type} (f : α → List Value) (s : Nat) : Prop where
 len : ∀ a, (f a).length = s
 one : ∀ a, (f a).all flt = true
theorem scal_one1 {v : Value} (h : flt v = true) : one1 v = true ∧ solid v = true := by
 unfold flt at h
 split at h
 ·exact ⟨rfl, rfl⟩
 ·exact ⟨rfl, rfl⟩
 ·exact ⟨rfl, rfl⟩
 ·exact ⟨rfl, rfl⟩
 ·exact ⟨rfl, rfl⟩
 ·cases h
theorem rowC_cons {α : Type} (f : α → List Value) (a : α) (xs : List α) : rowC f (a :: xs) = f a ++ rowC f xs := rfl
theorem rowC_append {α : Type} (f : α → List Value) (xs ys : List α) : rowC f (xs ++ ys) = rowC f xs ++ rowC f ys := by simp [rowC, List.flatMap_append]
theorem rowC_scal {α : Type} {f : α → List Value} {s : Nat} (hf : Enc f s) (xs : List α) : (rowC f xs).all flt = true := by
 induction xs with
 | nil => rfl
 | cons a xs ih => rw [rowC_cons, List.all_append, hf.one a, ih]; rfl
theorem rowC_one1 {α : Type} {f : α → List Value} {s : Nat} (hf : Enc f s) (xs : List α) : (rowC f xs).all one1 = true :=
 List.all_eq_true.2 fun v hv => (scal_one1 (List.all_eq_true.1 (rowC_scal hf xs) v hv)).1
theorem rowC_length {α : Type} {f : α → List Value} {s : Nat} (hf : Enc f s) (xs : List α) : (rowC f xs).length = xs.length * s := by
 induction xs with
 | nil => simp [rowC]
 | cons a xs ih => rw [rowC_cons, List.length_append, hf.len a, ih, List.length_cons, Nat.add_mul, Nat.one_mul, Nat.add_comm]
theorem rowC_drop {α : Type} {f : α → List Value} {s : Nat} (hf : Enc f s) : ∀ (xs : List α) (n : Nat), (rowC f xs).drop (n * s) = rowC f (xs.drop n)
 | xs, 0 => by simp
 | [], n + 1 => by simp [rowC]
 | a :: xs, n + 1 => by
  have e : (n + 1) * s = (f a).length + n * s := by rw [hf.len, Nat.add_mul, Nat.one_mul, Nat.add_comm]
  rw [rowC_cons, e, List.drop_append, List.drop_succ_cons]
  have h1 : (f a).length + n * s - (f a).length = n * s := by omega
  rw [h1, List.drop_eq_nil_of_le (by omega), List.nil_append]
  exact rowC_drop hf xs n
theorem rowC_take {α : Type} {f : α → List Value} {s : Nat} (hf : Enc f s) : ∀ (xs : List α) (n : Nat), (rowC f xs).take (n * s) = rowC f (xs.take n)
 | xs, 0 => by simp [rowC]
 | [], n + 1 => by simp [rowC]
 | a :: xs, n + 1 => by
  have e : (n + 1) * s = (f a).length + n * s := by rw [hf.len, Nat.add_mul, Nat.one_mul, Nat.add_comm]
  rw [rowC_cons, e, List.take_append, List.take_succ_cons]
  have h1 : (f a).length + n * s - (f a).length = n * s := by omega
  rw [h1, List.take_of_length_le (by omega), rowC_cons]
  rw [rowC_take hf xs n]
theorem rowC_split {α : Type} (xs : List α) (n : Nat) (d : α) (hn : n < xs.length) : xs = xs.take n ++ [xs.getD n d] ++ xs.drop (n + 1) := by
 have h := List.take_append_drop n xs
 rw [List.drop_eq_getElem_cons hn] at h
 have e : xs.getD n d = xs[n] := by rw [List.getD_eq_getElem?_getD, List.getElem?_eq_getElem hn]; rfl
 rw [e, List.append_assoc]
 exact h.symm
theorem rowC_get {α : Type} {f : α → List Value} {s : Nat} (hf : Enc f s) (xs : List α) (n k : Nat) (d : α) (hn : n < xs.length) (hk : k < s) : (rowC f xs)[n * s + k]? = (f (xs.getD n d))[k]? := by
 have h := rowC_split xs n d hn
 have hl : (rowC f (xs.take n)).length = n * s := by rw [rowC_length hf, List.length_take]; congr 1; omega
 have e : rowC f xs = rowC f (xs.take n) ++ (f (xs.getD n d) ++ rowC f (xs.drop (n + 1))) := by
  conv => lhs; rw [h]
  rw [rowC_append, rowC_append, List.append_assoc]
  congr 1
  show f (xs.getD n d) ++ [] ++ _ = _
  rw [List.append_nil]
 rw [e, List.getElem?_append_right (by omega), hl]
 have h2 : n * s + k - n * s = k := by omega
 rw [h2, List.getElem?_append_left (by rw [hf.len]; exact hk)]
theorem set_split {α : Type} (xs : List α) (n : Nat) (v : α) (hn : n < xs.length) : xs.set n v = xs.take n ++ v :: xs.drop (n + 1) := List.set_eq_take_append_cons_drop ▸ by rw [if_pos hn]
theorem rowC_set {α : Type} {f : α → List Value} {s : Nat} (hf : Enc f s) (xs : List α) (n k : Nat) (d v : α) (ws : List Value) (hn : n < xs.length) (hk : k + ws.length ≤ s)
 (hv : (f (xs.getD n d)).take k ++ ws ++ (f (xs.getD n d)).drop (k + ws.length) = f v) :
 (rowC f xs).take (n * s + k) ++ ws ++ (rowC f xs).drop (n * s + k + ws.length) = rowC f (xs.set n v) := by
 have h := rowC_split xs n d hn
 have hl : (rowC f (xs.take n)).length = n * s := by rw [rowC_length hf, List.length_take]; congr 1; omega
 have hfa := hf.len (xs.getD n d)
 have e : rowC f xs = rowC f (xs.take n) ++ (f (xs.getD n d) ++ rowC f (xs.drop (n + 1))) := by
  conv => lhs; rw [h]
  rw [rowC_append, rowC_append, List.append_assoc]
  congr 1
  show f (xs.getD n d) ++ [] ++ _ = _
  rw [List.append_nil]
 rw [e, set_split xs n v hn, rowC_append, rowC_cons, ← hv, List.take_append, List.drop_append]
 generalize hr : rowC f (xs.take n) = A at *
 generalize hr2 : rowC f (xs.drop (n + 1)) = C at *
 generalize hr3 : f (xs.getD n d) = M at *
 have e1 : n * s + k - A.length = k := by omega
 have e2 : n * s + k + ws.length - A.length = k + ws.length := by omega
 rw [e1, e2, List.take_of_length_le (by omega), List.drop_eq_nil_of_le (by omega), List.take_append, List.drop_append]
 have e3 : k - M.length = 0 := by omega
 have e4 : k + ws.length - M.length = 0 := by omega
 rw [e3, e4]
 simp [List.append_assoc]
theorem v_idx {g : Ins} {d : Option (List Bool)} {s : Nat} {x y : Src} {t : Tr} {h : Heap} (hI : g = .rd d (rIdxS s x y)) {b o len cap : Nat} {ik : IntKind} {i : Int} (hx : ev t x = .slice (some ⟨b, o, none⟩) len cap) (hy : ev t y = .int ik i)
 (hc : inRow i len = true) {off : Nat} (ho : o + i.toNat * s = off) : insV g t h = some (.pointer (some ⟨b, off, none⟩)) := by
 subst hI
 simp only [insV, rIdxS, hx, hy, hc, ho]
theorem v_load1 {α : Type} {f : α → List Value} {s : Nat} (hf : Enc f s) {g : Ins} {d : Option (List Bool)} {x : Src} {t : Tr} {h : Heap} (hI : g = .rd d (rLoad1 x)) {b off : Nat} (hx : ev t x = .pointer (some ⟨b, off, none⟩)) {xs : List α} {fz : Nat} {e : TypeId} {es : Nat}
 (hg : hget h b = some (.cells (rowC f xs) fz e es)) (n k : Nat) (d0 : α) (ho : off = n * s + k) (hn : n < xs.length) (hk : Nat.blt k s = true) {v : Value} (hv : (f (xs.getD n d0))[k]? = some v) : insV g t h = some v := by
 subst hI
 subst ho
 simp only [insV, rLoad1, hx, hg, lget_eq]
 rw [rowC_get hf xs n k d0 hn (by simpa [Nat.blt_eq] using hk), hv]
theorem v_loadN {α : Type} {f : α → List Value} {s : Nat} (hf : Enc f s) {g : Ins} {d : Option (List Bool)} {x : Src} {t : Tr} {h : Heap} (hI : g = .rd d (rLoadN s x)) {b off : Nat} (hx : ev t x = .pointer (some ⟨b, off, none⟩)) {xs : List α} {fz : Nat} {e : TypeId} {es : Nat}
 (hg : hget h b = some (.cells (rowC f xs) fz e es)) (n : Nat) (d0 : α) (ho : off = n * s) (hn : n < xs.length) {v : Value} (hv : Value.agg (f (xs.getD n d0)).toArray = v) : insV g t h = some v := by
 subst hI
 subst ho
 simp only [insV, rLoadN, hx, hg]
 have hl := rowC_length hf xs
 have h1 : (n + 1) * s ≤ xs.length * s := Nat.mul_le_mul_right _ hn
 have h2 : (n + 1) * s = n * s + s := by rw [Nat.add_mul, Nat.one_mul]
 have hb : Nat.ble (n * s + s) (rowC f xs).length = true := by rw [Nat.ble_eq]; omega
 rw [hb]
 have h3 : ((rowC f xs).drop (n * s)).take s = f (xs.getD n d0) := by
  have h4 := rowC_take hf (xs.drop n) 1
  rw [Nat.one_mul] at h4
  rw [rowC_drop hf, h4]
  have h5 : (xs.drop n).take 1 = [xs.getD n d0] := by
   rw [List.drop_eq_getElem_cons hn, List.take_cons (by omega)]
   have e : xs.getD n d0 = xs[n] := by rw [List.getD_eq_getElem?_getD, List.getElem?_eq_getElem hn]; rfl
   rw [e]; rfl
  rw [h5]
  show f _ ++ [] = _
  rw [List.append_nil]
 show some (Value.agg (((rowC f xs).drop (n * s)).take s).toArray) = some v
 rw [h3, hv]
theorem e_store {α : Type} {f : α → List Value} {s : Nat} (hf : Enc f s) {g : Ins} {d : Option (List Bool)} {size : Nat} {x y : Src} {t : Tr} {h h' : Heap} {c : Nat} (hI : g = .ef d (eStore size x y)) {b off : Nat} (hx : ev t x = .pointer (some ⟨b, off, none⟩)) {xs : List α} {e : TypeId} {es : Nat}
 (hg : hget h b = some (.cells (rowC f xs) 0 e es)) (n k : Nat) (d0 : α) (ho : off = n * s + k) (hn : n < xs.length) {w : Value} {ws : List Value} (hw : ev t y = w) (hws : w.cells.toList = ws) (hk : Nat.ble (k + size) s = true) (hs1 : Nat.ble 1 size = true)
 (hsc : (solid w && ws.all one1 && Nat.beq ws.length size) = true) {a : α} (ha : (f (xs.getD n d0)).take k ++ ws ++ (f (xs.getD n d0)).drop (k + ws.length) = f a) (hh : hset h b (.cells (rowC f (xs.set n a)) 0 e es) = h') :
 insE g t h c = some (undef, h', c) := by
 subst hI
 subst ho
 simp only [Bool.and_eq_true] at hsc
 obtain ⟨⟨q1, q2⟩, q3⟩ := hsc
 have q3' := Nat.eq_of_beq_eq_true q3
 have hsz : w.cells.size = size := by rw [← q3', ← hws]; simp
 have hl := rowC_length hf xs
 have hk' : k + size ≤ s := by simpa [Nat.ble_eq] using hk
 have h1 : (n + 1) * s ≤ xs.length * s := Nat.mul_le_mul_right _ hn
 have h2 : (n + 1) * s = n * s + s := by rw [Nat.add_mul, Nat.one_mul]
 have hb : Nat.ble (n * s + k + size) (rowC f xs).length = true := by rw [Nat.ble_eq]; omega
 simp only [insE, eStore, hx, hg, hw]
 have hz : Nat.ble 0 (n * s + k) = true := by rw [Nat.ble_eq]; omega
 rw [hs1, q1, hws, q2, hsz, hb, hz]
 have hbq : Nat.beq size size = true := Nat.beq_refl size
 rw [hbq]
 simp only [Bool.and_self]
 have := rowC_set hf xs n k d0 a ws hn (by omega) ha
 rw [q3'] at this
 rw [this, hh]
def fitsB (n bytes : Nat) : Bool := Nat.ble (n * bytes) 1000000000 && Nat.ble n 1000000000
theorem fetch_row {α : Type} {f : α → List Value} {s : Nat} (hf : Enc f s) {h : Heap} {b : Nat} {ys : List α} {fz : Nat} {e : TypeId} {es : Nat} (hg : hget h b = some (.cells (rowC f ys) fz e es)) (a m len cap : Nat) (hl : len = m) (hc : Nat.ble len cap = true) (hm : a + m ≤ ys.length) {o : Nat} (ho : o = a * s) :
 fetch h s (.slice (some ⟨b, o, none⟩) len cap) = some (m, rowC f ((ys.drop a).take m)) := by
 subst hl
 subst ho
 cases len with
 | zero => simp [fetch, rowC]
 | succ n =>
  simp only [fetch, hg, hc]
  have h1 : (a + (n + 1)) * s ≤ ys.length * s := Nat.mul_le_mul_right _ hm
  have h2 : (a + (n + 1)) * s = a * s + (n + 1) * s := by rw [Nat.add_mul]
  have hb : Nat.ble (a * s + (n + 1) * s) (rowC f ys).length = true := by rw [Nat.ble_eq, rowC_length hf]; omega
  rw [hb, rowC_drop hf, rowC_take hf]
  rfl
theorem e_append {α : Type} {f : α → List Value} {s : Nat} (hf : Enc f s) {g : Ins} {d : Option (List Bool)} {bytes : Nat} {e : TypeId} {x y : Src} {t : Tr} {h h' : Heap} {c : Nat} (hI : g = .ef d (eAppend false s bytes e x y)) {b len cap : Nat} (hx : ev t x = .slice (some ⟨b, 0, none⟩) len cap) {xs : List α}
 (hg : hget h b = some (.cells (rowC f xs) 0 e s)) {m : Nat} {ys : List α} (hy : fetch h s (ev t y) = some (m + 1, rowC f ys)) (hs1 : Nat.ble 1 s = true) (hlen : len = xs.length) (hcap : cap = xs.length) (hft : fitsB (len + (m + 1)) bytes = true) {n' : Nat} (hn' : len + (m + 1) = n')
 (hh : (c, .cells (rowC f (xs ++ ys)) 0 e s) :: hdel h b = h') :
 insE g t h c = some (.slice (some ⟨c, 0, none⟩) n' n', h', c + 1) := by
 subst hI
 subst hlen
 subst hcap
 subst hn'
 simp only [fitsB, Bool.and_eq_true] at hft
 obtain ⟨t1, t2⟩ := hft
 have hl := rowC_length hf xs
 have b1 : Nat.ble xs.length xs.length = true := Nat.ble_self_eq_true xs.length
 have b2 : Nat.ble (0 + xs.length * s) (rowC f xs).length = true := by rw [Nat.ble_eq]; omega
 have b3 : Nat.beq e e = true := Nat.beq_refl e
 have b4 : Nat.ble 0 (xs.length * s) = true := by rw [Nat.ble_eq]; omega
 have b5 : Nat.beq s s = true := Nat.beq_refl s
 simp only [insE, eAppend, hx, hg, hy, b1, b2, b3, t1, t2, rowC_one1 hf ys, hs1, Bool.and_self]
 cases s with
 | zero => cases hs1
 | succ s' =>
  simp only [b4, b5, Bool.and_self]
  have h3 : ((rowC f xs).drop 0).take (xs.length * (s' + 1)) = rowC f xs := by
   rw [List.drop_zero]; exact List.take_of_length_le (by omega)
  have hw : wasH false h b 0 xs.length (s' + 1) c (rowC f xs) 0 e (s' + 1) = hdel h b := rfl
  rw [h3, ← rowC_append, hw, hh]
theorem v_cut {g : Ins} {d : Option (List Bool)} {nt s : Nat} {x : Src} {lo hi mx : Option Operand} {t : Tr} {h : Heap} (hI : g = .rd d (rCutS nt s x lo hi mx)) {b o len cap : Nat} (hx : ev t x = .slice (some ⟨b, o, none⟩) len cap) {cs : List Value} {fz : Nat} {e : TypeId} {es : Nat}
 (hg : hget h b = some (.cells cs fz e es)) (hes : (Nat.beq es 0 || Nat.beq es s) = true) {l u m : Option Int} (hl : bnd nt t lo = some l) (hu : bnd nt t hi = some u) (hm : bnd nt t mx = some m) (hmu : m.isNone = true)
 (hc : cutOK (l.getD 0) (u.getD len) (m.getD cap) cap = true) {o' len' cap' : Nat} (ho : o + (l.getD 0).toNat * s = o') (hl' : (u.getD len).toNat - (l.getD 0).toNat = len') (hc' : (m.getD cap).toNat - (l.getD 0).toNat = cap') :
 insV g t h = some (.slice (some ⟨b, o', none⟩) len' cap') := by
 subst hI
 subst ho
 subst hl'
 subst hc'
 cases m with
 | some m => cases hmu
 | none => simp only [insV, rCutS, hx, hg, hes, hl, hu, hm, hc, Option.isNone_none, Option.isSome_none, Bool.true_or, Bool.false_and]
theorem qops_rd {call : CallQ} {gs : List GI} {t : Tr} {h : Heap} {v : Value} (hv : insV (headI gs t) t h = some v) : qops call (gs.take 1) h t = some (putX (insD (headI gs t)) v t) := by
 cases gs with
 | nil => cases hv
 | cons g gs =>
  cases g with
  | ins i =>
   cases i with
   | rd d f =>
    have hv' : f t h = some v := hv
    show qops call [GI.ins (.rd d f)] h t = _
    simp only [qops, qgi, qins, hv', headI, insD]
   | _ => cases hv
  | g p want d i =>
   simp only [headI] at hv ⊢
   cases hw : wantB (t.get p) want with
   | none => rw [hw] at hv; cases hv
   | some b =>
    rw [hw] at hv
    cases b with
    | false => cases hv
    | true =>
     cases i with
     | rd d f =>
      have hv' : f t h = some v := hv
      show qops call [GI.g p want _ (.rd d f)] h t = _
      simp only [qops, qgi, qins, hv', hw, insD]
     | _ => cases hv
  | bad => cases hv
theorem XU.rd {E : Env} (hE : E.Ok) {nt : Nat} {ops : Array Oper} {j : Nat} (live : List Nat) {σ σ' : St} {h : Heap} {c : Nat} {v : Value} {Q : St → Prop} (hl : live.all (fun i => Nat.blt i nt) = true)
 (hv : insV (headI ((gsOf E nt ops).drop j) (trS nt σ)) (trS nt σ) h = some v) (hσ : readS (putX (insD (headI ((gsOf E nt ops).drop j) (trS nt σ))) v (trS nt σ)) live = σ')
 (hx : XU E nt ops (j + 1) σ' h c Q) : XU E nt ops j σ h c Q := by
 refine XU.step hE (callQ_ok hE (exec_ok hE 0).1) 1 live (σ' := σ') hl ?_ hx
 rw [qops_rd hv, ← hσ]
 rfl
theorem qops_call {call : CallQ} {gs : List GI} {t : Tr} {h : Heap} {K : Nat} {args : List Value} {d : Option (List Bool)} {v : Value} (hc : callee gs t = some (K, args, d)) (hv : call K args = some v) : qops call (gs.take 1) h t = some (putX d v t) := by
 have key : ∀ i, insCallee i t = some (K, args, d) → qins call i t h = some (putX d v t) := by
  intro i hi
  cases i with
  | call d0 f as =>
   simp only [insCallee] at hi
   split at hi
   ·rename_i k xs hev
    cases hi
    simp only [qins, hev, hv]
   ·cases hi
  | _ => cases hi
 cases gs with
 | nil => cases hc
 | cons g gs =>
  cases g with
  | ins i =>
   have := key i hc
   show qops call [GI.ins i] h t = _
   simp only [qops, qgi, this]
  | g p want dd i =>
   simp only [callee] at hc
   split at hc
   ·rename_i hw
    have := key i hc
    show qops call [GI.g p want dd i] h t = _
    simp only [qops, qgi, this, hw]
   ·cases hc
  | bad => cases hc
open Classical in
theorem XU.call {E : Env} (hE : E.Ok) {nt : Nat} {ops : Array Oper} {j : Nat} (live : List Nat) {K : Nat} {F : Func} {args : List Value} {d : Option (List Bool)} {σ σ' : St} {h : Heap} {c : Nat} {v : Value} {Q : St → Prop} (hl : live.all (fun i => Nat.blt i nt) = true)
 (hF : E.fn K = some F) (hc : callee ((gsOf E nt ops).drop j) (trS nt σ) = some (K, args, d)) (hp : args.all plain = true) (hv : plain v = true) (hx : ∀ w, E.inv w → Calls E.P K args.toArray w (fun e w' => e = .returned v ∧ Below w.heap.size w w'))
 (hσ : readS (putX d v (trS nt σ)) live = σ') (hn : XU E nt ops (j + 1) σ' h c Q) : XU E nt ops j σ h c Q := by
 have hq : CallQOk E h c (fun k a => if k = K ∧ a = args then some v else none) := by
  intro k a u hu
  replace hu : (if k = K ∧ a = args then some v else none) = some u := hu
  split at hu
  ·rename_i h1
   cases hu
   obtain ⟨rfl, rfl⟩ := h1
   obtain ⟨f1, f2, f3⟩ := hE.fn k F hF
   refine ⟨hv, fun B ρ w args' hargs hh hc hG hI w' hb => .inr ?_⟩
   have he := hargs.plain_eq hp
   subst he
   exact ⟨run_callFunc_go f1 f2 f3 _ w', hx w' (hE.keepN hG hI hb)⟩
  ·cases hu
 refine XU.step hE hq 1 live (σ' := σ') hl ?_ hn
 rw [qops_call hc (v := v) (by simp), ← hσ]
 rfl
theorem XQ.conv {E : Env} {nt k : Nat} {code : Code} {σ σ' : St} {h h' : Heap} {c c' : Nat} {Q : QP} (hx : XQ E nt k code σ' h' c' Q) (e : (σ, h, c) = (σ', h', c')) : XQ E nt k code σ h c Q := by cases e; exact hx
theorem XR.conv {E : Env} {nt k : Nat} {ops : Array Oper} {j : Nat} {σ σ' : St} {h h' : Heap} {c c' : Nat} {Q : QP} (hx : XR E nt k ops j σ' h' c' Q) (e : (σ, h, c) = (σ', h', c')) : XR E nt k ops j σ h c Q := by cases e; exact hx
theorem XL.conv {E : Env} {nt k n : Nat} {code : Code} {σ σ' : St} {h h' : Heap} {c c' : Nat} {Q : QP} (hx : XL E nt k n code σ' h' c' Q) (e : (σ, h, c) = (σ', h', c')) : XL E nt k n code σ h c Q := by cases e; exact hx
def encI (k : IntKind) (n : Int) : List Value := [.int k n]
def encS (s : ByteArray) : List Value := [.string s]
theorem encI_ok (k : IntKind) : Enc (encI k) 1 := ⟨fun _ => rfl, fun _ => rfl⟩
theorem encS_ok : Enc encS 1 := ⟨fun _ => rfl, fun _ => rfl⟩
def unG0 (c : Nat) (v : Value) : Value :=
 match v with
 | .slice (some ⟨i, o, none⟩) l k => match Nat.beq i c with
  | true => match l, k with
   | 0, 0 => .slice none 0 0
   | _, _ => .chan (some 1)
  | false => .slice (some ⟨i, o, none⟩) l k
 | v => v
def unG (c : Nat) (v : Value) : Value :=
 match v with
 | .func fn f k => .func fn ⟨f.toList.map (unG0 c)⟩ ⟨k.toList.map (unG0 c)⟩
 | .agg cs => .agg ⟨cs.toList.map (unG0 c)⟩
 | .tuple cs => .tuple ⟨cs.toList.map (unG0 c)⟩
 | v => unG0 c v
theorem VRel.unG0 {ρ : Rho} {L : Loc} {c : Nat} (hc : ρ.length = c) (hL : L.gho) {v u : Value} (h : VRel ρ (unG0 c v) u) : VRel (ρ ++ [L]) v u := by
 have hm := Rho.le_push ρ L
 unfold Xm.unG0 at h
 split at h
 ·rename_i i o l k
  split at h
  ·rename_i hb
   have hi := Nat.eq_of_beq_eq_true hb
   split at h
   ·cases h
    exact .sliceN i o L (by rw [hi, ← hc]; simp) hL
   ·cases h
  ·exact h.mono hm
 ·exact h.mono hm
theorem arr_unG {ρ : Rho} {L : Loc} {c : Nat} (hc : ρ.length = c) (hL : L.gho) {f f' : Array Value} (hs : (⟨f.toList.map (unG0 c)⟩ : Array Value).size = f'.size) (h : ∀ (i : Nat) (v v' : Value), (⟨f.toList.map (unG0 c)⟩ : Array Value)[i]? = some v → f'[i]? = some v' → VRel ρ v v') :
 f.size = f'.size ∧ ∀ (i : Nat) (v v' : Value), f[i]? = some v → f'[i]? = some v' → VRel (ρ ++ [L]) v v' := by
 refine ⟨by simpa using hs, fun i v v' h1 h2 => VRel.unG0 hc hL (h i (Xm.unG0 c v) v' ?_ h2)⟩
 simp [h1]
theorem VRel.unG {ρ : Rho} {L : Loc} {c : Nat} (hc : ρ.length = c) (hL : L.gho) {v u : Value} (h : VRel ρ (unG c v) u) : VRel (ρ ++ [L]) v u := by
 cases v with
 | func fn f k =>
  simp only [Xm.unG] at h
  cases h with
  | func _ _ f' _ c' hf hc' h1 h2 =>
   obtain ⟨a1, a2⟩ := arr_unG hc hL hf h1
   obtain ⟨b1, b2⟩ := arr_unG hc hL hc' h2
   exact .func fn f f' k c' a1 b1 a2 b2
 | agg cs =>
  simp only [Xm.unG] at h
  cases h with
  | agg _ c' hc' h1 =>
   obtain ⟨a1, a2⟩ := arr_unG hc hL hc' h1
   exact .agg cs c' a1 a2
 | tuple cs =>
  simp only [Xm.unG] at h
  cases h with
  | tuple _ c' hc' h1 =>
   obtain ⟨a1, a2⟩ := arr_unG hc hL hc' h1
   exact .tuple cs c' a1 a2
 | _ => exact VRel.unG0 hc hL h
def ObjGh (c : Nat) (o' o : XObj) : Prop := o = o' ∨ ∃ cs fz e es, o' = .cells cs fz e es ∧ o = .cells (cs.map (unG c)) fz e es
theorem OOk.gh {ρ : Rho} {w : World} {L M : Loc} {c : Nat} (hc : ρ.length = c) (hL : L.gho) {o o' : XObj} (h : OOk ρ w M o) (hr : ObjGh c o' o) : OOk (ρ ++ [L]) w M o' := by
 rcases hr with rfl | ⟨cs, fz, e, es, rfl, rfl⟩
 ·exact h.mono (Rho.le_push ρ L)
 ·obtain ⟨h0, hg | ⟨C, fr, h1, h2, h3, h4, h5⟩⟩ := h
  ·exact ⟨h0, .inl ⟨hg.1, by simpa using hg.2⟩⟩
  refine ⟨h0, .inr ⟨C, fr, h1, h2, by simpa using h3, fun i v hi => ?_, by simpa using h5⟩⟩
  obtain ⟨v', a, b⟩ := h4 i (Xm.unG c v) (by simp [hi])
  exact ⟨v', a, b.unG hc hL⟩
theorem OOk.ghOwn {ρ : Rho} {w : World} {L M : Loc} {c : Nat} {o o' : XObj} (h : OOk ρ w M o) (hr : ObjGh c o' o) (ho : own (ρ ++ [L]) M o') : own ρ M o := by
 rcases hr with rfl | ⟨cs, fz, e, es, rfl, rfl⟩
 ·exact own_down (Rho.le_push ρ L) h ho
 ·trivial
theorem ObjGh.frz {c : Nat} {o o' : XObj} (h : ObjGh c o' o) : Xm.frz o' = Xm.frz o := by
 rcases h with rfl | ⟨cs, fz, e, es, rfl, rfl⟩
 ·rfl
 ·simp only [Xm.frz, List.length_map]
def GhH (c : Nat) (h : Heap) : Heap → Prop
 | [] => True
 | (i, o') :: l => (∃ o, hget h i = some o ∧ ObjGh c o' o) ∧ GhH c h l
theorem GhH.get {c : Nat} {h : Heap} : ∀ {h' : Heap}, GhH c h h' → ∀ {i : Nat} {o' : XObj}, hget h' i = some o' → ∃ o, hget h i = some o ∧ ObjGh c o' o
 | [], _, i, o', hi => by cases hi
 | (i0, o0) :: l, hr, i, o', hi => by
  rw [hget_cons] at hi
  split at hi
  ·rename_i e
   cases hi
   have e : i0 = i := e
   subst e
   exact hr.1
  ·exact GhH.get hr.2 hi
def SubG (c : Nat) (σ : St) : St → Prop
 | [] => True
 | (i, v) :: l => lookS σ i = some (unG c v) ∧ SubG c σ l
theorem SubG.mem {c : Nat} {σ : St} : ∀ {σ' : St}, SubG c σ σ' → ∀ {i : Nat} {v : Value}, (i, v) ∈ σ' → (i, unG c v) ∈ σ
 | [], _, _, _, hm => by cases hm
 | (_, _) :: _, hs, _, _, hm => by
  rcases List.mem_cons.1 hm with e | e
  ·cases e; exact lookS_mem hs.1
  ·exact SubG.mem hs.2 e
theorem HRel.gh {B : Bd} {ρ : Rho} {h h' : Heap} {w : World} {c : Nat} (H : HRel B ρ h w) (hc : ρ.length = c) (e : TypeId) (es : Nat) (hes : es ≠ 0) (hh : GhH c h h') : HRel B (ρ ++ [⟨B.n, 0, 0, es⟩]) ((c, .cells [] 0 e es) :: h') w := by
 have hnew : (ρ ++ [(⟨B.n, 0, 0, es⟩ : Loc)])[c]? = some ⟨B.n, 0, 0, es⟩ := by rw [← hc]; simp
 have key : ∀ i o L, hget ((c, XObj.cells [] 0 e es) :: h') i = some o → (ρ ++ [(⟨B.n, 0, 0, es⟩ : Loc)])[i]? = some L → ¬ L.gho → own (ρ ++ [(⟨B.n, 0, 0, es⟩ : Loc)]) L o → ∃ o1, hget h i = some o1 ∧ ρ[i]? = some L ∧ own ρ L o1 ∧ (frz o = false → frz o1 = false) := by
  intro i o L hi hL hn ho
  rw [hget_cons] at hi
  by_cases ei : c = i
  ·subst ei
   rw [hnew] at hL
   cases hL
   exact absurd ⟨hes, rfl⟩ hn
  ·rw [if_neg ei] at hi
   obtain ⟨o1, q1, q2⟩ := hh.get hi
   obtain ⟨M, p1, _, p3⟩ := H.ok i o1 q1
   have := Rho.le_push ρ ⟨B.n, 0, 0, es⟩ i M p1
   rw [hL] at this
   cases this
   exact ⟨o1, q1, p1, p3.ghOwn q2 ho, fun q => by rw [← q2.frz]; exact q⟩
 refine ⟨fun i o hi => ?_, fun i j o o' L L' hi hj hL hL' n1 n2 s1 s2 hz hb => ?_,
  H.extTurn id (fun i p hi => ⟨?_, fun L hL => Rho.le_push ρ _ _ L hL⟩) (fun i j p q _ _ e => e) (fun j o L hj hL g ow => .inl (let ⟨o1, a1, a2, a3, _⟩ := key j o L hj hL g ow; ⟨j, o1, L, a1, a2, rfl, g, a3⟩)) (fun x _ => .inl rfl)⟩
 rotate_left 2
 ·rw [hget_cons] at hi
  by_cases ei : c = i
  ·rw [if_pos ei] at hi; cases hi
  ·rw [if_neg ei] at hi
   obtain ⟨o1, q1, q2⟩ := hh.get hi
   rcases q2 with rfl | ⟨cs, fz, e, es, q, _⟩
   ·exact q1
   ·cases q
 ·rw [hget_cons] at hi
  by_cases ei : c = i
  ·rw [if_pos ei] at hi
   cases hi
   subst ei
   exact ⟨_, hnew, fun _ _ => .inl (Nat.le_refl _), rfl, .inl ⟨⟨hes, rfl⟩, rfl⟩⟩
  ·rw [if_neg ei] at hi
   obtain ⟨o1, q1, q2⟩ := hh.get hi
   obtain ⟨L, p1, p2, p3⟩ := H.ok i o1 q1
   exact ⟨L, Rho.le_push ρ _ i L p1, fun q => p2 (by rw [← q2.frz]; exact q), p3.gh hc ⟨hes, rfl⟩ q2⟩
 ·obtain ⟨u, a1, a2, a3, a4⟩ := key i o L hi hL n1 s1
  obtain ⟨u', b1, b2, b3, b4⟩ := key j o' L' hj hL' n2 s2
  exact H.inj i j u u' L L' a1 b1 a2 b2 n1 n2 a3 b3 (hz.imp a4 b4) hb
theorem XQ.ghost {E : Env} {nt k : Nat} {code : Code} (e : TypeId) (es : Nat) (hes : Nat.ble 1 es = true) {σ σ' : St} {h h' : Heap} {c : Nat} {Q : QP} (hσ : SubG c σ σ') (hh : GhH c h h') (hx : XQ E nt k code σ' ((c, .cells [] 0 e es) :: h') (c + 1) Q) : XQ E nt k code σ h c Q := by
 intro B ρ a w h1 h2 h3 h4 h5 h6 h7
 have hes' : es ≠ 0 := by have : 1 ≤ es := by simpa [Nat.ble_eq] using hes
                          omega
 have hK : Keeps k ρ (ρ ++ [(⟨B.n, 0, 0, es⟩ : Loc)]) := Keeps.of_le h7 (Rho.le_push _ _)
 refine wp_mono (hx B (ρ ++ [⟨B.n, 0, 0, es⟩]) a w ⟨h1.1, h1.2.1, fun i v hm => ?_⟩ (h2.gh h3 e es hes' hh) (by simp [h3]) h4 h5 h6 hK.le) (fun e a' w' hA => hA.trans hK (Bel.refl B w))
 have := h1.2.2 i _ (hσ.mem hm)
 exact ⟨this.1, this.2.unG h3 ⟨hes', rfl⟩⟩
def imC {α : Type} (g : α → Value) (l : List (Int × α)) : List (List Int × Value) := l.map fun p => ([p.1], g p.2)
def getM {α : Type} (d : α) : List (Int × α) → Int → α
 | [], _ => d
 | p :: t, k => if p.1 = k then p.2 else getM d t k
def putM {α : Type} : List (Int × α) → Int → α → List (Int × α)
 | [], k, v => [(k, v)]
 | p :: t, k, v => if p.1 = k then (k, v) :: t else p :: putM t k v
theorem one_key {a b : Int} : ([a] = [b]) ↔ a = b := by simp
theorem mfind_imC {α : Type} (g : α → Value) (d : α) (l : List (Int × α)) (k : Int) : (mfind (imC g l) [k]).getD (g d) = g (getM d l k) := by
 induction l with
 | nil => rfl
 | cons p l ih =>
  show (if [p.1] = [k] then some (g p.2) else mfind (imC g l) [k]).getD (g d) = g (if p.1 = k then p.2 else getM d l k)
  by_cases e : p.1 = k
  ·rw [if_pos (one_key.2 e), if_pos e]; rfl
  ·rw [if_neg (fun q => e (one_key.1 q)), if_neg e]; exact ih
theorem mput_imC {α : Type} (g : α → Value) (l : List (Int × α)) (k : Int) (v : α) : mput (imC g l) [k] (g v) = imC g (putM l k v) := by
 induction l with
 | nil => rfl
 | cons p l ih =>
  show (if [p.1] = [k] then ([k], g v) :: imC g l else ([p.1], g p.2) :: mput (imC g l) [k] (g v)) = imC g (if p.1 = k then (k, v) :: l else p :: putM l k v)
  by_cases e : p.1 = k
  ·rw [if_pos (one_key.2 e), if_pos e]; rfl
  ·rw [if_neg (fun q => e (one_key.1 q)), if_neg e, ih]; rfl
theorem lens_imC {α : Type} (g : α → Value) (l : List (Int × α)) : lens 1 (imC g l) = true := by
 unfold lens imC
 rw [List.all_map]
 exact List.all_eq_true.2 (fun _ _ => rfl)
theorem v_mget {α : Type} (g : α → Value) {J : Ins} {d : Option (List Bool)} {x i : Src} {z : Value} {t : Tr} {h : Heap} (hI : J = .rd d (rLookup 1 x i z false)) {b : Nat} {k : Int} (hx : ev t x = .map (some b)) (hi : ev t i = .int .i64 k) {l : List (Int × α)}
 (hg : hget h b = some (.imap (imC g l))) {d0 : α} (hz : z = g d0) (hs : pl1 z = true) {v : Value} (hv : g (getM d0 l k) = v) : insV J t h = some v := by
 subst hI
 have e1 : fitK 1 [k] = true := rfl
 simp only [insV, rLookup, hx, hg, hi, hs, keyL, e1, lens_imC, Bool.and_self]
 rw [hz, mfind_imC, hv]
theorem e_mput {α : Type} (g : α → Value) {J : Ins} {d : Option (List Bool)} {m i x : Src} {t : Tr} {h h' : Heap} {c : Nat} (hI : J = .ef d (eMapUpdate 1 m i x)) {b : Nat} {k : Int} (hx : ev t m = .map (some b)) (hi : ev t i = .int .i64 k) {l : List (Int × α)}
 (hg : hget h b = some (.imap (imC g l))) {a : α} (hv : ev t x = g a) (hs : pl1 (g a) = true) (hh : hset h b (.imap (imC g (putM l k a))) = h') : insE J t h c = some (undef, h', c) := by
 subst hI
 have e1 : fitK 1 [k] = true := rfl
 simp only [insE, eMapUpdate, hx, hg, hi, hv, hs, keyL, e1, lens_imC, Bool.and_self]
 rw [mput_imC, hh]
abbrev w64 (x : Int) : Int := IntKind.wrap .i64 x
abbrev bs (l : List UInt8) : ByteArray := ⟨⟨l⟩⟩
abbrev catS (a b : ByteArray) : ByteArray := ⟨⟨a.data.toList ++ b.data.toList⟩⟩
def andV (k : IntKind) (x y : Int) : Int := k.wrap (BitVec.ofInt k.bits x &&& BitVec.ofInt k.bits y).toNat
def orV (k : IntKind) (x y : Int) : Int := k.wrap (BitVec.ofInt k.bits x ||| BitVec.ofInt k.bits y).toNat
def xorV (k : IntKind) (x y : Int) : Int := k.wrap (BitVec.ofInt k.bits x ^^^ BitVec.ofInt k.bits y).toNat
def iMin (x y : Int) : Int := if y < x then y else x
def iMax (x y : Int) : Int := if y > x then y else x
theorem cT {α : Type} {c : Bool} {a b : Option α} {o : α} (hc : c = true) (h : cond c a b = some o) : a = some o := by rw [hc] at h; exact h
theorem cF {α : Type} {c : Bool} {a b : Option α} {o : α} (hc : c = false) (h : cond c a b = some o) : b = some o := by rw [hc] at h; exact h
theorem bS {α β : Type} {x : Option α} {f : α → Option β} {o : β} (h : x.bind f = some o) : ∃ a, x = some a ∧ f a = some o := by
 cases x with
 | none => cases h
 | some a => exact ⟨a, rfl, h⟩
theorem row_len {n m : Nat} {α : Type} {xs : List α} (h : decide (n < m) = true) (e : m = xs.length) : n < xs.length := by
 have := of_decide_eq_true h; omega
theorem inRow_toNat {i : Int} {n : Nat} (h : inRow i n = true) : decide (i.toNat < n) = true := by
 obtain ⟨h1, h2⟩ := inRow_iff.1 h
 exact decide_eq_true (by omega)
theorem XR.callK {E : Env} (hE : E.Ok) {nt k : Nat} {ops : Array Oper} {j : Nat} (live : List Nat) {K : Nat} {args : List Value} {d : Option (List Bool)} {σ : St} {h : Heap} {c : Nat} {Q : QP} (hl : live.all (fun i => Nat.blt i nt) = true)
 (hc : callee ((gsOf E nt ops).drop j) (trS nt σ) = some (K, args, d)) (hx : KC E K args h c (fun v h' c' => XR E nt k ops (j + 1) (readS (putX d v (trS nt σ)) live) h' c' Q)) : XR E nt k ops j σ h c Q :=
 XR.call hE live hl hc hx (fun _ _ _ q => q)
theorem KC.bodyN {E : Env} (hE : E.Ok) {K : Nat} {F : Func} (hF : E.fn K = some F) {code : Code} (hb : F.body = some code) {args : List Value} {nt : Nat} (hnt : F.ntmps = nt) {rs : List ResultVar} (hrs : F.results.toList = rs) (hn : (Nat.ble args.length nt && Nat.ble nt 4000) = true) {σ : St} (hσ : argS args 0 = σ)
 {h : Heap} {c : Nat} {R : Value → Heap → Nat → Prop}
 (hx : XQ E nt c code σ h c (fun e σ h' c' => (∀ i, e ≠ .exit i) ∧ ∃ v, resOf E nt (trS nt σ) h' rs = some v ∧ R v h' c')) : KC E K args h c R := by
 subst hnt; subst hrs; subst hσ
 exact KC.body hE hF hb hn hx
def SubI (σ : St) : St → Prop
 | [] => True
 | (i, v) :: l => lookS σ i = some v ∧ SubI σ l
theorem SubI.mem {σ : St} : ∀ {σ' : St}, SubI σ σ' → ∀ i v, (i, v) ∈ σ' → (i, v) ∈ σ
 | [], _, _, _, hm => by cases hm
 | (_, _) :: _, hs, _, _, hm => by
  rcases List.mem_cons.1 hm with e | e
  ·cases e; exact lookS_mem hs.1
  ·exact SubI.mem hs.2 _ _ e
theorem XQ.drop {E : Env} {nt k : Nat} {code : Code} {σ σ' : St} {h : Heap} {c : Nat} {Q : QP} (hs : SubI σ σ') (hx : XQ E nt k code σ' h c Q) : XQ E nt k code σ h c Q := XQ.weak hs.mem (fun _ _ q => q) hx
theorem XQ.sub {E : Env} {nt k : Nat} {code : Code} {σ : St} {h : Heap} {c : Nat} {Q Q' : QP} (hq : ∀ e σ h c, Q e σ h c → ∃ σ', (∀ i v, (i, v) ∈ σ' → (i, v) ∈ σ) ∧ Q' e σ' h c) (hx : XQ E nt k code σ h c Q) : XQ E nt k code σ h c Q' := by
 intro B ρ a w h1 h2 h3 h4 h5 h6 h7
 refine wp_mono (hx B ρ a w h1 h2 h3 h4 h5 h6 h7) ?_
 rintro e a' w' ⟨e, σ, h, c, ρ', q1, q2, q3, q4, q5, q6, q7, q8⟩
 obtain ⟨σ', s1, s2⟩ := hq _ _ _ _ q8
 exact ⟨e, σ', h, c, ρ', q1, q2, ⟨q3.1, q3.2.1, fun i v hm => q3.2.2 i v (s1 i v hm)⟩, q4, q5, q6, q7, s2⟩
theorem XQ.meetC {E : Env} {nt k : Nat} {code : Code} {σ σ' : St} {h h' : Heap} {c c' : Nat} {Q : QP} (hq : Q .normal σ' h' c') (hx : XQ E nt k code σ h c (fun e σ1 h1 c1 => e = .normal ∧ SubI σ1 σ' ∧ (h1, c1) = (h', c'))) : XQ E nt k code σ h c Q := by
 refine XQ.sub ?_ hx
 rintro e σ1 h1 c1 ⟨rfl, hs, hq2⟩
 cases hq2
 exact ⟨σ', hs.mem, hq⟩
theorem XS.rd {E : Env} (hE : E.Ok) {nt k : Nat} {ops : Array Oper} {m j : Nat} (hi : Nat.ble (j + 1) m = true) (live : List Nat) {σ σ' : St} {h : Heap} {c : Nat} {v : Value} {Q : QP} (hl : live.all (fun i => Nat.blt i nt) = true)
 (hv : insV (headI ((gsOf E nt ops).drop j) (trS nt σ)) (trS nt σ) h = some v) (hσ : readS (putX (insD (headI ((gsOf E nt ops).drop j) (trS nt σ))) v (trS nt σ)) live = σ')
 (hx : XS E nt k ops m (j + 1) σ' h c Q) : XS E nt k ops m j σ h c Q := by
 refine XS.step hE 1 hi live (σ' := σ') hl ?_ hx
 rw [qops_rd hv, ← hσ]
 rfl
def bytesB (xs : List Int) : Bool := xs.all (fun n => decide (0 ≤ n) && decide (n < 256))
def strI (xs : List Int) : ByteArray := ⟨(xs.map fun n => n.toNat.toUInt8).toArray⟩
theorem bytesOf_row : ∀ (xs : List Int), bytesB xs = true → bytesOf (rowC (encI .u8) xs) = some (xs.map fun n => n.toNat.toUInt8)
 | [], _ => rfl
 | n :: xs, h => by
  simp only [bytesB, List.all_cons, Bool.and_eq_true, decide_eq_true_eq] at h
  obtain ⟨⟨h0, h1⟩, h2⟩ := h
  obtain ⟨m, rfl⟩ : ∃ m : Nat, n = m := ⟨n.toNat, by omega⟩
  have ih := bytesOf_row xs h2
  have e : rowC (encI .u8) ((m : Int) :: xs) = .int .u8 (.ofNat m) :: rowC (encI .u8) xs := rfl
  have hb : Nat.blt m 256 = true := by simp only [Nat.blt_eq]; omega
  rw [e]
  simp only [bytesOf, hb, ih]
  rfl
theorem v_sdata {g : Ins} {d : Option (List Bool)} {x : Src} {t : Tr} {h : Heap} (hI : g = .rd d (rSliceData x)) {b o len cap : Nat} (hx : ev t x = .slice (some ⟨b, o, none⟩) len cap) (hc : decide (0 < cap) = true) : insV g t h = some (.pointer (some ⟨b, o, none⟩)) := by
 subst hI
 have hc := of_decide_eq_true hc
 cases cap with
 | zero => omega
 | succ n => simp only [insV, rSliceData, hx]
noncomputable def eUStr (e : TypeId) (x y : Src) : EF := fun tm h c => match eUnsafeString x y tm h c with
 | some r => match ev tm x with
  | .pointer (some a) => match hget h a.block with
   | some (.cells _ _ e' _) => match Nat.beq e' e with
    | true => some r
    | false => none
   | _ => none
  | _ => some r
 | none => none
theorem e_ustr {g : Ins} {d : Option (List Bool)} {e : TypeId} {x y : Src} {t : Tr} {h h' : Heap} {c : Nat} (hI : g = .ef d (eUStr e x y)) {b n : Nat} (hx : ev t x = .pointer (some ⟨b, 0, none⟩)) (hy : ev t y = .int .i64 (Int.ofNat n)) {xs : List Int} {es : Nat}
 (hg : hget h b = some (.cells (rowC (encI .u8) xs) 0 e es)) (hn : n = xs.length) (h0 : decide (0 < n) = true) (h1 : decide (n ≤ 1000000000) = true) (hb : bytesB xs = true) (hh : hset h b (.cells (rowC (encI .u8) xs) (Nat.max 0 (0 + n)) e es) = h') :
 insE g t h c = some (.string (strI xs), h', c) := by
 subst hI
 subst hn
 have h0 := of_decide_eq_true h0
 have h1 := of_decide_eq_true h1
 obtain ⟨m, hm⟩ : ∃ m, xs.length = m + 1 := ⟨xs.length - 1, by omega⟩
 have hl := rowC_length (encI_ok .u8) xs
 have q1 : Nat.ble (0 + (m + 1)) (rowC (encI .u8) xs).length = true := by rw [Nat.ble_eq]; omega
 have q2 : Nat.ble m 1000000000 = true := by rw [Nat.ble_eq]; omega
 have q3 : (List.drop 0 (rowC (encI .u8) xs)).take (m + 1) = rowC (encI .u8) xs := by
  rw [List.drop_zero]; exact List.take_of_length_le (by omega)
 have q4 : Nat.beq e e = true := Nat.beq_refl e
 have q5 : Nat.ble 0 (rowC (encI .u8) xs).length = true := by rw [Nat.ble_eq]; omega
 rw [hm] at hy hh
 simp only [insE, eUStr, eUnsafeString, hx, hy, hg, q1, q2, q3, q4, q5, bytesOf_row xs hb, Bool.and_self, hh]
 rfl
theorem Rho.le_append (ρ ρ' : Rho) : Rho.le ρ (ρ ++ ρ') := fun i L h => by
 rw [List.getElem?_append_left (List.getElem?_eq_some_iff.1 h).1]; exact h
theorem KC.lift {E : Env} {K n c : Nat} {args : List Value} {V V2 : Value} {H H2 h : Heap} (s : List Nat) (hx : KC E K args [] 0 (fun v h' c' => v = V ∧ h' = H ∧ c' = n)) (hp : args.all plain = true)
 (hs : s = (List.range c).map (fun i => n + i) ++ List.range n) (hn : s.Nodup) (hv : renV s V2 = V) (hh : RenH s H H2) (hfr : noFrz H2 = true) : KC E K args h c (fun v h' c' => v = V2 ∧ h' = H2 ++ h ∧ c' = c + n) := by
 intro B ρ w args' hargs hH hρ hB hG hI
 have he := hargs.plain_eq hp
 subst he
 obtain ⟨q1, q2⟩ := hx w.heap.size [] w args' (Cells.plain_refl [] hp) (HRel.nil _ _ _) rfl (Nat.le_refl _) (Bd.ge_at (Nat.le_trans hG.1 hB)) hI
 refine ⟨q1, q2.mono ?_⟩
 rintro e w' ⟨v, v', ρ', h', c', rfl, e2, e3, e4, e5, e6, rfl, rfl, rfl⟩
 have hR : renR s (ρ' ++ ρ) = ρ ++ ρ' := by
  rw [hs]
  unfold renR
  rw [List.map_append, List.map_map]
  congr 1
  ·apply List.ext_getElem?
   intro i
   by_cases hi : i < c
   ·have h1 : i < ρ.length := by omega
    simp only [List.getElem?_map, List.getElem?_range hi, Option.map_some, Function.comp]
    rw [List.getD_eq_getElem?_getD, List.getElem?_append_right (by omega)]
    have h2 : c' + i - ρ'.length = i := by omega
    rw [h2, List.getElem?_eq_getElem h1]
    rfl
   ·rw [List.getElem?_eq_none (by simp; omega), List.getElem?_eq_none (by omega)]
  ·apply List.ext_getElem?
   intro i
   by_cases hi : i < c'
   ·have h1 : i < ρ'.length := by omega
    simp only [List.getElem?_map, List.getElem?_range hi, Option.map_some]
    rw [List.getD_eq_getElem?_getD, List.getElem?_append_left h1, List.getElem?_eq_getElem h1]
    rfl
   ·rw [List.getElem?_eq_none (by simp; omega), List.getElem?_eq_none (by omega)]
 have hle : Rho.le ρ' (ρ' ++ ρ) := Rho.le_append ρ' ρ
 have v1 : VRel (renR s (ρ' ++ ρ)) V2 v' := VRel.renV (by rw [hv]; exact e2.mono hle)
 have H1 : HRel w.heap.size (renR s (ρ' ++ ρ)) H2 w' := (e5.keep hle (fun _ _ => rfl)).ren hn hh
 rw [hR] at v1 H1
 exact ⟨V2, v', ρ ++ ρ', H2 ++ h, c + c', rfl, v1, Rho.le_append ρ ρ', by rw [List.length_append, hρ, e4], hH.union (Rho.le_append ρ ρ') H1 (noFrz_ok _ hfr) hB e6.below, Bel.of e6.below hB, rfl, rfl, rfl⟩
def KQ (E : Env) (K : Nat) (args : List Value) (h : Heap) (V : Value) : Prop :=
 ∀ (B : Bd) (ρ : Rho) (w : World) (args' : List Value), Cells ρ args args' → HRel B ρ h w → E.G ≤ w.heap.size → E.inv w → ∀ w', Below w.heap.size w w' →
  (callFunc K args'.toArray).run E.P w' = .ok (.enter K args'.toArray) w' ∧ Calls E.P K args'.toArray w' (fun e w'' => e = .returned V ∧ Below w'.heap.size w' w'')
theorem KC.quiet {E : Env} (hE : E.Ok) {K n : Nat} {args args0 : List Value} {V : Value} {h h0 : Heap} (s : List Nat) (hx : KC E K args0 h0 n (fun v _ _ => v = V)) (hV : plain V = true) (ha : args0.map (renV s) = args) (hn : s.Nodup) (hlen : s.length = n)
 (hk : keysOk h = true) (hh : RenH s (frzH h) h0) : KQ E K args h V := by
 intro B ρ w args' hargs hH hG hI w' hb
 have H1 := ((hH.keepB hb).frozen hk w'.heap.size).ren hn hh
 have hc : Cells (renR s ρ) args0 args' := by
  subst ha
  refine ⟨by simpa using hargs.1, fun i v v' e1 e2 => ?_⟩
  exact (hargs.2 i (renV s v) v' (by simp [e1]) e2).renV
 obtain ⟨q1, q2⟩ := hx w'.heap.size (renR s ρ) w' args' hc H1 (by simpa [renR] using hlen) (Nat.le_refl _) (Bd.ge_at (Nat.le_trans hG hb.size)) (hE.keepN hG hI hb)
 refine ⟨q1, q2.mono ?_⟩
 rintro e w2 ⟨v, v', ρ', h', c', rfl, e2, e3, e4, e5, e6, rfl⟩
 exact ⟨by rw [e2.plain_eq hV], e6.below⟩
theorem KC.liftH {E : Env} {K n0 m c : Nat} {args args0 : List Value} {V V2 : Value} {h h0 H H2 : Heap} (s0 s : List Nat) (hx : KC E K args0 h0 n0 (fun v h' c' => v = V ∧ h' = H ++ h0 ∧ c' = n0 + m)) (ha : args0.map (renV s0) = args) (hn0 : s0.Nodup) (hlen : s0.length = n0)
 (hk : keysOk h = true) (hh0 : RenH s0 (frzH h) h0) (hs : s = (List.range c).map (fun i => n0 + m + i) ++ (List.range m).map (fun i => n0 + i)) (hn : s.Nodup) (hv : renV s V2 = V) (hh : RenH s H H2) (hfr : noFrz H2 = true) :
 KC E K args h c (fun v h' c' => v = V2 ∧ h' = H2 ++ h ∧ c' = c + m) := by
 intro B ρ w args' hargs hH hρ hB hG hI
 have H1 := (hH.frozen hk w.heap.size).ren hn0 hh0
 have hc : Cells (renR s0 ρ) args0 args' := by
  subst ha
  refine ⟨by simpa using hargs.1, fun i v v' e1 e2 => ?_⟩
  exact (hargs.2 i (renV s0 v) v' (by simp [e1]) e2).renV
 obtain ⟨q1, q2⟩ := hx w.heap.size (renR s0 ρ) w args' hc H1 (by simpa [renR] using hlen) (Nat.le_refl _) (Bd.ge_at (Nat.le_trans hG.1 hB)) hI
 refine ⟨q1, q2.mono ?_⟩
 rintro e w' ⟨v, v', ρ', h', c', rfl, e2, e3, e4, e5, e6, rfl, rfl, rfl⟩
 have hR : renR s (ρ' ++ ρ) = ρ ++ ρ'.drop n0 := by
  rw [hs]
  unfold renR
  rw [List.map_append, List.map_map]
  congr 1
  ·apply List.ext_getElem?
   intro i
   by_cases hi : i < c
   ·have h1 : i < ρ.length := by omega
    simp only [List.getElem?_map, List.getElem?_range hi, Option.map_some, Function.comp]
    rw [List.getD_eq_getElem?_getD, List.getElem?_append_right (by omega)]
    have h2 : n0 + m + i - ρ'.length = i := by omega
    rw [h2, List.getElem?_eq_getElem h1]
    rfl
   ·rw [List.getElem?_eq_none (by simp; omega), List.getElem?_eq_none (by omega)]
  ·rw [List.map_map]
   apply List.ext_getElem?
   intro i
   by_cases hi : i < m
   ·have h1 : n0 + i < ρ'.length := by omega
    simp only [List.getElem?_map, List.getElem?_range hi, Option.map_some, Function.comp]
    rw [List.getD_eq_getElem?_getD, List.getElem?_append_left h1, List.getElem?_drop, List.getElem?_eq_getElem h1]
    rfl
   ·rw [List.getElem?_eq_none (by simp; omega), List.getElem?_eq_none (by rw [List.length_drop]; omega)]
 have hle : Rho.le ρ' (ρ' ++ ρ) := Rho.le_append ρ' ρ
 have v1 : VRel (renR s (ρ' ++ ρ)) V2 v' := VRel.renV (by rw [hv]; exact e2.mono hle)
 have e5' : HRel w.heap.size ρ' H w' := e5.sub (fun i o q => by rw [hget_append, q]; rfl)
 have H3 : HRel w.heap.size (renR s (ρ' ++ ρ)) H2 w' := (e5'.keep hle (fun _ _ => rfl)).ren hn hh
 rw [hR] at v1 H3
 exact ⟨V2, v', ρ ++ ρ'.drop n0, H2 ++ h, c + m, rfl, v1, Rho.le_append ρ _, by rw [List.length_append, List.length_drop, hρ, e4]; omega, hH.union (Rho.le_append ρ _) H3 (noFrz_ok _ hfr) hB e6.below, Bel.of e6.below hB, rfl, rfl, rfl⟩
theorem KQ.call {E : Env} {K c : Nat} {args : List Value} {V : Value} {h : Heap} (hx : KQ E K args h V) (hV : plain V = true) : KC E K args h c (fun v h' c' => v = V ∧ h' = h ∧ c' = c) := by
 intro B ρ w args' hargs hH hρ hB hG hI
 obtain ⟨q1, q2⟩ := hx B ρ w args' hargs hH (Nat.le_trans hG.1 hB) hI w (Below.refl _ _)
 refine ⟨q1, q2.mono ?_⟩
 rintro e w2 ⟨rfl, hb⟩
 exact ⟨V, V, ρ, h, c, rfl, VRel.plain_refl ρ hV, Rho.le_refl ρ, hρ, hH.keepB hb, Bel.of hb hB, rfl, rfl, rfl⟩
theorem XU.callH {E : Env} (hE : E.Ok) {nt : Nat} {ops : Array Oper} {j : Nat} (live : List Nat) {K : Nat} {args : List Value} {d : Option (List Bool)} {σ σ' : St} {h : Heap} {c : Nat} {V : Value} {Q : St → Prop} (hl : live.all (fun i => Nat.blt i nt) = true)
 (hc : callee ((gsOf E nt ops).drop j) (trS nt σ) = some (K, args, d)) (hV : plain V = true) (hx : KQ E K args h V) (hσ : readS (putX d V (trS nt σ)) live = σ') (hn : XU E nt ops (j + 1) σ' h c Q) : XU E nt ops j σ h c Q := by
 intro ρ a w B h1 h2 h3 h4 h5 ds h6
 cases hgs : (gsOf E nt ops).drop j with
 | nil => rw [hgs] at hc; cases hc
 | cons g gs =>
  have hg : (gsOf E nt ops)[j]? = some g := by
   have h0 : ((gsOf E nt ops).drop j)[0]? = some g := by rw [hgs]; rfl
   rw [List.getElem?_drop, Nat.add_zero] at h0
   exact h0
  have hlen : (gsOf E nt ops).length = ops.toList.length := by simp [gsOf]
  have hj : j < ops.toList.length := by rw [← hlen]; exact (List.getElem?_eq_some_iff.1 hg).1
  have ho : ops.toList[j]? = some ops.toList[j] := List.getElem?_eq_getElem hj
  have hok : GIOk E nt ops.toList ops.toList[j] g := map_get hE nt ops.toList j _ g ho hg
  have hdrop : ops.toList.drop j = ops.toList[j] :: ops.toList.drop (j + 1) := by
   rw [List.drop_eq_getElem_cons hj]
  rw [hdrop]
  have harr : ops.toList.toArray = ops := by simp
  refine wpQuiet_step (fun K0 hK0 => ?_)
  have after : ∀ a', a'.defers = a.defers → TRel ρ nt (putX d V (trS nt σ)) a' → K0 a' := by
   intro a' d1 t1
   exact hK0 _ (hn ρ a' w B (by rw [← hσ]; exact SRel.of_tr t1 hl) h2 h3 h4 h5 ds (d1.trans h6))
  have key : ∀ i, InsOk E nt ops.toList[j] i → insCallee i (trS nt σ) = some (K, args, d) → ops.toList[j].quiet E.P a (fun w' => Below w.heap.size w w') K0 := by
   intro i hi hic
   cases i with
   | call d0 f as =>
    obtain ⟨hd, hcs⟩ := hi
    simp only [insCallee] at hic
    split at hic
    ·rename_i k xs hev
     cases hic
     obtain ⟨xs', hargs, hex⟩ := hcs ρ (trS nt σ) a h1.tr _ _ hev
     refine ⟨V, fun w' hw' => ?_, after _ (put_defers _ _ _) (putX_ok h1.tr hd (VRel.plain_refl ρ hV))⟩
     obtain ⟨q1, q2⟩ := hx B ρ w _ hargs h2 h4 h5 w' hw'
     unfold Oper.quietAt
     rw [hex, q1]
     exact ⟨rfl, q2.mono fun e w'' ⟨he, hb⟩ => ⟨he, hw'.trans (hb.mono hw'.size)⟩⟩
    ·cases hic
   | _ => cases hic
  rw [hgs] at hc
  cases g with
  | ins i =>
   obtain ⟨hgd, hi⟩ := hok
   rw [if_pos (by simp only [Region.wanted]; rw [hgd])]
   exact key i hi hc
  | g p want d1 i =>
   obtain ⟨j1, dj, q1, q2, q3, q4, q5, q6⟩ := hok
   subst q4
   simp only [callee] at hc
   cases hw : wantB ((trS nt σ).get (path 12 dj)) want with
   | none => rw [hw] at hc; cases hc
   | some r =>
    rw [hw] at hc
    have hwd := wanted_of h1.tr q1 q2 q3 hw
    rw [harr] at hwd
    cases r with
    | true =>
     rw [if_pos hwd]
     exact key i q6 hc
    | false => cases hc
  | bad => cases hc
noncomputable def reOps (ops : Array Oper) (is : List Nat) : Array Oper := (opsAt ops.toList is).toArray
def freeOf (l : List Oper) : Bool := l.all fun o => o.guard.isNone
theorem free_wanted {o : Oper} (h : o.guard.isNone = true) (y : Nat → Option Bool) : Region.wanted o y = true := by
 have : o.guard = none := by simpa using h
 simp [Region.wanted, this]
theorem wpStill_other {P : Program} {ops ops' : Array Oper} {w : World} {Q Q' : Act → Prop} (hQ : ∀ a, Q a → Q' a) : ∀ (l : List Oper), freeOf l = true → ∀ a, wpStill P ops w Q l a → wpStill P ops' w Q' l a
 | [], _, a, h => hQ a h
 | o :: l, hf, a, h => by
  simp only [freeOf, List.all_cons, Bool.and_eq_true] at hf
  unfold wpStill at h ⊢
  rw [if_pos (free_wanted hf.1 _)] at h ⊢
  exact Oper.still_mono (fun a h => wpStill_other hQ l hf.2 a h) h
theorem wpList_other {P : Program} {ops ops' : Array Oper} {Q : Exit → Act → World → Prop} : ∀ (l : List Oper), freeOf l = true → ∀ a w, wpList P ops Q l a w → wpList P ops' Q l a w
 | [], _, a, w, h => h
 | o :: l, hf, a, w, h => by
  simp only [freeOf, List.all_cons, Bool.and_eq_true] at hf
  unfold wpList at h ⊢
  rw [if_pos (free_wanted hf.1 _)] at h ⊢
  rcases h with h | h
  ·exact .inl (Oper.wp_mono (fun a w h => wpList_other l hf.2 a w h) h)
  ·exact .inr h
theorem opsAt_append (l : List Oper) (a b : List Nat) : opsAt l (a ++ b) = opsAt l a ++ opsAt l b := by
 simp [opsAt, List.filterMap_append]
theorem opsAt_free {l : List Oper} (h : freeOf l = true) (is : List Nat) : freeOf (opsAt l is) = true := by
 refine List.all_eq_true.2 fun o ho => ?_
 obtain ⟨i, _, hi⟩ := List.mem_filterMap.1 ho
 exact List.all_eq_true.1 h o (List.mem_of_getElem? hi)
end Go.Xm
