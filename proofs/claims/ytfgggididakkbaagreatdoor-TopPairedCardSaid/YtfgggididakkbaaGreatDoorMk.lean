/- The abstract machine, part 11: code walked at a state that is known in part; loops by rounds, branches by cases. -/
import Derived.Test.YtfgggididakkbaaGreatDoorMj
namespace Go.Xm
open Go.RowKit
set_option linter.unusedVariables false
set_option linter.unusedSimpArgs false

abbrev St := List (Nat × Value)

noncomputable def blank (nt : Nat) : Tr := initTm (List.replicate nt poison) 0 .nil
noncomputable def trS (nt : Nat) (σ : St) : Tr := List.rec (blank nt) (fun p _ ih => ih.set (path 12 p.1) p.2) σ
noncomputable def readS (t : Tr) (live : List Nat) : St := List.rec [] (fun i _ ih => (i, t.get (path 12 i)) :: ih) live

/-- What is known of a frame. -/
def SRel (ρ : Rho) (nt : Nat) (σ : St) (a : Act) : Prop :=
  a.tmps.size = nt ∧ nt ≤ 4000 ∧ ∀ i v, (i, v) ∈ σ → i < nt ∧ VRel ρ v (a.tmps.getD i undef)

theorem blank_get {nt t : Nat} (h : nt ≤ 4000) (ht : t < nt) : (blank nt).get (path 12 t) = poison := by
  unfold blank
  rw [initTm_get _ 0 .nil t (by simp; omega) (by omega), if_pos (by simp; omega)]
  simp [ht]

theorem trS_get {ρ : Rho} {nt : Nat} (hn : nt ≤ 4000) (F : Nat → Value) : ∀ (σ : St), (∀ i v, (i, v) ∈ σ → i < nt ∧ VRel ρ v (F i)) → ∀ t, t < nt → VRel ρ ((trS nt σ).get (path 12 t)) (F t)
  | [], _, t, ht => by
    have : trS nt [] = blank nt := rfl
    rw [this, blank_get hn ht]
    exact .poison _
  | (i, v) :: σ, h, t, ht => by
    have : trS nt ((i, v) :: σ) = (trS nt σ).set (path 12 i) v := rfl
    rw [this]
    have hi := h i v (List.mem_cons_self ..)
    by_cases e : t = i
    · subst e
      rw [Tr.get_set_same]
      exact hi.2
    · rw [Tr.get_set_ne _ _ _ _ (fun q => e (path_inj 12 i t (by omega) (by omega) q).symm)]
      exact trS_get hn F σ (fun j u hj => h j u (List.mem_cons_of_mem _ hj)) t ht

theorem SRel.tr {ρ : Rho} {nt : Nat} {σ : St} {a : Act} (h : SRel ρ nt σ a) : TRel ρ nt (trS nt σ) a :=
  ⟨h.1, h.2.1, fun t ht => trS_get h.2.1 (fun i => a.tmps.getD i undef) σ h.2.2 t ht⟩

theorem readS_mem {t : Tr} : ∀ {live : List Nat} {i : Nat} {v : Value}, (i, v) ∈ readS t live → i ∈ live ∧ v = t.get (path 12 i)
  | [], i, v, h => by cases h
  | j :: l, i, v, h => by
    have h0 : readS t (j :: l) = (j, t.get (path 12 j)) :: readS t l := rfl
    rw [h0] at h
    rcases List.mem_cons.1 h with e | e
    · cases e
      exact ⟨List.mem_cons_self .., rfl⟩
    · exact ⟨List.mem_cons_of_mem _ (readS_mem e).1, (readS_mem e).2⟩

theorem SRel.of_tr {ρ : Rho} {nt : Nat} {t : Tr} {a : Act} (h : TRel ρ nt t a) {live : List Nat} (hl : live.all (fun i => Nat.blt i nt) = true) : SRel ρ nt (readS t live) a := by
  refine ⟨h.1, h.2.1, fun i v hm => ?_⟩
  obtain ⟨h1, rfl⟩ := readS_mem hm
  have h2 : i < nt := by simpa [Nat.blt_eq] using List.all_eq_true.1 hl i h1
  exact ⟨h2, h.2.2 i h2⟩

theorem SRel.mono {ρ ρ' : Rho} (hle : Rho.le ρ ρ') {nt : Nat} {σ : St} {a : Act} (h : SRel ρ nt σ a) : SRel ρ' nt σ a :=
  ⟨h.1, h.2.1, fun i v hm => ⟨(h.2.2 i v hm).1, (h.2.2 i v hm).2.mono hle⟩⟩

abbrev QP := Ex → St → Heap → Nat → Prop

/-- The first k locations are kept. -/
def Keeps (k : Nat) (ρ ρ' : Rho) : Prop := k ≤ ρ.length ∧ ∀ i, i < k → ρ'[i]? = ρ[i]?

theorem Keeps.le {k : Nat} {ρ ρ' : Rho} (h : Keeps k ρ ρ') : k ≤ ρ'.length := by
  cases k with
  | zero => exact Nat.zero_le _
  | succ n =>
    have h1 := h.2 n (Nat.lt_succ_self n)
    have h2 : ρ[n]? = some (ρ[n]'h.1) := List.getElem?_eq_getElem h.1
    rw [h2] at h1
    exact (List.getElem?_eq_some_iff.1 h1).1

theorem Keeps.trans {k : Nat} {a b c : Rho} (h : Keeps k a b) (h' : Keeps k b c) : Keeps k a c := ⟨h.1, fun i hi => (h'.2 i hi).trans (h.2 i hi)⟩

theorem Keeps.of_le {k : Nat} {ρ ρ' : Rho} (hk : k ≤ ρ.length) (h : Rho.le ρ ρ') : Keeps k ρ ρ' :=
  ⟨hk, fun i hi => by
    have h2 : ρ[i]? = some ρ[i] := List.getElem?_eq_getElem (by omega)
    rw [h2]; exact h i _ h2⟩

def After (k : Nat) (B : Bd) (nt : Nat) (ρ : Rho) (w : World) (ds : List Deferred) (Q : QP) (e' : Exit) (a' : Act) (w' : World) : Prop :=
  ∃ e σ h c ρ', e' = exO e ∧ a'.defers = ds ∧ SRel ρ' nt σ a' ∧ HRel B ρ' h w' ∧ ρ'.length = c ∧ Keeps k ρ ρ' ∧ Bel B w w' ∧ Q e σ h c

theorem After.trans {k : Nat} {B : Bd} {nt : Nat} {ρ ρ1 : Rho} {w w1 w2 : World} {ds : List Deferred} {Q : QP} {e : Exit} {a : Act} (hk : Keeps k ρ ρ1) (hb : Bel B w w1) (h : After k B nt ρ1 w1 ds Q e a w2) : After k B nt ρ w ds Q e a w2 := by
  obtain ⟨e, σ, h, c, ρ', q1, q2, q3, q4, q5, q6, q7, q8⟩ := h
  exact ⟨e, σ, h, c, ρ', q1, q2, q3, q4, q5, hk.trans q6, hb.trans q7, q8⟩

/-- Code at a state that is known in part: it ends as Q says. -/
def XQ (E : Env) (nt k : Nat) (code : Code) (σ : St) (h : Heap) (c : Nat) (Q : QP) : Prop :=
  ∀ (B : Bd) (ρ : Rho) (a : Act) (w : World), SRel ρ nt σ a → HRel B ρ h w → ρ.length = c → B.n ≤ w.heap.size → B.ge E.G → E.inv w → k ≤ ρ.length → code.wp E.P (After k B nt ρ w a.defers Q) a w

/-- Rounds of a loop at such a state. -/
def XL (E : Env) (nt k n : Nat) (code : Code) (σ : St) (h : Heap) (c : Nat) (Q : QP) : Prop :=
  ∀ (B : Bd) (ρ : Rho) (a : Act) (w : World), SRel ρ nt σ a → HRel B ρ h w → ρ.length = c → B.n ≤ w.heap.size → B.ge E.G → E.inv w → k ≤ ρ.length → Code.rounds E.P code (After k B nt ρ w a.defers Q) n a w

/-- Operations of a region from number j on. -/
def XR (E : Env) (nt k : Nat) (ops : Array Oper) (j : Nat) (σ : St) (h : Heap) (c : Nat) (Q : QP) : Prop :=
  ∀ (B : Bd) (ρ : Rho) (a : Act) (w : World), SRel ρ nt σ a → HRel B ρ h w → ρ.length = c → B.n ≤ w.heap.size → B.ge E.G → E.inv w →
    ∀ (ρ0 : Rho) (w0 : World) (ds : List Deferred), Keeps k ρ0 ρ → Bel B w0 w → a.defers = ds → wpList E.P ops (After k B nt ρ0 w0 ds Q) (ops.toList.drop j) a w

def lft : Code → Code
  | .seq a _ => a
  | .cond _ a _ => a
  | .block _ a => a
  | .loop a => a
  | .scope a => a
  | _ => .skip

def rgt : Code → Code
  | .seq _ b => b
  | .cond _ _ b => b
  | _ => .skip

def opsOf : Code → Array Oper
  | .region _ o _ => o
  | _ => #[]

def isSeq : Code → Bool
  | .seq _ _ => true
  | _ => false

def condOf : Code → Option Operand
  | .cond s _ _ => some s
  | _ => none

def blockOf : Code → Option Nat
  | .block i _ => some i
  | _ => none

def isLoop : Code → Bool
  | .loop _ => true
  | _ => false

def exitOf : Code → Option Nat
  | .exit i => some i
  | _ => none

def isRet : Code → Bool
  | .ret => true
  | _ => false

def isSkip : Code → Bool
  | .skip => true
  | _ => false

def isScope : Code → Bool
  | .scope _ => true
  | _ => false

def isLabel : Code → Bool
  | .label _ => true
  | _ => false

def drawOf : Code → Option Bool
  | .region _ _ d => some d
  | _ => none

theorem XQ.mono {E : Env} {nt k : Nat} {code : Code} {σ : St} {h : Heap} {c : Nat} {Q Q' : QP} (hq : ∀ e σ h c, Q e σ h c → Q' e σ h c) (hx : XQ E nt k code σ h c Q) : XQ E nt k code σ h c Q' := by
  intro B ρ a w h1 h2 h3 h4 h5 h6 h7
  refine wp_mono (hx B ρ a w h1 h2 h3 h4 h5 h6 h7) ?_
  rintro e a' w' ⟨e, σ, h, c, ρ', q1, q2, q3, q4, q5, q6, q7, q8⟩
  exact ⟨e, σ, h, c, ρ', q1, q2, q3, q4, q5, q6, q7, hq _ _ _ _ q8⟩

/-- What follows code that ends normally. -/
def Then (next : St → Heap → Nat → Prop) (Q : QP) : QP
  | .normal, σ, h, c => next σ h c
  | e, σ, h, c => Q e σ h c

theorem XQ.seq {E : Env} (hE : E.Ok) {nt k : Nat} {code : Code} (hs : isSeq code = true) {σ : St} {h : Heap} {c : Nat} {Q : QP}
    (hx : XQ E nt k (lft code) σ h c (Then (fun σ h c => XQ E nt k (rgt code) σ h c Q) Q)) : XQ E nt k code σ h c Q := by
  cases code with
  | seq x y =>
    intro B ρ a w h1 h2 h3 h4 h5 h6 h7
    refine wp_seq (wp_mono (hx B ρ a w h1 h2 h3 h4 h5 h6 h7) ?_)
    rintro e' a1 w1 ⟨e, σ', h', c', ρ', rfl, q2, q3, q4, q5, q6, q7, q8⟩
    cases e with
    | normal =>
      have := q8 B ρ' a1 w1 q3 q4 q5 (Nat.le_trans h4 q7.size) h5 (hE.keep h5 h6 q7) q6.le
      refine wp_mono this (fun e2 a2 w2 hA => ?_)
      rw [q2] at hA
      exact hA.trans q6 q7
    | exit i => exact ⟨.exit i, σ', h', c', ρ', rfl, q2, q3, q4, q5, q6, q7, q8⟩
    | ret => exact ⟨.ret, σ', h', c', ρ', rfl, q2, q3, q4, q5, q6, q7, q8⟩
  | _ => cases hs

theorem XQ.cond {E : Env} {nt k : Nat} {code : Code} {s : Operand} (hs : condOf code = some s) {σ : St} {h : Heap} {c : Nat} {Q : QP} {b : Bool} (hb : ev (trS nt σ) (src nt s) = .bool b)
    (ht : b = true → XQ E nt k (lft code) σ h c Q) (hf : b = false → XQ E nt k (rgt code) σ h c Q) : XQ E nt k code σ h c Q := by
  cases code with
  | cond s' x y =>
    cases hs
    intro B ρ a w h1 h2 h3 h4 h5 h6 h7
    have hv := src_ok h1.tr s
    rw [hb] at hv
    generalize e1 : a.eval s = v at hv
    cases hv
    cases b with
    | true => exact wp_cond e1 (ht rfl B ρ a w h1 h2 h3 h4 h5 h6 h7)
    | false => exact wp_cond e1 (hf rfl B ρ a w h1 h2 h3 h4 h5 h6 h7)
  | _ => cases hs

/-- What follows a block's end. -/
def InBlk (id : Nat) (Q : QP) : QP
  | .exit i, σ, h, c => match Nat.beq i id with
    | true => Q .normal σ h c
    | false => Q (.exit i) σ h c
  | e, σ, h, c => Q e σ h c

theorem XQ.block {E : Env} {nt k : Nat} {code : Code} {id : Nat} (hs : blockOf code = some id) {σ : St} {h : Heap} {c : Nat} {Q : QP} (hx : XQ E nt k (lft code) σ h c (InBlk id Q)) : XQ E nt k code σ h c Q := by
  cases code with
  | block id' x =>
    cases hs
    intro B ρ a w h1 h2 h3 h4 h5 h6 h7
    refine wp_block (wp_mono (hx B ρ a w h1 h2 h3 h4 h5 h6 h7) ?_)
    rintro e' a1 w1 ⟨e, σ', h', c', ρ', rfl, q2, q3, q4, q5, q6, q7, q8⟩
    cases e with
    | normal => exact ⟨.normal, σ', h', c', ρ', rfl, q2, q3, q4, q5, q6, q7, q8⟩
    | ret => exact ⟨.ret, σ', h', c', ρ', rfl, q2, q3, q4, q5, q6, q7, q8⟩
    | exit i =>
      by_cases hi : i = id
      · subst hi
        have q8' : Q .normal σ' h' c' := by simpa [InBlk] using q8
        simp only [exO, Exit.inBlock, if_true]
        exact ⟨.normal, σ', h', c', ρ', rfl, q2, q3, q4, q5, q6, q7, q8'⟩
      · have hbf : Nat.beq i id = false := by
          cases hb : Nat.beq i id with
          | false => rfl
          | true => exact absurd (Nat.eq_of_beq_eq_true hb) hi
        have q8' : Q (.exit i) σ' h' c' := by simpa only [InBlk, hbf] using q8
        simp only [exO, Exit.inBlock, if_neg hi]
        exact ⟨.exit i, σ', h', c', ρ', rfl, q2, q3, q4, q5, q6, q7, q8'⟩
  | _ => cases hs

theorem XQ.exit {E : Env} {nt k : Nat} {code : Code} {i : Nat} (hs : exitOf code = some i) {σ : St} {h : Heap} {c : Nat} {Q : QP} (hq : Q (.exit i) σ h c) : XQ E nt k code σ h c Q := by
  cases code with
  | exit j =>
    cases hs
    intro B ρ a w h1 h2 h3 h4 h5 h6 h7
    exact wp_exit ⟨.exit i, σ, h, c, ρ, rfl, rfl, h1, h2, h3, ⟨h7, fun _ _ => rfl⟩, Bel.refl B w, hq⟩
  | _ => cases hs

theorem XQ.ret {E : Env} {nt k : Nat} {code : Code} (hs : isRet code = true) {σ : St} {h : Heap} {c : Nat} {Q : QP} (hq : Q .ret σ h c) : XQ E nt k code σ h c Q := by
  cases code with
  | ret =>
    intro B ρ a w h1 h2 h3 h4 h5 h6 h7
    exact wp_ret ⟨.ret, σ, h, c, ρ, rfl, rfl, h1, h2, h3, ⟨h7, fun _ _ => rfl⟩, Bel.refl B w, hq⟩
  | _ => cases hs

theorem XQ.skip {E : Env} {nt k : Nat} {code : Code} (hs : isSkip code = true) {σ : St} {h : Heap} {c : Nat} {Q : QP} (hq : Q .normal σ h c) : XQ E nt k code σ h c Q := by
  cases code with
  | skip =>
    intro B ρ a w h1 h2 h3 h4 h5 h6 h7
    exact wp_skip ⟨.normal, σ, h, c, ρ, rfl, rfl, h1, h2, h3, ⟨h7, fun _ _ => rfl⟩, Bel.refl B w, hq⟩
  | _ => cases hs

theorem XQ.label {E : Env} {nt k : Nat} {code : Code} (hs : isLabel code = true) {σ : St} {h : Heap} {c : Nat} {Q : QP} (hq : Q .normal σ h c) : XQ E nt k code σ h c Q := by
  cases code with
  | label l =>
    intro B ρ a w h1 h2 h3 h4 h5 h6 h7
    exact wp_label ⟨.normal, σ, h, c, ρ, rfl, rfl, h1, h2, h3, ⟨h7, fun _ _ => rfl⟩, Bel.refl B w, hq⟩
  | _ => cases hs

theorem XQ.scope {E : Env} {nt k : Nat} {code : Code} (hs : isScope code = true) {σ : St} {h : Heap} {c : Nat} {Q : QP} (hx : XQ E nt k (lft code) σ h c Q) : XQ E nt k code σ h c Q := by
  cases code with
  | scope x =>
    intro B ρ a w h1 h2 h3 h4 h5 h6 h7
    refine wp_scope_straight (wp_mono (hx B ρ a w h1 h2 h3 h4 h5 h6 h7) ?_)
    rintro e' a1 w1 ⟨e, σ', h', c', ρ', rfl, q⟩
    cases e <;> exact ⟨_, σ', h', c', ρ', rfl, q⟩
  | _ => cases hs

theorem rounds_mono {P : Program} {code : Code} {Q Q' : Exit → Act → World → Prop} (hQ : ∀ e a w, Q e a w → Q' e a w) : ∀ (n : Nat) (a : Act) (w : World), Code.rounds P code Q n a w → Code.rounds P code Q' n a w
  | 0, _, _, q => q
  | n + 1, a, w, q => by
    rw [rounds_succ] at q ⊢
    exact wp_mono q (fun e a w q => by
      cases e with
      | normal => exact rounds_mono hQ n a w q
      | _ => exact hQ _ _ _ q)

theorem XL.succ {E : Env} (hE : E.Ok) {nt k n : Nat} {code : Code} {σ : St} {h : Heap} {c : Nat} {Q : QP} (hx : XQ E nt k code σ h c (Then (fun σ h c => XL E nt k n code σ h c Q) Q)) : XL E nt k (n + 1) code σ h c Q := by
  intro B ρ a w h1 h2 h3 h4 h5 h6 h7
  rw [rounds_succ]
  refine wp_mono (hx B ρ a w h1 h2 h3 h4 h5 h6 h7) ?_
  rintro e' a1 w1 ⟨e, σ', h', c', ρ', rfl, q2, q3, q4, q5, q6, q7, q8⟩
  cases e with
  | normal =>
    have := q8 B ρ' a1 w1 q3 q4 q5 (Nat.le_trans h4 q7.size) h5 (hE.keep h5 h6 q7) q6.le
    refine rounds_mono (fun e2 a2 w2 hA => ?_) n a1 w1 this
    rw [q2] at hA
    exact hA.trans q6 q7
  | exit i => exact ⟨.exit i, σ', h', c', ρ', rfl, q2, q3, q4, q5, q6, q7, q8⟩
  | ret => exact ⟨.ret, σ', h', c', ρ', rfl, q2, q3, q4, q5, q6, q7, q8⟩

theorem XQ.loop {E : Env} {nt k : Nat} (n : Nat) {code : Code} (hs : isLoop code = true) {σ : St} {h : Heap} {c : Nat} {Q : QP} (hx : XL E nt k n (lft code) σ h c Q) : XQ E nt k code σ h c Q := by
  cases code with
  | loop x =>
    intro B ρ a w h1 h2 h3 h4 h5 h6 h7
    exact wp_loop_rounds n (hx B ρ a w h1 h2 h3 h4 h5 h6 h7)
  | _ => cases hs

noncomputable def obs (live : List Nat) (r : Rs) : Option (Ex × St × Heap × Nat) := Rs.casesOn r none (fun e t h c => some (e, readS t live, h, c))

/-- Code that the machine can run by itself. -/
theorem XQ.run {E : Env} (hE : E.Ok) {nt k : Nat} {code : Code} {σ : St} {h : Heap} {c : Nat} {Q : QP} (n : Nat) (live : List Nat) {e : Ex} {σ' : St} {h' : Heap} {c' : Nat} (hl : live.all (fun i => Nat.blt i nt) = true)
    (hr : obs live (exec E n (comp E nt code) (trS nt σ) h c) = some (e, σ', h', c')) (he : smallE e = true) (hq : Q e σ' h' c') : XQ E nt k code σ h c Q := by
  intro B ρ a w h1 h2 h3 h4 h5 h6 h7
  cases hx : exec E n (comp E nt code) (trS nt σ) h c with
  | none => rw [hx] at hr; cases hr
  | some e2 t2 h2' c2 =>
    rw [hx] at hr
    cases hr
    refine wp_mono ((exec_ok hE n).1 nt code _ h c _ t2 _ _ hx B ρ a w h1.tr h2 h3 h4 h5 h6) ?_
    rintro e' a' w' ⟨rfl, d, ρ', p1, p2, p3, p4, p5⟩
    exact ⟨_, _, _, _, ρ', smallE_eq he, d, SRel.of_tr p1 hl, p4, p3, Keeps.of_le h7 p2, p5, hq⟩

/-- Less is known. -/
theorem XQ.weak {E : Env} {nt k : Nat} {code : Code} {σ σ' : St} {h h' : Heap} {c : Nat} {Q : QP} (hs : ∀ i v, (i, v) ∈ σ' → (i, v) ∈ σ) (hh : ∀ i o, hget h' i = some o → hget h i = some o) (hx : XQ E nt k code σ' h' c Q) : XQ E nt k code σ h c Q :=
  fun B ρ a w h1 h2 h3 h4 h5 h6 h7 => hx B ρ a w ⟨h1.1, h1.2.1, fun i v hm => h1.2.2 i v (hs i v hm)⟩ (h2.sub hh) h3 h4 h5 h6 h7

/-! ### Regions -/
noncomputable def gsOf (E : Env) (nt : Nat) (ops : Array Oper) : List GI := ops.toList.map (compG E nt ops.toList)

theorem XQ.region {E : Env} {nt k : Nat} {code : Code} (hs : drawOf code = some false) {σ : St} {h : Heap} {c : Nat} {Q : QP} (hx : XR E nt k (opsOf code) 0 σ h c Q) : XQ E nt k code σ h c Q := by
  cases code with
  | region id ops d =>
    cases hs
    intro B ρ a w h1 h2 h3 h4 h5 h6 h7
    exact wp_region_list (hx B ρ a w h1 h2 h3 h4 h5 h6 ρ w a.defers ⟨h7, fun _ _ => rfl⟩ (Bel.refl B w) rfl)
  | _ => cases hs

theorem XR.done {E : Env} {nt k : Nat} {ops : Array Oper} {j : Nat} (hj : Nat.ble ops.size j = true) {σ : St} {h : Heap} {c : Nat} {Q : QP} (hq : Q .normal σ h c) : XR E nt k ops j σ h c Q := by
  intro B ρ a w h1 h2 h3 h4 h5 h6 ρ0 w0 ds h7 h8 h9
  have : ops.toList.drop j = [] := List.drop_eq_nil_of_le (by simpa using hj)
  rw [this]
  exact wpList_nil ⟨.normal, σ, h, c, ρ, rfl, h9, h1, h2, h3, h7, h8, hq⟩

noncomputable def obsO (live : List Nat) (r : Os) : Option (St × Heap × Nat) := Os.casesOn r none (fun t h c => some (readS t live, h, c))

theorem sub_ok {E : Env} (hE : E.Ok) (nt : Nat) (ops : Array Oper) (j m : Nat) : ((((gsOf E nt ops).drop j).take m).length = ((ops.toList.drop j).take m).length) ∧
    ∀ (i : Nat) o g, ((ops.toList.drop j).take m)[i]? = some o → (((gsOf E nt ops).drop j).take m)[i]? = some g → GIOk E nt ops.toList o g := by
  refine ⟨by simp [gsOf], fun i o g e1 e2 => ?_⟩
  rw [List.getElem?_take] at e1 e2
  by_cases hlt : i < m
  · rw [if_pos hlt, List.getElem?_drop] at e1 e2
    exact map_get hE nt ops.toList _ o g e1 e2
  · rw [if_neg hlt] at e1
    cases e1

/-- Operations that a call function carries through. -/
theorem XR.step {E : Env} (hE : E.Ok) {call : CallF} (hcall : CallOk E call) {nt k : Nat} {ops : Array Oper} {j : Nat} (m : Nat) (live : List Nat) {σ σ' : St} {h h' : Heap} {c c' : Nat} {Q : QP} (hl : live.all (fun i => Nat.blt i nt) = true)
    (hr : obsO live (xops call (((gsOf E nt ops).drop j).take m) (trS nt σ) h c) = some (σ', h', c')) (hx : XR E nt k ops (j + m) σ' h' c' Q) : XR E nt k ops j σ h c Q := by
  intro B ρ a w h1 h2 h3 h4 h5 h6 ρ0 w0 ds h7 h8 h9
  cases hx0 : xops call (((gsOf E nt ops).drop j).take m) (trS nt σ) h c with
  | none => rw [hx0] at hr; cases hr
  | some t2 h2' c2 =>
    rw [hx0] at hr
    cases hr
    obtain ⟨s1, s2⟩ := sub_ok hE nt ops j m
    have hlist : ops.toList.drop j = (ops.toList.drop j).take m ++ ops.toList.drop (j + m) := by
      rw [← List.drop_drop, List.take_append_drop]
    have harr : ops.toList.toArray = ops := by simp
    rw [hlist]
    have key := xops_pre hE hcall (all := ops.toList) (Q := After k B nt ρ0 w0 ds Q) (ops.toList.drop (j + m)) _ _ s1 s2 _ t2 h _ c _ hx0 B ρ a w h1.tr h2 h3 h4 h5 h6 ?_
    · rw [harr] at key; exact key
    · rintro a' w' ⟨d, ρ', p1, p2, p3, p4, p5⟩
      rw [harr]
      exact hx B ρ' a' w' (SRel.of_tr p1 hl) p4 p3 (Nat.le_trans h4 p5.size) h5 (hE.keep h5 h6 p5) ρ0 w0 ds (h7.trans (Keeps.of_le h7.le p2)) (h8.trans p5) (d.trans h9)

/-- Operations that the machine can run by itself. -/
theorem XR.run {E : Env} (hE : E.Ok) (n : Nat) {nt k : Nat} {ops : Array Oper} {j : Nat} (m : Nat) (live : List Nat) {σ σ' : St} {h h' : Heap} {c c' : Nat} {Q : QP} (hl : live.all (fun i => Nat.blt i nt) = true)
    (hr : obsO live (xops (callF E (exec E n)) (((gsOf E nt ops).drop j).take m) (trS nt σ) h c) = some (σ', h', c')) (hx : XR E nt k ops (j + m) σ' h' c' Q) : XR E nt k ops j σ h c Q :=
  XR.step hE (callF_ok hE (exec_ok hE n).1) m live hl hr hx

/-! ### Calls by contract -/

/-- What a call is worth: its arguments and the heap as they are told; R tells what comes back. -/
def KC (E : Env) (K : Nat) (args : List Value) (h : Heap) (c : Nat) (R : Value → Heap → Nat → Prop) : Prop :=
  ∀ (B : Bd) (ρ : Rho) (w : World) (args' : List Value), Cells ρ args args' → HRel B ρ h w → ρ.length = c → B.n ≤ w.heap.size → B.ge E.G → E.inv w →
    (callFunc K args'.toArray).run E.P w = .ok (.enter K args'.toArray) w ∧
      Calls E.P K args'.toArray w (fun e w' => ∃ v v' ρ' h' c', e = .returned v' ∧ VRel ρ' v v' ∧ Rho.le ρ ρ' ∧ ρ'.length = c' ∧ HRel B ρ' h' w' ∧ Bel B w w' ∧ R v h' c')

theorem KC.mono {E : Env} {K : Nat} {args : List Value} {h : Heap} {c : Nat} {R R' : Value → Heap → Nat → Prop} (hr : ∀ v h c, R v h c → R' v h c) (hx : KC E K args h c R) : KC E K args h c R' := by
  intro B ρ w args' h1 h2 h3 h4 h5 h6
  obtain ⟨q1, q2⟩ := hx B ρ w args' h1 h2 h3 h4 h5 h6
  refine ⟨q1, q2.mono ?_⟩
  rintro e w' ⟨v, v', ρ', h', c', e1, e2, e3, e4, e5, e6, e7⟩
  exact ⟨v, v', ρ', h', c', e1, e2, e3, e4, e5, e6, hr _ _ _ e7⟩

/-- The arguments as slots. -/
noncomputable def argS (args : List Value) : Nat → St := List.rec (fun _ => []) (fun v _ ih i => (i, v) :: ih (i + 1)) args

theorem argS_mem : ∀ {args : List Value} {i j : Nat} {v : Value}, (j, v) ∈ argS args i → i ≤ j ∧ args[j - i]? = some v
  | [], i, j, v, h => by cases h
  | u :: l, i, j, v, h => by
    have h0 : argS (u :: l) i = (i, u) :: argS l (i + 1) := rfl
    rw [h0] at h
    rcases List.mem_cons.1 h with e | e
    · cases e; simp
    · obtain ⟨h1, h2⟩ := argS_mem e
      have : j - i = (j - (i + 1)) + 1 := by omega
      rw [this, List.getElem?_cons_succ]
      exact ⟨by omega, h2⟩

/-- The body of a function, walked. -/
theorem KC.body {E : Env} (hE : E.Ok) {K : Nat} {F : Func} (hF : E.fn K = some F) {code : Code} (hb : F.body = some code) {args : List Value} (hn : (Nat.ble args.length F.ntmps && Nat.ble F.ntmps 4000) = true) {h : Heap} {c : Nat} {R : Value → Heap → Nat → Prop}
    (hx : XQ E F.ntmps c code (argS args 0) h c (fun e σ h' c' => (∀ i, e ≠ .exit i) ∧ ∃ v, resOf E F.ntmps (trS F.ntmps σ) h' F.results.toList = some v ∧ R v h' c')) : KC E K args h c R := by
  intro B ρ w args' h1 h2 h3 h4 h5 h6
  obtain ⟨f1, f2, f3⟩ := hE.fn K F hF
  refine ⟨run_callFunc_go f1 f2 f3 _ w, calls_of_wp f1 hb ?_⟩
  simp only [Bool.and_eq_true, Nat.ble_eq] at hn
  have ht := initTm_rel h1 hn.1 hn.2
  have hs : SRel ρ F.ntmps (argS args 0) { tmps := args'.toArray ++ Array.replicate (F.ntmps - args'.toArray.size) undef, defers := [] } := by
    refine ⟨ht.1, ht.2.1, fun i v hm => ?_⟩
    obtain ⟨_, q⟩ := argS_mem hm
    have hi : i < args.length := by have := (List.getElem?_eq_some_iff.1 q).1; simpa using this
    have := ht.2.2 i (by omega)
    rw [initTm_get args 0 .nil i (by omega) (by omega), if_pos (by omega), q] at this
    exact ⟨by omega, this⟩
  refine wp_mono (hx B ρ _ w hs h2 h3 h4 h5 h6 (by omega)) ?_
  rintro e' a' w' ⟨e, σ, h', c', ρ', rfl, d, p1, p2, p3, p4, p5, p6, v, p7, p8⟩
  obtain ⟨v', q1, q2⟩ := resOf_ok hE p7 p1.tr p2
  have hle : Rho.le ρ ρ' := fun i L hi => by
    have := (List.getElem?_eq_some_iff.1 hi).1
    rw [p4.2 i (by omega)]; exact hi
  cases e with
  | normal => exact ⟨d, v', q2, v, v', ρ', h', c', rfl, q1, hle, p3, p2, p5, p8⟩
  | exit i => exact absurd rfl (p6 i)
  | ret => exact ⟨d, v', q2, v, v', ρ', h', c', rfl, q1, hle, p3, p2, p5, p8⟩

/-- A contract in the model's words, at plain arguments. -/
theorem KC.of_calls {E : Env} (hE : E.Ok) {K : Nat} {F : Func} (hF : E.fn K = some F) {args : List Value} (hp : args.all plain = true) {v : Value} (hv : plain v = true)
    (hc : ∀ w, E.inv w → Calls E.P K args.toArray w (fun e w' => e = .returned v ∧ Below w.heap.size w w')) {h : Heap} {c : Nat} : KC E K args h c (fun v' h' c' => v' = v ∧ h' = h ∧ c' = c) := by
  intro B ρ w args' h1 h2 h3 h4 h5 h6
  obtain ⟨f1, f2, f3⟩ := hE.fn K F hF
  have he := h1.plain_eq hp
  subst he
  refine ⟨run_callFunc_go f1 f2 f3 _ w, (hc w h6).mono ?_⟩
  rintro e w' ⟨rfl, hb⟩
  exact ⟨v, v, ρ, h, c, rfl, VRel.plain_refl ρ hv, Rho.le_refl ρ, h3, h2.keepB hb, Bel.of hb h4, rfl, rfl, rfl⟩

/-- And back: plain arguments, a plain result. -/
theorem KC.calls {E : Env} {K : Nat} {args : List Value} (hp : args.all plain = true) {v : Value} (hv : plain v = true) (hx : KC E K args [] 0 (fun v' _ _ => v' = v)) (w : World) (hG : E.G ≤ w.heap.size) (hI : E.inv w) :
    Calls E.P K args.toArray w (fun e w' => e = .returned v ∧ Below w.heap.size w w') := by
  obtain ⟨q1, q2⟩ := hx w.heap.size [] w args (Cells.plain_refl [] hp) (HRel.nil _ _ _) rfl (Nat.le_refl _) (Bd.ge_at hG) hI
  refine q2.mono ?_
  rintro e w' ⟨v1, v', ρ', h', c', rfl, e2, e3, e4, e5, e6, rfl⟩
  exact ⟨by rw [e2.plain_eq hv], e6.below⟩

/-- What the operation calls, at these temporaries: the function, the arguments, the slot of the result. -/
noncomputable def insCallee (i : Ins) (t : Tr) : Option (Nat × List Value × Option (List Bool)) :=
  match i with
  | .call d f args => match calleeV (ev t f) (args.map (ev t)) with
    | some (k, xs) => some (k, xs, d)
    | none => none
  | _ => none

noncomputable def callee (g : List GI) (t : Tr) : Option (Nat × List Value × Option (List Bool)) :=
  match g with
  | .ins i :: _ => insCallee i t
  | .g p want _ i :: _ => match wantB (t.get p) want with
    | some true => insCallee i t
    | _ => none
  | _ => none

theorem xcall_wp {E : Env} {nt : Nat} {o : Oper} {i : Ins} (hi : InsOk E nt o i) {t : Tr} {K : Nat} {args : List Value} {d : Option (List Bool)} (hc : insCallee i t = some (K, args, d)) {h : Heap} {c : Nat} {R : Value → Heap → Nat → Prop} (hx : KC E K args h c R)
    {B : Bd} {ρ : Rho} {a : Act} {w : World} (ht : TRel ρ nt t a) (hh : HRel B ρ h w) (hρ : ρ.length = c) (hB : B.n ≤ w.heap.size) (hG : B.ge E.G) (hI : E.inv w) {N : Act → World → Prop} {Q : Exit → Act → World → Prop}
    (hK : ∀ v h' c' a' w', R v h' c' → Post B nt ρ w a.defers (putX d v t) h' c' a' w' → N a' w') : o.wp E.P a w N Q := by
  cases i with
  | call d0 f as =>
    obtain ⟨hd, hcs⟩ := hi
    simp only [insCallee] at hc
    split at hc
    · rename_i k xs hev
      cases hc
      obtain ⟨xs', hargs, hex⟩ := hcs ρ t a ht _ _ hev
      obtain ⟨q1, q2⟩ := hx B ρ w _ hargs hh hρ hB hG hI
      unfold Oper.wp
      rw [hex, q1]
      refine q2.mono ?_
      rintro e w' ⟨v, v', ρ', h', c', rfl, p1, p2, p3, p4, p5, p6⟩
      exact hK v h' c' _ _ p6 ⟨put_defers _ _ _, ρ', putX_ok (ht.mono p2) hd p1, p2, p3, p4, p5⟩
    · cases hc
  | _ => cases hc

/-- One operation: a call by its contract. -/
theorem XR.call {E : Env} (hE : E.Ok) {nt k : Nat} {ops : Array Oper} {j : Nat} (live : List Nat) {K : Nat} {args : List Value} {d : Option (List Bool)} {σ : St} {h : Heap} {c : Nat} {Q : QP} (hl : live.all (fun i => Nat.blt i nt) = true)
    (hc : callee ((gsOf E nt ops).drop j) (trS nt σ) = some (K, args, d)) {R : Value → Heap → Nat → Prop} (hx : KC E K args h c R)
    (hn : ∀ v h' c', R v h' c' → XR E nt k ops (j + 1) (readS (putX d v (trS nt σ)) live) h' c' Q) : XR E nt k ops j σ h c Q := by
  intro B ρ a w h1 h2 h3 h4 h5 h6 ρ0 w0 ds h7 h8 h9
  cases hgs : (gsOf E nt ops).drop j with
  | nil => rw [hgs] at hc; cases hc
  | cons g gs =>
    have hg : (gsOf E nt ops)[j]? = some g := by
      have h0 : ((gsOf E nt ops).drop j)[0]? = some g := by rw [hgs]; rfl
      rw [List.getElem?_drop, Nat.add_zero] at h0
      exact h0
    have hlen : (gsOf E nt ops).length = ops.toList.length := by simp [gsOf]
    have hj : j < ops.toList.length := by rw [← hlen]; exact (List.getElem?_eq_some_iff.1 hg).1
    have ho : ops.toList[j]? = some ops.toList[j] := List.getElem?_eq_getElem hj
    have hok : GIOk E nt ops.toList ops.toList[j] g := map_get hE nt ops.toList j _ g ho hg
    have hdrop : ops.toList.drop j = ops.toList[j] :: ops.toList.drop (j + 1) := by
      rw [List.drop_eq_getElem_cons hj]
    rw [hdrop]
    have harr : ops.toList.toArray = ops := by simp
    refine wpList_step (fun N hN => ?_)
    have after : ∀ v h' c' a' w', R v h' c' → Post B nt ρ w a.defers (putX d v (trS nt σ)) h' c' a' w' → N a' w' := by
      rintro v h' c' a' w' hR ⟨dd, ρ', p1, p2, p3, p4, p5⟩
      exact hN _ _ (hn v h' c' hR B ρ' a' w' (SRel.of_tr p1 hl) p4 p3 (Nat.le_trans h4 p5.size) h5 (hE.keep h5 h6 p5) ρ0 w0 ds (h7.trans (Keeps.of_le h7.le p2)) (h8.trans p5) (dd.trans h9))
    rw [hgs] at hc
    cases g with
    | ins i =>
      obtain ⟨hgd, hi⟩ := hok
      rw [if_pos (by simp only [Region.wanted]; rw [hgd])]
      exact xcall_wp hi hc hx h1.tr h2 h3 h4 h5 h6 after
    | g p want d1 i =>
      obtain ⟨j1, dj, q1, q2, q3, q4, q5, q6⟩ := hok
      subst q4
      simp only [callee] at hc
      cases hw : wantB ((trS nt σ).get (path 12 dj)) want with
      | none => rw [hw] at hc; cases hc
      | some r =>
        rw [hw] at hc
        have hwd := wanted_of h1.tr q1 q2 q3 hw
        rw [harr] at hwd
        cases r with
        | true =>
          rw [if_pos hwd]
          exact xcall_wp q6 hc hx h1.tr h2 h3 h4 h5 h6 after
        | false => cases hc
    | bad => cases hc

#print axioms XR.call
end Go.Xm
