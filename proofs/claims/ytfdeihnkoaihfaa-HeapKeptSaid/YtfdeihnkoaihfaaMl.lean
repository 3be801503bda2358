/- The abstract machine, part 12: regions that draw, walked at a state that is known in part; blocks under other numbers. -/
import Derived.Test.YtfdeihnkoaihfaaMk
namespace Go.Xm
open Go.RowKit

/-! ### Regions that draw: operations that only read -/
def XU (E : Env) (nt : Nat) (ops : Array Oper) (j : Nat) (σ : St) (h : Heap) (c : Nat) (Q : St → Prop) : Prop :=
  ∀ (ρ : Rho) (a : Act) (w : World) (B : Nat), SRel ρ nt σ a → HRel B ρ h w → ρ.length = c → E.G ≤ w.heap.size → E.inv w →
    ∀ ds : List Deferred, a.defers = ds → wpQuiet E.P ops (fun w' => Below w.heap.size w w') (fun a' => ∃ σ', a'.defers = ds ∧ SRel ρ nt σ' a' ∧ Q σ') (ops.toList.drop j) a

theorem wpQuiet_mono {P : Program} {all : Array Oper} {C : World → Prop} {Q Q' : Act → Prop} (hQ : ∀ a, Q a → Q' a) : ∀ (l : List Oper) (a : Act), wpQuiet P all C Q l a → wpQuiet P all C Q' l a
  | [], a, h => hQ a h
  | o :: l, a, h => by
    unfold wpQuiet at h ⊢
    split at h
    · rename_i hw
      rw [if_pos hw]
      exact Oper.quiet_mono (fun a h => wpQuiet_mono hQ l a h) h
    · rename_i hw
      rw [if_neg hw]
      exact wpQuiet_mono hQ l _ h

theorem XQ.quiet {E : Env} (hE : E.Ok) {nt k : Nat} {code : Code} (hs : drawOf code = some true) (hlex : Region.lexB .any (opsOf code) = true) {σ : St} {h : Heap} {c : Nat} {Q : QP}
    (hx : XU E nt (opsOf code) 0 σ h c (fun σ' => Q .normal σ' h c)) : XQ E nt k code σ h c Q := by
  cases code with
  | region id ops d =>
    cases hs
    intro B ρ a w h1 h2 h3 h4 h5 h6 h7
    have hb := drew_below w
    have hhd : HRel B ρ h w.drew := h2.keepB hb
    have hId : E.inv w.drew := hE.keep (Nat.le_trans h5 h4) h6 hb
    refine wp_region_quiet (C := fun w' => Below w.drew.heap.size w.drew w') hE.mixed hlex (Below.refl _ _) ?_
    refine wpQuiet_mono ?_ _ _ (hx ρ a w.drew B h1 hhd h3 (Nat.le_trans h5 h4) hId a.defers rfl)
    rintro a' ⟨σ', d1, s1, q1⟩ w' hw'
    exact ⟨.normal, σ', h, c, ρ, rfl, d1, s1, hhd.keepB hw', h3, ⟨h7, fun _ _ => rfl⟩, (Below.refl B w).drew.trans (hw'.mono h4), q1⟩
  | _ => cases hs

theorem XU.done {E : Env} {nt : Nat} {ops : Array Oper} {j : Nat} (hj : Nat.ble ops.size j = true) {σ : St} {h : Heap} {c : Nat} {Q : St → Prop} (hq : Q σ) : XU E nt ops j σ h c Q := by
  intro ρ a w B h1 h2 h3 h4 h5 ds h6
  have : ops.toList.drop j = [] := List.drop_eq_nil_of_le (by simpa using hj)
  rw [this]
  exact wpQuiet_nil ⟨σ, h6, h1, hq⟩

noncomputable def obsT (live : List Nat) (r : Option Tr) : Option St := Option.casesOn r none (fun t => some (readS t live))

theorem XU.step {E : Env} (hE : E.Ok) {call : CallQ} {h : Heap} {c : Nat} (hcall : CallQOk E h c call) {nt : Nat} {ops : Array Oper} {j : Nat} (m : Nat) (live : List Nat) {σ σ' : St} {Q : St → Prop} (hl : live.all (fun i => Nat.blt i nt) = true)
    (hr : obsT live (qops call (((gsOf E nt ops).drop j).take m) h (trS nt σ)) = some σ') (hx : XU E nt ops (j + m) σ' h c Q) : XU E nt ops j σ h c Q := by
  intro ρ a w B h1 h2 h3 h4 h5 ds h6
  cases hx0 : qops call (((gsOf E nt ops).drop j).take m) h (trS nt σ) with
  | none => rw [hx0] at hr; cases hr
  | some t2 =>
    rw [hx0] at hr
    cases hr
    obtain ⟨s1, s2⟩ := sub_ok hE nt ops j m
    have hlist : ops.toList.drop j = (ops.toList.drop j).take m ++ ops.toList.drop (j + m) := by
      rw [← List.drop_drop, List.take_append_drop]
    have harr : ops.toList.toArray = ops := by simp
    rw [hlist]
    have key := qops_pre hcall (all := ops.toList) (Q := fun a' => ∃ σ', a'.defers = ds ∧ SRel ρ nt σ' a' ∧ Q σ') h2 h3 h4 h5 (ops.toList.drop (j + m)) _ _ s1 s2 _ t2 hx0 a h1.tr ?_
    · rw [harr] at key; exact key
    · intro a' d1 r1
      rw [harr]
      exact hx ρ a' w B (SRel.of_tr r1 hl) h2 h3 h4 h5 ds (d1.trans h6)

theorem XU.run {E : Env} (hE : E.Ok) (n : Nat) {nt : Nat} {ops : Array Oper} {j : Nat} (m : Nat) (live : List Nat) {σ σ' : St} {h : Heap} {c : Nat} {Q : St → Prop} (hl : live.all (fun i => Nat.blt i nt) = true)
    (hr : obsT live (qops (callQ E (exec E n) h c) (((gsOf E nt ops).drop j).take m) h (trS nt σ)) = some σ') (hx : XU E nt ops (j + m) σ' h c Q) : XU E nt ops j σ h c Q :=
  XU.step hE (callQ_ok hE (exec_ok hE n).1) m live hl hr hx

/-! ### Regions that draw: reads first, then one operation behind the other -/
def XS (E : Env) (nt k : Nat) (ops : Array Oper) (m j : Nat) (σ : St) (h : Heap) (c : Nat) (Q : QP) : Prop :=
  ∀ (B : Nat) (ρ : Rho) (a : Act) (w : World), SRel ρ nt σ a → HRel B ρ h w → ρ.length = c → B ≤ w.heap.size → E.G ≤ B → E.inv w →
    ∀ (ρ0 : Rho) (w0 : World) (ds : List Deferred), Keeps k ρ0 ρ → Below B w0 w → a.defers = ds →
      wpStill E.P ops w (fun a' => wpList E.P ops (After k B nt ρ0 w0 ds Q) (ops.toList.drop m) a' w) ((ops.toList.take m).drop j) a

theorem XQ.tail {E : Env} (hE : E.Ok) {nt k : Nat} {code : Code} (m : Nat) (hs : drawOf code = some true) (hlex : Region.lexTailB .any (opsOf code).toList.toArray m = true) {σ : St} {h : Heap} {c : Nat} {Q : QP}
    (hx : XS E nt k (opsOf code) m 0 σ h c Q) : XQ E nt k code σ h c Q := by
  cases code with
  | region id ops d =>
    cases hs
    intro B ρ a w h1 h2 h3 h4 h5 h6 h7
    have hb := drew_below w
    have hhd : HRel B ρ h w.drew := h2.keepB hb
    have hId : E.inv w.drew := hE.keep (Nat.le_trans h5 h4) h6 hb
    have hwp := wp_region_still_tail (P := E.P) (id := id) (Q := After k B nt ρ w a.defers Q) (a := a) (w := w) (l := ops.toList) m hE.mixed hlex ?_
    · simpa using hwp
    · have := hx B ρ a w.drew h1 hhd h3 h4 h5 hId ρ w a.defers ⟨h7, fun _ _ => rfl⟩ (Below.refl B w).drew rfl
      have harr : ops.toList.toArray = ops := by simp
      rw [harr]
      exact this
  | _ => cases hs

theorem XS.done {E : Env} {nt k : Nat} {ops : Array Oper} {m j : Nat} (hj : Nat.beq m j = true) {σ : St} {h : Heap} {c : Nat} {Q : QP} (hx : XR E nt k ops m σ h c Q) : XS E nt k ops m j σ h c Q := by
  intro B ρ a w h1 h2 h3 h4 h5 h6 ρ0 w0 ds h7 h8 h9
  have := Nat.eq_of_beq_eq_true hj
  subst this
  have : (ops.toList.take m).drop m = [] := List.drop_eq_nil_of_le (by simp; omega)
  rw [this]
  exact wpStill_nil (hx B ρ a w h1 h2 h3 h4 h5 h6 ρ0 w0 ds h7 h8 h9)

theorem XS.step {E : Env} (hE : E.Ok) {nt k : Nat} {ops : Array Oper} {m j : Nat} (i : Nat) (hi : Nat.ble (j + i) m = true) (live : List Nat) {σ σ' : St} {h : Heap} {c : Nat} {Q : QP} (hl : live.all (fun i => Nat.blt i nt) = true)
    (hr : obsT live (qops noCall (((gsOf E nt ops).drop j).take i) h (trS nt σ)) = some σ') (hx : XS E nt k ops m (j + i) σ' h c Q) : XS E nt k ops m j σ h c Q := by
  intro B ρ a w h1 h2 h3 h4 h5 h6 ρ0 w0 ds h7 h8 h9
  cases hx0 : qops noCall (((gsOf E nt ops).drop j).take i) h (trS nt σ) with
  | none => rw [hx0] at hr; cases hr
  | some t2 =>
    rw [hx0] at hr
    cases hr
    have hi := Nat.le_of_ble_eq_true hi
    obtain ⟨s1, s2⟩ := sub_ok hE nt ops j i
    have hlist : (ops.toList.take m).drop j = (ops.toList.drop j).take i ++ (ops.toList.take m).drop (j + i) := by
      have e1 : (ops.toList.drop j).take i = ((ops.toList.take m).drop j).take i := by
        rw [List.drop_take, List.take_take]
        congr 1
        omega
      rw [e1, ← List.drop_drop, List.take_append_drop]
    have harr : ops.toList.toArray = ops := by simp
    rw [hlist]
    have key := qops_still_pre (all := ops.toList) (Q := fun a' => wpList E.P ops (After k B nt ρ0 w0 ds Q) (ops.toList.drop m) a' w) h2 ((ops.toList.take m).drop (j + i)) _ _ s1 s2 _ t2 hx0 a h1.tr ?_
    · rw [harr] at key; exact key
    · intro a' d1 r1
      rw [harr]
      exact hx B ρ a' w (SRel.of_tr r1 hl) h2 h3 h4 h5 h6 ρ0 w0 ds h7 h8 (d1.trans h9)

/-! ### Blocks under other numbers -/
def ren0 (s : List Nat) (v : Value) : Value :=
  match v with
  | .pointer (some ⟨i, o, p⟩) => match s[i]? with
    | some j => .pointer (some ⟨j, o, p⟩)
    | none => .chan (some 1)
  | .slice (some ⟨i, o, p⟩) l c => match s[i]? with
    | some j => .slice (some ⟨j, o, p⟩) l c
    | none => .chan (some 1)
  | .map (some i) => match s[i]? with
    | some j => .map (some j)
    | none => .chan (some 1)
  | .func fn f c => match f.toList.all plain && c.toList.all plain with
    | true => .func fn f c
    | false => .chan (some 1)
  | .agg cs => match cs.toList.all scal with
    | true => .agg cs
    | false => .chan (some 1)
  | .tuple cs => match cs.toList.all scal with
    | true => .tuple cs
    | false => .chan (some 1)
  | .iface _ _ => .chan (some 1)
  | v => v

/-- A value under other numbers: at its top, or in what a closure holds, or in the fields of a struct. -/
def renV (s : List Nat) (v : Value) : Value :=
  match v with
  | .func fn f c => .func fn ⟨f.toList.map (ren0 s)⟩ ⟨c.toList.map (ren0 s)⟩
  | .agg cs => .agg ⟨cs.toList.map (ren0 s)⟩
  | .tuple cs => .tuple ⟨cs.toList.map (ren0 s)⟩
  | v => ren0 s v

/-- The locations under other numbers. -/
def renR (s : List Nat) (ρ : Rho) : Rho := s.map (fun j => ρ.getD j ⟨0, 0, 0, 0⟩)

theorem renR_at {s : List Nat} {ρ : Rho} {i j : Nat} {L : Loc} (h : s[i]? = some j) (hL : ρ[j]? = some L) : (renR s ρ)[i]? = some L := by
  simp [renR, List.getElem?_map, h, List.getD_eq_getElem?_getD, hL]

theorem VRel.ren0 {s : List Nat} {ρ : Rho} {v u : Value} (h : VRel ρ (ren0 s v) u) : VRel (renR s ρ) v u := by
  cases v with
  | pointer p =>
    cases p with
    | none => cases h; exact .pnil
    | some a =>
      obtain ⟨i, o, sp⟩ := a
      simp only [Xm.ren0] at h
      split at h
      · rename_i j hj
        cases h with
        | ptr _ _ L hL => exact .ptr i o L (renR_at hj hL)
      · cases h
  | slice p l c =>
    cases p with
    | none => cases h; exact .snil
    | some a =>
      obtain ⟨i, o, sp⟩ := a
      simp only [Xm.ren0] at h
      split at h
      · rename_i j hj
        cases h with
        | slice _ _ _ _ L o' cap' hL hz h0 h1 => exact .slice i o l c L o' cap' (renR_at hj hL) hz h0 h1
        | sliceN _ _ L hL hes => exact .sliceN i o L (renR_at hj hL) hes
        | zslice _ _ k a hk => exact .zslice i o k a hk
      · cases h
  | map r =>
    cases r with
    | none => cases h; exact .mnil
    | some i =>
      simp only [Xm.ren0] at h
      split at h
      · rename_i j hj
        cases h with
        | map _ L hL => exact .map i L (renR_at hj hL)
      · cases h
  | func fn f c =>
    simp only [Xm.ren0] at h
    split at h
    · rename_i hp
      simp only [Bool.and_eq_true] at hp
      cases h with
      | func _ _ f' _ c' hf hc h1 h2 =>
        refine .func fn f f' c c' hf hc (fun i v v' e1 e2 => ?_) (fun i v v' e1 e2 => ?_)
        · have hv := List.all_eq_true.1 hp.1 v (Array.mem_toList_iff.2 (Array.mem_of_getElem? e1))
          rw [(h1 i v v' e1 e2).plain_eq hv]
          exact VRel.plain_refl _ hv
        · have hv := List.all_eq_true.1 hp.2 v (Array.mem_toList_iff.2 (Array.mem_of_getElem? e1))
          rw [(h2 i v v' e1 e2).plain_eq hv]
          exact VRel.plain_refl _ hv
    · cases h
  | agg cs =>
    simp only [Xm.ren0] at h
    split at h
    · rename_i hp
      cases h with
      | agg _ c' hc h1 =>
        refine .agg cs c' hc (fun i v v' e1 e2 => ?_)
        have hv := List.all_eq_true.1 hp v (Array.mem_toList_iff.2 (Array.mem_of_getElem? e1))
        rw [(h1 i v v' e1 e2).scal_eq hv]
        exact VRel.scal_refl _ hv
    · cases h
  | tuple cs =>
    simp only [Xm.ren0] at h
    split at h
    · rename_i hp
      cases h with
      | tuple _ c' hc h1 =>
        refine .tuple cs c' hc (fun i v v' e1 e2 => ?_)
        have hv := List.all_eq_true.1 hp v (Array.mem_toList_iff.2 (Array.mem_of_getElem? e1))
        rw [(h1 i v v' e1 e2).scal_eq hv]
        exact VRel.scal_refl _ hv
    · cases h
  | iface t v => cases h
  | chan x =>
    have h' : VRel ρ (.chan x) u := h
    cases h'
    exact .poison _
  | bool b => cases h; exact .bool b
  | int k n => cases h; exact .int k n
  | string b => cases h; exact .string b
  | nilFunc => cases h; exact .fnil
  | nilIface => cases h; exact .inil
  | _ => cases h

theorem arr_ren {s : List Nat} {ρ : Rho} {f f' : Array Value} (hs : (⟨f.toList.map (ren0 s)⟩ : Array Value).size = f'.size) (h : ∀ (i : Nat) (v v' : Value), (⟨f.toList.map (ren0 s)⟩ : Array Value)[i]? = some v → f'[i]? = some v' → VRel ρ v v') :
    f.size = f'.size ∧ ∀ (i : Nat) (v v' : Value), f[i]? = some v → f'[i]? = some v' → VRel (renR s ρ) v v' := by
  refine ⟨by simpa using hs, fun i v v' h1 h2 => VRel.ren0 (h i (ren0 s v) v' ?_ h2)⟩
  simp [h1]

theorem VRel.renV {s : List Nat} {ρ : Rho} {v u : Value} (h : VRel ρ (renV s v) u) : VRel (renR s ρ) v u := by
  cases v with
  | func fn f c =>
    have h' : VRel ρ (.func fn ⟨f.toList.map (Xm.ren0 s)⟩ ⟨c.toList.map (Xm.ren0 s)⟩) u := h
    cases h' with
    | func _ _ f' _ c' hf hc h1 h2 =>
      obtain ⟨a1, a2⟩ := arr_ren hf h1
      obtain ⟨b1, b2⟩ := arr_ren hc h2
      exact .func fn f f' c c' a1 b1 a2 b2
  | agg cs =>
    have h' : VRel ρ (.agg ⟨cs.toList.map (Xm.ren0 s)⟩) u := h
    cases h' with
    | agg _ c' hc h1 =>
      obtain ⟨a1, a2⟩ := arr_ren hc h1
      exact .agg cs c' a1 a2
  | tuple cs =>
    have h' : VRel ρ (.tuple ⟨cs.toList.map (Xm.ren0 s)⟩) u := h
    cases h' with
    | tuple _ c' hc h1 =>
      obtain ⟨a1, a2⟩ := arr_ren hc h1
      exact .tuple cs c' a1 a2
  | _ => exact VRel.ren0 h

/-- One object for another: the same, and it holds scalars; or its cells under other numbers. -/
def ObjRen (s : List Nat) (o' o : XObj) : Prop :=
  (o = o' ∧ (match o' with | .cells cs _ _ _ => cs.all scal = true | .iter _ _ => True | .imap _ => True | .was _ _ _ _ _ => False)) ∨ ∃ cs fz e es, o' = .cells cs fz e es ∧ o = .cells (cs.map (renV s)) fz e es

theorem OOk.ren {s : List Nat} {ρ : Rho} {w : World} {L : Loc} {o o' : XObj} (h : OOk ρ w L o) (hr : ObjRen s o' o) : OOk (renR s ρ) w L o' := by
  rcases hr with ⟨rfl, hs⟩ | ⟨cs, fz, e, es, rfl, rfl⟩
  · cases o with
    | iter s pos => exact h
    | imap es => exact h
    | was cs j fz e es => exact hs.elim
    | cells cs fz e es =>
      obtain ⟨h0, hg | ⟨C, fr, h1, h2, h3, h4, h5⟩⟩ := h
      · exact ⟨h0, .inl hg⟩
      refine ⟨h0, .inr ⟨C, fr, h1, h2, h3, fun i v hi => ?_, h5⟩⟩
      obtain ⟨v', a, b⟩ := h4 i v hi
      have hv := List.all_eq_true.1 hs v (List.mem_of_getElem? hi)
      refine ⟨v', a, ?_⟩
      rw [b.scal_eq hv]
      exact VRel.scal_refl _ hv
  · obtain ⟨h0, hg | ⟨C, fr, h1, h2, h3, h4, h5⟩⟩ := h
    · exact ⟨h0, .inl ⟨hg.1, by simpa using hg.2⟩⟩
    refine ⟨h0, .inr ⟨C, fr, h1, h2, by simpa using h3, fun i v hi => ?_, by simpa using h5⟩⟩
    obtain ⟨v', a, b⟩ := h4 i (renV s v) (by simp [hi])
    exact ⟨v', a, b.renV⟩

theorem ObjRen.own {s : List Nat} {o o' : XObj} (h : ObjRen s o' o) (ρ : Rho) (L : Loc) : Xm.own ρ L o := by
  rcases h with ⟨rfl, hs⟩ | ⟨cs, fz, e, es, rfl, rfl⟩
  · cases o with
    | was cs j fz e es => exact hs.elim
    | _ => trivial
  · trivial

theorem ObjRen.frz {s : List Nat} {o o' : XObj} (h : ObjRen s o' o) : Xm.frz o' = Xm.frz o := by
  rcases h with ⟨rfl, _⟩ | ⟨cs, fz, e, es, rfl, rfl⟩
  · rfl
  · simp only [Xm.frz, List.length_map]

def RenH (s : List Nat) (h : Heap) : Heap → Prop
  | [] => True
  | (i, o') :: l => (∃ j o, s[i]? = some j ∧ hget h j = some o ∧ ObjRen s o' o) ∧ RenH s h l

theorem RenH.get {s : List Nat} {h : Heap} : ∀ {h' : Heap}, RenH s h h' → ∀ {i : Nat} {o' : XObj}, hget h' i = some o' → ∃ j o, s[i]? = some j ∧ hget h j = some o ∧ ObjRen s o' o
  | [], _, i, o', hi => by cases hi
  | (i0, o0) :: l, hr, i, o', hi => by
    have h0 : hget ((i0, o0) :: l) i = Bool.casesOn (Nat.beq i0 i) (hget l i) (some o0) := rfl
    rw [h0] at hi
    cases hb : Nat.beq i0 i with
    | true =>
      rw [hb] at hi
      have := Nat.eq_of_beq_eq_true hb
      subst this
      cases hi
      exact hr.1
    | false =>
      rw [hb] at hi
      exact RenH.get hr.2 hi

theorem nodup_inj {s : List Nat} (hn : s.Nodup) {i j a : Nat} (h1 : s[i]? = some a) (h2 : s[j]? = some a) : i = j := by
  have hi := (List.getElem?_eq_some_iff.1 h1).1
  exact (List.getElem?_inj hi hn).1 (h1.trans h2.symm)

theorem HRel.ren {B : Nat} {s : List Nat} {ρ : Rho} {h h' : Heap} {w : World} (H : HRel B ρ h w) (hn : s.Nodup) (hr : RenH s h h') : HRel B (renR s ρ) h' w := by
  refine ⟨fun i o' hi => ?_, fun i j o o' L L' h1 h2 h3 h4 n1 n2 _ _ hz hb => ?_⟩
  · obtain ⟨a, o, q1, q2, q3⟩ := hr.get hi
    obtain ⟨L, p1, p2, p3⟩ := H.ok a o q2
    exact ⟨L, renR_at q1 p1, fun q => p2 (by rw [← q3.frz]; exact q), p3.ren q3⟩
  · obtain ⟨a, u, q1, q2, q3⟩ := hr.get h1
    obtain ⟨b, u', r1, r2, r3⟩ := hr.get h2
    obtain ⟨La, p1, _, _⟩ := H.ok a u q2
    obtain ⟨Lb, p2, _, _⟩ := H.ok b u' r2
    have e1 := renR_at q1 p1
    have e2 := renR_at r1 p2
    rw [h3] at e1
    rw [h4] at e2
    cases e1
    cases e2
    have := H.inj a b u u' L L' q2 r2 p1 p2 n1 n2 (q3.own ρ L) (r3.own ρ L') (hz.imp (fun q => by rw [← q3.frz]; exact q) (fun q => by rw [← r3.frz]; exact q)) hb
    subst this
    exact nodup_inj hn q1 r1

noncomputable def lookS (σ : St) (i : Nat) : Option Value := List.rec none (fun p _ ih => Bool.casesOn (Nat.beq p.1 i) ih (some p.2)) σ

theorem lookS_mem : ∀ {σ : St} {i : Nat} {v : Value}, lookS σ i = some v → (i, v) ∈ σ
  | [], i, v, h => by cases h
  | (j, u) :: σ, i, v, h => by
    have h0 : lookS ((j, u) :: σ) i = Bool.casesOn (Nat.beq j i) (lookS σ i) (some u) := rfl
    rw [h0] at h
    cases hb : Nat.beq j i with
    | true =>
      rw [hb] at h
      have := Nat.eq_of_beq_eq_true hb
      subst this
      cases h
      exact List.mem_cons_self ..
    | false =>
      rw [hb] at h
      exact List.mem_cons_of_mem _ (lookS_mem h)

def SubS (s : List Nat) (σ : St) : St → Prop
  | [] => True
  | (i, v) :: l => lookS σ i = some (renV s v) ∧ SubS s σ l

theorem SubS.mem {s : List Nat} {σ : St} : ∀ {σ' : St}, SubS s σ σ' → ∀ {i : Nat} {v : Value}, (i, v) ∈ σ' → (i, renV s v) ∈ σ
  | [], _, _, _, hm => by cases hm
  | (_, _) :: _, hs, _, _, hm => by
    rcases List.mem_cons.1 hm with e | e
    · cases e; exact lookS_mem hs.1
    · exact SubS.mem hs.2 e

theorem SRel.ren {s : List Nat} {ρ : Rho} {nt : Nat} {σ σ' : St} {a : Act} (h : SRel ρ nt σ a) (hs : SubS s σ σ') : SRel (renR s ρ) nt σ' a :=
  ⟨h.1, h.2.1, fun i _ hm => ⟨(h.2.2 i _ (hs.mem hm)).1, (h.2.2 i _ (hs.mem hm)).2.renV⟩⟩

theorem Keeps.ren {s : List Nat} {k : Nat} {ρ : Rho} (hk : k ≤ ρ.length) (hs : s.take k = List.range k) : Keeps k ρ (renR s ρ) := by
  refine ⟨hk, fun i hi => ?_⟩
  have h1 : s[i]? = some i := by
    have h2 : (s.take k)[i]? = some i := by rw [hs]; simp [hi]
    rw [List.getElem?_take, if_pos hi] at h2
    exact h2
  have h2 : ρ[i]? = some ρ[i] := List.getElem?_eq_getElem (by omega)
  rw [h2]
  exact renR_at h1 h2

theorem XQ.ren {E : Env} {nt k : Nat} {code : Code} (s : List Nat) (hn : s.Nodup) (hk : s.take k = List.range k) {σ σ' : St} {h h' : Heap} {c c' : Nat} {Q : QP} (hσ : SubS s σ σ') (hh : RenH s h h') (hc : s.length = c')
    (hx : XQ E nt k code σ' h' c' Q) : XQ E nt k code σ h c Q := by
  intro B ρ a w h1 h2 h3 h4 h5 h6 h7
  have hK := Keeps.ren h7 hk
  exact wp_mono (hx B (renR s ρ) a w (h1.ren hσ) (h2.ren hn hh) (by simpa [renR] using hc) h4 h5 h6 hK.le) (fun e a' w' hA => hA.trans hK (Below.refl B w))

theorem XL.ren {E : Env} {nt k n : Nat} {code : Code} (s : List Nat) (hn : s.Nodup) (hk : s.take k = List.range k) {σ σ' : St} {h h' : Heap} {c c' : Nat} {Q : QP} (hσ : SubS s σ σ') (hh : RenH s h h') (hc : s.length = c')
    (hx : XL E nt k n code σ' h' c' Q) : XL E nt k n code σ h c Q := by
  intro B ρ a w h1 h2 h3 h4 h5 h6 h7
  have hK := Keeps.ren h7 hk
  exact rounds_mono (fun e a' w' hA => hA.trans hK (Below.refl B w)) n a w (hx B (renR s ρ) a w (h1.ren hσ) (h2.ren hn hh) (by simpa [renR] using hc) h4 h5 h6 hK.le)

/-! ### One operation, by an equation -/
noncomputable def insV (i : Ins) (t : Tr) (h : Heap) : Option Value :=
  match i with
  | .rd _ f => f t h
  | _ => none

noncomputable def insE (i : Ins) (t : Tr) (h : Heap) (c : Nat) : Option (Value × Heap × Nat) :=
  match i with
  | .ef _ f => f t h c
  | _ => none

noncomputable def insD (i : Ins) : Option (List Bool) :=
  match i with
  | .rd d _ => d
  | .ef d _ => d
  | .call d _ _ => d
  | .bad => none

/-- The instruction that comes next, if it is wanted. -/
noncomputable def headI (gs : List GI) (t : Tr) : Ins :=
  match gs with
  | .ins i :: _ => i
  | .g p want _ i :: _ => match wantB (t.get p) want with
    | some true => i
    | _ => .bad
  | _ => .bad

theorem take_one {l : List GI} {g : GI} {gs : List GI} (h : l = g :: gs) : l.take 1 = [g] := by rw [h]; rfl

theorem xops_rd {call : CallF} {gs : List GI} {t : Tr} {h : Heap} {c : Nat} {v : Value} (hv : insV (headI gs t) t h = some v) : xops call (gs.take 1) t h c = .some (putX (insD (headI gs t)) v t) h c := by
  cases gs with
  | nil => cases hv
  | cons g gs =>
    cases g with
    | bad => cases hv
    | ins i =>
      have hv' : insV i t h = some v := hv
      cases i with
      | rd d f =>
        have h0 : xops call ([GI.ins (.rd d f)]) t h c = Os.casesOn (motive := fun _ => Os) (Option.casesOn (motive := fun _ => Os) (f t h) .none (fun v => .some (putX d v t) h c)) .none (xops call []) := rfl
        have hf : f t h = some v := hv'
        show xops call ([GI.ins (.rd d f)]) t h c = _
        rw [h0, hf]
        rfl
      | _ => cases hv'
    | g p want d0 i =>
      cases hw : wantB (t.get p) want with
      | none => simp only [headI, hw] at hv; cases hv
      | some b =>
        cases b with
        | false => simp only [headI, hw] at hv; cases hv
        | true =>
          have hi : headI (.g p want d0 i :: gs) t = i := by simp only [headI, hw]
          rw [hi] at hv ⊢
          cases i with
          | rd d f =>
            have h0 : xops call ([GI.g p want d0 (.rd d f)]) t h c = Os.casesOn (motive := fun _ => Os) (Option.casesOn (motive := fun _ => Os) (wantB (t.get p) want) .none (fun b => Bool.casesOn b (.some (putX d0 undef t) h c) (Option.casesOn (f t h) .none (fun v => .some (putX d v t) h c)))) .none (xops call []) := rfl
            have hf : f t h = some v := hv
            show xops call ([GI.g p want d0 (.rd d f)]) t h c = _
            rw [h0, hw, hf]
            rfl
          | _ => cases hv

theorem xops_ef {call : CallF} {gs : List GI} {t : Tr} {h h' : Heap} {c c' : Nat} {v : Value} (hv : insE (headI gs t) t h c = some (v, h', c')) : xops call (gs.take 1) t h c = .some (putX (insD (headI gs t)) v t) h' c' := by
  cases gs with
  | nil => cases hv
  | cons g gs =>
    cases g with
    | bad => cases hv
    | ins i =>
      have hv' : insE i t h c = some (v, h', c') := hv
      cases i with
      | ef d f =>
        have h0 : xops call ([GI.ins (.ef d f)]) t h c = Os.casesOn (motive := fun _ => Os) (Option.casesOn (motive := fun _ => Os) (f t h c) .none (fun r => .some (putX d r.1 t) r.2.1 r.2.2)) .none (xops call []) := rfl
        have hf : f t h c = some (v, h', c') := hv'
        show xops call ([GI.ins (.ef d f)]) t h c = _
        rw [h0, hf]
        rfl
      | _ => cases hv'
    | g p want d0 i =>
      cases hw : wantB (t.get p) want with
      | none => simp only [headI, hw] at hv; cases hv
      | some b =>
        cases b with
        | false => simp only [headI, hw] at hv; cases hv
        | true =>
          have hi : headI (.g p want d0 i :: gs) t = i := by simp only [headI, hw]
          rw [hi] at hv ⊢
          cases i with
          | ef d f =>
            have h0 : xops call ([GI.g p want d0 (.ef d f)]) t h c = Os.casesOn (motive := fun _ => Os) (Option.casesOn (motive := fun _ => Os) (wantB (t.get p) want) .none (fun b => Bool.casesOn b (.some (putX d0 undef t) h c) (Option.casesOn (f t h c) .none (fun r => .some (putX d r.1 t) r.2.1 r.2.2)))) .none (xops call []) := rfl
            have hf : f t h c = some (v, h', c') := hv
            show xops call ([GI.g p want d0 (.ef d f)]) t h c = _
            rw [h0, hw, hf]
            rfl
          | _ => cases hv

/-- One operation that reads, by an equation. -/
theorem XR.rd {E : Env} (hE : E.Ok) {nt k : Nat} {ops : Array Oper} {j : Nat} (live : List Nat) {σ σ' : St} {h : Heap} {c : Nat} {v : Value} {Q : QP} (hl : live.all (fun i => Nat.blt i nt) = true)
    (hv : insV (headI ((gsOf E nt ops).drop j) (trS nt σ)) (trS nt σ) h = some v) (hσ : readS (putX (insD (headI ((gsOf E nt ops).drop j) (trS nt σ))) v (trS nt σ)) live = σ')
    (hx : XR E nt k ops (j + 1) σ' h c Q) : XR E nt k ops j σ h c Q := by
  refine XR.step hE (callF_ok hE (exec_ok hE 0).1) 1 live (σ' := σ') (h' := h) (c' := c) hl ?_ hx
  rw [xops_rd hv, ← hσ]
  rfl

/-- One operation that writes, by an equation. -/
theorem XR.ef {E : Env} (hE : E.Ok) {nt k : Nat} {ops : Array Oper} {j : Nat} (live : List Nat) {σ σ' : St} {h h' : Heap} {c c' : Nat} {v : Value} {Q : QP} (hl : live.all (fun i => Nat.blt i nt) = true)
    (hv : insE (headI ((gsOf E nt ops).drop j) (trS nt σ)) (trS nt σ) h c = some (v, h', c')) (hσ : readS (putX (insD (headI ((gsOf E nt ops).drop j) (trS nt σ))) v (trS nt σ)) live = σ')
    (hx : XR E nt k ops (j + 1) σ' h' c' Q) : XR E nt k ops j σ h c Q := by
  refine XR.step hE (callF_ok hE (exec_ok hE 0).1) 1 live (σ' := σ') (h' := h') (c' := c') hl ?_ hx
  rw [xops_ef hv, ← hσ]
  rfl

end Go.Xm
