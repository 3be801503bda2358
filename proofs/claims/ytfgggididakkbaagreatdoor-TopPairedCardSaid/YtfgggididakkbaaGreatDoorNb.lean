/- The abstract machine, more: 'range' over a map, in a loop whose rounds only read, and which no round leaves. -/
import Derived.Test.YtfgggididakkbaaGreatDoorNa
import Derived.Maps.RangeRun
namespace Go.Xm
open Go.RowKit
set_option linter.unusedVariables false
set_option linter.unusedSimpArgs false

/-! ### Operations that only read, one behind the other -/
def XW (E : Env) (nt : Nat) (ops : Array Oper) (j : Nat) (σ : St) (h : Heap) (c : Nat) (Q : St → Prop) : Prop :=
  ∀ (B : Bd) (ρ : Rho) (a : Act) (w : World), SRel ρ nt σ a → HRel B ρ h w → ρ.length = c → E.G ≤ w.heap.size → E.inv w →
    ∀ ds : List Deferred, a.defers = ds → wpStill E.P ops w (fun a' => ∃ σ', a'.defers = ds ∧ SRel ρ nt σ' a' ∧ Q σ') (ops.toList.drop j) a

theorem XW.done {E : Env} {nt : Nat} {ops : Array Oper} {j : Nat} (hj : Nat.ble ops.size j = true) {σ : St} {h : Heap} {c : Nat} {Q : St → Prop} (hq : Q σ) : XW E nt ops j σ h c Q := by
  intro B ρ a w h1 h2 h3 g1 g2 ds h6
  have : ops.toList.drop j = [] := List.drop_eq_nil_of_le (by simpa using hj)
  rw [this]
  exact wpStill_nil ⟨σ, h6, h1, hq⟩

theorem XW.step {E : Env} (hE : E.Ok) {nt : Nat} {ops : Array Oper} {j : Nat} (m : Nat) (live : List Nat) {σ σ' : St} {h : Heap} {c : Nat} {Q : St → Prop} (hl : live.all (fun i => Nat.blt i nt) = true)
    (hr : obsT live (qops noCall (((gsOf E nt ops).drop j).take m) h (trS nt σ)) = some σ') (hx : XW E nt ops (j + m) σ' h c Q) : XW E nt ops j σ h c Q := by
  intro B ρ a w h1 h2 h3 g1 g2 ds h9
  cases hx0 : qops noCall (((gsOf E nt ops).drop j).take m) h (trS nt σ) with
  | none => rw [hx0] at hr; cases hr
  | some t2 =>
    rw [hx0] at hr
    cases hr
    obtain ⟨s1, s2⟩ := sub_ok hE nt ops j m
    have hlist : ops.toList.drop j = (ops.toList.drop j).take m ++ ops.toList.drop (j + m) := by
      rw [← List.drop_drop, List.take_append_drop]
    have harr : ops.toList.toArray = ops := by simp
    rw [hlist]
    have key := qops_still_pre (all := ops.toList) (Q := fun a' => ∃ σ', a'.defers = ds ∧ SRel ρ nt σ' a' ∧ Q σ') h2 g1 g2 (ops.toList.drop (j + m)) _ _ s1 s2 _ t2 hx0 a h1.tr ?_
    · rw [harr] at key; exact key
    · intro a' d1 r1
      rw [harr]
      exact hx B ρ a' w (SRel.of_tr r1 hl) h2 h3 g1 g2 ds (d1.trans h9)

theorem XW.rd {E : Env} (hE : E.Ok) {nt : Nat} {ops : Array Oper} {j : Nat} (live : List Nat) {σ σ' : St} {h : Heap} {c : Nat} {v : Value} {Q : St → Prop} (hl : live.all (fun i => Nat.blt i nt) = true)
    (hv : insV (headI ((gsOf E nt ops).drop j) (trS nt σ)) (trS nt σ) h = some v) (hσ : readS (putX (insD (headI ((gsOf E nt ops).drop j) (trS nt σ))) v (trS nt σ)) live = σ')
    (hx : XW E nt ops (j + 1) σ' h c Q) : XW E nt ops j σ h c Q := by
  refine XW.step hE 1 live (σ' := σ') hl ?_ hx
  rw [qops_rd hv, ← hσ]
  rfl

theorem wpList_still {P : Program} {ops : Array Oper} {w : World} {Q : Act → Prop} {Q' : Exit → Act → World → Prop} (hQ : ∀ a, Q a → Q' .normal a w) : ∀ (l : List Oper) (a : Act), wpStill P ops w Q l a → wpList P ops Q' l a w
  | [], a, h => hQ a h
  | o :: l, a, h => by
    unfold wpStill at h
    refine wpList_step (fun K hK => ?_)
    split at h
    · rename_i hw
      rw [if_pos hw]
      exact Oper.wp_of_still (fun a' ha' => hK _ _ (wpList_still hQ l a' ha')) h
    · rename_i hw
      rw [if_neg hw]
      exact hK _ _ (wpList_still hQ l _ h)

/-! ### Code that only reads -/
def XV (E : Env) (nt : Nat) (code : Code) (σ : St) (h : Heap) (c : Nat) (Q : Ex → St → Prop) : Prop :=
  ∀ (B : Bd) (ρ : Rho) (a : Act) (w : World), SRel ρ nt σ a → HRel B ρ h w → ρ.length = c → E.G ≤ w.heap.size → E.inv w →
    code.wp E.P (fun e' a' w' => w' = w ∧ a'.defers = a.defers ∧ ∃ e σ', e' = exO e ∧ SRel ρ nt σ' a' ∧ Q e σ') a w

theorem XV.skip {E : Env} {nt : Nat} {code : Code} (hs : isSkip code = true) {σ : St} {h : Heap} {c : Nat} {Q : Ex → St → Prop} (hq : Q .normal σ) : XV E nt code σ h c Q := by
  cases code with
  | skip =>
    intro B ρ a w h1 h2 h3 g1 g2
    exact wp_skip ⟨rfl, rfl, .normal, σ, rfl, h1, hq⟩
  | _ => cases hs

theorem XV.region {E : Env} {nt : Nat} {code : Code} (hs : drawOf code = some false) {σ : St} {h : Heap} {c : Nat} {Q : Ex → St → Prop} (hx : XW E nt (opsOf code) 0 σ h c (Q .normal)) : XV E nt code σ h c Q := by
  cases code with
  | region id ops d =>
    cases hs
    intro B ρ a w h1 h2 h3 g1 g2
    refine wp_region_list (wpList_still (fun a' ha' => ?_) _ _ (hx B ρ a w h1 h2 h3 g1 g2 a.defers rfl))
    obtain ⟨σ', d1, s1, q1⟩ := ha'
    exact ⟨rfl, d1, .normal, σ', rfl, s1, q1⟩
  | _ => cases hs

theorem XV.cond {E : Env} {nt : Nat} {code : Code} {s : Operand} (hs : condOf code = some s) {σ : St} {h : Heap} {c : Nat} {Q : Ex → St → Prop} {b : Bool} (hb : ev (trS nt σ) (src nt s) = .bool b)
    (ht : b = true → XV E nt (lft code) σ h c Q) (hf : b = false → XV E nt (rgt code) σ h c Q) : XV E nt code σ h c Q := by
  cases code with
  | cond s' x y =>
    cases hs
    intro B ρ a w h1 h2 h3 g1 g2
    have hv := src_ok h1.tr s
    rw [hb] at hv
    generalize e1 : a.eval s = v at hv
    cases hv
    cases b with
    | true => exact wp_cond e1 (ht rfl B ρ a w h1 h2 h3 g1 g2)
    | false => exact wp_cond e1 (hf rfl B ρ a w h1 h2 h3 g1 g2)
  | _ => cases hs

theorem XV.seq {E : Env} {nt : Nat} {code : Code} (hs : isSeq code = true) {σ : St} {h : Heap} {c : Nat} {Q : Ex → St → Prop}
    (hx : XV E nt (lft code) σ h c (fun e σ' => match e with | .normal => XV E nt (rgt code) σ' h c Q | e => Q e σ')) : XV E nt code σ h c Q := by
  cases code with
  | seq x y =>
    intro B ρ a w h1 h2 h3 g1 g2
    refine wp_seq (wp_mono (hx B ρ a w h1 h2 h3 g1 g2) ?_)
    rintro e' a1 w1 ⟨rfl, d1, e, σ', rfl, s1, q1⟩
    cases e with
    | normal =>
      refine wp_mono (q1 B ρ a1 w1 s1 h2 h3 g1 g2) ?_
      rintro e2 a2 w2 ⟨rfl, d2, e, σ2, rfl, s2, q2⟩
      exact ⟨rfl, d2.trans d1, e, σ2, rfl, s2, q2⟩
    | exit i => exact ⟨rfl, d1, .exit i, σ', rfl, s1, q1⟩
    | ret => exact ⟨rfl, d1, .ret, σ', rfl, s1, q1⟩
  | _ => cases hs

/-! ### The operations of a loop over a map -/
def rangeOp : List Oper → Option (Tmp × TypeId × Operand)
  | [o] => match o.guard, o.dst, o.op with
    | none, some d, .range t x => some (d, t, x)
    | _, _, _ => none
  | _ => none

def nextOp : List Oper → Option (Tmp × Operand)
  | o :: _ => match o.guard, o.dst, o.op with
    | none, some d, .next x false => some (d, x)
    | _, _, _ => none
  | _ => none

def entryOp : List Oper → Option (Tmp × Operand)
  | o :: _ => match o.guard, o.dst, o.op with
    | none, some d, .entry x => some (d, x)
    | _, _, _ => none
  | _ => none

theorem rangeOp_spec {l : List Oper} {d : Tmp} {t : TypeId} {x : Operand} (h : rangeOp l = some (d, t, x)) : ∃ o, l = [o] ∧ o.guard = none ∧ o.dst = some d ∧ o.op = .range t x := by
  unfold rangeOp at h
  split at h
  · split at h
    · cases h
      exact ⟨_, rfl, ‹_›, ‹_›, ‹_›⟩
    · cases h
  · cases h

theorem nextOp_spec {l : List Oper} {d : Tmp} {x : Operand} (h : nextOp l = some (d, x)) : ∃ o rest, l = o :: rest ∧ o.guard = none ∧ o.dst = some d ∧ o.op = .next x false := by
  unfold nextOp at h
  split at h
  · split at h
    · cases h
      exact ⟨_, _, rfl, ‹_›, ‹_›, ‹_›⟩
    · cases h
  · cases h

theorem entryOp_spec {l : List Oper} {d : Tmp} {x : Operand} (h : entryOp l = some (d, x)) : ∃ o rest, l = o :: rest ∧ o.guard = none ∧ o.dst = some d ∧ o.op = .entry x := by
  unfold entryOp at h
  split at h
  · split at h
    · cases h
      exact ⟨_, _, rfl, ‹_›, ‹_›, ‹_›⟩
    · cases h
  · cases h

theorem SRel.put {ρ : Rho} {nt : Nat} {σ : St} {a : Act} (h : SRel ρ nt σ a) {t : Nat} (ht : t < nt) {v v' : Value} (hv : VRel ρ v v') {σ' : St} (hs : ∀ i u, (i, u) ∈ σ' → i ≠ t ∧ (i, u) ∈ σ) : SRel ρ nt ((t, v) :: σ') (a.put (some t) v') := by
  have hsz : t < a.tmps.size := by rw [h.1]; exact ht
  refine ⟨by simp [Act.put, h.1], h.2.1, fun i u hm => ?_⟩
  rcases List.mem_cons.1 hm with e | e
  · cases e
    refine ⟨ht, ?_⟩
    have : (a.put (some t) v').tmps.getD t undef = v' := by simp [Act.put, hsz]
    rw [this]; exact hv
  · obtain ⟨n1, m1⟩ := hs i u e
    obtain ⟨q1, q2⟩ := h.2.2 i u m1
    refine ⟨q1, ?_⟩
    have : (a.put (some t) v').tmps.getD i undef = a.tmps.getD i undef := by
      simp only [Act.put, Array.getD_eq_getD_getElem?]
      rw [Array.getElem?_setIfInBounds_ne (Ne.symm n1)]
    rw [this]; exact q2

/-- These slots are others, and are known so. -/
def SubN (t : Nat) (σ : St) : St → Prop
  | [] => True
  | (i, v) :: l => (Nat.beq i t = false ∧ lookS σ i = some v) ∧ SubN t σ l

theorem SubN.mem {t : Nat} {σ : St} : ∀ {σ' : St}, SubN t σ σ' → ∀ i v, (i, v) ∈ σ' → i ≠ t ∧ (i, v) ∈ σ
  | [], _, _, _, hm => by cases hm
  | (_, _) :: _, hs, _, _, hm => by
    rcases List.mem_cons.1 hm with e | e
    · cases e
      refine ⟨fun q => ?_, lookS_mem hs.1.2⟩
      have := hs.1.1
      rw [q] at this
      simp at this
    · exact SubN.mem hs.2 _ _ e

def bdyC (code : Code) : Code := lft (lft (rgt code))
def innC (code : Code) : Code := lft (rgt (rgt (bdyC code)))

theorem keyV_rel (ρ : Rho) (k : List Int) : VRel ρ (keyV k) (keyV k) := by
  unfold keyV
  split
  · exact .int _ _
  · refine .agg _ _ rfl (fun i v v' h1 h2 => ?_)
    rw [h1] at h2; cases h2
    simp only [List.getElem?_toArray, List.getElem?_map, Option.map_eq_some_iff] at h1
    obtain ⟨n, _, rfl⟩ := h1
    exact .int _ _

theorem pair_rel (ρ : Rho) (k : List Int) {u : Value} (hu : scal u = true) : VRel ρ (.tuple #[keyV k, u]) (.tuple #[keyV k, u]) :=
  VRel.two (keyV_rel ρ k) (VRel.scal_refl ρ hu)

theorem three_rel (ρ : Rho) (k : List Int) {u : Value} (hu : scal u = true) : VRel ρ (.tuple #[.bool true, keyV k, u]) (.tuple #[.bool true, keyV k, u]) := by
  refine .tuple _ _ rfl (fun i v v' e1 e2 => ?_)
  match i with
  | 0 => simp at e1 e2; subst e1; subst e2; exact .bool _
  | 1 => simp at e1 e2; subst e1; subst e2; exact keyV_rel ρ k
  | 2 => simp at e1 e2; subst e1; subst e2; exact VRel.scal_refl ρ hu
  | _ + 3 => simp at e1

theorem wpList_still_app {P : Program} {ops : Array Oper} {w : World} {l2 : List Oper} {Q' : Exit → Act → World → Prop} : ∀ (l : List Oper) (a : Act), wpStill P ops w (fun a' => wpList P ops Q' l2 a' w) l a → wpList P ops Q' (l ++ l2) a w
  | [], a, h => h
  | o :: l, a, h => by
    unfold wpStill at h
    refine wpList_step (rest := l ++ l2) (fun K hK => ?_)
    split at h
    · rename_i hw
      rw [if_pos hw]
      exact Oper.wp_of_still (fun a' ha' => hK _ _ (wpList_still_app l a' ha')) h
    · rename_i hw
      rw [if_neg hw]
      exact hK _ _ (wpList_still_app l _ h)

/-- A loop over a map whose rounds only read and end normally. -/
theorem range_core {E : Env} (hE : E.Ok) {nt k idR idN idE b b2 : Nat} {sB : Operand} {opsR opsN opsE : Array Oper} {Bd : Code}
    {σ : St} {h : Heap} {c : Nat} {Q : QP} (n0 : Nat) (live : List Nat) {σ1 σK : St} (hl : live.all (fun i => Nat.blt i nt) = true)
    (hr : obsT live (qops noCall ((gsOf E nt opsR).take n0) h (trS nt σ)) = some σ1)
    {tI tN tE : Nat} {t kt et : TypeId} {x xN xE : Operand} {d : XTy} {m : Nat} {es : List (List Int × Value)}
    (hop : rangeOp (opsR.toList.drop n0) = some (tI, t, x)) (hty : E.ty t = some d) (hu : d.u = .map kt et) (htI : (Nat.blt tI nt && (Nat.blt tN nt && Nat.blt tE nt)) = true)
    (hm : ev (trS nt σ1) (src nt x) = .map (some m)) (hg : hget h m = some (.imap es)) (hK : SubN tI σ1 σK)
    (hN : nextOp opsN.toList = some (tN, xN)) (hxN : ev (trS nt ((tI, .pointer (some ⟨c, 0, none⟩)) :: σK)) (src nt xN) = .pointer (some ⟨c, 0, none⟩))
    (hE' : entryOp opsE.toList = some (tE, xE)) (hxE2 : ev (trS nt ((tI, .pointer (some ⟨c, 0, none⟩)) :: σK)) (src nt xE) = .pointer (some ⟨c, 0, none⟩))
    (hsN : SubN tN ((tI, .pointer (some ⟨c, 0, none⟩)) :: σK) ((tI, .pointer (some ⟨c, 0, none⟩)) :: σK)) (hsE : SubN tE ((tI, .pointer (some ⟨c, 0, none⟩)) :: σK) ((tI, .pointer (some ⟨c, 0, none⟩)) :: σK))
    (hover : XW E nt opsN 1 ((tN, .tuple #[.bool false]) :: (tI, .pointer (some ⟨c, 0, none⟩)) :: σK) h (c + 1) (fun σ' => ev (trS nt σ') (src nt sB) = .bool false ∧ SubI σ' ((tI, .pointer (some ⟨c, 0, none⟩)) :: σK)))
    (hstep : ∀ p ∈ es, XW E nt opsN 1 ((tN, .tuple #[.bool true, keyV p.1, p.2]) :: (tI, .pointer (some ⟨c, 0, none⟩)) :: σK) h (c + 1) (fun σ' => ev (trS nt σ') (src nt sB) = .bool true ∧ SubI σ' ((tI, .pointer (some ⟨c, 0, none⟩)) :: σK)))
    (hbody : ∀ p ∈ es, XW E nt opsE 1 ((tE, .tuple #[keyV p.1, p.2]) :: (tI, .pointer (some ⟨c, 0, none⟩)) :: σK) h (c + 1)
      (fun σ' => XV E nt Bd σ' h (c + 1) (fun e σ'' => e = .normal ∧ SubI σ'' ((tI, .pointer (some ⟨c, 0, none⟩)) :: σK))))
    {σZ : St} (hZ : SubI ((tI, .pointer (some ⟨c, 0, none⟩)) :: σK) σZ) (hQ : Q .normal σZ h (c + 1)) :
    XQ E nt k (.seq (.region idR opsR false) (.block b (.loop (.seq (.region idN opsN false) (.seq (.cond sB .skip (.exit b)) (.block b2 (.seq (.region idE opsE false) Bd))))))) σ h c Q := by
  simp only [Bool.and_eq_true, Nat.blt_eq] at htI
  obtain ⟨ltI, ltN, ltE⟩ := htI
  obtain ⟨oR, lR, gR, eR, kR⟩ := rangeOp_spec hop
  obtain ⟨oN, lN', lN, gN, eN, kN⟩ := nextOp_spec hN
  obtain ⟨oE, lE', lE, gE, eE, kE⟩ := entryOp_spec hE'
  generalize hσL : ((tI, Value.pointer (some ⟨c, 0, none⟩)) :: σK : St) = σL at *
  intro B ρ a w h1 h2 h3 h4 h5 h6 h7
  have dN1 : opsN.toList.drop 1 = lN' := by rw [lN]; rfl
  have dE1 : opsE.toList.drop 1 = lE' := by rw [lE]; rfl
  refine wp_seq (wp_region_list ?_)
  have hlist : opsR.toList = opsR.toList.take n0 ++ [oR] := by rw [← lR, List.take_append_drop]
  rw [hlist]
  refine wpList_still_app _ _ ?_
  -- what is read before
  obtain ⟨u1, u2⟩ := sub_ok hE nt opsR 0 n0
  simp only [List.drop_zero] at u1 u2
  cases hx0 : qops noCall ((gsOf E nt opsR).take n0) h (trS nt σ) with
  | none => rw [hx0] at hr; cases hr
  | some t2 =>
    rw [hx0] at hr
    cases hr
    have harr : opsR.toList.toArray = opsR := by simp
    have key := qops_still_pre (E := E) (all := opsR.toList) (Q := fun a' => wpList E.P opsR (Exit.then ((Code.block b (.loop (.seq (.region idN opsN false) (.seq (.cond sB .skip (.exit b)) (.block b2 (.seq (.region idE opsE false) Bd)))))).wp E.P (After k B nt ρ w a.defers Q)) (After k B nt ρ w a.defers Q)) [oR] a' w) h2 (Nat.le_trans h5.1 h4) h6 [] _ _ u1 u2 _ t2 hx0 a h1.tr ?_
    · rw [harr, List.append_nil] at key; exact key
    intro a1 d1 r1
    refine wpStill_nil ?_
    have s1 : SRel ρ nt (readS t2 live) a1 := SRel.of_tr r1 hl
    have hx := src_ok s1.tr x
    rw [hm] at hx
    generalize ex : a1.eval x = x' at hx
    cases hx with
    | map _ L hL =>
      obtain ⟨_, hsh, hes, E0, clock, g1, g2, g3, g4⟩ := h2.at hg hL
      have hlt : L.b < w.heap.size := (Array.getElem?_eq_some_iff.1 g1).1
      have hPt : E.P.underlying t = some (.map kt et) := by rw [(hE.ty t d hty).1, hu]
      have run1 : (execOp a1.eval oR).run E.P w = .ok (.value (.pointer (some ⟨w.heap.size, 0, none⟩))) (w.alloc (.mapIter (some L.b) clock #[] clock)) := by
        simp [execOp, kR, ex, run_range_map w t kt et L.b E0 clock hPt g1]
      refine wpList_plain gR (fun K hK' => ?_)
      unfold Oper.wp
      rw [run1]
      show K (a1.put oR.dst _) _
      rw [eR]
      refine hK' _ _ ?_
      -- the loop
      have hle : Rho.le ρ (ρ ++ [(⟨w.heap.size, 0, 0, 0⟩ : Loc)]) := Rho.le_push _ _
      have hat : (ρ ++ [(⟨w.heap.size, 0, 0, 0⟩ : Loc)])[c]? = some ⟨w.heap.size, 0, 0, 0⟩ := by rw [← h3]; simp
      have hlen : (ρ ++ [(⟨w.heap.size, 0, 0, 0⟩ : Loc)]).length = c + 1 := by simp [h3]
      generalize hρ : ρ ++ [(⟨w.heap.size, 0, 0, 0⟩ : Loc)] = ρ' at hle hat hlen
      have s2 : SRel ρ' nt σL (a1.put (some tI) (.pointer (some ⟨w.heap.size, 0, none⟩))) := by
        rw [← hσL]
        exact (s1.mono hle).put ltI (.ptr c 0 _ hat) hK.mem
      have hptr : ∀ {a' : Act} {y : Operand}, SRel ρ' nt σL a' → ev (trS nt σL) (src nt y) = .pointer (some ⟨c, 0, none⟩) → a'.eval y = .pointer (some ⟨w.heap.size, 0, none⟩) := by
        intro a' y hs hy
        have hv := src_ok hs.tr y
        rw [hy] at hv
        generalize a'.eval y = y' at hv
        cases hv with
        | ptr _ _ M hM =>
          rw [hat] at hM
          cases hM
          rfl
      refine wp_block (wp_loop_rounds (E0.size + 1) ?_)
      have key : ∀ (n : Nat) (a' : Act) (w' : World) (seen : Array Nat) (c0 : Nat), (leftOf E0 seen).size < n → clock ≤ c0 → w'.heap[w.heap.size]? = some (.mapIter (some L.b) clock seen c0) → (∀ j, j < w.heap.size → w'.heap[j]? = w.heap[j]?) → Bel B w w' → SRel ρ' nt σL a' → a'.defers = a.defers →
          Code.rounds E.P (.seq (.region idN opsN false) (.seq (.cond sB .skip (.exit b)) (.block b2 (.seq (.region idE opsE false) Bd)))) (Exit.inBlock b (After k B nt ρ w a.defers Q)) n a' w' := by
        intro n
        induction n with
        | zero => intro a' w' seen c0 hn; omega
        | succ n ih =>
          intro a' w' seen c0 hn hc hit hfr hbl hs hd
          have hH : HRel B ρ' h w' := h2.keep hle hfr
          have hmp : w'.heap[L.b]? = some (.map E0 clock) := (hfr _ hlt).trans g1
          have exN := hptr hs hxN
          rw [rounds_succ]
          refine wp_seq (wp_region_list ?_)
          rw [lN]
          rcases run_next_at (P := E.P) w' oN.type w.heap.size L.b clock c0 seen E0 clock hit hmp g4.1 hc with ⟨_, run2⟩ | ⟨e, he, w1, hal, run2⟩
          · have run2' : (execOp a'.eval oN).run E.P w' = .ok (.value (.tuple #[.bool false])) w' := by
              simp [execOp, kN, exN, run2]
            refine wpList_plain gN (fun K hK' => ?_)
            unfold Oper.wp
            rw [run2']
            show K (a'.put oN.dst _) _
            rw [eN]
            refine hK' _ _ ?_
            have hv : VRel ρ' (.tuple #[.bool false]) (.tuple #[.bool false]) := VRel.plain_refl ρ' rfl
            have hX := hover B ρ' _ w' (hs.put ltN hv hsN.mem) hH hlen (Nat.le_trans h5.1 (Nat.le_trans h4 hbl.size)) (hE.keep h5 h6 hbl) a.defers hd
            rw [dN1] at hX
            refine wpList_still (fun a3 h3' => ?_) _ _ hX
            obtain ⟨σ3, d3, s3, ev3, sub3⟩ := h3'
            have e3 : a3.eval sB = .bool false := by
              have hv := src_ok s3.tr sB
              rw [ev3] at hv
              generalize a3.eval sB = y' at hv
              cases hv
              rfl
            refine wp_seq (wp_cond_false e3 (wp_exit ?_))
            have fin : After k B nt ρ w a.defers Q .normal a3 w' := ⟨.normal, σZ, h, c + 1, ρ', rfl, d3, ⟨s3.1, s3.2.1, fun i v hm => s3.2.2 i v (sub3.mem i v (hZ.mem i v hm))⟩, hH, hlen, Keeps.of_le h7 hle, hbl, hQ⟩
            simpa [Exit.then, Exit.inBlock] using fin
          · obtain ⟨hem, hes'⟩ := mem_left he
            have hpe : (e.key, e.val) ∈ es.map (fun p => (keyV p.1, p.2)) := by
              rw [← g2]; exact List.mem_map.2 ⟨e, hem, rfl⟩
            obtain ⟨p, hp, hpk⟩ := List.mem_map.1 hpe
            have hk1 : keyV p.1 = e.key := congrArg Prod.fst hpk
            have hk2 : p.2 = e.val := congrArg Prod.snd hpk
            have hsc : scal p.2 = true := List.all_eq_true.1 g3 p hp
            have hw1 : w1.heap = w'.heap := by rcases hal with rfl | rfl <;> rfl
            have hbl1 : Bel B w w1 := by
              rcases hal with rfl | rfl
              · exact hbl
              · exact hbl.drew
            have hit2 : (ChangeMaps.setBlock w1 w.heap.size (.mapIter (some L.b) clock (seen.push e.born) clock)).heap[w.heap.size]? = some (.mapIter (some L.b) clock (seen.push e.born) clock) := by
              have hsz : w.heap.size < w1.heap.size := by rw [hw1]; exact (Array.getElem?_eq_some_iff.1 hit).1
              simp [ChangeMaps.setBlock, hsz]
            have hfr2 : ∀ j, j < w.heap.size → (ChangeMaps.setBlock w1 w.heap.size (.mapIter (some L.b) clock (seen.push e.born) clock)).heap[j]? = w.heap[j]? := by
              intro j hj
              rw [← hfr j hj, ← hw1]
              exact Array.getElem?_setIfInBounds_ne (by omega)
            have hbl2 : Bel B w (ChangeMaps.setBlock w1 w.heap.size (.mapIter (some L.b) clock (seen.push e.born) clock)) := hbl1.trans (below_setBlock (.inl h4) _)
            generalize hw2 : ChangeMaps.setBlock w1 w.heap.size (.mapIter (some L.b) clock (seen.push e.born) clock) = w2 at run2 hit2 hfr2 hbl2
            have hH2 : HRel B ρ' h w2 := h2.keep hle hfr2
            have hmp2 : w2.heap[L.b]? = some (.map E0 clock) := (hfr2 _ hlt).trans g1
            have run2' : (execOp a'.eval oN).run E.P w' = .ok (.value (.tuple #[.bool true, keyV p.1, p.2])) w2 := by
              simp [execOp, kN, exN, run2, hk1, hk2]
            refine wpList_plain gN (fun K hK' => ?_)
            unfold Oper.wp
            rw [run2']
            show K (a'.put oN.dst _) _
            rw [eN]
            refine hK' _ _ ?_
            have hX := hstep p hp B ρ' _ w2 (hs.put ltN (three_rel ρ' p.1 hsc) hsN.mem) hH2 hlen (Nat.le_trans h5.1 (Nat.le_trans h4 hbl2.size)) (hE.keep h5 h6 hbl2) a.defers hd
            rw [dN1] at hX
            refine wpList_still (fun a3 h3' => ?_) _ _ hX
            obtain ⟨σ3, d3, s3, ev3, sub3⟩ := h3'
            have e3 : a3.eval sB = .bool true := by
              have hv := src_ok s3.tr sB
              rw [ev3] at hv
              generalize a3.eval sB = y' at hv
              cases hv
              rfl
            have s3' : SRel ρ' nt σL a3 := ⟨s3.1, s3.2.1, fun i v hm => s3.2.2 i v (sub3.mem i v hm)⟩
            refine wp_seq (wp_cond_true e3 (wp_skip ?_))
            refine wp_block (wp_seq (wp_region_list ?_))
            rw [lE]
            have run3 : (execOp a3.eval oE).run E.P w2 = .ok (.value (.tuple #[keyV p.1, p.2])) w2 := by
              simp [execOp, kE, hptr s3' hxE2, run_entry_at w2 w.heap.size L.b clock seen E0 clock e hit2 hmp2 hem g4.2, hk1, hk2]
            refine wpList_plain gE (fun K hK' => ?_)
            unfold Oper.wp
            rw [run3]
            show K (a3.put oE.dst _) _
            rw [eE]
            refine hK' _ _ ?_
            have hY := hbody p hp B ρ' _ w2 (s3'.put ltE (pair_rel ρ' p.1 hsc) hsE.mem) hH2 hlen (Nat.le_trans h5.1 (Nat.le_trans h4 hbl2.size)) (hE.keep h5 h6 hbl2) a.defers d3
            rw [dE1] at hY
            refine wpList_still (fun a4 h4' => ?_) _ _ hY
            obtain ⟨σ4, d4, s4, v4⟩ := h4'
            refine wp_mono (v4 B ρ' a4 w2 s4 hH2 hlen (Nat.le_trans h5.1 (Nat.le_trans h4 hbl2.size)) (hE.keep h5 h6 hbl2)) ?_
            rintro e5 a5 w5 ⟨rfl, d5, e', σ5, rfl, s5, rfl, sub5⟩
            have := ih a5 _ (seen.push e.born) clock (by have := left_shrinks E0 seen e he; omega) (Nat.le_refl _) hit2 hfr2 hbl2 ⟨s5.1, s5.2.1, fun i v hm => s5.2.2 i v (sub5.mem i v hm)⟩ (d5.trans d4)
            simpa [Exit.then, Exit.inBlock, exO] using this
      refine key (E0.size + 1) _ _ #[] clock (Nat.lt_succ_of_le (Array.size_filter_le ..)) (Nat.le_refl _) (heap_new w _) (fun j hj => heap_old w _ hj) (below_alloc h4 _) s2 d1

/-- The same, at code that is told by its parts. -/
theorem XQ.rangeAll {E : Env} (hE : E.Ok) {nt k : Nat} {code : Code} {b b2 : Nat} {sB : Operand}
    (s0 : isSeq code = true) (s1 : drawOf (lft code) = some false) (s2 : blockOf (rgt code) = some b) (s3 : isLoop (lft (rgt code)) = true) (s4 : isSeq (bdyC code) = true) (s5 : drawOf (lft (bdyC code)) = some false)
    (s6 : isSeq (rgt (bdyC code)) = true) (s7 : condOf (lft (rgt (bdyC code))) = some sB) (s8 : isSkip (lft (lft (rgt (bdyC code)))) = true) (s9 : exitOf (rgt (lft (rgt (bdyC code)))) = some b)
    (s10 : blockOf (rgt (rgt (bdyC code))) = some b2) (s11 : isSeq (innC code) = true) (s12 : drawOf (lft (innC code)) = some false)
    {σ : St} {h : Heap} {c : Nat} {Q : QP} (n0 : Nat) (live : List Nat) {σ1 σK : St} (hl : live.all (fun i => Nat.blt i nt) = true)
    (hr : obsT live (qops noCall ((gsOf E nt (opsOf (lft code))).take n0) h (trS nt σ)) = some σ1)
    {tI tN tE : Nat} {t kt et : TypeId} {x xN xE : Operand} {d : XTy} {m : Nat} {es : List (List Int × Value)}
    (hop : rangeOp ((opsOf (lft code)).toList.drop n0) = some (tI, t, x)) (hty : E.ty t = some d) (hu : d.u = .map kt et) (htI : (Nat.blt tI nt && (Nat.blt tN nt && Nat.blt tE nt)) = true)
    (hm : ev (trS nt σ1) (src nt x) = .map (some m)) (hg : hget h m = some (.imap es)) (hK : SubN tI σ1 σK)
    (hN : nextOp (opsOf (lft (bdyC code))).toList = some (tN, xN)) (hxN : ev (trS nt ((tI, .pointer (some ⟨c, 0, none⟩)) :: σK)) (src nt xN) = .pointer (some ⟨c, 0, none⟩))
    (hE' : entryOp (opsOf (lft (innC code))).toList = some (tE, xE)) (hxE : ev (trS nt ((tI, .pointer (some ⟨c, 0, none⟩)) :: σK)) (src nt xE) = .pointer (some ⟨c, 0, none⟩))
    (hsN : SubN tN ((tI, .pointer (some ⟨c, 0, none⟩)) :: σK) ((tI, .pointer (some ⟨c, 0, none⟩)) :: σK)) (hsE : SubN tE ((tI, .pointer (some ⟨c, 0, none⟩)) :: σK) ((tI, .pointer (some ⟨c, 0, none⟩)) :: σK))
    (hover : XW E nt (opsOf (lft (bdyC code))) 1 ((tN, .tuple #[.bool false]) :: (tI, .pointer (some ⟨c, 0, none⟩)) :: σK) h (c + 1) (fun σ' => ev (trS nt σ') (src nt sB) = .bool false ∧ SubI σ' ((tI, .pointer (some ⟨c, 0, none⟩)) :: σK)))
    (hstep : ∀ p ∈ es, XW E nt (opsOf (lft (bdyC code))) 1 ((tN, .tuple #[.bool true, keyV p.1, p.2]) :: (tI, .pointer (some ⟨c, 0, none⟩)) :: σK) h (c + 1) (fun σ' => ev (trS nt σ') (src nt sB) = .bool true ∧ SubI σ' ((tI, .pointer (some ⟨c, 0, none⟩)) :: σK)))
    (hbody : ∀ p ∈ es, XW E nt (opsOf (lft (innC code))) 1 ((tE, .tuple #[keyV p.1, p.2]) :: (tI, .pointer (some ⟨c, 0, none⟩)) :: σK) h (c + 1)
      (fun σ' => XV E nt (rgt (innC code)) σ' h (c + 1) (fun e σ'' => e = .normal ∧ SubI σ'' ((tI, .pointer (some ⟨c, 0, none⟩)) :: σK))))
    {σZ : St} (hZ : SubI ((tI, .pointer (some ⟨c, 0, none⟩)) :: σK) σZ) (hQ : Q .normal σZ h (c + 1)) : XQ E nt k code σ h c Q := by
  unfold innC bdyC at *
  cases code with
  | seq R Bk =>
    simp only [lft, rgt] at *
    cases R with
    | region idR opsR dR =>
      cases s1
      cases Bk with
      | block b' L =>
        cases s2
        simp only [lft, rgt] at *
        cases L with
        | loop bd =>
          simp only [lft, rgt] at *
          cases bd with
          | seq N rest =>
            simp only [lft, rgt] at *
            cases N with
            | region idN opsN dN =>
              cases s5
              cases rest with
              | seq C B2 =>
                simp only [lft, rgt] at *
                cases C with
                | cond sC Cx Cy =>
                  cases s7
                  simp only [lft, rgt] at *
                  cases Cx with
                  | skip =>
                    cases Cy with
                    | exit j =>
                      cases s9
                      cases B2 with
                      | block b2' inn =>
                        cases s10
                        simp only [lft, rgt] at *
                        cases inn with
                        | seq En Bd =>
                          simp only [lft, rgt] at *
                          cases En with
                          | region idE opsE dE =>
                            cases s12
                            exact range_core hE n0 live hl hr hop hty hu htI hm hg hK hN hxN hE' hxE hsN hsE hover hstep hbody hZ hQ
                          | _ => cases s12
                        | _ => cases s11
                      | _ => cases s10
                    | _ => cases s9
                  | _ => cases s8
                | _ => cases s7
              | _ => cases s6
            | _ => cases s5
          | _ => cases s4
        | _ => cases s3
      | _ => cases s2
    | _ => cases s1
  | _ => cases s0

#print axioms XQ.rangeAll
end Go.Xm
