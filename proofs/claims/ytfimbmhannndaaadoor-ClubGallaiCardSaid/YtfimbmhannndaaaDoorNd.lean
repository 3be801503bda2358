/- The abstract machine, more: a row whose last elements nothing asks for any more. -/
import Derived.Test.YtfimbmhannndaaaDoorMs
import Derived.Maps.RangeRun
namespace Go.Xm
open Go.RowKit

theorem HRel.trim {B : Nat} {ρ : Rho} {h : Heap} {w : World} (H : HRel B ρ h w) {i : Nat} {cs cs' : List Value} {e : TypeId} {es : Nat} (hg : hget h i = some (.cells cs 0 e es)) (hes : es ≠ 0) (t : List Value) (ht : cs = cs' ++ t) : HRel B ρ (hset h i (.cells cs' 0 e es)) w := by
  have f1 : frz (.cells cs' 0 e es) = false := rfl
  have f0 : frz (.cells cs 0 e es) = false := rfl
  refine ⟨fun i' o hi => ?_, fun a b o o' L L' hi hj hL hL' n1 n2 o1 o2 hz hb => ?_⟩
  · rw [hget_hset hg] at hi
    by_cases ei : i' = i
    · rw [if_pos ei] at hi
      cases hi
      subst ei
      obtain ⟨L, q1, q2, q3, q4⟩ := H.ok i' _ hg
      refine ⟨L, q1, fun _ => q2 f0, q3, ?_⟩
      rcases q4 with ⟨q4, q5⟩ | ⟨C, fr, p1, p2, p3, p4, p5, p6⟩
      · refine .inl ⟨q4, ?_⟩
        rw [ht] at q5
        exact (List.append_eq_nil_iff.1 q5).1
      · refine .inr ⟨C, fr, p1, p2, ?_, fun k v hk => p4 k v ?_, p5, fun z => absurd (q3.symm.trans z) hes⟩
        · rw [ht, List.length_append] at p3; omega
        · rw [ht, List.getElem?_append_left (List.getElem?_eq_some_iff.1 hk).1]; exact hk
    · rw [if_neg ei] at hi
      exact H.ok i' o hi
  · have key : ∀ a o L, hget (hset h i (.cells cs' 0 e es)) a = some o → own ρ L o → ∃ u, hget h a = some u ∧ own ρ L u ∧ (frz o = false → frz u = false) := by
      intro a o L ha ho
      rw [hget_hset hg] at ha
      by_cases ea : a = i
      · rw [if_pos ea] at ha
        cases ha
        exact ⟨.cells cs 0 e es, by rw [ea]; exact hg, True.intro, fun _ => f0⟩
      · rw [if_neg ea] at ha
        exact ⟨o, ha, ho, id⟩
    obtain ⟨u, a1, a2, a3⟩ := key a o L hi o1
    obtain ⟨u', b1, b2, b3⟩ := key b o' L' hj o2
    exact H.inj a b u u' L L' a1 b1 hL hL' n1 n2 a2 b2 (hz.imp a3 b3) hb

/-- A slice of a row's first elements: the row is these. -/
theorem XQ.trimR {E : Env} {nt k : Nat} {code : Code} {α : Type} {g : α → List Value} (i : Nat) (e : TypeId) (es j : Nat) (l : List α) (n m : Nat) (hes : Nat.ble 1 es = true) {σ : St} {h : Heap} {c : Nat} {Q : QP}
    (hg : hget h i = some (.cells (rowC g l) 0 e es)) (hj : lookS σ j = some (.slice (some ⟨i, 0, none⟩) n m)) (hn : (Nat.ble n m && Nat.ble n l.length) = true)
    (hx : XQ E nt k code ((j, .slice (some ⟨i, 0, none⟩) (l.take n).length (l.take n).length) :: σ) (hset h i (.cells (rowC g (l.take n)) 0 e es)) c Q) : XQ E nt k code σ h c Q := by
  intro B ρ a w h1 h2 h3 h4 h5 h6 h7
  have hes' : es ≠ 0 := by have : 1 ≤ es := Nat.le_of_ble_eq_true hes
                           omega
  have hn' : n ≤ m := Nat.le_of_ble_eq_true (Bool.and_eq_true_iff.1 hn).1
  have hn2 : n ≤ l.length := Nat.le_of_ble_eq_true (Bool.and_eq_true_iff.1 hn).2
  have e1 : (l.take n).length = n := by rw [List.length_take]; omega
  have ht : rowC g l = rowC g (l.take n) ++ rowC g (l.drop n) := by
    rw [← rowC_append, List.take_append_drop]
  refine hx B ρ a w ⟨h1.1, h1.2.1, fun i' v hm' => ?_⟩ (h2.trim hg hes' _ ht) h3 h4 h5 h6 h7
  rcases List.mem_cons.1 hm' with e0 | e0
  · cases e0
    obtain ⟨q1, q2⟩ := h1.2.2 j _ (lookS_mem hj)
    refine ⟨q1, ?_⟩
    rw [e1]
    generalize a.tmps.getD j undef = x at q2 ⊢
    cases q2 with
    | slice _ _ _ _ L o' cap' p1 p2 p3 p4 =>
      obtain ⟨M, m1, _, m3, _⟩ := h2.ok i _ hg
      rw [p1] at m1; cases m1
      have hL : L.es ≠ 0 := by rw [m3]; exact hes'
      obtain ⟨r1, r2, r3⟩ := p4 hL
      exact .slice _ _ _ _ L o' cap' p1 (p2.imp id (fun ⟨z1, z2⟩ => ⟨z2, z2⟩)) (fun z => absurd z hL) (fun _ => ⟨by omega, r2, r3⟩)
    | sliceN _ _ L p1 p2 => exact .sliceN _ _ L p1 p2
  · exact h1.2.2 i' v e0

/-! ### Ways that meet again -/
/-- A way through conditions: 'some none' goes on to r, 'some (some v)' ends at v. -/
def jn {α : Type} (x : Option (Option α)) (r : Option α) : Option α := x.bind fun j => match j with | none => r | some v => some v

theorem jS {α : Type} {x : Option (Option α)} {r : Option α} {o : α} (h : jn x r = some o) : (x = some none ∧ r = some o) ∨ x = some (some o) := by
  cases x with
  | none => cases h
  | some j =>
    cases j with
    | none => exact .inl ⟨rfl, h⟩
    | some v =>
      have h : some v = some o := h
      cases h
      exact .inr rfl

theorem jN {α : Type} {x : Option α} (h : x.map some = some none) : False := by
  cases x with
  | none => cases h
  | some v => cases h

theorem jM {α : Type} {x : Option α} {o : α} (h : x.map some = some (some o)) : x = some o := by
  cases x with
  | none => cases h
  | some v => cases h; rfl

theorem jC {α : Type} {o : α} (h : (some none : Option (Option α)) = some (some o)) : False := by cases h

#print axioms XQ.trimR
end Go.Xm
namespace Go.Xm
open Go.RowKit
set_option linter.unusedVariables false
set_option linter.unusedSimpArgs false

/-! ### Operations that only read, one behind the other -/
def XW (E : Env) (nt : Nat) (ops : Array Oper) (j : Nat) (σ : St) (h : Heap) (c : Nat) (Q : St → Prop) : Prop :=
  ∀ (B : Nat) (ρ : Rho) (a : Act) (w : World), SRel ρ nt σ a → HRel B ρ h w → ρ.length = c →
    ∀ ds : List Deferred, a.defers = ds → wpStill E.P ops w (fun a' => ∃ σ', a'.defers = ds ∧ SRel ρ nt σ' a' ∧ Q σ') (ops.toList.drop j) a

theorem XW.done {E : Env} {nt : Nat} {ops : Array Oper} {j : Nat} (hj : Nat.ble ops.size j = true) {σ : St} {h : Heap} {c : Nat} {Q : St → Prop} (hq : Q σ) : XW E nt ops j σ h c Q := by
  intro B ρ a w h1 h2 h3 ds h6
  have : ops.toList.drop j = [] := List.drop_eq_nil_of_le (by simpa using hj)
  rw [this]
  exact wpStill_nil ⟨σ, h6, h1, hq⟩

theorem XW.step {E : Env} (hE : E.Ok) {nt : Nat} {ops : Array Oper} {j : Nat} (m : Nat) (live : List Nat) {σ σ' : St} {h : Heap} {c : Nat} {Q : St → Prop} (hl : live.all (fun i => Nat.blt i nt) = true)
    (hr : obsT live (qops noCall (((gsOf E nt ops).drop j).take m) h (trS nt σ)) = some σ') (hx : XW E nt ops (j + m) σ' h c Q) : XW E nt ops j σ h c Q := by
  intro B ρ a w h1 h2 h3 ds h9
  cases hx0 : qops noCall (((gsOf E nt ops).drop j).take m) h (trS nt σ) with
  | none => rw [hx0] at hr; cases hr
  | some t2 =>
    rw [hx0] at hr
    cases hr
    obtain ⟨s1, s2⟩ := sub_ok hE nt ops j m
    have hlist : ops.toList.drop j = (ops.toList.drop j).take m ++ ops.toList.drop (j + m) := by
      rw [← List.drop_drop, List.take_append_drop]
    have harr : ops.toList.toArray = ops := by simp
    rw [hlist]
    have key := qops_still_pre (all := ops.toList) (Q := fun a' => ∃ σ', a'.defers = ds ∧ SRel ρ nt σ' a' ∧ Q σ') h2 (ops.toList.drop (j + m)) _ _ s1 s2 _ t2 hx0 a h1.tr ?_
    · rw [harr] at key; exact key
    · intro a' d1 r1
      rw [harr]
      exact hx B ρ a' w (SRel.of_tr r1 hl) h2 h3 ds (d1.trans h9)

theorem XW.rd {E : Env} (hE : E.Ok) {nt : Nat} {ops : Array Oper} {j : Nat} (live : List Nat) {σ σ' : St} {h : Heap} {c : Nat} {v : Value} {Q : St → Prop} (hl : live.all (fun i => Nat.blt i nt) = true)
    (hv : insV (headI ((gsOf E nt ops).drop j) (trS nt σ)) (trS nt σ) h = some v) (hσ : readS (putX (insD (headI ((gsOf E nt ops).drop j) (trS nt σ))) v (trS nt σ)) live = σ')
    (hx : XW E nt ops (j + 1) σ' h c Q) : XW E nt ops j σ h c Q := by
  refine XW.step hE 1 live (σ' := σ') hl ?_ hx
  rw [qops_rd hv, ← hσ]
  rfl

theorem wpList_still {P : Program} {ops : Array Oper} {w : World} {Q : Act → Prop} {Q' : Exit → Act → World → Prop} (hQ : ∀ a, Q a → Q' .normal a w) : ∀ (l : List Oper) (a : Act), wpStill P ops w Q l a → wpList P ops Q' l a w
  | [], a, h => hQ a h
  | o :: l, a, h => by
    unfold wpStill at h
    refine wpList_step (fun K hK => ?_)
    split at h
    · rename_i hw
      rw [if_pos hw]
      exact Oper.wp_of_still (fun a' ha' => hK _ _ (wpList_still hQ l a' ha')) h
    · rename_i hw
      rw [if_neg hw]
      exact hK _ _ (wpList_still hQ l _ h)

/-! ### Code that only reads -/
def XV (E : Env) (nt : Nat) (code : Code) (σ : St) (h : Heap) (c : Nat) (Q : Ex → St → Prop) : Prop :=
  ∀ (B : Nat) (ρ : Rho) (a : Act) (w : World), SRel ρ nt σ a → HRel B ρ h w → ρ.length = c →
    code.wp E.P (fun e' a' w' => w' = w ∧ a'.defers = a.defers ∧ ∃ e σ', e' = exOf e ∧ SRel ρ nt σ' a' ∧ Q e σ') a w

theorem XV.skip {E : Env} {nt : Nat} {code : Code} (hs : isSkip code = true) {σ : St} {h : Heap} {c : Nat} {Q : Ex → St → Prop} (hq : Q .normal σ) : XV E nt code σ h c Q := by
  cases code with
  | skip =>
    intro B ρ a w h1 h2 h3
    exact wp_skip ⟨rfl, rfl, .normal, σ, rfl, h1, hq⟩
  | _ => cases hs

theorem XV.region {E : Env} {nt : Nat} {code : Code} (hs : drawOf code = some false) {σ : St} {h : Heap} {c : Nat} {Q : Ex → St → Prop} (hx : XW E nt (opsOf code) 0 σ h c (Q .normal)) : XV E nt code σ h c Q := by
  cases code with
  | region id ops d =>
    cases hs
    intro B ρ a w h1 h2 h3
    refine wp_region_list (wpList_still (fun a' ha' => ?_) _ _ (hx B ρ a w h1 h2 h3 a.defers rfl))
    obtain ⟨σ', d1, s1, q1⟩ := ha'
    exact ⟨rfl, d1, .normal, σ', rfl, s1, q1⟩
  | _ => cases hs

theorem XV.cond {E : Env} {nt : Nat} {code : Code} {s : Operand} (hs : condOf code = some s) {σ : St} {h : Heap} {c : Nat} {Q : Ex → St → Prop} {b : Bool} (hb : ev (trS nt σ) (src nt s) = .bool b)
    (ht : b = true → XV E nt (lft code) σ h c Q) (hf : b = false → XV E nt (rgt code) σ h c Q) : XV E nt code σ h c Q := by
  cases code with
  | cond s' x y =>
    cases hs
    intro B ρ a w h1 h2 h3
    have hv := src_ok h1.tr s
    rw [hb] at hv
    generalize e1 : a.eval s = v at hv
    cases hv
    cases b with
    | true => exact wp_cond e1 (ht rfl B ρ a w h1 h2 h3)
    | false => exact wp_cond e1 (hf rfl B ρ a w h1 h2 h3)
  | _ => cases hs

theorem XV.seq {E : Env} {nt : Nat} {code : Code} (hs : isSeq code = true) {σ : St} {h : Heap} {c : Nat} {Q : Ex → St → Prop}
    (hx : XV E nt (lft code) σ h c (fun e σ' => match e with | .normal => XV E nt (rgt code) σ' h c Q | e => Q e σ')) : XV E nt code σ h c Q := by
  cases code with
  | seq x y =>
    intro B ρ a w h1 h2 h3
    refine wp_seq (wp_mono (hx B ρ a w h1 h2 h3) ?_)
    rintro e' a1 w1 ⟨rfl, d1, e, σ', rfl, s1, q1⟩
    cases e with
    | normal =>
      refine wp_mono (q1 B ρ a1 w1 s1 h2 h3) ?_
      rintro e2 a2 w2 ⟨rfl, d2, e, σ2, rfl, s2, q2⟩
      exact ⟨rfl, d2.trans d1, e, σ2, rfl, s2, q2⟩
    | exit i => exact ⟨rfl, d1, .exit i, σ', rfl, s1, q1⟩
    | ret => exact ⟨rfl, d1, .ret, σ', rfl, s1, q1⟩
  | _ => cases hs

/-! ### The operations of a loop over a map -/
def rangeOp : List Oper → Option (Tmp × TypeId × Operand)
  | [o] => match o.guard, o.dst, o.op with
    | none, some d, .range t x => some (d, t, x)
    | _, _, _ => none
  | _ => none

def nextOp : List Oper → Option (Tmp × Operand)
  | o :: _ => match o.guard, o.dst, o.op with
    | none, some d, .next x false => some (d, x)
    | _, _, _ => none
  | _ => none

def entryOp : List Oper → Option (Tmp × Operand)
  | o :: _ => match o.guard, o.dst, o.op with
    | none, some d, .entry x => some (d, x)
    | _, _, _ => none
  | _ => none

theorem rangeOp_spec {l : List Oper} {d : Tmp} {t : TypeId} {x : Operand} (h : rangeOp l = some (d, t, x)) : ∃ o, l = [o] ∧ o.guard = none ∧ o.dst = some d ∧ o.op = .range t x := by
  unfold rangeOp at h
  split at h
  · split at h
    · cases h
      exact ⟨_, rfl, ‹_›, ‹_›, ‹_›⟩
    · cases h
  · cases h

theorem nextOp_spec {l : List Oper} {d : Tmp} {x : Operand} (h : nextOp l = some (d, x)) : ∃ o rest, l = o :: rest ∧ o.guard = none ∧ o.dst = some d ∧ o.op = .next x false := by
  unfold nextOp at h
  split at h
  · split at h
    · cases h
      exact ⟨_, _, rfl, ‹_›, ‹_›, ‹_›⟩
    · cases h
  · cases h

theorem entryOp_spec {l : List Oper} {d : Tmp} {x : Operand} (h : entryOp l = some (d, x)) : ∃ o rest, l = o :: rest ∧ o.guard = none ∧ o.dst = some d ∧ o.op = .entry x := by
  unfold entryOp at h
  split at h
  · split at h
    · cases h
      exact ⟨_, _, rfl, ‹_›, ‹_›, ‹_›⟩
    · cases h
  · cases h

theorem SRel.put {ρ : Rho} {nt : Nat} {σ : St} {a : Act} (h : SRel ρ nt σ a) {t : Nat} (ht : t < nt) {v v' : Value} (hv : VRel ρ v v') {σ' : St} (hs : ∀ i u, (i, u) ∈ σ' → i ≠ t ∧ (i, u) ∈ σ) : SRel ρ nt ((t, v) :: σ') (a.put (some t) v') := by
  have hsz : t < a.tmps.size := by rw [h.1]; exact ht
  refine ⟨by simp [Act.put, h.1], h.2.1, fun i u hm => ?_⟩
  rcases List.mem_cons.1 hm with e | e
  · cases e
    refine ⟨ht, ?_⟩
    have : (a.put (some t) v').tmps.getD t undef = v' := by simp [Act.put, hsz]
    rw [this]; exact hv
  · obtain ⟨n1, m1⟩ := hs i u e
    obtain ⟨q1, q2⟩ := h.2.2 i u m1
    refine ⟨q1, ?_⟩
    have : (a.put (some t) v').tmps.getD i undef = a.tmps.getD i undef := by
      simp only [Act.put, Array.getD_eq_getD_getElem?]
      rw [Array.getElem?_setIfInBounds_ne (Ne.symm n1)]
    rw [this]; exact q2

/-- These slots are others, and are known so. -/
def SubN (t : Nat) (σ : St) : St → Prop
  | [] => True
  | (i, v) :: l => (Nat.beq i t = false ∧ lookS σ i = some v) ∧ SubN t σ l

theorem SubN.mem {t : Nat} {σ : St} : ∀ {σ' : St}, SubN t σ σ' → ∀ i v, (i, v) ∈ σ' → i ≠ t ∧ (i, v) ∈ σ
  | [], _, _, _, hm => by cases hm
  | (_, _) :: _, hs, _, _, hm => by
    rcases List.mem_cons.1 hm with e | e
    · cases e
      refine ⟨fun q => ?_, lookS_mem hs.1.2⟩
      have := hs.1.1
      rw [q] at this
      simp at this
    · exact SubN.mem hs.2 _ _ e

def bdyC (code : Code) : Code := lft (lft (rgt code))
def innC (code : Code) : Code := lft (rgt (rgt (bdyC code)))

theorem keyV_rel (ρ : Rho) (k : List Int) : VRel ρ (keyV k) (keyV k) := by
  unfold keyV
  split
  · exact .int _ _
  · refine .agg _ _ rfl (fun i v v' h1 h2 => ?_)
    rw [h1] at h2; cases h2
    simp only [List.getElem?_toArray, List.getElem?_map, Option.map_eq_some_iff] at h1
    obtain ⟨n, _, rfl⟩ := h1
    exact .int _ _

theorem pair_rel (ρ : Rho) (k : List Int) {u : Value} (hu : scal u = true) : VRel ρ (.tuple #[keyV k, u]) (.tuple #[keyV k, u]) :=
  VRel.two (keyV_rel ρ k) (VRel.scal_refl ρ hu)

theorem three_rel (ρ : Rho) (k : List Int) {u : Value} (hu : scal u = true) : VRel ρ (.tuple #[.bool true, keyV k, u]) (.tuple #[.bool true, keyV k, u]) := by
  refine .tuple _ _ rfl (fun i v v' e1 e2 => ?_)
  match i with
  | 0 => simp at e1 e2; subst e1; subst e2; exact .bool _
  | 1 => simp at e1 e2; subst e1; subst e2; exact keyV_rel ρ k
  | 2 => simp at e1 e2; subst e1; subst e2; exact VRel.scal_refl ρ hu
  | _ + 3 => simp at e1

theorem wpList_still_app {P : Program} {ops : Array Oper} {w : World} {l2 : List Oper} {Q' : Exit → Act → World → Prop} : ∀ (l : List Oper) (a : Act), wpStill P ops w (fun a' => wpList P ops Q' l2 a' w) l a → wpList P ops Q' (l ++ l2) a w
  | [], a, h => h
  | o :: l, a, h => by
    unfold wpStill at h
    refine wpList_step (rest := l ++ l2) (fun K hK => ?_)
    split at h
    · rename_i hw
      rw [if_pos hw]
      exact Oper.wp_of_still (fun a' ha' => hK _ _ (wpList_still_app l a' ha')) h
    · rename_i hw
      rw [if_neg hw]
      exact hK _ _ (wpList_still_app l _ h)

/-- A loop over a map whose rounds only read and end normally. -/
theorem range_core {E : Env} (hE : E.Ok) {nt k idR idN idE b b2 : Nat} {sB : Operand} {opsR opsN opsE : Array Oper} {Bd : Code}
    {σ : St} {h : Heap} {c : Nat} {Q : QP} (n0 : Nat) (live : List Nat) {σ1 σK : St} (hl : live.all (fun i => Nat.blt i nt) = true)
    (hr : obsT live (qops noCall ((gsOf E nt opsR).take n0) h (trS nt σ)) = some σ1)
    {tI tN tE : Nat} {t kt et : TypeId} {x xN xE : Operand} {d : XTy} {m : Nat} {es : List (List Int × Value)}
    (hop : rangeOp (opsR.toList.drop n0) = some (tI, t, x)) (hty : E.ty t = some d) (hu : d.u = .map kt et) (htI : (Nat.blt tI nt && (Nat.blt tN nt && Nat.blt tE nt)) = true)
    (hm : ev (trS nt σ1) (src nt x) = .map (some m)) (hg : hget h m = some (.imap es)) (hK : SubN tI σ1 σK)
    (hN : nextOp opsN.toList = some (tN, xN)) (hxN : ev (trS nt ((tI, .pointer (some ⟨c, 0, none⟩)) :: σK)) (src nt xN) = .pointer (some ⟨c, 0, none⟩))
    (hE' : entryOp opsE.toList = some (tE, xE)) (hxE2 : ev (trS nt ((tI, .pointer (some ⟨c, 0, none⟩)) :: σK)) (src nt xE) = .pointer (some ⟨c, 0, none⟩))
    (hsN : SubN tN ((tI, .pointer (some ⟨c, 0, none⟩)) :: σK) ((tI, .pointer (some ⟨c, 0, none⟩)) :: σK)) (hsE : SubN tE ((tI, .pointer (some ⟨c, 0, none⟩)) :: σK) ((tI, .pointer (some ⟨c, 0, none⟩)) :: σK))
    (hover : XW E nt opsN 1 ((tN, .tuple #[.bool false]) :: (tI, .pointer (some ⟨c, 0, none⟩)) :: σK) h (c + 1) (fun σ' => ev (trS nt σ') (src nt sB) = .bool false ∧ SubI σ' ((tI, .pointer (some ⟨c, 0, none⟩)) :: σK)))
    (hstep : ∀ p ∈ es, XW E nt opsN 1 ((tN, .tuple #[.bool true, keyV p.1, p.2]) :: (tI, .pointer (some ⟨c, 0, none⟩)) :: σK) h (c + 1) (fun σ' => ev (trS nt σ') (src nt sB) = .bool true ∧ SubI σ' ((tI, .pointer (some ⟨c, 0, none⟩)) :: σK)))
    (hbody : ∀ p ∈ es, XW E nt opsE 1 ((tE, .tuple #[keyV p.1, p.2]) :: (tI, .pointer (some ⟨c, 0, none⟩)) :: σK) h (c + 1)
      (fun σ' => XV E nt Bd σ' h (c + 1) (fun e σ'' => e = .normal ∧ SubI σ'' ((tI, .pointer (some ⟨c, 0, none⟩)) :: σK))))
    {σZ : St} (hZ : SubI ((tI, .pointer (some ⟨c, 0, none⟩)) :: σK) σZ) (hQ : Q .normal σZ h (c + 1)) :
    XQ E nt k (.seq (.region idR opsR false) (.block b (.loop (.seq (.region idN opsN false) (.seq (.cond sB .skip (.exit b)) (.block b2 (.seq (.region idE opsE false) Bd))))))) σ h c Q := by
  simp only [Bool.and_eq_true, Nat.blt_eq] at htI
  obtain ⟨ltI, ltN, ltE⟩ := htI
  obtain ⟨oR, lR, gR, eR, kR⟩ := rangeOp_spec hop
  obtain ⟨oN, lN', lN, gN, eN, kN⟩ := nextOp_spec hN
  obtain ⟨oE, lE', lE, gE, eE, kE⟩ := entryOp_spec hE'
  generalize hσL : ((tI, Value.pointer (some ⟨c, 0, none⟩)) :: σK : St) = σL at *
  intro B ρ a w h1 h2 h3 h4 h5 h6 h7
  have dN1 : opsN.toList.drop 1 = lN' := by rw [lN]; rfl
  have dE1 : opsE.toList.drop 1 = lE' := by rw [lE]; rfl
  refine wp_seq (wp_region_list ?_)
  have hlist : opsR.toList = opsR.toList.take n0 ++ [oR] := by rw [← lR, List.take_append_drop]
  rw [hlist]
  refine wpList_still_app _ _ ?_
  -- what is read before
  obtain ⟨u1, u2⟩ := sub_ok hE nt opsR 0 n0
  simp only [List.drop_zero] at u1 u2
  cases hx0 : qops noCall ((gsOf E nt opsR).take n0) h (trS nt σ) with
  | none => rw [hx0] at hr; cases hr
  | some t2 =>
    rw [hx0] at hr
    cases hr
    have harr : opsR.toList.toArray = opsR := by simp
    have key := qops_still_pre (E := E) (all := opsR.toList) (Q := fun a' => wpList E.P opsR (Exit.then ((Code.block b (.loop (.seq (.region idN opsN false) (.seq (.cond sB .skip (.exit b)) (.block b2 (.seq (.region idE opsE false) Bd)))))).wp E.P (After k B nt ρ w a.defers Q)) (After k B nt ρ w a.defers Q)) [oR] a' w) h2 [] _ _ u1 u2 _ t2 hx0 a h1.tr ?_
    · rw [harr, List.append_nil] at key; exact key
    intro a1 d1 r1
    refine wpStill_nil ?_
    have s1 : SRel ρ nt (readS t2 live) a1 := SRel.of_tr r1 hl
    have hx := src_ok s1.tr x
    rw [hm] at hx
    generalize ex : a1.eval x = x' at hx
    cases hx with
    | map _ L hL =>
      obtain ⟨_, hsh, hes, E0, clock, g1, g2, g3, g4⟩ := h2.at hg hL
      have hlt : L.b < w.heap.size := (Array.getElem?_eq_some_iff.1 g1).1
      have hPt : E.P.underlying t = some (.map kt et) := by rw [(hE.ty t d hty).1, hu]
      have run1 : (execOp a1.eval oR).run E.P w = .ok (.value (.pointer (some ⟨w.heap.size, 0, none⟩))) (w.alloc (.mapIter (some L.b) clock #[] clock)) := by
        simp [execOp, kR, ex, run_range_map w t kt et L.b E0 clock hPt g1]
      refine wpList_plain gR (fun K hK' => ?_)
      unfold Oper.wp
      rw [run1]
      show K (a1.put oR.dst _) _
      rw [eR]
      refine hK' _ _ ?_
      -- the loop
      have hle : Rho.le ρ (ρ ++ [(⟨w.heap.size, 0, 0, 0⟩ : Loc)]) := Rho.le_push _ _
      have hat : (ρ ++ [(⟨w.heap.size, 0, 0, 0⟩ : Loc)])[c]? = some ⟨w.heap.size, 0, 0, 0⟩ := by rw [← h3]; simp
      have hlen : (ρ ++ [(⟨w.heap.size, 0, 0, 0⟩ : Loc)]).length = c + 1 := by simp [h3]
      generalize hρ : ρ ++ [(⟨w.heap.size, 0, 0, 0⟩ : Loc)] = ρ' at hle hat hlen
      have s2 : SRel ρ' nt σL (a1.put (some tI) (.pointer (some ⟨w.heap.size, 0, none⟩))) := by
        rw [← hσL]
        exact (s1.mono hle).put ltI (.ptr c 0 _ hat) hK.mem
      have hptr : ∀ {a' : Act} {y : Operand}, SRel ρ' nt σL a' → ev (trS nt σL) (src nt y) = .pointer (some ⟨c, 0, none⟩) → a'.eval y = .pointer (some ⟨w.heap.size, 0, none⟩) := by
        intro a' y hs hy
        have hv := src_ok hs.tr y
        rw [hy] at hv
        generalize a'.eval y = y' at hv
        cases hv with
        | ptr _ _ M hM =>
          rw [hat] at hM
          cases hM
          rfl
      refine wp_block (wp_loop_rounds (E0.size + 1) ?_)
      have key : ∀ (n : Nat) (a' : Act) (w' : World) (seen : Array Nat) (c0 : Nat), (leftOf E0 seen).size < n → clock ≤ c0 → w'.heap[w.heap.size]? = some (.mapIter (some L.b) clock seen c0) → (∀ j, j < w.heap.size → w'.heap[j]? = w.heap[j]?) → Below B w w' → SRel ρ' nt σL a' → a'.defers = a.defers →
          Code.rounds E.P (.seq (.region idN opsN false) (.seq (.cond sB .skip (.exit b)) (.block b2 (.seq (.region idE opsE false) Bd)))) (Exit.inBlock b (After k B nt ρ w a.defers Q)) n a' w' := by
        intro n
        induction n with
        | zero => intro a' w' seen c0 hn; omega
        | succ n ih =>
          intro a' w' seen c0 hn hc hit hfr hbl hs hd
          have hH : HRel B ρ' h w' := h2.keep hle hfr
          have hmp : w'.heap[L.b]? = some (.map E0 clock) := (hfr _ hlt).trans g1
          have exN := hptr hs hxN
          rw [rounds_succ]
          refine wp_seq (wp_region_list ?_)
          rw [lN]
          rcases run_next_at (P := E.P) w' oN.type w.heap.size L.b clock c0 seen E0 clock hit hmp g4.1 hc with ⟨_, run2⟩ | ⟨e, he, w1, hal, run2⟩
          · have run2' : (execOp a'.eval oN).run E.P w' = .ok (.value (.tuple #[.bool false])) w' := by
              simp [execOp, kN, exN, run2]
            refine wpList_plain gN (fun K hK' => ?_)
            unfold Oper.wp
            rw [run2']
            show K (a'.put oN.dst _) _
            rw [eN]
            refine hK' _ _ ?_
            have hv : VRel ρ' (.tuple #[.bool false]) (.tuple #[.bool false]) := VRel.plain_refl ρ' rfl
            have hX := hover B ρ' _ w' (hs.put ltN hv hsN.mem) hH hlen a.defers hd
            rw [dN1] at hX
            refine wpList_still (fun a3 h3' => ?_) _ _ hX
            obtain ⟨σ3, d3, s3, ev3, sub3⟩ := h3'
            have e3 : a3.eval sB = .bool false := by
              have hv := src_ok s3.tr sB
              rw [ev3] at hv
              generalize a3.eval sB = y' at hv
              cases hv
              rfl
            refine wp_seq (wp_cond_false e3 (wp_exit ?_))
            have fin : After k B nt ρ w a.defers Q .normal a3 w' := ⟨.normal, σZ, h, c + 1, ρ', rfl, d3, ⟨s3.1, s3.2.1, fun i v hm => s3.2.2 i v (sub3.mem i v (hZ.mem i v hm))⟩, hH, hlen, Keeps.of_le h7 hle, hbl, hQ⟩
            simpa [Exit.then, Exit.inBlock] using fin
          · obtain ⟨hem, hes'⟩ := mem_left he
            have hpe : (e.key, e.val) ∈ es.map (fun p => (keyV p.1, p.2)) := by
              rw [← g2]; exact List.mem_map.2 ⟨e, hem, rfl⟩
            obtain ⟨p, hp, hpk⟩ := List.mem_map.1 hpe
            have hk1 : keyV p.1 = e.key := congrArg Prod.fst hpk
            have hk2 : p.2 = e.val := congrArg Prod.snd hpk
            have hsc : scal p.2 = true := List.all_eq_true.1 g3 p hp
            have hw1 : w1.heap = w'.heap := by rcases hal with rfl | rfl <;> rfl
            have hbl1 : Below B w w1 := by
              rcases hal with rfl | rfl
              · exact hbl
              · exact hbl.drew
            have hit2 : (ChangeMaps.setBlock w1 w.heap.size (.mapIter (some L.b) clock (seen.push e.born) clock)).heap[w.heap.size]? = some (.mapIter (some L.b) clock (seen.push e.born) clock) := by
              have hsz : w.heap.size < w1.heap.size := by rw [hw1]; exact (Array.getElem?_eq_some_iff.1 hit).1
              simp [ChangeMaps.setBlock, hsz]
            have hfr2 : ∀ j, j < w.heap.size → (ChangeMaps.setBlock w1 w.heap.size (.mapIter (some L.b) clock (seen.push e.born) clock)).heap[j]? = w.heap[j]? := by
              intro j hj
              rw [← hfr j hj, ← hw1]
              exact Array.getElem?_setIfInBounds_ne (by omega)
            have hbl2 : Below B w (ChangeMaps.setBlock w1 w.heap.size (.mapIter (some L.b) clock (seen.push e.born) clock)) := hbl1.trans (below_setBlock h4 _)
            generalize hw2 : ChangeMaps.setBlock w1 w.heap.size (.mapIter (some L.b) clock (seen.push e.born) clock) = w2 at run2 hit2 hfr2 hbl2
            have hH2 : HRel B ρ' h w2 := h2.keep hle hfr2
            have hmp2 : w2.heap[L.b]? = some (.map E0 clock) := (hfr2 _ hlt).trans g1
            have run2' : (execOp a'.eval oN).run E.P w' = .ok (.value (.tuple #[.bool true, keyV p.1, p.2])) w2 := by
              simp [execOp, kN, exN, run2, hk1, hk2]
            refine wpList_plain gN (fun K hK' => ?_)
            unfold Oper.wp
            rw [run2']
            show K (a'.put oN.dst _) _
            rw [eN]
            refine hK' _ _ ?_
            have hX := hstep p hp B ρ' _ w2 (hs.put ltN (three_rel ρ' p.1 hsc) hsN.mem) hH2 hlen a.defers hd
            rw [dN1] at hX
            refine wpList_still (fun a3 h3' => ?_) _ _ hX
            obtain ⟨σ3, d3, s3, ev3, sub3⟩ := h3'
            have e3 : a3.eval sB = .bool true := by
              have hv := src_ok s3.tr sB
              rw [ev3] at hv
              generalize a3.eval sB = y' at hv
              cases hv
              rfl
            have s3' : SRel ρ' nt σL a3 := ⟨s3.1, s3.2.1, fun i v hm => s3.2.2 i v (sub3.mem i v hm)⟩
            refine wp_seq (wp_cond_true e3 (wp_skip ?_))
            refine wp_block (wp_seq (wp_region_list ?_))
            rw [lE]
            have run3 : (execOp a3.eval oE).run E.P w2 = .ok (.value (.tuple #[keyV p.1, p.2])) w2 := by
              simp [execOp, kE, hptr s3' hxE2, run_entry_at w2 w.heap.size L.b clock seen E0 clock e hit2 hmp2 hem g4.2, hk1, hk2]
            refine wpList_plain gE (fun K hK' => ?_)
            unfold Oper.wp
            rw [run3]
            show K (a3.put oE.dst _) _
            rw [eE]
            refine hK' _ _ ?_
            have hY := hbody p hp B ρ' _ w2 (s3'.put ltE (pair_rel ρ' p.1 hsc) hsE.mem) hH2 hlen a.defers d3
            rw [dE1] at hY
            refine wpList_still (fun a4 h4' => ?_) _ _ hY
            obtain ⟨σ4, d4, s4, v4⟩ := h4'
            refine wp_mono (v4 B ρ' a4 w2 s4 hH2 hlen) ?_
            rintro e5 a5 w5 ⟨rfl, d5, e', σ5, rfl, s5, rfl, sub5⟩
            have := ih a5 _ (seen.push e.born) clock (by have := left_shrinks E0 seen e he; omega) (Nat.le_refl _) hit2 hfr2 hbl2 ⟨s5.1, s5.2.1, fun i v hm => s5.2.2 i v (sub5.mem i v hm)⟩ (d5.trans d4)
            simpa [Exit.then, Exit.inBlock, exOf] using this
      refine key (E0.size + 1) _ _ #[] clock (Nat.lt_succ_of_le (Array.size_filter_le ..)) (Nat.le_refl _) (heap_new w _) (fun j hj => heap_old w _ hj) (below_alloc h4 _) s2 d1

/-- The same, at code that is told by its parts. -/
theorem XQ.rangeAll {E : Env} (hE : E.Ok) {nt k : Nat} {code : Code} {b b2 : Nat} {sB : Operand}
    (s0 : isSeq code = true) (s1 : drawOf (lft code) = some false) (s2 : blockOf (rgt code) = some b) (s3 : isLoop (lft (rgt code)) = true) (s4 : isSeq (bdyC code) = true) (s5 : drawOf (lft (bdyC code)) = some false)
    (s6 : isSeq (rgt (bdyC code)) = true) (s7 : condOf (lft (rgt (bdyC code))) = some sB) (s8 : isSkip (lft (lft (rgt (bdyC code)))) = true) (s9 : exitOf (rgt (lft (rgt (bdyC code)))) = some b)
    (s10 : blockOf (rgt (rgt (bdyC code))) = some b2) (s11 : isSeq (innC code) = true) (s12 : drawOf (lft (innC code)) = some false)
    {σ : St} {h : Heap} {c : Nat} {Q : QP} (n0 : Nat) (live : List Nat) {σ1 σK : St} (hl : live.all (fun i => Nat.blt i nt) = true)
    (hr : obsT live (qops noCall ((gsOf E nt (opsOf (lft code))).take n0) h (trS nt σ)) = some σ1)
    {tI tN tE : Nat} {t kt et : TypeId} {x xN xE : Operand} {d : XTy} {m : Nat} {es : List (List Int × Value)}
    (hop : rangeOp ((opsOf (lft code)).toList.drop n0) = some (tI, t, x)) (hty : E.ty t = some d) (hu : d.u = .map kt et) (htI : (Nat.blt tI nt && (Nat.blt tN nt && Nat.blt tE nt)) = true)
    (hm : ev (trS nt σ1) (src nt x) = .map (some m)) (hg : hget h m = some (.imap es)) (hK : SubN tI σ1 σK)
    (hN : nextOp (opsOf (lft (bdyC code))).toList = some (tN, xN)) (hxN : ev (trS nt ((tI, .pointer (some ⟨c, 0, none⟩)) :: σK)) (src nt xN) = .pointer (some ⟨c, 0, none⟩))
    (hE' : entryOp (opsOf (lft (innC code))).toList = some (tE, xE)) (hxE : ev (trS nt ((tI, .pointer (some ⟨c, 0, none⟩)) :: σK)) (src nt xE) = .pointer (some ⟨c, 0, none⟩))
    (hsN : SubN tN ((tI, .pointer (some ⟨c, 0, none⟩)) :: σK) ((tI, .pointer (some ⟨c, 0, none⟩)) :: σK)) (hsE : SubN tE ((tI, .pointer (some ⟨c, 0, none⟩)) :: σK) ((tI, .pointer (some ⟨c, 0, none⟩)) :: σK))
    (hover : XW E nt (opsOf (lft (bdyC code))) 1 ((tN, .tuple #[.bool false]) :: (tI, .pointer (some ⟨c, 0, none⟩)) :: σK) h (c + 1) (fun σ' => ev (trS nt σ') (src nt sB) = .bool false ∧ SubI σ' ((tI, .pointer (some ⟨c, 0, none⟩)) :: σK)))
    (hstep : ∀ p ∈ es, XW E nt (opsOf (lft (bdyC code))) 1 ((tN, .tuple #[.bool true, keyV p.1, p.2]) :: (tI, .pointer (some ⟨c, 0, none⟩)) :: σK) h (c + 1) (fun σ' => ev (trS nt σ') (src nt sB) = .bool true ∧ SubI σ' ((tI, .pointer (some ⟨c, 0, none⟩)) :: σK)))
    (hbody : ∀ p ∈ es, XW E nt (opsOf (lft (innC code))) 1 ((tE, .tuple #[keyV p.1, p.2]) :: (tI, .pointer (some ⟨c, 0, none⟩)) :: σK) h (c + 1)
      (fun σ' => XV E nt (rgt (innC code)) σ' h (c + 1) (fun e σ'' => e = .normal ∧ SubI σ'' ((tI, .pointer (some ⟨c, 0, none⟩)) :: σK))))
    {σZ : St} (hZ : SubI ((tI, .pointer (some ⟨c, 0, none⟩)) :: σK) σZ) (hQ : Q .normal σZ h (c + 1)) : XQ E nt k code σ h c Q := by
  unfold innC bdyC at *
  cases code with
  | seq R Bk =>
    simp only [lft, rgt] at *
    cases R with
    | region idR opsR dR =>
      cases s1
      cases Bk with
      | block b' L =>
        cases s2
        simp only [lft, rgt] at *
        cases L with
        | loop bd =>
          simp only [lft, rgt] at *
          cases bd with
          | seq N rest =>
            simp only [lft, rgt] at *
            cases N with
            | region idN opsN dN =>
              cases s5
              cases rest with
              | seq C B2 =>
                simp only [lft, rgt] at *
                cases C with
                | cond sC Cx Cy =>
                  cases s7
                  simp only [lft, rgt] at *
                  cases Cx with
                  | skip =>
                    cases Cy with
                    | exit j =>
                      cases s9
                      cases B2 with
                      | block b2' inn =>
                        cases s10
                        simp only [lft, rgt] at *
                        cases inn with
                        | seq En Bd =>
                          simp only [lft, rgt] at *
                          cases En with
                          | region idE opsE dE =>
                            cases s12
                            exact range_core hE n0 live hl hr hop hty hu htI hm hg hK hN hxN hE' hxE hsN hsE hover hstep hbody hZ hQ
                          | _ => cases s12
                        | _ => cases s11
                      | _ => cases s10
                    | _ => cases s9
                  | _ => cases s8
                | _ => cases s7
              | _ => cases s6
            | _ => cases s5
          | _ => cases s4
        | _ => cases s3
      | _ => cases s2
    | _ => cases s1
  | _ => cases s0

#print axioms XQ.rangeAll
end Go.Xm
namespace Go.Xm
open Go.RowKit
set_option linter.unusedVariables false
set_option linter.unusedSimpArgs false

def imA {α : Type} (g : α → Value) (l : List (List Int × α)) : List (List Int × Value) := l.map fun p => (p.1, g p.2)

/-- What a map holds at a key, or d. -/
def getA {α : Type} (d : α) : List (List Int × α) → List Int → α
  | [], _ => d
  | p :: t, k => if p.1 = k then p.2 else getA d t k

def putA {α : Type} : List (List Int × α) → List Int → α → List (List Int × α)
  | [], k, v => [(k, v)]
  | p :: t, k, v => if p.1 = k then (k, v) :: t else p :: putA t k v

theorem getA_putA {α : Type} (d v : α) (k x : List Int) : ∀ l : List (List Int × α), getA d (putA l k v) x = if x = k then v else getA d l x
  | [] => by
    show (if k = x then v else d) = if x = k then v else d
    by_cases e : x = k
    · rw [if_pos e, if_pos e.symm]
    · rw [if_neg e, if_neg (Ne.symm e)]
  | p :: l => by
    have ih := getA_putA d v k x l
    by_cases e1 : p.1 = k
    · rw [show putA (p :: l) k v = (k, v) :: l by simp [putA, e1]]
      show (if k = x then v else getA d l x) = if x = k then v else (if p.1 = x then p.2 else getA d l x)
      by_cases e : x = k
      · rw [if_pos e, if_pos e.symm]
      · rw [if_neg e, if_neg (Ne.symm e), if_neg (fun q => e (q.symm.trans e1))]
    · rw [show putA (p :: l) k v = p :: putA l k v by simp [putA, e1]]
      show (if p.1 = x then p.2 else getA d (putA l k v) x) = if x = k then v else (if p.1 = x then p.2 else getA d l x)
      rw [ih]
      by_cases e2 : p.1 = x
      · rw [if_pos e2, if_pos e2, if_neg (fun q => e1 (e2.trans q))]
      · rw [if_neg e2, if_neg e2]

def lensA {α : Type} (n : Nat) (l : List (List Int × α)) : Bool := l.all fun p => Nat.beq p.1.length n

theorem lensA_put {α : Type} {n : Nat} {k : List Int} {v : α} (hk : Nat.beq k.length n = true) : ∀ {l : List (List Int × α)}, lensA n l = true → lensA n (putA l k v) = true
  | [], _ => by simp only [lensA, putA, List.all_cons, List.all_nil, hk, Bool.and_self]
  | p :: l, h => by
    simp only [lensA, List.all_cons, Bool.and_eq_true] at h
    have ih := lensA_put (v := v) hk (l := l) h.2
    unfold putA
    by_cases e : p.1 = k
    · rw [if_pos e]
      simp only [lensA, List.all_cons, Bool.and_eq_true]
      exact ⟨hk, h.2⟩
    · rw [if_neg e]
      simp only [lensA, List.all_cons, Bool.and_eq_true]
      exact ⟨h.1, ih⟩

theorem lens_imA {α : Type} (g : α → Value) (n : Nat) (l : List (List Int × α)) : lens n (imA g l) = lensA n l := by
  unfold lens imA lensA
  rw [List.all_map]
  rfl

theorem mfind_imA {α : Type} (g : α → Value) (d : α) (k : List Int) : ∀ l : List (List Int × α), (mfind (imA g l) k).getD (g d) = g (getA d l k)
  | [] => rfl
  | p :: l => by
    have ih := mfind_imA g d k l
    show (if p.1 = k then some (g p.2) else mfind (imA g l) k).getD (g d) = g (if p.1 = k then p.2 else getA d l k)
    by_cases e : p.1 = k
    · rw [if_pos e, if_pos e]; rfl
    · rw [if_neg e, if_neg e, ih]

theorem mput_imA {α : Type} (g : α → Value) (k : List Int) (v : α) : ∀ l : List (List Int × α), mput (imA g l) k (g v) = imA g (putA l k v)
  | [] => rfl
  | p :: l => by
    have ih := mput_imA g k v l
    show (if p.1 = k then (k, g v) :: imA g l else (p.1, g p.2) :: mput (imA g l) k (g v)) = imA g (if p.1 = k then (k, v) :: l else p :: putA l k v)
    by_cases e : p.1 = k
    · rw [if_pos e, if_pos e]; rfl
    · rw [if_neg e, if_neg e, ih]; rfl

theorem intsA_row : ∀ L : List Int, intsL (rowC (encI .i64) L) = some L
  | [] => rfl
  | x :: L => by
    have ih := intsA_row L
    show intsL (Value.int .i64 x :: rowC (encI .i64) L) = some (x :: L)
    simp only [intsL, ih]

theorem keyL_row {L : List Int} (h : Nat.beq L.length 1 = false) : keyL (.agg (rowC (encI .i64) L).toArray) = some L := by
  simp only [keyL, intsA_row, h]

theorem v_mgetA {α : Type} (g : α → Value) {J : Ins} {d : Option (List Bool)} {n : Nat} {x i : Src} {z : Value} {t : Tr} {h : Heap} (hI : J = .rd d (rLookup n x i z false)) {b : Nat} {k : List Int} (hx : ev t x = .map (some b)) (hi : ev t i = .agg (rowC (encI .i64) k).toArray) (hn : Nat.beq n 1 = false) {l : List (List Int × α)}
    (hg : hget h b = some (.imap (imA g l))) (hl : (Nat.beq k.length n && lensA n l) = true) {d0 : α} (hz : z = g d0) (hs : scal z = true) {v : Value} (hv : g (getA d0 l k) = v) : insV J t h = some v := by
  subst hI
  obtain ⟨l1, l2⟩ := Bool.and_eq_true_iff.1 hl
  have e0 : k.length = n := Nat.eq_of_beq_eq_true l1
  have e1 : Nat.beq k.length 1 = false := by rw [e0]; exact hn
  simp only [insV, rLookup, hx, hg, hi, hs, keyL_row e1, l1, lens_imA, l2, Bool.and_self]
  rw [hz, mfind_imA, hv]

theorem e_mputA {α : Type} (g : α → Value) {J : Ins} {d : Option (List Bool)} {n : Nat} {m i x : Src} {t : Tr} {h h' : Heap} {c : Nat} (hI : J = .ef d (eMapUpdate n m i x)) {b : Nat} {k : List Int} (hx : ev t m = .map (some b)) (hi : ev t i = .agg (rowC (encI .i64) k).toArray) (hn : Nat.beq n 1 = false) {l : List (List Int × α)}
    (hg : hget h b = some (.imap (imA g l))) (hl : (Nat.beq k.length n && lensA n l) = true) {a : α} (hv : ev t x = g a) (hs : scal (g a) = true) (hh : hset h b (.imap (imA g (putA l k a))) = h') : insE J t h c = some (undef, h', c) := by
  subst hI
  obtain ⟨l1, l2⟩ := Bool.and_eq_true_iff.1 hl
  have e0 : k.length = n := Nat.eq_of_beq_eq_true l1
  have e1 : Nat.beq k.length 1 = false := by rw [e0]; exact hn
  simp only [insE, eMapUpdate, hx, hg, hi, hv, hs, keyL_row e1, l1, lens_imA, l2, Bool.and_self]
  rw [mput_imA, hh]

/-- A whole array, whose cells are a row. -/
theorem v_loadA {J : Ins} {d : Option (List Bool)} {n : Nat} {x : Src} {t : Tr} {h : Heap} (hI : J = .rd d (rLoadN n x)) {b : Nat} (hx : ev t x = .pointer (some ⟨b, 0, none⟩)) {L : List Int} {fz : Nat} {e : TypeId} {es : Nat}
    (hg : hget h b = some (.cells (rowC (encI .i64) L) fz e es)) (hn : decide (L.length = n) = true) : insV J t h = some (.agg (rowC (encI .i64) L).toArray) := by
  subst hI
  have hn := of_decide_eq_true hn
  have l2 : (rowC (encI .i64) L).length = L.length := by rw [rowC_length (encI_ok .i64)]; simp
  have hb : Nat.ble (0 + n) (rowC (encI .i64) L).length = true := by rw [Nat.ble_eq]; omega
  simp only [insV, rLoadN, hx, hg, hb, List.drop_zero]
  rw [List.take_of_length_le (by omega)]

theorem hset_own : ∀ {h : Heap} {i : Nat} {o : XObj}, hget h i = some o → hset h i o = h
  | [], _, _, hg => by rw [hget_nil] at hg; cases hg
  | p :: t, i, o, hg => by
    rw [hget_cons] at hg
    rw [hset_cons]
    by_cases e : p.1 = i
    · rw [if_pos e] at hg
      cases hg
      rw [if_pos e, ← e]
    · rw [if_neg e] at hg
      rw [if_neg e, hset_own hg]

/-- copy: a row's first elements become those of another one. -/
theorem e_copy {J : Ins} {d : Option (List Bool)} {s x : Src} {t : Tr} {h h' : Heap} {c : Nat} (hI : J = .ef d (eCopy 1 s x)) {b len cap : Nat} {L ys : List Int} {e : TypeId} {es : Nat} (hs : ev t s = .slice (some ⟨b, 0, none⟩) len cap)
    {V : Value} (hV : ev t x = V) (hx : fetch h 1 V = some (ys.length, rowC (encI .i64) ys)) (hg : hget h b = some (.cells (rowC (encI .i64) L) 0 e es)) (hb : (Nat.ble ys.length len && Nat.ble ys.length L.length) = true)
    (hh : hset h b (.cells (rowC (encI .i64) (ys ++ L.drop ys.length)) 0 e es) = h') : insE J t h c = some (.int .i64 ((ys.length : Nat) : Int), h', c) := by
  subst hI
  subst hV
  obtain ⟨b1, b2⟩ := Bool.and_eq_true_iff.1 hb
  have k2 := Nat.le_of_ble_eq_true b2
  cases ys with
  | nil =>
    have e1 : hset h b (.cells (rowC (encI .i64) ([] ++ L.drop 0)) 0 e es) = h := hset_own hg
    rw [← hh]
    simp only [insE, eCopy, hs, hx]
    show some (Value.int .i64 0, h, c) = some (Value.int .i64 0, hset h b (.cells (rowC (encI .i64) ([] ++ L.drop 0)) 0 e es), c)
    rw [e1]
  | cons y ys =>
    have l1 : (rowC (encI .i64) (y :: ys)).length = ys.length + 1 := by rw [rowC_length (encI_ok .i64)]; simp
    have l2 : (rowC (encI .i64) L).length = L.length := by rw [rowC_length (encI_ok .i64)]; simp
    have q1 : (rowC (encI .i64) (y :: ys)).all one1 = true := rowC_one1 (encI_ok .i64) _
    have q2 : Nat.ble (ys.length + 1) len = true := b1
    have q3 : Nat.ble (0 + (rowC (encI .i64) (y :: ys)).length) (rowC (encI .i64) L).length = true := by
      rw [l1, l2, Nat.zero_add]; exact b2
    have q4 : Nat.ble 1 1 = true := rfl
    have q5 : Nat.ble 0 0 = true := rfl
    have hd : (rowC (encI .i64) L).drop (0 + (rowC (encI .i64) (y :: ys)).length) = rowC (encI .i64) (L.drop (y :: ys).length) := by
      have := rowC_drop (encI_ok .i64) L (y :: ys).length
      rw [Nat.mul_one] at this
      rw [l1, Nat.zero_add]
      exact this
    have hx' : fetch h 1 (ev t x) = some (ys.length + 1, rowC (encI .i64) (y :: ys)) := hx
    rw [← hh, rowC_append]
    simp only [insE, eCopy, hs, hx', hg, q1, q2, q3, q4, q5, Bool.and_self, hd, List.take_zero, List.nil_append]
    rfl

#print axioms e_copy
#print axioms e_mputA
end Go.Xm
namespace Go.Xm
open Go.RowKit

/-- What is handed back, and the heap, under other numbers. -/
def RenO (c : Nat) (R : Value → Heap → Nat → Prop) (v : Value) (h : Heap) (_ : Nat) : Prop :=
  ∃ (s : List Nat) (v2 : Value) (h2 : Heap), s.Nodup ∧ s.take c = List.range c ∧ renV s v2 = v ∧ RenH s h h2 ∧ R v2 h2 s.length

theorem KC.renO {E : Env} {K : Nat} {args : List Value} {h : Heap} {c : Nat} {R : Value → Heap → Nat → Prop} (hx : KC E K args h c (RenO c R)) : KC E K args h c R := by
  intro B ρ w args' h1 h2 h3 h4 h5 h6
  obtain ⟨q1, q2⟩ := hx B ρ w args' h1 h2 h3 h4 h5 h6
  refine ⟨q1, q2.mono ?_⟩
  rintro en w' ⟨v, v', ρ', h', c', rfl, e2, e3, e4, e5, e6, s, v2, hh2, hn, hk, rfl, hr, hR⟩
  have hle : Rho.le ρ (renR s ρ') := by
    intro i L hi
    have hic : i < c := by have := (List.getElem?_eq_some_iff.1 hi).1; omega
    have g1 : s[i]? = some i := by
      have g2 : (s.take c)[i]? = some i := by rw [hk]; simp [hic]
      rw [List.getElem?_take, if_pos hic] at g2
      exact g2
    exact renR_at g1 (e3 i L hi)
  exact ⟨v2, v', renR s ρ', hh2, s.length, rfl, e2.renV, hle, by simp [renR], e5.ren hn hr, e6, hR⟩

end Go.Xm
