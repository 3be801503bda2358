/- The abstract machine, more: regions that draw their order and hold loads beside operations that make or turn memory: loads of blocks that nothing turns may be taken first. Conditions: none; nothing here speaks of one program. -/
import Derived.Test.YtglkjlafglpalaaGreatDoorNm
import Derived.OrdersHeld
import Derived.Test.YtglkjlafglpalaaGreatDoorMp
import Derived.OpenShut
import Derived.ChangeShapes
import Derived.WideShapes
import Derived.Deep.SlicePairs
import Derived.Test.YtglkjlafglpalaaGreatDoorShelf
import Derived.Lib.LaidTab
import Derived.WalkKit
import Derived.Lib.SplitLaws
namespace Go.Xm
open Go.RowKit
set_option linter.unusedVariables false
section
variable {P : Program} {ops : Array Oper} {md : Region.Mode} {S : World → Prop}
def wpT (P : Program) (md : Region.Mode) (ops : Array Oper) (Q : Exit → Act → World → Prop) (S : World → Prop) (t0 : Nat) : Nat → Array Bool → Act → World → Prop
 | 0, listed, a, w => Region.ready md ops listed = [] ∧ Q .normal a w
 | f + 1, listed, a, w => (Region.ready md ops listed = [] → Q .normal a w) ∧ ∀ i ∈ Region.ready md ops listed, wpOp P ops Q i (fun a' w' => ((listed.setIfInBounds i true).getD t0 false = true ∨ S w') ∧ wpT P md ops Q S t0 f (listed.setIfInBounds i true) a' w') a w
theorem wpAny_of_T {t0 : Nat} {Q : Exit → Act → World → Prop} : ∀ (f : Nat) (listed : Array Bool) (a : Act) (w : World), wpT P md ops Q S t0 f listed a w → wpAny P md ops Q f listed a w
 | 0, _, _, _, h => h
 | f + 1, listed, a, w, h => ⟨h.1, fun i hi => wpOp_mono (fun a' w' h' => wpAny_of_T f _ a' w' h'.2) (h.2 i hi)⟩
theorem wpT_of_any {t0 : Nat} {Q : Exit → Act → World → Prop} : ∀ (f : Nat) (listed : Array Bool) (a : Act) (w : World), listed.getD t0 false = true → wpAny P md ops Q f listed a w → wpT P md ops Q S t0 f listed a w
 | 0, _, _, _, _, h => h
 | f + 1, listed, a, w, hl, h => ⟨h.1, fun i hi => wpOp_mono (fun a' w' h' => ⟨.inl (getD_set_true hl), wpT_of_any f _ a' w' (getD_set_true hl) h'⟩) (h.2 i hi)⟩
theorem getD_set_self {listed : Array Bool} {i : Nat} (h : i < listed.size) : (listed.setIfInBounds i true).getD i false = true := by
 simp [h]
theorem wpT_last {t0 : Nat} {Q : Exit → Act → World → Prop} (f : Nat) {listed : Array Bool} {a : Act} {w : World} (hr : ∀ j ∈ Region.ready md ops listed, j = t0) (hz : t0 < listed.size) (h : wpAny P md ops Q f listed a w) : wpT P md ops Q S t0 f listed a w := by
 cases f with
 | zero => exact h
 | succ f =>
  refine ⟨h.1, fun i hi => ?_⟩
  have e := hr i hi
  subst e
  exact wpOp_mono (fun a' w' h' => ⟨.inl (getD_set_self hz), wpT_of_any f _ a' w' (getD_set_self hz) h'⟩) (h.2 i hi)
def reachB (md : Region.Mode) (ops : Array Oper) : Nat → Nat → Nat → Bool
 | 0, _, _ => false
 | f + 1, t, i => match ops[t]? with
  | some o => o.after.any fun e => Region.binds md e && (Nat.beq e.on i || reachB md ops f e.on i)
  | none => false
def waitsB (md : Region.Mode) (ops : Array Oper) (t0 i : Nat) : Bool := reachB md ops ops.size t0 i
def closedB (md : Region.Mode) (ops : Array Oper) (listed : Array Bool) : Bool :=
 Nat.beq listed.size ops.size && (List.range ops.size).all fun j => !(listed.getD j false) || (match ops[j]? with
  | some o => o.after.all fun e => !(Region.binds md e) || listed.getD e.on false
  | none => true)
theorem closedB_inv {listed : Array Bool} (h : closedB md ops listed = true) : PInv md ops [] listed := by
 simp only [closedB, Bool.and_eq_true] at h
 obtain ⟨h1, h2⟩ := h
 refine ⟨Nat.eq_of_beq_eq_true h1, fun j oj hj hl e he hb => ?_, fun t ht => by cases ht⟩
 have hj' : j < ops.size := (Array.getElem?_eq_some_iff.1 hj).1
 have := List.all_eq_true.1 h2 j (List.mem_range.2 hj')
 rw [hl, hj] at this
 simp only [Bool.not_true, Bool.false_or, Array.all_eq_true] at this
 obtain ⟨k, hk, rfl⟩ := Array.mem_iff_getElem.1 he
 have := this k hk
 rw [hb] at this
 simpa using this
theorem reach_listed {listed : Array Bool} (inv : PInv md ops [] listed) {i : Nat} : ∀ (f t : Nat), reachB md ops f t i = true → (∀ o, ops[t]? = some o → ∀ e ∈ o.after, Region.binds md e = true → listed.getD e.on false = true) → listed.getD i false = true
 | 0, t, h, _ => by cases h
 | f + 1, t, h, ht => by
  unfold reachB at h
  cases ho : ops[t]? with
  | none => rw [ho] at h; cases h
  | some o =>
   rw [ho] at h
   simp only [Array.any_eq_true, Bool.and_eq_true, Bool.or_eq_true] at h
   obtain ⟨k, hk, h1, h2⟩ := h
   have he := ht o ho _ (Array.getElem_mem hk) h1
   rcases h2 with h2 | h2
   ·rw [Nat.eq_of_beq_eq_true h2] at he; exact he
   ·exact reach_listed inv f _ h2 (fun o' ho' e' he' hb' => inv.closed _ o' ho' he e' he' hb')
theorem wpT_first {t0 i : Nat} {oi : Oper} {v : Value} {Q : Exit → Act → World → Prop} {S' : World → Prop} (hi : ops[i]? = some oi) (hit : i ≠ t0) (hsel : ∀ (j : Nat) (o : Oper) cs b, ops[j]? = some o → o.op ≠ .select cs b) (hw0 : (∀ w, S' w) ∨ (waitsB md ops t0 i = true ∧ ∀ w, S w → S' w))
 (hQ : ∀ c a w, Q (.panic c) (a.put oi.dst v) w → Q (.panic c) a w) :
 ∀ (f : Nat) (listed : Array Bool) (a : Act) (w : World), PInv md ops [] listed →
  (∀ j oj, ops[j]? = some oj → j ≠ i → listed.getD j true = false → (∀ e ∈ oj.after, Region.binds md e = true → e.on ≠ i) → oi.apart ops oj = true) →
  i ∈ Region.ready md ops listed → YieldsIf P ops S' oi v a → S' w → (listed.getD t0 false = true ∨ S w) →
  wpT P md ops Q S t0 f (listed.setIfInBounds i true) (a.put oi.dst v) w → wpT P md ops Q S t0 (f + 1) listed a w := by
 intro f
 induction f with
 | zero =>
  intro listed a w inv _ hr hy hS hT H
  refine ⟨fun h => (by rw [h] at hr; cases hr), fun j hj => ?_⟩
  by_cases hji : j = i
  ·subst hji; exact hy.wpOp hi hS ⟨hT.imp getD_set_true id, H⟩
  ·have := ready_mono hj hji
   rw [H.1] at this
   cases this
 | succ f ih =>
  intro listed a w inv hfree hr hy hS hT H
  refine ⟨fun h => (by rw [h] at hr; cases hr), fun j hj => ?_⟩
  by_cases hji : j = i
  ·subst hji; exact hy.wpOp hi hS ⟨hT.imp getD_set_true id, H⟩
  ·have h1 := H.2 j (ready_mono hj hji)
   obtain ⟨hjun, oj, hoj, hall⟩ := mem_ready.1 hj
   have hnot : ∀ e ∈ oj.after, Region.binds md e = true → e.on ≠ i := fun e he hb heq => by
    have h1 := hall e he hb
    have h0 := (mem_ready.1 hr).1
    rw [heq] at h1
    rcases Nat.lt_or_ge i listed.size with h' | h'
    ·simp [h'] at h0 h1; rw [h0] at h1; cases h1
    ·simp [Array.getElem?_eq_none h'] at h1
   have h2 := wpOp_putIf hoj (hfree j oj hoj hji hjun hnot) (fun cs b => hsel i oi cs b hi) (fun cs b => hsel j oj cs b hoj) hQ hy h1
   have hfree' : ∀ k ok, ops[k]? = some ok → k ≠ i → (listed.setIfInBounds j true).getD k true = false →
    (∀ e ∈ ok.after, Region.binds md e = true → e.on ≠ i) → oi.apart ops ok = true := fun k ok hk hki hun hno => by
    refine hfree k ok hk hki ?_ hno
    by_cases hjk : j = k
    ·subst hjk; exact hjun
    ·rw [getD_set_ne true hjk] at hun; exact hun
   have inv' : PInv md ops [] (listed.setIfInBounds j true) := inv.set hj (by simp)
   have hr' : i ∈ Region.ready md ops (listed.setIfInBounds j true) := ready_mono hr (Ne.symm hji)
   refine wpOp_mono (fun a' w' h3 => ?_) h2
   -- t0 has not come up yet, where it waits for i
   have hun0 : waitsB md ops t0 i = true → (listed.setIfInBounds j true).getD t0 false = false := fun hw => by
    cases hc : (listed.setIfInBounds j true).getD t0 false with
    | false => rfl
    | true =>
     have h3 := reach_listed inv' _ t0 hw (fun o' ho' e he hb => inv'.closed t0 o' ho' hc e he hb)
     have h0 := (mem_ready.1 hr').1
     generalize listed.setIfInBounds j true = l2 at h0 h3
     rcases Nat.lt_or_ge i l2.size with h' | h'
     ·simp [h'] at h0 h3; rw [h0] at h3; cases h3
     ·simp [Array.getElem?_eq_none h'] at h3
   have hT2 : (listed.setIfInBounds j true).getD t0 false = true ∨ S w' := by
    rcases h3.2.1 with q | q
    ·rw [Array.setIfInBounds_comm _ _ (Ne.symm hji), getD_set_ne false hit] at q
     exact .inl q
    ·exact .inr q
   have hS2 : S' w' := by
    rcases hw0 with hw | ⟨hw, hw'⟩
    ·exact hw w'
    ·refine hw' w' (hT2.resolve_left (fun q => ?_))
     rw [hun0 hw] at q; cases q
   refine ⟨hT2, ih (listed.setIfInBounds j true) a' w' inv' hfree' hr' h3.1 hS2 hT2 ?_⟩
   rw [Array.setIfInBounds_comm _ _ hji]
   exact h3.2.2
end
theorem loadS {E : Env} (hE : E.Ok) {o : Oper} {t x : Nat} (ho : o.op = .load t (.tmp x)) {D : XTy} (hD : E.ty t = some D) {ρ : Rho} {B : Bd} {h : Heap} {a : Act} {w : World} (hh : HRel B ρ h w) {i off : Nat} {L : Loc} (hL : ρ[i]? = some L)
 (hx : a.eval (.tmp x) = .pointer (some ⟨L.b, L.sh + off, none⟩)) {cs : List Value} {fz e es : Nat} (hg : hget h i = some (.cells cs fz e es)) {v : Value}
 (hv : (match aggB D.u with | false => cs[off]? | true => if off + D.size ≤ cs.length then some (.agg ((cs.drop off).take D.size).toArray) else none) = some v) (hne : cs ≠ []) :
 ∃ v', VRel ρ v v' ∧ ∀ w', w'.heap[L.b]? = w.heap[L.b]? → (execOp a.eval o).run E.P w' = .ok (.value v') w' := by
 obtain ⟨_, _, C, fr, h1, h2, h3, h4, h5⟩ := (hh.at hg hL).2.real (.inl hne)
 have hcl : ∀ (w' : World) (k : Nat), w'.heap[L.b]? = w.heap[L.b]? → w'.cell? ⟨L.b, k, none⟩ = C[k]? := fun w' k q => by
  rw [cell_of_heap (q.trans h1)]
 cases ha : aggB D.u with
 | false =>
  rw [ha] at hv
  obtain ⟨v', c1, c2⟩ := h4 off v hv
  refine ⟨v', c2, fun w' q => ?_⟩
  have := hcl w' (L.sh + off) q
  rw [c1] at this
  simp [execOp, ho, hx, Instr.loadAt, Instr.sureAddr, loadVar, hE.ty.isAgg hD, ha, this]
 | true =>
  rw [ha] at hv
  simp only at hv
  split at hv
  ·rename_i hle
   cases hv
   have hcell : ∀ j, j < D.size → ∃ v', C[L.sh + off + j]? = some v' ∧ VRel ρ (cs[off + j]?.getD undef) v' := by
    intro j hj
    have hs : cs[off + j]? = some (cs[off + j]'(by omega)) := List.getElem?_eq_getElem _
    obtain ⟨v', c1, c2⟩ := h4 (off + j) _ hs
    exact ⟨v', by rw [Nat.add_assoc]; exact c1, by rw [hs]; exact c2⟩
   have hf' : ∀ j, ∃ v', j < D.size → C[L.sh + off + j]? = some v' ∧ VRel ρ (cs[off + j]?.getD undef) v' := by
    intro j
    by_cases hj : j < D.size
    ·obtain ⟨v', c⟩ := hcell j hj; exact ⟨v', fun _ => c⟩
    ·exact ⟨undef, fun hj' => absurd hj' hj⟩
   obtain ⟨f, hf⟩ := Classical.axiomOfChoice hf'
   refine ⟨.agg ((List.range D.size).map f).toArray, ?_, fun w' q => ?_⟩
   ·refine .agg _ _ (by simp; omega) (fun j u u' hu hu' => ?_)
    have hj : j < D.size := by
     have := (Array.getElem?_eq_some_iff.1 hu').1
     simpa using this
    have e3 : u' = f j := by simpa [hj] using hu'.symm
    have e4 : u = cs[off + j]?.getD undef := by
     simp [hj] at hu
     rw [hu]; rfl
    rw [e3, e4]
    exact (hf j hj).2
   ·have hl := run_loadCells (P := E.P) (w := w') ⟨L.b, L.sh + off, none⟩ D.size f (fun j hj => by
     rw [Addr.add_none, hcl w' _ q]
     exact (hf j hj).1)
    simp [execOp, ho, hx, Instr.loadAt, Instr.sureAddr, loadVar, hE.ty.isAgg hD, ha, hE.ty.sizeOf hD, hl]
  ·cases hv
def EndH (E : Env) (B : Bd) (nt k : Nat) (ρ0 : Rho) (w0 : World) (ds : List Deferred) (Ks : List Nat) (ws : World) (F : St → Heap → Nat → Prop) (a' : Act) (w' : World) : Prop :=
 ∃ σ' h' c' ρ', a'.defers = ds ∧ SRel ρ' nt σ' a' ∧ HRel B ρ' h' w' ∧ ρ'.length = c' ∧ Keeps k ρ0 ρ' ∧ Bel B w0 w' ∧ (∀ x, x ∈ Ks → w'.heap[x]? = ws.heap[x]?) ∧ E.inv w' ∧ F σ' h' c'
def XH (E : Env) (nt k : Nat) (ops : Array Oper) (t0 : Nat) (T : List Nat) (g : Nat) (listed : Array Bool) (I : List Nat) (σ : St) (h : Heap) (c : Nat) (F : St → Heap → Nat → Prop) : Prop :=
 ∀ (B : Bd) (ρ : Rho) (a : Act) (w : World), SRel ρ nt σ a → HRel B ρ h w → ρ.length = c → B.n ≤ w.heap.size → B.ge E.G → E.inv w →
  ∀ (Ks : List Nat) (ws : World), (∀ x, x ∈ Ks → ¬ B.may x ∧ w.heap[x]? = ws.heap[x]?) → (∀ i, i ∈ I → i < k ∧ ∀ L, ρ[i]? = some L → L.b ∈ Ks) → ∀ (ρ0 : Rho) (w0 : World) (ds : List Deferred), Keeps k ρ0 ρ → Bel B w0 w → a.defers = ds →
  ∀ (Q : Exit → Act → World → Prop), (∀ c a w, ¬ Q (.panic c) a w) → (∀ listed' a' w', seqP .any ops (t0 :: T) listed' = true → EndH E B nt k ρ0 w0 ds Ks ws F a' w' → wpAny E.P .any ops Q (T.length + 1) listed' a' w') →
  wpT E.P .any ops Q (fun w' => ∀ x, x ∈ Ks → w'.heap[x]? = ws.heap[x]?) t0 (g + (T.length + 1)) listed a w
theorem XH.fin {E : Env} {nt k : Nat} {ops : Array Oper} {t0 : Nat} {T : List Nat} {listed : Array Bool} {I : List Nat} (hs : (seqP .any ops (t0 :: T) listed && Nat.blt t0 listed.size) = true) {σ : St} {h : Heap} {c : Nat} {F : St → Heap → Nat → Prop} (hq : F σ h c) : XH E nt k ops t0 T 0 listed I σ h c F := by
 simp only [Bool.and_eq_true] at hs
 intro B ρ a w h1 h2 h3 h4 h5 h6 Ks ws q1 q2 ρ0 w0 ds h7 h8 h9 Q hQ hE
 rw [Nat.zero_add]
 refine wpT_last _ ?_ (by simpa [Nat.blt_eq] using hs.2) (hE _ _ _ hs.1 ⟨σ, h, c, ρ, h9, h1, h2, h3, h7, h8, fun x hx => (q1 x hx).2, h6, hq⟩)
 have := hs.1
 simp only [seqP, Bool.and_eq_true, decide_eq_true_eq] at this
 rw [this.1]
 intro j hj
 exact List.mem_singleton.1 hj
theorem XH.step {E : Env} (hE : E.Ok) {nt k : Nat} {ops : Array Oper} {t0 : Nat} {T : List Nat} {g : Nat} {listed : Array Bool} {I : List Nat} (js : List Nat) (hr : Region.ready .any ops listed = js) (hn : js.isEmpty = false) (hf : freeOf ops.toList = true) {σ : St} {h : Heap} {c : Nat} {F : St → Heap → Nat → Prop}
 (hx : AllJ js fun j => XR E nt k (reOps ops [j]) 0 σ h c (fun e σ' h' c' => e = .normal ∧ XH E nt k ops t0 T g (listed.setIfInBounds j true) I σ' h' c' F)) : XH E nt k ops t0 T (g + 1) listed I σ h c F := by
 intro B ρ a w h1 h2 h3 h4 h5 h6 Ks ws q1 q2 ρ0 w0 ds h7 h8 h9 Q hQ hEnd
 subst hr
 rw [show g + 1 + (T.length + 1) = (g + (T.length + 1)) + 1 by omega]
 refine ⟨fun h0 => (by rw [h0] at hn; cases hn), fun j hj => ?_⟩
 obtain ⟨_, o, ho, _⟩ := mem_ready.1 hj
 have hxj := hx.mem j hj B ρ a w h1 h2 h3 h4 h5 h6 ρ w ds ⟨h7.le, fun _ _ => rfl⟩ (Bel.refl B w) h9
 have hoj : ops.toList[j]? = some o := by simpa using ho
 have hfo : o.guard.isNone = true := by
  have := List.all_eq_true.1 hf o (List.mem_of_getElem? hoj)
  exact this
 have hl : (reOps ops [j]).toList.drop 0 = [o] := by simp [reOps, opsAt, ho]
 rw [hl] at hxj
 unfold wpOp
 simp only [ho]
 rw [if_pos (free_wanted hfo _)]
 unfold wpList at hxj
 rw [if_pos (free_wanted hfo _)] at hxj
 have np : ∀ c a' w', ¬ After k B nt ρ w ds (fun e σ' h' c' => e = .normal ∧ XH E nt k ops t0 T g (listed.setIfInBounds j true) I σ' h' c' F) (.panic c) a' w' := by
  rintro c a' w' ⟨e, _, _, _, _, q, _, _, _, _, _, _, rfl, _⟩
  cases q
 have no : ¬ LetsOut (After k B nt ρ w ds (fun e σ' h' c' => e = .normal ∧ XH E nt k ops t0 T g (listed.setIfInBounds j true) I σ' h' c' F)) := by
  rintro ⟨a, w, e, _, _, _, _, q, _, _, _, _, _, _, rfl, _⟩
  cases q
 rcases hxj with hxj | ⟨_, hxj⟩
 ·refine .inl (Oper.wp_two ?_ (fun c a w q => absurd q (np c a w)) (fun q => absurd q no) hxj)
  rintro a' w' ⟨e, σ', h', c', ρ', _, d1, s1, s2, s3, s4, s5, rfl, s6⟩
  have hb : ∀ x, x ∈ Ks → ¬ B.may x ∧ w'.heap[x]? = ws.heap[x]? := fun x hx => ⟨(q1 x hx).1, (s5.block x (q1 x hx).1).trans (q1 x hx).2⟩
  refine ⟨.inr fun x hx => (hb x hx).2, s6 B ρ' a' w' s1 s2 s3 (Nat.le_trans h4 s5.size) h5 (hE.keep h5 h6 s5) Ks ws hb (fun i hi => ⟨(q2 i hi).1, fun L hL => (q2 i hi).2 L ?_⟩) ρ0 w0 ds (h7.trans s4) (h8.trans s5) d1 Q hQ hEnd⟩
  rw [← s4.2 i (q2 i hi).1]; exact hL
 ·exact absurd hxj no
theorem XH.pure {E : Env} (hE : E.Ok) {nt k : Nat} {ops : Array Oper} {t0 : Nat} {T : List Nat} {g : Nat} {listed : Array Bool} {I : List Nat} (j : Nat) (hr : ((Region.ready .any ops listed).contains j && (Region.free .any ops listed j && (Region.noSelect ops && (!(Nat.beq j t0) && closedB .any ops listed)))) = true) (hf : freeOf ops.toList = true) {σ : St} {h : Heap} {c : Nat} {F : St → Heap → Nat → Prop}
 (hx : XP E nt (reOps ops [j]) 0 σ (fun σ' => XH E nt k ops t0 T g (listed.setIfInBounds j true) I σ' h c F)) : XH E nt k ops t0 T (g + 1) listed I σ h c F := by
 simp only [Bool.and_eq_true] at hr
 obtain ⟨r1, r2, r3, r4, r5⟩ := hr
 have r1 : j ∈ Region.ready .any ops listed := by simpa using r1
 intro B ρ a w h1 h2 h3 h4 h5 h6 Ks ws q1 q2 ρ0 w0 ds h7 h8 h9 Q hQ hEnd
 rw [show g + 1 + (T.length + 1) = (g + (T.length + 1)) + 1 by omega]
 obtain ⟨_, o, ho, _⟩ := mem_ready.1 r1
 have key := hx ρ a h1 ds h9
 have hl : (reOps ops [j]).toList.drop 0 = [o] := by simp [reOps, opsAt, ho]
 rw [hl] at key
 obtain ⟨v, hy, σ', d1, s1, hX⟩ := key
 have hoj : ops.toList[j]? = some o := by simpa using ho
 have hfo : o.guard.isNone = true := List.all_eq_true.1 hf o (List.mem_of_getElem? hoj)
 have hy' : YieldsIf E.P ops (fun _ => True) o v a := by
  rcases hy with ⟨_, q⟩ | ⟨q, _⟩
  ·exact .inl ⟨free_wanted hfo _, fun w' _ => q w'⟩
  ·rw [free_wanted hfo] at q; cases q
 have hjt : j ≠ t0 := fun e => by rw [e, Nat.beq_refl] at r4; cases r4
 exact wpT_first ho hjt (Region.noSelect_spec r3) (.inl fun _ => trivial) (fun c a w q => absurd q (hQ _ _ _)) _ listed a w (closedB_inv r5) (Region.free_spec ho r2) r1 hy' trivial (.inr fun x hx => (q1 x hx).2)
  (hX B ρ _ w s1 h2 h3 h4 h5 h6 Ks ws q1 q2 ρ0 w0 ds h7 h8 d1 Q hQ hEnd)
def loadOf (o : Oper) : Option (Nat × Nat × Nat) :=
 match o.op, o.dst with
 | .load t (.tmp x), some d => some (t, x, d)
 | _, _ => none
def loadV (D : XTy) (cs : List Value) (off : Nat) : Option Value :=
 match aggB D.u with
 | false => cs[off]?
 | true => if off + D.size ≤ cs.length then some (.agg ((cs.drop off).take D.size).toArray) else none
theorem XH.load {E : Env} (hE : E.Ok) {nt k : Nat} {ops : Array Oper} {t0 : Nat} {T : List Nat} {g : Nat} {listed : Array Bool} {I : List Nat} (j : Nat) (hr : ((Region.ready .any ops listed).contains j && (Region.free .any ops listed j && (Region.noSelect ops && ((!(Nat.beq j t0) && waitsB .any ops t0 j) && closedB .any ops listed)))) = true) (hf : freeOf ops.toList = true) {t x d i off : Nat} {cs : List Value} {fz e es : Nat} {v : Value} {σ σ' : St} {h : Heap} {c : Nat} (live : List Nat) {F : St → Heap → Nat → Prop}
 (ho : (ops[j]?).bind loadOf = some (t, x, d)) (hi : I.contains i = true) (hxs : lookS σ x = some (.pointer (some ⟨i, off, none⟩))) (hg : hget h i = some (.cells cs fz e es)) (hne : cs.isEmpty = false) (hv : (E.ty t).bind (fun D => loadV D cs off) = some v)
 (hl : live.all (fun i => Nat.blt i nt) = true) (hd : Nat.blt d nt = true) (hσ : readS (putX (some (path 12 d)) v (trS nt σ)) live = σ')
 (hx : XH E nt k ops t0 T g (listed.setIfInBounds j true) I σ' h c F) : XH E nt k ops t0 T (g + 1) listed I σ h c F := by
 simp only [Bool.and_eq_true] at hr
 obtain ⟨r1, r2, r3, r4, r5⟩ := hr
 have r1 : j ∈ Region.ready .any ops listed := by simpa using r1
 intro B ρ a w h1 h2 h3 h4 h5 h6 Ks ws q1 q2 ρ0 w0 ds h7 h8 h9 Q hQ hEnd
 rw [show g + 1 + (T.length + 1) = (g + (T.length + 1)) + 1 by omega]
 obtain ⟨_, o, hoo, _⟩ := mem_ready.1 r1
 rw [hoo] at ho
 have ho : loadOf o = some (t, x, d) := ho
 obtain ⟨hop, hdst⟩ : o.op = .load t (.tmp x) ∧ o.dst = some d := by
  unfold loadOf at ho
  split at ho
  ·rename_i a b; cases ho; exact ⟨a, b⟩
  ·cases ho
 have hoj : ops.toList[j]? = some o := by simpa using hoo
 have hfo : o.guard.isNone = true := List.all_eq_true.1 hf o (List.mem_of_getElem? hoj)
 obtain ⟨hx1, hx2⟩ := h1.2.2 x _ (lookS_mem hxs)
 have hev : ∃ L, ρ[i]? = some L ∧ a.eval (.tmp x) = .pointer (some ⟨L.b, L.sh + off, none⟩) := by
  generalize hu : a.tmps.getD x undef = u at hx2
  cases hx2 with
  | ptr _ _ L hL => exact ⟨L, hL, hu⟩
 obtain ⟨L, hL, hev⟩ := hev
 have hne' : cs ≠ [] := fun q => by rw [q] at hne; cases hne
 have hi : i ∈ I := by simpa using hi
 obtain ⟨D, hD, hv⟩ := Option.bind_eq_some_iff.1 hv
 obtain ⟨v', vr, hrun⟩ := loadS hE hop hD h2 hL hev hg hv hne'
 have hy' : YieldsIf E.P ops (fun w' => ∀ x, x ∈ Ks → w'.heap[x]? = ws.heap[x]?) o v' a :=
  .inl ⟨free_wanted hfo _, fun w' hw' => hrun w' (by
   have hk := (q2 i hi).2 L hL
   rw [hw' _ hk, (q1 _ hk).2])⟩
 have hput : TRel ρ nt (putX (some (path 12 d)) v (trS nt σ)) (a.put o.dst v') := putX_ok h1.tr (by rw [hdst]; simp only [dstP, hd]) vr
 have hs' : SRel ρ nt σ' (a.put o.dst v') := by rw [← hσ]; exact SRel.of_tr hput hl
 obtain ⟨r4, r6⟩ := r4
 have hjt : j ≠ t0 := fun e => by rw [e, Nat.beq_refl] at r4; cases r4
 exact wpT_first hoo hjt (Region.noSelect_spec r3) (.inr ⟨r6, fun _ q => q⟩) (fun c a w q => absurd q (hQ _ _ _)) _ listed a w (closedB_inv r5) (Region.free_spec hoo r2) r1 hy' (fun x hx => (q1 x hx).2) (.inr fun x hx => (q1 x hx).2)
  (hx B ρ _ w hs' h2 h3 h4 h5 h6 Ks ws q1 q2 ρ0 w0 ds h7 h8 (by rw [put_defers]; exact h9) Q hQ hEnd)
def nilOf (o : Oper) : Option (Nat × Nat) :=
 match o.op, o.dst with
 | .nilCheck (.tmp x), some d => some (x, d)
 | _, _ => none
theorem XH.nil {E : Env} (hE : E.Ok) {nt k : Nat} {ops : Array Oper} {t0 : Nat} {T : List Nat} {g : Nat} {listed : Array Bool} {I : List Nat} (j : Nat) (hr : ((Region.ready .any ops listed).contains j && (Region.free .any ops listed j && (Region.noSelect ops && (!(Nat.beq j t0) && closedB .any ops listed)))) = true) (hf : freeOf ops.toList = true) {x d : Nat} {p : Addr} {σ σ' : St} {h : Heap} {c : Nat} (live : List Nat) {F : St → Heap → Nat → Prop}
 (ho : (ops[j]?).bind nilOf = some (x, d)) (hxs : lookS σ x = some (.pointer (some p)))
 (hl : live.all (fun i => Nat.blt i nt) = true) (hd : Nat.blt d nt = true) (hσ : readS (putX (some (path 12 d)) (.pointer (some p)) (trS nt σ)) live = σ')
 (hx : XH E nt k ops t0 T g (listed.setIfInBounds j true) I σ' h c F) : XH E nt k ops t0 T (g + 1) listed I σ h c F := by
 simp only [Bool.and_eq_true] at hr
 obtain ⟨r1, r2, r3, r4, r5⟩ := hr
 have r1 : j ∈ Region.ready .any ops listed := by simpa using r1
 intro B ρ a w h1 h2 h3 h4 h5 h6 Ks ws q1 q2 ρ0 w0 ds h7 h8 h9 Q hQ hEnd
 rw [show g + 1 + (T.length + 1) = (g + (T.length + 1)) + 1 by omega]
 obtain ⟨_, o, hoo, _⟩ := mem_ready.1 r1
 rw [hoo] at ho
 have ho : nilOf o = some (x, d) := ho
 obtain ⟨hop, hdst⟩ : o.op = .nilCheck (.tmp x) ∧ o.dst = some d := by
  unfold nilOf at ho
  split at ho
  ·rename_i a b; cases ho; exact ⟨a, b⟩
  ·cases ho
 have hoj : ops.toList[j]? = some o := by simpa using hoo
 have hfo : o.guard.isNone = true := List.all_eq_true.1 hf o (List.mem_of_getElem? hoj)
 obtain ⟨hx1, hx2⟩ := h1.2.2 x _ (lookS_mem hxs)
 have hev : VRel ρ (.pointer (some p)) (a.eval (.tmp x)) := hx2
 have hrun : ∀ w' : World, (execOp a.eval o).run E.P w' = .ok (.value (a.eval (.tmp x))) w' := by
  intro w'
  generalize e1 : a.eval (.tmp x) = u at hev
  cases hev
  simp [execOp, hop, e1]
 have hput : TRel ρ nt (putX (some (path 12 d)) (.pointer (some p)) (trS nt σ)) (a.put o.dst (a.eval (.tmp x))) := putX_ok h1.tr (by rw [hdst]; simp only [dstP, hd]) hev
 have hs' : SRel ρ nt σ' (a.put o.dst (a.eval (.tmp x))) := by rw [← hσ]; exact SRel.of_tr hput hl
 have hjt : j ≠ t0 := fun e => by rw [e, Nat.beq_refl] at r4; cases r4
 exact wpT_first (S' := fun _ => True) hoo hjt (Region.noSelect_spec r3) (.inl fun _ => trivial) (fun c a w q => absurd q (hQ _ _ _)) _ listed a w (closedB_inv r5) (Region.free_spec hoo r2) r1 (.inl ⟨free_wanted hfo _, fun w' _ => hrun w'⟩) trivial (.inr fun x hx => (q1 x hx).2)
  (hx B ρ _ w hs' h2 h3 h4 h5 h6 Ks ws q1 q2 ρ0 w0 ds h7 h8 (by rw [put_defers]; exact h9) Q hQ hEnd)
def cutOf (o : Oper) : Option (Nat × Nat × Option Operand × Option Operand × Nat) :=
 match o.op, o.dst with
 | .slice t (.tmp x) lo hi none, some d => some (t, x, lo, hi, d)
 | _, _ => none
theorem XH.cut {E : Env} (hE : E.Ok) {nt k : Nat} {ops : Array Oper} {t0 : Nat} {T : List Nat} {g : Nat} {listed : Array Bool} {I : List Nat} (j : Nat) (hr : ((Region.ready .any ops listed).contains j && (Region.free .any ops listed j && (Region.noSelect ops && (!(Nat.beq j t0) && closedB .any ops listed)))) = true) (hf : freeOf ops.toList = true) {t x d s : Nat} {lo hi : Option Operand} {v : Value} {σ σ' : St} {h : Heap} {c : Nat} (live : List Nat) {F : St → Heap → Nat → Prop}
 (ho : (ops[j]?).bind cutOf = some (t, x, lo, hi, d)) (hs : ((E.ty t).bind fun D => match D.u with | .slice e => (E.ty e).map (·.size) | _ => none) = some s)
 (hv : insV (.rd (some (path 12 d)) (rCutS nt s (src nt (.tmp x)) lo hi none)) (trS nt σ) h = some v)
 (hl : live.all (fun i => Nat.blt i nt) = true) (hd : Nat.blt d nt = true) (hσ : readS (putX (some (path 12 d)) v (trS nt σ)) live = σ')
 (hx : XH E nt k ops t0 T g (listed.setIfInBounds j true) I σ' h c F) : XH E nt k ops t0 T (g + 1) listed I σ h c F := by
 simp only [Bool.and_eq_true] at hr
 obtain ⟨r1, r2, r3, r4, r5⟩ := hr
 have r1 : j ∈ Region.ready .any ops listed := by simpa using r1
 intro B ρ a w h1 h2 h3 h4 h5 h6 Ks ws q1 q2 ρ0 w0 ds h7 h8 h9 Q hQ hEnd
 rw [show g + 1 + (T.length + 1) = (g + (T.length + 1)) + 1 by omega]
 obtain ⟨_, o, hoo, _⟩ := mem_ready.1 r1
 rw [hoo] at ho
 have ho : cutOf o = some (t, x, lo, hi, d) := ho
 obtain ⟨hop, hdst⟩ : o.op = .slice t (.tmp x) lo hi none ∧ o.dst = some d := by
  unfold cutOf at ho
  split at ho
  ·rename_i a b; cases ho; exact ⟨a, b⟩
  ·cases ho
 obtain ⟨D, hD, hs⟩ := Option.bind_eq_some_iff.1 hs
 obtain ⟨e, hu, De, hDe, hs⟩ : ∃ e, D.u = .slice e ∧ ∃ De, E.ty e = some De ∧ De.size = s := by
  split at hs
  ·rename_i e he
   obtain ⟨De, q1, q2⟩ := Option.map_eq_some_iff.1 hs
   exact ⟨e, he, De, q1, q2⟩
  ·cases hs
 subst hs
 have hoj : ops.toList[j]? = some o := by simpa using hoo
 have hfo : o.guard.isNone = true := List.all_eq_true.1 hf o (List.mem_of_getElem? hoj)
 obtain ⟨v', vr, hrun⟩ := rCutS_all hE.ty hop hD hu hDe (trS nt σ) h v hv B ρ a w h1.tr h2
 have hput : TRel ρ nt (putX (some (path 12 d)) v (trS nt σ)) (a.put o.dst v') := putX_ok h1.tr (by rw [hdst]; simp only [dstP, hd]) vr
 have hs' : SRel ρ nt σ' (a.put o.dst v') := by rw [← hσ]; exact SRel.of_tr hput hl
 have hjt : j ≠ t0 := fun e => by rw [e, Nat.beq_refl] at r4; cases r4
 exact wpT_first (S' := fun _ => True) hoo hjt (Region.noSelect_spec r3) (.inl fun _ => trivial) (fun c a w q => absurd q (hQ _ _ _)) _ listed a w (closedB_inv r5) (Region.free_spec hoo r2) r1 (.inl ⟨free_wanted hfo _, fun w' _ => hrun w'⟩) trivial (.inr fun x hx => (q1 x hx).2)
  (hx B ρ _ w hs' h2 h3 h4 h5 h6 Ks ws q1 q2 ρ0 w0 ds h7 h8 (by rw [put_defers]; exact h9) Q hQ hEnd)
theorem XH.nilM {E : Env} (hE : E.Ok) {nt k : Nat} {ops : Array Oper} {t0 : Nat} {T : List Nat} {g : Nat} {listed : Array Bool} {I : List Nat} (j : Nat) (hr : ((Region.ready .any ops listed).contains j && (Region.free .any ops listed j && (Region.noSelect ops && (!(Nat.beq j t0) && closedB .any ops listed)))) = true) (hf : freeOf ops.toList = true) {x d t : Nat} {name : String} {u : Value} {σ σ' : St} {h : Heap} {c : Nat} (live : List Nat) {F : St → Heap → Nat → Prop}
 (ho : (ops[j]?).bind nilOf = some (x, d)) (hxs : lookS σ x = some (.func (.method name) #[.iface t u] #[]))
 (hm : ∀ (u' : Value) (o : Oper) (y : Operand) (ev : Operand → Value) (w' : World), o.op = .nilCheck y → ev y = .func (.method name) #[.iface t u'] #[] → (execOp ev o).run E.P w' = .ok (.value (ev y)) w')
 (hl : live.all (fun i => Nat.blt i nt) = true) (hd : Nat.blt d nt = true) (hσ : readS (putX (some (path 12 d)) (.func (.method name) #[.iface t u] #[]) (trS nt σ)) live = σ')
 (hx : XH E nt k ops t0 T g (listed.setIfInBounds j true) I σ' h c F) : XH E nt k ops t0 T (g + 1) listed I σ h c F := by
 simp only [Bool.and_eq_true] at hr
 obtain ⟨r1, r2, r3, r4, r5⟩ := hr
 have r1 : j ∈ Region.ready .any ops listed := by simpa using r1
 intro B ρ a w h1 h2 h3 h4 h5 h6 Ks ws q1 q2 ρ0 w0 ds h7 h8 h9 Q hQ hEnd
 rw [show g + 1 + (T.length + 1) = (g + (T.length + 1)) + 1 by omega]
 obtain ⟨_, o, hoo, _⟩ := mem_ready.1 r1
 rw [hoo] at ho
 have ho : nilOf o = some (x, d) := ho
 obtain ⟨hop, hdst⟩ : o.op = .nilCheck (.tmp x) ∧ o.dst = some d := by
  unfold nilOf at ho
  split at ho
  ·rename_i a b; cases ho; exact ⟨a, b⟩
  ·cases ho
 have hoj : ops.toList[j]? = some o := by simpa using hoo
 have hfo : o.guard.isNone = true := List.all_eq_true.1 hf o (List.mem_of_getElem? hoj)
 obtain ⟨hx1, hx2⟩ := h1.2.2 x _ (lookS_mem hxs)
 have hev : VRel ρ (.func (.method name) #[.iface t u] #[]) (a.eval (.tmp x)) := hx2
 have hrun : ∀ w' : World, (execOp a.eval o).run E.P w' = .ok (.value (a.eval (.tmp x))) w' := by
  intro w'
  have hsh : ∃ u', a.eval (.tmp x) = .func (.method name) #[.iface t u'] #[] := by
   generalize a.eval (.tmp x) = z at hev
   cases hev with
   | func _ _ f' _ c' hf1 hc1 h1 h2 =>
    obtain ⟨y, hy⟩ : ∃ y, f' = #[y] := Array.size_eq_one_iff.1 hf1.symm
    subst hy
    have hc0 : c' = #[] := Array.eq_empty_of_size_eq_zero hc1.symm
    subst hc0
    have := h1 0 _ y rfl rfl
    cases this with
    | iface _ _ v' _ => exact ⟨v', rfl⟩
  obtain ⟨u', hu'⟩ := hsh
  exact hm u' o (.tmp x) a.eval w' hop hu'
 have hput : TRel ρ nt (putX (some (path 12 d)) (.func (.method name) #[.iface t u] #[]) (trS nt σ)) (a.put o.dst (a.eval (.tmp x))) := putX_ok h1.tr (by rw [hdst]; simp only [dstP, hd]) hev
 have hs' : SRel ρ nt σ' (a.put o.dst (a.eval (.tmp x))) := by rw [← hσ]; exact SRel.of_tr hput hl
 have hjt : j ≠ t0 := fun e => by rw [e, Nat.beq_refl] at r4; cases r4
 exact wpT_first (S' := fun _ => True) hoo hjt (Region.noSelect_spec r3) (.inl fun _ => trivial) (fun c a w q => absurd q (hQ _ _ _)) _ listed a w (closedB_inv r5) (Region.free_spec hoo r2) r1 (.inl ⟨free_wanted hfo _, fun w' _ => hrun w'⟩) trivial (.inr fun x hx => (q1 x hx).2)
  (hx B ρ _ w hs' h2 h3 h4 h5 h6 Ks ws q1 q2 ρ0 w0 ds h7 h8 (by rw [put_defers]; exact h9) Q hQ hEnd)
def methOf (o : Oper) : Option (String × Nat × Nat) :=
 match o.op, o.dst with
 | .makeFunc (.method name) f c, some d => match f.toList, c.toList with
  | [.tmp r], [] => some (name, r, d)
  | _, _ => none
 | _, _ => none
theorem XH.meth {E : Env} (hE : E.Ok) {nt k : Nat} {ops : Array Oper} {t0 : Nat} {T : List Nat} {g : Nat} {listed : Array Bool} {I : List Nat} (j : Nat) (hr : ((Region.ready .any ops listed).contains j && (Region.free .any ops listed j && (Region.noSelect ops && (!(Nat.beq j t0) && closedB .any ops listed)))) = true) (hf : freeOf ops.toList = true) {x d : Nat} {name : String} {u : Value} {σ σ' : St} {h : Heap} {c : Nat} (live : List Nat) {F : St → Heap → Nat → Prop}
 (ho : (ops[j]?).bind methOf = some (name, x, d)) (hxs : lookS σ x = some u)
 (hl : live.all (fun i => Nat.blt i nt) = true) (hd : Nat.blt d nt = true) (hσ : readS (putX (some (path 12 d)) (.func (.method name) #[u] #[]) (trS nt σ)) live = σ')
 (hx : XH E nt k ops t0 T g (listed.setIfInBounds j true) I σ' h c F) : XH E nt k ops t0 T (g + 1) listed I σ h c F := by
 simp only [Bool.and_eq_true] at hr
 obtain ⟨r1, r2, r3, r4, r5⟩ := hr
 have r1 : j ∈ Region.ready .any ops listed := by simpa using r1
 intro B ρ a w h1 h2 h3 h4 h5 h6 Ks ws q1 q2 ρ0 w0 ds h7 h8 h9 Q hQ hEnd
 rw [show g + 1 + (T.length + 1) = (g + (T.length + 1)) + 1 by omega]
 obtain ⟨_, o, hoo, _⟩ := mem_ready.1 r1
 rw [hoo] at ho
 have ho : methOf o = some (name, x, d) := ho
 obtain ⟨hop, hdst⟩ : o.op = .makeFunc (.method name) #[.tmp x] #[] ∧ o.dst = some d := by
  unfold methOf at ho
  split at ho
  ·rename_i n f c' d' a b
   split at ho
   ·rename_i r q1 q2
    cases ho
    have e1 : f = #[.tmp x] := Array.ext' q1
    have e2 : c' = #[] := Array.ext' q2
    rw [e1, e2] at a
    exact ⟨a, b⟩
   ·cases ho
  ·cases ho
 have hoj : ops.toList[j]? = some o := by simpa using hoo
 have hfo : o.guard.isNone = true := List.all_eq_true.1 hf o (List.mem_of_getElem? hoj)
 obtain ⟨hx1, hx2⟩ := h1.2.2 x _ (lookS_mem hxs)
 have hev : VRel ρ u (a.eval (.tmp x)) := hx2
 have hrun : ∀ w' : World, (execOp a.eval o).run E.P w' = .ok (.value (.func (.method name) #[a.eval (.tmp x)] #[])) w' := by
  intro w'
  simp [execOp, hop, Instr.makeFunc]
 have hrel : VRel ρ (.func (.method name) #[u] #[]) (.func (.method name) #[a.eval (.tmp x)] #[]) := by
  refine .func _ _ _ _ _ rfl rfl (fun i v v' e1 e2 => ?_) (fun i v v' e1 e2 => by simp at e1)
  cases i with
  | zero => simp at e1 e2; rw [← e1, ← e2]; exact hev
  | succ i => simp at e1
 have hput : TRel ρ nt (putX (some (path 12 d)) (.func (.method name) #[u] #[]) (trS nt σ)) (a.put o.dst (.func (.method name) #[a.eval (.tmp x)] #[])) := putX_ok h1.tr (by rw [hdst]; simp only [dstP, hd]) hrel
 have hs' : SRel ρ nt σ' (a.put o.dst (.func (.method name) #[a.eval (.tmp x)] #[])) := by rw [← hσ]; exact SRel.of_tr hput hl
 have hjt : j ≠ t0 := fun e => by rw [e, Nat.beq_refl] at r4; cases r4
 exact wpT_first (S' := fun _ => True) hoo hjt (Region.noSelect_spec r3) (.inl fun _ => trivial) (fun c a w q => absurd q (hQ _ _ _)) _ listed a w (closedB_inv r5) (Region.free_spec hoo r2) r1 (.inl ⟨free_wanted hfo _, fun w' _ => hrun w'⟩) trivial (.inr fun x hx => (q1 x hx).2)
  (hx B ρ _ w hs' h2 h3 h4 h5 h6 Ks ws q1 q2 ρ0 w0 ds h7 h8 (by rw [put_defers]; exact h9) Q hQ hEnd)
def frzO : XObj → XObj
 | .cells cs fz e es => .cells cs (fz + (cs.length + 1)) e es
 | o => o
noncomputable def frzI (I : List Nat) (h : Heap) : Heap := h.map fun p => if I.contains p.1 then (p.1, frzO p.2) else p
noncomputable def thaw (I : List Nat) (h h' : Heap) : Heap := h'.map fun p => if I.contains p.1 then (p.1, (hget h p.1).getD p.2) else p
def liveO : XObj → Bool
 | .cells cs fz _ _ => !(Nat.blt cs.length fz)
 | .iter _ _ => true
 | .imap _ => true
 | _ => false
noncomputable def liveB (I : List Nat) (h : Heap) : Bool := h.all fun p => I.contains p.1 || liveO p.2
noncomputable def cellsI (I : List Nat) (h : Heap) : Bool := I.all fun i => match hget h i with
 | some (.cells cs fz _ _) => !cs.isEmpty && !(Nat.blt cs.length fz)
 | _ => false
theorem hget_mapI (f : Nat → XObj → XObj) (I : List Nat) : ∀ (h : Heap) (i : Nat), hget (h.map fun p => if I.contains p.1 then (p.1, f p.1 p.2) else p) i = if I.contains i then (hget h i).map (f i) else hget h i
 | [], i => by
  show hget [] i = _
  rw [hget_nil]
  split <;> rfl
 | p :: h, i => by
  have ih := hget_mapI f I h i
  rw [List.map_cons, hget_cons, hget_cons, ih]
  by_cases e : p.1 = i
  ·subst e
   cases hc : I.contains p.1 <;> simp [hc]
  ·have e1 : (if I.contains p.1 = true then (p.1, f p.1 p.2) else p).1 = p.1 := by split <;> rfl
   rw [e1, if_neg e, if_neg e]
theorem hget_all {p : Nat → XObj → Bool} : ∀ {h : Heap}, (h.all fun q => p q.1 q.2) = true → ∀ {i : Nat} {o : XObj}, hget h i = some o → p i o = true
 | [], _, i, o, hi => by rw [hget_nil] at hi; cases hi
 | q :: h, ha, i, o, hi => by
  simp only [List.all_cons, Bool.and_eq_true] at ha
  rw [hget_cons] at hi
  split at hi
  ·rename_i e; cases hi; rw [← e]; exact ha.1
  ·exact hget_all ha.2 hi
theorem liveB_at {I : List Nat} {h : Heap} (hl : liveB I h = true) {i : Nat} {o : XObj} (hi : hget h i = some o) (hn : i ∉ I) : liveO o = true := by
 have := hget_all (p := fun a b => I.contains a || liveO b) hl hi
 simp only [Bool.or_eq_true] at this
 rcases this with q | q
 ·exact absurd (by simpa using q) hn
 ·exact q
theorem live_frz {o : XObj} (h : liveO o = true) : frz o = false ∧ (∀ p, o ≠ .ext p) ∧ ∀ ρ L, own ρ L o := by
 cases o with
 | cells cs fz e es => exact ⟨by simpa [liveO, frz] using h, fun p q => (by cases q), fun _ _ => trivial⟩
 | iter s p => exact ⟨rfl, fun p q => (by cases q), fun _ _ => trivial⟩
 | imap es => exact ⟨rfl, fun p q => (by cases q), fun _ _ => trivial⟩
 | _ => cases h
theorem OOk.frzO {ρ : Rho} {w : World} {L : Loc} {o : XObj} (h : OOk ρ w L o) : OOk ρ w L (Xm.frzO o) := by
 cases o with
 | cells cs fz e es =>
  obtain ⟨h0, hg | ⟨C, fr, h1, h2, h3, h4, h5, h6⟩⟩ := h
  ·exact ⟨h0, .inl hg⟩
  ·exact ⟨h0, .inr ⟨C, fr, h1, h2, h3, h4, by omega, h6⟩⟩
 | _ => exact h
theorem XQ.held {E : Env} (hE : E.Ok) {nt k : Nat} {code : Code} (hs : drawOf code = some true) (t0 : Nat) (T : List Nat) (g : Nat) (I : List Nat) {σ : St} {h : Heap} {c : Nat} {Q : QP}
 (hn : ((T.all fun i => Nat.blt i (opsOf code).size) && (Nat.blt t0 (opsOf code).size && (Nat.beq (g + (T.length + 1)) (opsOf code).size && (I.all (fun i => Nat.blt i c) && (liveB I h && cellsI I h))))) = true) (hf : freeOf (opsOf code).toList = true)
 {hF : Heap} (hFe : frzI I h = hF)
 (hx : XH E nt c (opsOf code) t0 T g (Array.replicate (opsOf code).size false) I σ hF c (fun σ' h' c' => (liveB I h' && I.all (fun i => (hget h' i).isSome)) = true ∧ XR E nt k (reOps (opsOf code) (t0 :: T)) 0 σ' (thaw I h h') c' Q)) : XQ E nt k code σ h c Q := by
 cases code with
 | region id ops d =>
  cases hs
  subst hFe
  have hn : ((T.all fun i => Nat.blt i ops.size) && (Nat.blt t0 ops.size && (Nat.beq (g + (T.length + 1)) ops.size && (I.all (fun i => Nat.blt i c) && (liveB I h && cellsI I h))))) = true := hn
  simp only [Bool.and_eq_true] at hn
  obtain ⟨n1, n2, n3, n4, n5, n6⟩ := hn
  have n3 := Nat.eq_of_beq_eq_true n3
  have hf : freeOf ops.toList = true := hf
  intro B ρ a w h1 h2 h3 h4 h5 h6 h7
  have hb := drew_below w
  have H : HRel B ρ h w.drew := h2.keepB hb
  have hId : E.inv w.drew := hE.keepN (Nat.le_trans h5.1 h4) h6 hb
  have hkr : c = ρ.length := h3.symm
  -- the objects of I
  have hIo : ∀ i, i ∈ I → ∃ cs fz e es L, hget h i = some (.cells cs fz e es) ∧ cs ≠ [] ∧ frz (.cells cs fz e es) = false ∧ ρ[i]? = some L ∧ ¬ L.gho ∧ L.b < w.drew.heap.size := by
   intro i hi
   have hc := List.all_eq_true.1 n6 i hi
   cases hg : hget h i with
   | none => rw [hg] at hc; cases hc
   | some o =>
    rw [hg] at hc
    cases o with
    | cells cs fz e es =>
     simp only [Bool.and_eq_true, Bool.not_eq_true'] at hc
     obtain ⟨L, hL, _, ho⟩ := H.ok i _ hg
     have hne : cs ≠ [] := fun q => by rw [q] at hc; cases hc.1
     obtain ⟨_, hng, C, fr, e1, _⟩ := ho.real (.inl hne)
     exact ⟨cs, fz, e, es, L, rfl, hne, hc.2, hL, hng, (Array.getElem?_eq_some_iff.1 e1).1⟩
    | _ => cases hc
  let Ks : List Nat := I.filterMap fun i => (ρ[i]?).map (·.b)
  have hKs : ∀ x, x ∈ Ks ↔ ∃ i, i ∈ I ∧ ∃ L, ρ[i]? = some L ∧ L.b = x := by
   intro x
   show x ∈ (I.filterMap fun i => (ρ[i]?).map (·.b)) ↔ _
   simp only [List.mem_filterMap, Option.map_eq_some_iff]
  let B1 : Bd := ⟨w.drew.heap.size, (ρ.map (·.b)).filter fun x => decide (B.n ≤ x ∨ x ∈ B.mb) && !Ks.contains x⟩
  have hB1 : ∀ x, x ∈ B1.mb ↔ x ∈ ρ.map (·.b) ∧ B.may x ∧ x ∉ Ks := by
   intro x
   show x ∈ List.filter _ _ ↔ _
   simp only [List.mem_filter, Bool.and_eq_true, decide_eq_true_eq, Bool.not_eq_true', List.contains_eq_mem, decide_eq_false_iff_not]
   exact Iff.rfl
  have hB1may : ∀ x, B1.may x → B.may x := by
   intro x hx
   rcases hx with q | q
   ·exact .inl (Nat.le_trans (Nat.le_trans h4 hb.size) q)
   ·exact ((hB1 x).1 q).2.1
  have hKmay : ∀ x, x ∈ Ks → ¬ B1.may x := by
   intro x hx q
   obtain ⟨i, hi, L, hL, rfl⟩ := (hKs x).1 hx
   obtain ⟨_, _, _, _, L', _, _, _, hL', _, hlt⟩ := hIo i hi
   rw [hL] at hL'; cases hL'
   rcases q with q | q
   ·exact absurd hlt (Nat.not_lt_of_le q)
   ·exact ((hB1 _).1 q).2.2 hx
  have hgF : ∀ i, hget (frzI I h) i = if I.contains i then (hget h i).map frzO else hget h i := fun i => hget_mapI (fun _ o => frzO o) I h i
  -- the frozen heap, where less may change
  have HF : HRel B1 ρ (frzI I h) w.drew := by
   refine ⟨fun i o hi => ?_, fun i j o o' M M' hi hj hM hM' g1 g2 o1 o2 hz hbb => ?_, .none fun i p hi => ?_⟩
   ·rw [hgF] at hi
    cases hc : I.contains i with
    | true =>
     rw [hc, if_pos rfl] at hi
     have hiI : i ∈ I := by simpa using hc
     obtain ⟨cs, fz, e, es, L, hg, hne, _, hL, hng, _⟩ := hIo i hiI
     rw [hg] at hi
     cases hi
     refine ⟨L, hL, fun q => ?_, (H.at hg hL).2.frzO⟩
     have : frz (frzO (.cells cs fz e es)) = true := by
      show Nat.blt cs.length (fz + (cs.length + 1)) = true
      rw [Nat.blt_eq]; omega
     rw [this] at q; cases q
    | false =>
     rw [hc] at hi
     have hiI : i ∉ I := by simpa using hc
     have hi : hget h i = some o := by simpa using hi
     obtain ⟨L, hL, hm, ho⟩ := H.ok i o hi
     obtain ⟨l1, l2, l3⟩ := live_frz (liveB_at n5 hi hiI)
     refine ⟨L, hL, fun q hng => .inr ((hB1 _).2 ⟨List.mem_map.2 ⟨L, List.mem_of_getElem? hL, rfl⟩, hm q hng, fun hx => ?_⟩), ho⟩
     obtain ⟨j, hj, L', hL', e⟩ := (hKs _).1 hx
     obtain ⟨_, _, _, _, L2, hg2, _, hz2, hL2, hng2, _⟩ := hIo j hj
     rw [hL'] at hL2; cases hL2
     have := H.inj i j o _ L L' hi hg2 hL hL' hng hng2 (l3 _ _) trivial (.inl l1) e.symm
     rw [this] at hiI
     exact hiI hj
   ·have back : ∀ z u, hget (frzI I h) z = some u → ∃ u0, hget h z = some u0 ∧ (∀ M, own ρ M u → own ρ M u0) ∧ (frz u = false → frz u0 = false) := by
     intro z u hz
     rw [hgF] at hz
     cases hc : I.contains z with
     | true =>
      rw [hc, if_pos rfl] at hz
      obtain ⟨cs, fz, e, es, L, hg, _, hz2, _⟩ := hIo z (by simpa using hc)
      rw [hg] at hz; cases hz
      exact ⟨_, hg, fun _ _ => trivial, fun _ => hz2⟩
     | false =>
      rw [hc] at hz
      exact ⟨u, by simpa using hz, fun _ q => q, fun q => q⟩
    obtain ⟨x, x1, x2, x3⟩ := back i o hi
    obtain ⟨y, y1, y2, y3⟩ := back j o' hj
    exact H.inj i j x y M M' x1 y1 hM hM' g1 g2 (x2 _ o1) (y2 _ o2) (hz.imp x3 y3) hbb
   ·rw [hgF] at hi
    cases hc : I.contains i with
    | true =>
     rw [hc, if_pos rfl] at hi
     obtain ⟨cs, fz, e, es, L, hg, _⟩ := hIo i (by simpa using hc)
     rw [hg] at hi; cases hi
    | false =>
     rw [hc] at hi
     have hi : hget h i = some (.ext p) := by simpa using hi
     exact (live_frz (liveB_at n5 hi (by simpa using hc))).2.1 p rfl
  have key := hx B1 ρ a w.drew h1 HF h3 (Nat.le_refl _) ⟨Nat.le_trans (Nat.le_trans h5.1 h4) hb.size, fun x hx => Bd.may_ge h5 ((hB1 x).1 hx).2.1⟩ hId Ks w.drew (fun x hx => ⟨hKmay x hx, rfl⟩) (fun i hi => ⟨by have := List.all_eq_true.1 n4 i hi; simpa [Nat.blt_eq] using this, fun L hL => (hKs _).2 ⟨i, hi, L, hL, rfl⟩⟩) ρ w.drew a.defers ⟨Nat.le_of_eq hkr, fun _ _ => rfl⟩ (Bel.refl _ _) rfl (After k B nt ρ w a.defers Q) (by
   rintro c a' w' ⟨e, _, _, _, _, q, _⟩
   cases e <;> cases q)
  refine wp_region_any hE.mixed ?_
  have hsz : ops.size = g + (T.length + 1) := n3.symm
  show wpAny E.P .any ops (After k B nt ρ w a.defers Q) ops.size (Array.replicate ops.size false) a w.drew
  have fin := wpAny_of_T _ _ _ _ (key ?_)
  ·rw [← hsz] at fin; exact fin
  ·rintro listed' a' w' sq ⟨σ', h', c', ρ', d1, s1, s2, s3, s4, s5, s6, s7, s8, s9⟩
   simp only [Bool.and_eq_true] at s8
   obtain ⟨u1, u2⟩ := s8
   have hle : Rho.le ρ ρ' := fun i L hi => by
    have := (List.getElem?_eq_some_iff.1 hi).1
    rw [s4.2 i (by omega)]; exact hi
   have hgT : ∀ i, hget (thaw I h h') i = if I.contains i then (hget h' i).map (fun o => (hget h i).getD o) else hget h' i := fun i => hget_mapI (fun n o => (hget h n).getD o) I h' i
   have atI : ∀ i o, i ∈ I → hget (thaw I h h') i = some o → hget h i = some o := by
    intro i o hi hg
    rw [hgT, if_pos (by simpa using hi)] at hg
    obtain ⟨cs, fz, e, es, L, hg2, _⟩ := hIo i hi
    rw [hg2] at hg ⊢
    cases hh : hget h' i with
    | none => rw [hh] at hg; cases hg
    | some o' => rw [hh] at hg; exact hg
   have atN : ∀ i o, i ∉ I → hget (thaw I h h') i = some o → hget h' i = some o := by
    intro i o hi hg
    rw [hgT, if_neg (by simpa using hi)] at hg
    exact hg
   have HT : HRel B ρ' (thaw I h h') w' := by
    refine ⟨fun i o hi => ?_, fun i j o o' M M' hi hj hM hM' g1 g2 o1 o2 hz hbb => ?_, .none fun i p hi => ?_⟩
    ·by_cases hc : i ∈ I
     ·have hg := atI i o hc hi
      obtain ⟨L, hL, hm, ho⟩ := H.ok i o hg
      exact ⟨L, hle i L hL, hm, (ho.mono hle).world (s6 _ ((hKs _).2 ⟨i, hc, L, hL, rfl⟩))⟩
     ·obtain ⟨L, hL, hm, ho⟩ := s2.ok i o (atN i o hc hi)
      exact ⟨L, hL, fun q1 q2 => hB1may _ (hm q1 q2), ho⟩
    ·have inK : ∀ z u N, z ∈ I → hget (thaw I h h') z = some u → ρ'[z]? = some N → N.b ∈ Ks ∧ ρ[z]? = some N := by
      intro z u N hz hg hN
      obtain ⟨_, _, _, _, L, _, _, _, hL, _, _⟩ := hIo z hz
      have := hle z L hL
      rw [hN] at this; cases this
      exact ⟨(hKs _).2 ⟨z, hz, N, hL, rfl⟩, hL⟩
     have notK : ∀ z u N, z ∉ I → hget (thaw I h h') z = some u → ρ'[z]? = some N → ¬ N.gho → B1.may N.b := by
      intro z u N hz hg hN hng
      have hg := atN z u hz hg
      obtain ⟨L, hL, hm, _⟩ := s2.ok z u hg
      rw [hN] at hL; cases hL
      exact hm (live_frz (liveB_at u1 hg hz)).1 hng
     by_cases hc : i ∈ I <;> by_cases hd : j ∈ I
     ·exact H.inj i j o o' M M' (atI i o hc hi) (atI j o' hd hj) (inK i o M hc hi hM).2 (inK j o' M' hd hj hM').2 g1 g2 (by
       obtain ⟨cs, fz, e, es, L, hg2, _⟩ := hIo i hc
       rw [atI i o hc hi] at hg2; cases hg2; trivial) (by
       obtain ⟨cs, fz, e, es, L, hg2, _⟩ := hIo j hd
       rw [atI j o' hd hj] at hg2; cases hg2; trivial) hz hbb
     ·exact absurd (hbb ▸ notK j o' M' hd hj hM' g2) (hKmay _ (inK i o M hc hi hM).1)
     ·exact absurd (hbb ▸ notK i o M hc hi hM g1) (hKmay _ (inK j o' M' hd hj hM').1)
     ·exact s2.inj i j o o' M M' (atN i o hc hi) (atN j o' hd hj) hM hM' g1 g2 o1 o2 hz hbb
    ·by_cases hc : i ∈ I
     ·have hg := atI i _ hc hi
      obtain ⟨cs, fz, e, es, L, hg2, _⟩ := hIo i hc
      rw [hg] at hg2; cases hg2
     ·have hg := atN i _ hc hi
      exact (live_frz (liveB_at u1 hg hc)).2.1 p rfl
   have hbw : Bel B w.drew w' := ⟨s5.os, s5.tape, s5.output, s5.size, fun x hx => s5.block x (fun q => hx (hB1may x q))⟩
   have hlt : ∀ i, i ∈ t0 :: T → i < ops.toList.length := by
    intro i hi
    rw [Array.length_toList]
    rcases List.mem_cons.1 hi with e | e
    ·rw [e]; simpa [Nat.blt_eq] using n2
    ·have := List.all_eq_true.1 n1 i e
     simpa [Nat.blt_eq] using this
   have hm := opsAt_map (l := ops.toList) (t0 :: T) hlt
   have hR := s9 B ρ' a' w' s1 HT s3 (Nat.le_trans (Nat.le_trans h4 hb.size) s5.size) h5 s7 ρ w a.defers ⟨h7, fun i hi => s4.2 i (by omega)⟩ ((Bel.refl B w).drew.trans hbw) d1
   show wpAny E.P .any ops (After k B nt ρ w a.defers Q) (T.length + 1) listed' a' w'
   exact any_of_seq (ops := ops) (md := .any) (t0 :: T) (opsAt ops.toList (t0 :: T)) listed' a' w' (by simpa using hm) sq (wpList_other _ (opsAt_free hf _) a' w' hR)
 | _ => cases hs
theorem XQ.postC {E : Env} {nt k : Nat} {code : Code} {σ σ' : St} {h h' : Heap} {c c' : Nat} {Q : QP} (hq : Q .normal σ' h' c') (hx : XQ E nt k code σ h c (fun e σ1 h1 c1 => e = .normal ∧ (σ1, h1, c1) = (σ', h', c'))) : XQ E nt k code σ h c Q := by
 intro B ρ a w h1 h2 h3 h4 h5 h6 h7
 refine wp_mono (hx B ρ a w h1 h2 h3 h4 h5 h6 h7) ?_
 rintro e a' w' ⟨e0, σ2, h2', c2, ρ2, q1, q2, q3, q4, q5, q6, q7, rfl, q8⟩
 cases q8
 exact ⟨.normal, σ', h', c', ρ2, q1, q2, q3, q4, q5, q6, q7, hq⟩
open Go.RowKit Go.ChangeShapes Go.WideShapes
theorem rowAt_le {p : Program} {fits : TypeId → Bool} {d : Nat} {e : TypeId} {count off n : Nat} (h : rowAt p fits d e count off n = true) : off ≤ count * p.cellsOf e := by
 cases d with
 | zero => simp [rowAt] at h
 | succ d =>
  unfold rowAt at h
  simp only at h
  split at h
  ·cases h
  ·rename_i hs
   have h2 := Nat.div_add_mod off (p.cellsOf e)
   rw [Bool.or_eq_true] at h
   rcases h with h | h
   ·simp only [Bool.and_eq_true, beq_iff_eq, decide_eq_true_eq] at h
    obtain ⟨⟨h3, h4⟩, _⟩ := h
    have : p.cellsOf e * (off / p.cellsOf e) ≤ p.cellsOf e * count := Nat.mul_le_mul_left _ (by omega)
    rw [Nat.mul_comm count]
    omega
   ·rw [Bool.and_eq_true, decide_eq_true_eq] at h
    have h5 : p.cellsOf e * (off / p.cellsOf e + 1) ≤ p.cellsOf e * count := Nat.mul_le_mul_left _ h.1
    rw [Nat.mul_add, Nat.mul_one] at h5
    have h6 := Nat.mod_lt off (Nat.pos_of_ne_zero hs)
    rw [Nat.mul_comm count]
    omega
theorem liesAt_le {p : Program} {u : TypeId} (hu : ∀ m u', p.underlying u ≠ some (.array m u')) {d : Nat} {e : TypeId} {count off n : Nat} (h : liesAt p d e count off u n = true) : off ≤ count * p.cellsOf e := by
 cases d with
 | zero => simp [liesAt] at h
 | succ d =>
  unfold liesAt at h
  rw [Bool.or_eq_true] at h
  rcases h with h | h
  ·exact rowAt_le h
  ·split at h
   ·rename_i m u' hq
    exact absurd hq (hu m u')
   ·cases h
def RowIn (w : World) (v : Value) (es : Nat) (cs : List Value) (n : Nat) : Prop :=
 (v = .slice none 0 0 ∧ cs = [] ∧ n = 0) ∨ ∃ (b off cap : Nat) (C : Array Value) (el : TypeId) (fr : Nat × Nat), v = .slice (some ⟨b, off, none⟩) n cap ∧ w.heap[b]? = some (.cells C el fr) ∧ off + cap * es ≤ C.size ∧ n ≤ cap ∧ cs.length = n * es ∧
  ∀ (i : Nat) (u : Value), cs[i]? = some u → C[off + i]? = some u
theorem RowIn.loc {w : World} {v : Value} {es : Nat} {cs : List Value} {n : Nat} (h : RowIn w v es cs n) (hes : es ≠ 0) (hp : cs.all plain = true) :
 ∃ (L : Loc) (fz : Nat) (el : TypeId), (∀ ρ, OOk ρ w L (.cells cs fz el es)) ∧ cs.length < fz ∧ ∀ (ρ : Rho) (i : Nat), ρ[i]? = some L → VRel ρ (.slice (some ⟨i, 0, none⟩) n n) v := by
 rcases h with ⟨rfl, rfl, rfl⟩ | ⟨b, off, cap, C, el, fr, rfl, h1, h2, h3, h4, h5⟩
 ·exact ⟨⟨0, 0, 0, es⟩, 1, 0, fun ρ => ⟨rfl, .inl ⟨⟨hes, rfl⟩, rfl⟩⟩, by simp, fun ρ i hi => .sliceN i 0 _ hi ⟨hes, rfl⟩⟩
 ·have h6 : n * es ≤ cap * es := Nat.mul_le_mul_right _ h3
  refine ⟨⟨b, off, C.size, es⟩, fr.2 + cs.length + 1, el, fun ρ => ⟨rfl, .inr ⟨C, fr, h1, rfl, by show off + cs.length ≤ C.size; omega, fun i u hu => ⟨u, h5 i u hu, VRel.plain_refl ρ ?_⟩, by show fr.2 ≤ off + (fr.2 + cs.length + 1); omega, fun q => absurd q hes⟩⟩, by omega, fun ρ i hi => ?_⟩
  ·exact List.all_eq_true.1 hp u (List.mem_of_getElem? hu)
  ·exact .slice i 0 n n _ off cap hi (.inl rfl) (fun q => absurd q hes) (fun _ => ⟨h3, h2, Nat.le_refl _⟩)
theorem HRel.ofFrozen {B : Bd} {ρ : Rho} {h : Heap} {w : World} (hx : ∀ i o, hget h i = some o → ∃ L, ρ[i]? = some L ∧ frz o = true ∧ OOk ρ w L o) : HRel B ρ h w := by
 refine ⟨fun i o hi => ?_, fun i j o o' L L' hi hj _ _ _ _ _ _ hz _ => ?_, .none (fun i p e => by obtain ⟨_, _, q, _⟩ := hx i _ e; cases q)⟩
 ·obtain ⟨L, h1, h2, h3⟩ := hx i o hi
  exact ⟨L, h1, fun q => by rw [h2] at q; (cases q), h3⟩
 ·obtain ⟨_, _, h2, _⟩ := hx i o hi
  obtain ⟨_, _, h3, _⟩ := hx j o' hj
  rcases hz with q | q
  ·rw [h2] at q; cases q
  ·rw [h3] at q; cases q
theorem frz_of {cs : List Value} {fz : Nat} {e : TypeId} {es : Nat} (h : cs.length < fz) : frz (.cells cs fz e es) = true := by
 show Nat.blt cs.length fz = true
 rw [Nat.blt_eq]; exact h
section
variable {H : Type} {enc : TypeId × Value → H} {P : Program} {w : World} {base : Nat} {held : Bool}
theorem cell_at {b off : Nat} {C : Array Value} {el : TypeId} {fr : Nat × Nat} (h : w.heap[b]? = some (.cells C el fr)) {k : Nat} {u : Value} (hc : w.cell? ((⟨b, off, none⟩ : Addr).add k) = some u) : C[off + k]? = some u := by
 unfold Addr.add at hc
 split at hc
 ·rename_i e; subst e
  simpa [World.cell?, h] using hc
 ·simpa [World.cell?, h] using hc
end
theorem KC.callsS {E : Env} {K n es : Nat} {args : List Value} {x V v0 : Value} {cs : List Value} (hes : es ≠ 0) (hpx : plain x = true) (hp : args.all plain = true) (hc : cs.all plain = true) (hV : plain V = true)
 (hx : ∀ z y, KC E K (.agg #[x, .slice (some ⟨0, 0, none⟩) n n] :: args) [(0, .cells cs z y es)] 1 (fun v _ _ => v = V)) (w : World) (h0 : RowIn w v0 es cs n) (hG : E.G ≤ w.heap.size) (hI : E.inv w) :
 Calls E.P K (.agg #[x, v0] :: args).toArray w (fun e w' => e = .returned V ∧ Below w.heap.size w w') := by
 obtain ⟨L, fz, el, l1, l2, l3⟩ := h0.loc hes hc
 have hh : HRel w.heap.size [L] [(0, .cells cs fz el es)] w := HRel.ofFrozen (fun i o hi => by
  rw [hget_cons] at hi
  split at hi
  ·rename_i e; subst e; cases hi
   exact ⟨L, rfl, frz_of l2, l1 _⟩
  ·simp [hget_nil] at hi)
 have ha : Cells [L] (.agg #[x, .slice (some ⟨0, 0, none⟩) n n] :: args) (.agg #[x, v0] :: args) := by
  have q := Cells.plain_refl [L] hp
  refine ⟨by simp, fun i a a' h1 h2 => ?_⟩
  cases i with
  | zero =>
   simp at h1 h2; subst h1; subst h2
   refine .agg _ _ rfl (fun j u u' g1 g2 => ?_)
   match j with
   | 0 => simp at g1 g2; subst g1; subst g2; exact VRel.plain_refl _ hpx
   | 1 => simp at g1 g2; subst g1; subst g2; exact l3 _ 0 rfl
   | j + 2 => simp at g1
  | succ i => exact q.2 i a a' (by simpa using h1) (by simpa using h2)
 obtain ⟨q1, q2⟩ := hx fz el w.heap.size [L] w _ ha hh rfl (Nat.le_refl _) (Bd.ge_at hG) hI
 refine q2.mono ?_
 rintro e w' ⟨v1, v', ρ', h', c', rfl, e2, e3, e4, e5, e6, rfl⟩
 exact ⟨by rw [e2.plain_eq hV], e6.below⟩
def okS (s : ByteArray) : Bool := Nat.ble s.size 281474976710656
def pHasPrefix (args : List Value) : Option Value :=
 match args with
 | [.string s, .string p] => some (.bool (Lib.hasPrefix s.data.toList p.data.toList))
 | _ => none
def pLastByte (args : List Value) : Option Value :=
 match args with
 | [.string s, .int .u8 c] => match okS s with
  | true => some (.int .i64 (Lib.lastIndexByte s c))
  | false => none
 | _ => none
def pItoa (args : List Value) : Option Value :=
 match args with
 | [.int .i64 n] => match (decide (-9223372036854775808 ≤ n) && decide (n ≤ 9223372036854775807)) with
  | true => some (.string ⟨(Lib.itoa n).toArray⟩)
  | false => none
 | _ => none
def pTrimSuffix (args : List Value) : Option Value :=
 match args with
 | [.string s, .string p] => match okS s with
  | true => some (.string ⟨(Lib.trimSuffix s.data.toList p.data.toList).toArray⟩)
  | false => none
 | _ => none
def pCutPrefix (args : List Value) : Option Value :=
 match args with
 | [.string s, .string p] => some (.tuple #[.string ⟨(Lib.trimPrefix s.data.toList p.data.toList).toArray⟩, .bool (Lib.hasPrefix s.data.toList p.data.toList)])
 | _ => none
def pTrim (args : List Value) : Option Value :=
 match args with
 | [.string s, .string p] => match (okS s && (okS p && (Nat.ble p.size 1000 && p.data.toList.all (fun b => decide (b.toNat < 128))))) with
  | true => some (.string ⟨(Lib.trimS s.data.toList p.data.toList).toArray⟩)
  | false => none
 | _ => none
noncomputable def maPrim (k : Nat) : Option (List Value → Option Value) :=
 match Nat.beq k 38 with
 | true => some pHasPrefix
 | false => match Nat.beq k 40 with
  | true => some pLastByte
  | false => match Nat.beq k 44 with
   | true => some pItoa
   | false => match Nat.beq k 65 with
    | true => some pTrimSuffix
    | false => match Nat.beq k 96 with
     | true => some pCutPrefix
     | false => match Nat.beq k 119 with
      | true => some pTrim
      | false => tzPrim k
def maInv (w : World) : Prop :=
 seatInv w ∧ (∃ m, w.cell? ⟨0, 0, none⟩ = some (.int .i64 m)) ∧ Lib.TabIs Proofs.Tryz.prog w "internal/strconv.uint64pow10" .u64 Lib.pow10Tab ∧
 (∃ tp p, w.var? Proofs.Tryz.prog "strconv.ErrSyntax" = some #[.iface tp p]) ∧ (∃ tp p, w.var? Proofs.Tryz.prog "strconv.ErrRange" = some #[.iface tp p])
theorem var_keeps {w w' : World} {name : String} {g : Nat} {cs : Array Value} (hg : Proofs.Tryz.prog.globalNamed name = some g) (h : w.var? Proofs.Tryz.prog name = some cs) (e : w'.heap[g]? = w.heap[g]?) : w'.var? Proofs.Tryz.prog name = some cs := by
 rw [← h]
 simp [World.var?, hg, e]
theorem maInv_keeps (w w' : World) (h : maInv w) (hk : ∀ k, k < seatG → w'.heap[k]? = w.heap[k]?) : maInv w' := by
 obtain ⟨h1, ⟨m, h2⟩, h3, ⟨t4, p4, h4⟩, ⟨t5, p5, h5⟩⟩ := h
 have e1 : Proofs.Tryz.prog.globalNamed "internal/strconv.uint64pow10" = some 3 := by kernel_rfl
 have e2 : Proofs.Tryz.prog.globalNamed "strconv.ErrSyntax" = some 1 := by kernel_rfl
 have e3 : Proofs.Tryz.prog.globalNamed "strconv.ErrRange" = some 2 := by kernel_rfl
 refine ⟨seatInv_keeps w w' h1 hk, ⟨m, ?_⟩, ?_, ⟨t4, p4, var_keeps e2 h4 (hk _ (by decide))⟩, ⟨t5, p5, var_keeps e3 h5 (hk _ (by decide))⟩⟩
 ·rw [← h2]; exact World.cell?_of_block (w := w) (hk 0 (by decide))
 ·exact var_keeps e1 h3 (hk _ (by decide))
theorem maInv_size {w : World} (h : maInv w) : seatG ≤ w.heap.size := seatInv_size h.1
theorem okS_le {s : ByteArray} (h : okS s = true) : s.size ≤ 281474976710656 := Nat.le_of_ble_eq_true h
open Go.Sort Go.Lib in
theorem grow_below (w : World) (k : Nat) (os : Array Obj) : Below w.heap.size w (grow (w.drewN k) os) :=
 ⟨rfl, rfl, rfl, by show w.heap.size ≤ (w.heap ++ os).size; rw [Array.size_append]; omega, fun j hj => by show (w.heap ++ os)[j]? = w.heap[j]?; exact Array.getElem?_append_left hj⟩
theorem maPrim_ok : ∀ k g, maPrim k = some g → (∃ F, Proofs.Tryz.prog.funcs[k]? = some F ∧ (F.name == "runtime.NumGoroutine") = false ∧ F.body.isSome = true) ∧
 ∀ args v, g args = some v → args.all plain = true ∧ plain v = true ∧ ∀ w, maInv w → Calls Proofs.Tryz.prog k args.toArray w (fun e w' => e = .returned v ∧ Below w.heap.size w w') := by
 intro k g h
 unfold maPrim at h
 split at h
 ·rename_i hk
  have hk := Nat.eq_of_beq_eq_true hk
  subst hk
  cases h
  refine ⟨⟨_, Proofs.Tryz.func38, by kernel_rfl, by kernel_rfl⟩, ?_⟩
  intro args v hv
  unfold pHasPrefix at hv
  split at hv
  ·cases hv
   exact ⟨rfl, rfl, fun w hI => (Proofs.Tryz.strings_HasPrefix _ _ w).mono (fun e w' ⟨he, hw⟩ => ⟨he, hw ▸ Below.refl _ _⟩)⟩
  ·cases hv
 split at h
 ·rename_i hk
  have hk := Nat.eq_of_beq_eq_true hk
  subst hk
  cases h
  refine ⟨⟨_, Proofs.Tryz.func40, by kernel_rfl, by kernel_rfl⟩, ?_⟩
  intro args v hv
  unfold pLastByte at hv
  split at hv
  ·split at hv
   ·rename_i hs
    cases hv
    have hs := okS_le hs
    exact ⟨rfl, rfl, fun w hI => (Proofs.Tryz.strings_LastIndexByte _ _ (by omega) w).mono (fun e w' ⟨he, hw⟩ => ⟨he, hw ▸ Below.refl _ _⟩)⟩
   ·cases hv
  ·cases hv
 split at h
 ·rename_i hk
  have hk := Nat.eq_of_beq_eq_true hk
  subst hk
  cases h
  refine ⟨⟨_, Proofs.Tryz.func44, by kernel_rfl, by kernel_rfl⟩, ?_⟩
  intro args v hv
  unfold pItoa at hv
  split at hv
  ·split at hv
   ·rename_i hs
    cases hv
    simp only [Bool.and_eq_true, decide_eq_true_eq] at hs
    exact ⟨rfl, rfl, fun w hI => (Proofs.Tryz.strconv_Itoa _ hs.1 hs.2 w hI.2.2.1).mono (fun e w' ⟨he, k, os, hw⟩ => ⟨he, hw ▸ grow_below _ _ _⟩)⟩
   ·cases hv
  ·cases hv
 split at h
 ·rename_i hk
  have hk := Nat.eq_of_beq_eq_true hk
  subst hk
  cases h
  refine ⟨⟨_, Proofs.Tryz.func65, by kernel_rfl, by kernel_rfl⟩, ?_⟩
  intro args v hv
  unfold pTrimSuffix at hv
  split at hv
  ·split at hv
   ·rename_i hs
    cases hv
    have hs := okS_le hs
    exact ⟨rfl, rfl, fun w hI => (Proofs.Tryz.strings_TrimSuffix _ _ w (by omega)).mono (fun e w' ⟨he, hw⟩ => ⟨he, hw ▸ Below.refl _ _⟩)⟩
   ·cases hv
  ·cases hv
 split at h
 ·rename_i hk
  have hk := Nat.eq_of_beq_eq_true hk
  subst hk
  cases h
  refine ⟨⟨_, Proofs.Tryz.func96, by kernel_rfl, by kernel_rfl⟩, ?_⟩
  intro args v hv
  unfold pCutPrefix at hv
  split at hv
  ·cases hv
   exact ⟨rfl, rfl, fun w hI => (Proofs.Tryz.strings_CutPrefix _ _ w).mono (fun e w' ⟨he, hw⟩ => ⟨he, hw ▸ Below.refl _ _⟩)⟩
  ·cases hv
 split at h
 ·rename_i hk
  have hk := Nat.eq_of_beq_eq_true hk
  subst hk
  cases h
  refine ⟨⟨_, Proofs.Tryz.func119, by kernel_rfl, by kernel_rfl⟩, ?_⟩
  intro args v hv
  unfold pTrim at hv
  split at hv
  ·split at hv
   ·rename_i hs
    cases hv
    simp only [Bool.and_eq_true] at hs
    obtain ⟨h1, h2, h3, h4⟩ := hs
    have h1 := okS_le h1
    have h3 := Nat.le_of_ble_eq_true h3
    exact ⟨rfl, rfl, fun w hI => Proofs.Tryz.strings_Trim_laid _ _ w (by omega) (by omega) h4⟩
   ·cases hv
  ·cases hv
 ·obtain ⟨h1, h2⟩ := tzPrim_ok k g h
  exact ⟨h1, fun args v hv => ⟨(h2 args v hv).1, (h2 args v hv).2.1, fun w hI => (h2 args v hv).2.2 w hI.1⟩⟩
def atoiV (s : ByteArray) : Int × Bool :=
 match Lib.atoiAll s.data.toList with
 | .ok v => (v, true)
 | .range => (Lib.atoiSat s.data.toList, false)
 | _ => (0, false)
theorem atoi_c (s : ByteArray) (hs : okS s = true) (w : World) (hI : maInv w) : Calls Proofs.Tryz.prog 80 #[.string s] w fun e w' => ∃ x, e = .returned (.tuple #[.int .i64 (atoiV s).1, x]) ∧ Below w.heap.size w w' ∧ ((atoiV s).2 = true → x = .nilIface) ∧ ((atoiV s).2 = false → ∃ t p, x = .iface t p) := by
 have hs := okS_le hs
 obtain ⟨h1, h2, h3, ⟨t4, p4, h4⟩, ⟨t5, p5, h5⟩⟩ := hI
 cases ha : Lib.atoiAll s.data.toList with
 | ok v =>
  have e1 : atoiV s = (v, true) := by unfold atoiV; rw [ha]
  rw [e1]
  refine (Proofs.Tryz.strconv_Atoi_ok s (by omega) v ha w).mono ?_
  rintro e w' ⟨he, hw⟩
  refine ⟨_, he, ?_, fun _ => rfl, by intro h; simp at h⟩
  rcases hw with hw | ⟨t, hw⟩ <;> rw [hw]
  ·exact Below.refl _ _
  ·refine (show Below w.heap.size w (Lib.bytesWorld w 5 t) from ⟨rfl, rfl, rfl, by rw [Lib.bytesWorld_size]; omega, fun j hj => Lib.bytesWorld_at_old w 5 t j hj⟩)
 | range =>
  have e1 : atoiV s = (Lib.atoiSat s.data.toList, false) := by unfold atoiV; rw [ha]
  rw [e1]
  refine (Proofs.Tryz.strconv_Atoi_range_var s hs ha t5 p5 w h5).mono ?_
  rintro e w' ⟨N, he, _, _, hb⟩
  exact ⟨_, he, hb, by intro h; simp at h, fun _ => ⟨_, _, rfl⟩⟩
 | _ =>
  have e1 : atoiV s = (0, false) := by unfold atoiV; rw [ha]
  rw [e1]
  refine (Proofs.Tryz.strconv_Atoi_syntax_var s hs ha t4 p4 w h4).mono ?_
  rintro e w' ⟨N, he, _, _, hb⟩
  exact ⟨_, he, hb, by intro h; simp at h, fun _ => ⟨_, _, rfl⟩⟩
def numV (s : ByteArray) : Int × Bool :=
 ((atoiV s).1, (atoiV s).2 && (decide (0 ≤ (atoiV s).1) && (decide ((atoiV s).1 ≤ 9999) && (Lib.itoa (atoiV s).1 == s.data.toList))))
theorem itoa_c (n : Int) (h0 : -9223372036854775808 ≤ n) (h1 : n ≤ 9223372036854775807) (w : World) (hI : maInv w) : Calls Proofs.Tryz.prog 44 #[.int .i64 n] w fun e w' => e = .returned (.string ⟨(Lib.itoa n).toArray⟩) ∧ Below w.heap.size w w' :=
 (Proofs.Tryz.strconv_Itoa n h0 h1 w hI.2.2.1).mono (fun e w' ⟨he, k, os, hw⟩ => ⟨he, hw ▸ grow_below _ _ _⟩)
set_option maxHeartbeats 1000000 in
theorem num_c (s : ByteArray) (hs : okS s = true) (w : World) (hI : maInv w) : Calls Proofs.Tryz.prog 92 #[.string s] w fun e w' => e = .returned (.tuple #[.int .i64 (numV s).1, .bool (numV s).2]) ∧ Below w.heap.size w w' := by
 have c := atoi_c s hs w hI
 have d : ∀ w', Below w.heap.size w w' → ∀ n : Int, 0 ≤ n → n ≤ 9999 → Calls Proofs.Tryz.prog 44 #[.int .i64 n] w' fun e w'' => e = .returned (.string ⟨(Lib.itoa n).toArray⟩) ∧ Below w'.heap.size w' w'' := fun w' hb n h0 h1 => itoa_c n (by omega) (by omega) w' (maInv_keeps w w' hI fun k hk => hb.block k (Nat.lt_of_lt_of_le hk (maInv_size hI)))
 unfold numV
 revert c
 generalize atoiV s = a
 obtain ⟨n, b⟩ := a
 intro c
 refine calls_of_wp Proofs.Tryz.func92 rfl ?_
 simp only [Proofs.Tryz.ntmps92, List.size_toArray, List.length_cons, List.length_nil, Nat.reduceAdd, Nat.reduceSub, Array.replicate_succ, Array.replicate_zero, List.push_toArray, List.append_toArray, List.nil_append, List.cons_append]
 cases b with
 | false =>
  go_wp2_with (go_at_call 80; refine c.mono ?_; rintro e w' ⟨x, rfl, hb, -, hx⟩; obtain ⟨t, p, rfl⟩ := hx rfl)
  go_ret2
  exact ⟨rfl, hb⟩
 | true =>
  go_wp2_with (first
   | (go_at_call 80; refine c.mono ?_; rintro e w' ⟨x, rfl, hb, hx, -⟩; obtain rfl := hx rfl)
   | (go_at_call 44; refine (d _ hb n (by omega) (by omega)).mono ?_; rintro e w'' ⟨rfl, hc⟩))
  ·go_ret2
   rename_i h0 h1
   exact ⟨by rw [ByteArray.toList_eq]; simp [h0, h1], hb.trans (hc.mono hb.size)⟩
  ·go_ret2
   rename_i h0 h1
   exact ⟨by simp [Int.not_le.2 h1], hb⟩
  ·go_ret2
   rename_i h0
   exact ⟨by simp [Int.not_le.2 h0], hb⟩
def lastV (s : ByteArray) : Int := (atoiV (s.extract (Lib.lastIndexByte s 32 + 1).toNat s.size)).1
theorem okS_extract {s : ByteArray} (h : okS s = true) (i j : Nat) : okS (s.extract i j) = true := by
 have h := okS_le h
 unfold okS
 refine Nat.ble_eq_true_of_le ?_
 rw [ByteArray.size_extract]
 omega
theorem last_bounds (s : ByteArray) (c : Int) : -1 ≤ Lib.lastIndexByte s c ∧ Lib.lastIndexByte s c < s.size := by
 unfold Lib.lastIndexByte
 rcases Lib.lastIdx_spec s c s.size with ⟨e, _⟩ | ⟨i, hi, e, _⟩
 ·rw [e]
  refine ⟨Int.le_refl _, ?_⟩
  have := Int.natCast_nonneg s.size
  omega
 ·rw [e]
  omega
set_option maxHeartbeats 1000000 in
theorem last_c (s : ByteArray) (hs : okS s = true) (w : World) (hI : maInv w) : Calls Proofs.Tryz.prog 39 #[.string s] w fun e w' => e = .returned (.int .i64 (lastV s)) ∧ Below w.heap.size w w' := by
 have hs0 := okS_le hs
 have c1 := Proofs.Tryz.strings_LastIndexByte s 32 (by omega) w
 have c := atoi_c _ (okS_extract hs (Lib.lastIndexByte s 32 + 1).toNat s.size) w hI
 have hb : -1 ≤ Lib.lastIndexByte s 32 ∧ Lib.lastIndexByte s 32 < s.size := last_bounds s 32
 unfold lastV
 revert c1 c
 generalize Lib.lastIndexByte s 32 = i at *
 intro c1 c
 refine calls_of_wp Proofs.Tryz.func39 rfl ?_
 simp only [Proofs.Tryz.ntmps39, List.size_toArray, List.length_cons, List.length_nil, Nat.reduceAdd, Nat.reduceSub, Array.replicate_succ, Array.replicate_zero, List.push_toArray, List.append_toArray, List.nil_append, List.cons_append]
 go_wp2_with (first
  | (go_at_call 40; refine c1.mono ?_; rintro e w' ⟨rfl, rfl⟩)
  | (go_at_call 80; refine c.mono ?_; rintro e w'' ⟨x, rfl, hb, -, -⟩))
 go_ret
 exact ⟨rfl, hb⟩
theorem meth_do_undo (v : Value) (args : Array Value) (w : World) : (callMethod (.iface 104 v) "vitola/master.do" args).run Proofs.Tryz.prog w = (callFunc 230 (#[v] ++ args)).run Proofs.Tryz.prog w := by kernel_rfl
theorem meth_do_shut (v : Value) (args : Array Value) (w : World) : (callMethod (.iface 150 v) "vitola/master.do" args).run Proofs.Tryz.prog w = (callFunc 234 (#[v] ++ args)).run Proofs.Tryz.prog w := by kernel_rfl
theorem meth_do_closed (v : Value) (args : Array Value) (w : World) : (callMethod (.iface 151 v) "vitola/master.do" args).run Proofs.Tryz.prog w = (callFunc 235 (#[v] ++ args)).run Proofs.Tryz.prog w := by kernel_rfl
theorem meth_do_supply (v : Value) (args : Array Value) (w : World) : (callMethod (.iface 155 v) "vitola/master.do" args).run Proofs.Tryz.prog w = (callFunc 236 (#[v] ++ args)).run Proofs.Tryz.prog w := by kernel_rfl
theorem meth_do_band (v : Value) (args : Array Value) (w : World) : (callMethod (.iface 156 v) "vitola/master.do" args).run Proofs.Tryz.prog w = (callFunc 237 (#[v] ++ args)).run Proofs.Tryz.prog w := by kernel_rfl
theorem meth_do_spoil (v : Value) (args : Array Value) (w : World) : (callMethod (.iface 157 v) "vitola/master.do" args).run Proofs.Tryz.prog w = (callFunc 239 (#[v] ++ args)).run Proofs.Tryz.prog w := by kernel_rfl
theorem meth_do_turn (v : Value) (args : Array Value) (w : World) : (callMethod (.iface 159 v) "vitola/master.do" args).run Proofs.Tryz.prog w = (callFunc 240 (#[v] ++ args)).run Proofs.Tryz.prog w := by kernel_rfl
theorem meth_do_leave (v : Value) (args : Array Value) (w : World) : (callMethod (.iface 160 v) "vitola/master.do" args).run Proofs.Tryz.prog w = (callFunc 241 (#[v] ++ args)).run Proofs.Tryz.prog w := by kernel_rfl
theorem meth_do_arrive (v : Value) (args : Array Value) (w : World) : (callMethod (.iface 186 v) "vitola/master.do" args).run Proofs.Tryz.prog w = (callFunc 243 (#[v] ++ args)).run Proofs.Tryz.prog w := by kernel_rfl
theorem meth_do_move (v : Value) (args : Array Value) (w : World) : (callMethod (.iface 188 v) "vitola/master.do" args).run Proofs.Tryz.prog w = (callFunc 247 (#[v] ++ args)).run Proofs.Tryz.prog w := by kernel_rfl
theorem meth_do_take (v : Value) (args : Array Value) (w : World) : (callMethod (.iface 190 v) "vitola/master.do" args).run Proofs.Tryz.prog w = (callFunc 248 (#[v] ++ args)).run Proofs.Tryz.prog w := by kernel_rfl
theorem meth_do_count (v : Value) (args : Array Value) (w : World) : (callMethod (.iface 192 v) "vitola/master.do" args).run Proofs.Tryz.prog w = (callFunc 249 (#[v] ++ args)).run Proofs.Tryz.prog w := by kernel_rfl
theorem meth_counts_stays (v : Value) (args : Array Value) (w : World) : (callMethod (.iface 144 v) "vitola/dock.counts" args).run Proofs.Tryz.prog w = (callFunc 232 (#[v] ++ args)).run Proofs.Tryz.prog w := by kernel_rfl
theorem meth_counts_leaves (v : Value) (args : Array Value) (w : World) : (callMethod (.iface 145 v) "vitola/dock.counts" args).run Proofs.Tryz.prog w = (callFunc 233 (#[v] ++ args)).run Proofs.Tryz.prog w := by kernel_rfl
def methT (name : String) : List (Nat × Nat) :=
 match name == "vitola/master.do" with
 | true => [(104, 230), (150, 234), (151, 235), (155, 236), (156, 237), (157, 239), (159, 240), (160, 241), (186, 243), (188, 247), (190, 248), (192, 249)]
 | false => match name == "vitola/dock.counts" with
  | true => [(144, 232), (145, 233)]
  | false => []
theorem methT_ok (name : String) (t k : Nat) (hm : (t, k) ∈ methT name) (v : Value) (args : Array Value) (w : World) : (callMethod (.iface t v) name args).run Proofs.Tryz.prog w = (callFunc k (#[v] ++ args)).run Proofs.Tryz.prog w := by
 unfold methT at hm
 split at hm
 ·rename_i hn
  have hn : name = "vitola/master.do" := by simpa using hn
  subst hn
  simp only [List.mem_cons, Prod.mk.injEq, List.not_mem_nil, or_false] at hm
  rcases hm with ⟨rfl, rfl⟩ | ⟨rfl, rfl⟩ | ⟨rfl, rfl⟩ | ⟨rfl, rfl⟩ | ⟨rfl, rfl⟩ | ⟨rfl, rfl⟩ | ⟨rfl, rfl⟩ | ⟨rfl, rfl⟩ | ⟨rfl, rfl⟩ | ⟨rfl, rfl⟩ | ⟨rfl, rfl⟩ | ⟨rfl, rfl⟩
  ·exact meth_do_undo v args w
  ·exact meth_do_shut v args w
  ·exact meth_do_closed v args w
  ·exact meth_do_supply v args w
  ·exact meth_do_band v args w
  ·exact meth_do_spoil v args w
  ·exact meth_do_turn v args w
  ·exact meth_do_leave v args w
  ·exact meth_do_arrive v args w
  ·exact meth_do_move v args w
  ·exact meth_do_take v args w
  ·exact meth_do_count v args w
 split at hm
 ·rename_i hn
  have hn : name = "vitola/dock.counts" := by simpa using hn
  subst hn
  simp only [List.mem_cons, Prod.mk.injEq, List.not_mem_nil, or_false] at hm
  rcases hm with ⟨rfl, rfl⟩ | ⟨rfl, rfl⟩
  ·exact meth_counts_stays v args w
  ·exact meth_counts_leaves v args w
 ·cases hm
def pNum (args : List Value) : Option Value :=
 match args with
 | [.string s] => match okS s with
  | true => some (.tuple #[.int .i64 (numV s).1, .bool (numV s).2])
  | false => none
 | _ => none
def pLast (args : List Value) : Option Value :=
 match args with
 | [.string s] => match okS s with
  | true => some (.int .i64 (lastV s))
  | false => none
 | _ => none
noncomputable def mbPrim (k : Nat) : Option (List Value → Option Value) :=
 match Nat.beq k 92 with
 | true => some pNum
 | false => match Nat.beq k 39 with
  | true => some pLast
  | false => maPrim k
theorem mbPrim_ok : ∀ k g, mbPrim k = some g → (∃ F, Proofs.Tryz.prog.funcs[k]? = some F ∧ (F.name == "runtime.NumGoroutine") = false ∧ F.body.isSome = true) ∧
 ∀ args v, g args = some v → args.all plain = true ∧ plain v = true ∧ ∀ w, maInv w → Calls Proofs.Tryz.prog k args.toArray w (fun e w' => e = .returned v ∧ Below w.heap.size w w') := by
 intro k g h
 unfold mbPrim at h
 split at h
 ·rename_i hk
  have hk := Nat.eq_of_beq_eq_true hk
  subst hk
  cases h
  refine ⟨⟨_, Proofs.Tryz.func92, by kernel_rfl, by kernel_rfl⟩, ?_⟩
  intro args v hv
  unfold pNum at hv
  split at hv
  ·split at hv
   ·rename_i hs
    cases hv
    exact ⟨rfl, rfl, fun w hI => num_c _ hs w hI⟩
   ·cases hv
  ·cases hv
 split at h
 ·rename_i hk
  have hk := Nat.eq_of_beq_eq_true hk
  subst hk
  cases h
  refine ⟨⟨_, Proofs.Tryz.func39, by kernel_rfl, by kernel_rfl⟩, ?_⟩
  intro args v hv
  unfold pLast at hv
  split at hv
  ·split at hv
   ·rename_i hs
    cases hv
    exact ⟨rfl, rfl, fun w hI => last_c _ hs w hI⟩
   ·cases hv
  ·cases hv
 ·exact maPrim_ok k g h
def sameFn (k : Nat) : Bool := Nat.beq k 123
theorem sameFn_ok : ∀ k, sameFn k = true → ∀ v w, (callFunc k #[v]).run Proofs.Tryz.prog w = .ok (.value v) w := by
 intro k hk v w
 have hk := Nat.eq_of_beq_eq_true hk
 subst hk
 rw [Go.run_callFunc_extern Proofs.Tryz.func123 (by kernel_rfl) (by kernel_rfl) (by kernel_rfl) (e := Extern.AbiNoEscape.same) (by kernel_rfl)]
 rfl
noncomputable def E0 : Env := { stdEnv Proofs.Tryz.prog mbPrim (fun _ => none) sameFn seatG maInv with meth := methT }
set_option maxRecDepth 20000 in
theorem E0_ok : E0.Ok := by
 have h : (stdEnv Proofs.Tryz.prog mbPrim (fun _ => none) sameFn seatG maInv).Ok := stdEnv_ok (by kernel_rfl) mbPrim_ok maInv_keeps (fun k g h => by cases h) sameFn_ok
 exact ⟨h.mixed, h.ty, h.fn, h.prim, h.ext, h.hprim, h.keeps, h.same, methT_ok, h.glob⟩
def partsL (c : UInt8) : List UInt8 → List UInt8 → List ByteArray
 | [], acc => [⟨acc.reverse.toArray⟩]
 | b :: l, acc => match b.toNat.beq c.toNat with
  | true => ⟨acc.reverse.toArray⟩ :: partsL c l []
  | false => partsL c l (b :: acc)
def splitV (s : ByteArray) (sep : ByteArray) : List ByteArray := partsL (sep.data.toList.headD 0) s.data.toList []
def partsK (c : UInt8) : List UInt8 → List (List UInt8)
 | [] => [[]]
 | b :: l => if b = c then [] :: partsK c l else match partsK c l with
  | p :: r => (b :: p) :: r
  | [] => []
def addHd (a : List UInt8) : List (List UInt8) → List (List UInt8)
 | p :: r => (a ++ p) :: r
 | [] => []
theorem partsL_eq (c : UInt8) : ∀ (l acc : List UInt8), (partsL c l acc).map (·.data.toList) = addHd acc.reverse (partsK c l)
 | [], acc => by simp [partsL, partsK, addHd]
 | b :: l, acc => by
  unfold partsL partsK
  by_cases h : b = c
  ·subst h
   rw [if_pos rfl, Nat.beq_refl]
   simp only [List.map_cons, partsL_eq b l [], addHd, List.append_nil, List.reverse_nil]
   cases partsK b l with
   | nil => rfl
   | cons p r => rfl
  ·have hb : b.toNat.beq c.toNat = false := by
    cases hh : b.toNat.beq c.toNat with
    | false => rfl
    | true => exact absurd (UInt8.toNat_inj.1 (Nat.eq_of_beq_eq_true hh)) h
   rw [if_neg h, hb]
   simp only [partsL_eq c l (b :: acc)]
   cases partsK c l with
   | nil => rfl
   | cons p r => simp [addHd]
theorem splitK_parts (c : UInt8) : ∀ s : List UInt8, Lib.splitK [c] 0 (Lib.count s [c]) s = partsK c s
 | [] => by rw [Lib.count_one]; rfl
 | b :: l => by
  have ih := splitK_parts c l
  by_cases h : b = c
  ·subst h
   rw [Lib.count_cons_eq, Nat.add_comm]
   have hix : Lib.index (b :: l) [b] = 0 := by rw [Lib.index]; simp [List.isPrefixOf]
   rw [show partsK b (b :: l) = [] :: partsK b l by rw [partsK, if_pos rfl]]
   rw [Lib.splitK, hix, if_neg (by decide)]
   simp only [Int.toNat_zero, Nat.add_zero, List.take_zero, List.length_cons, List.length_nil, Nat.zero_add, List.drop_succ_cons, List.drop_zero, ih]
  ·rw [Lib.count_cons_ne b c l h]
   rw [show partsK c (b :: l) = (match partsK c l with | p :: r => (b :: p) :: r | [] => []) by rw [partsK, if_neg h]]
   rw [← ih]
   cases hk : Lib.count l [c] with
   | zero => rfl
   | succ k =>
    have hm : Lib.index l [c] ≠ -1 := fun e => by rw [Lib.count_miss e] at hk; cases hk
    have hge := Lib.index_ge l [c]
    obtain ⟨j, hj⟩ : ∃ j : Nat, Lib.index l [c] = j := ⟨(Lib.index l [c]).toNat, by omega⟩
    have hp : ([c] : List UInt8).isPrefixOf (b :: l) = false := by simp [List.isPrefixOf, Ne.symm h]
    have hix : Lib.index (b :: l) [c] = ((j + 1 : Nat) : Int) := by
     rw [Lib.index, hp, if_neg (by decide), if_neg (fun e => hm (beq_iff_eq.1 e)), hj]
     omega
    have n1 : ¬ (((j : Nat) : Int) == -1) = true := fun e => by have := beq_iff_eq.1 e; omega
    have n2 : ¬ ((((j + 1 : Nat)) : Int) == -1) = true := fun e => by have := beq_iff_eq.1 e; omega
    rw [Lib.splitK, Lib.splitK, hix, hj, if_neg n1, if_neg n2]
    simp only [Int.toNat_natCast, Nat.add_zero, List.take_succ_cons, List.length_cons, List.length_nil, Nat.zero_add, List.drop_succ_cons, Nat.add_assoc]
theorem splitV_eq (s : ByteArray) (sep : ByteArray) (h : sep.size = 1) : Lib.splitB sep 0 (Lib.countB s sep) s = splitV s sep := by
 obtain ⟨c, rfl⟩ := Lib.one_byte sep h
 have hinj : ∀ a b : List ByteArray, a.map (·.data.toList) = b.map (·.data.toList) → a = b := fun a b e => by
  have hi : Function.Injective (fun x : ByteArray => x.data.toList) := fun x y q => by
   obtain ⟨⟨x⟩⟩ := x
   obtain ⟨⟨y⟩⟩ := y
   simp only at q
   rw [q]
  exact List.map_inj_right (fun x y q => hi q) |>.1 e
 apply hinj
 rw [Lib.splitB_data]
 show Lib.splitK [c] 0 (Lib.count s.data.toList [c]) s.data.toList = _
 rw [splitK_parts]
 unfold splitV
 rw [partsL_eq]
 show _ = addHd [] (partsK c s.data.toList)
 cases partsK c s.data.toList with
 | nil => rfl
 | cons p r => rfl
theorem split_c {s sep : ByteArray} (hs : (Nat.ble s.size 1000000 && Nat.beq sep.size 1) = true) {h : Heap} {c : Nat} :
 KC E0 46 [.string s, .string sep] h c (fun v h' c' => v = .slice (some ⟨c, 0, none⟩) (splitV s sep).length (splitV s sep).length ∧ h' = (c, .cells (rowC encS (splitV s sep)) 0 9 1) :: h ∧ c' = c + 1) := by
 simp only [Bool.and_eq_true, Nat.ble_eq] at hs
 obtain ⟨hs1, hs2⟩ := hs
 have hs2 := Nat.eq_of_beq_eq_true hs2
 intro B ρ w args' h1 h2 h3 h4 h5 h6
 have ha := h1.plain_eq (by rfl)
 subst ha
 obtain ⟨i1, ⟨m, i2⟩, i3⟩ := h6
 have hlen : (splitV s sep).length = Lib.countB s sep + 1 := by
  rw [← splitV_eq s sep hs2]
  exact Lib.splitB_all sep (Nat.le_of_eq hs2.symm) 0 _ s rfl
 refine ⟨run_callFunc_go Proofs.Tryz.func46 (by kernel_rfl) (by kernel_rfl) _ w, (Proofs.Tryz.strings_Split s sep m w (by omega) i2 (Nat.le_of_eq hs2.symm)).mono ?_⟩
 rintro e w' ⟨rfl, rfl⟩
 rw [splitV_eq s sep hs2]
 have hrow : (splitV s sep).map Value.string = rowC encS (splitV s sep) := by
  induction splitV s sep with
  | nil => rfl
  | cons x l ih => rw [rowC_cons, List.map_cons, ih]; rfl
 have hl2 : (rowC encS (splitV s sep)).length = Lib.countB s sep + 1 := by rw [← hrow, List.length_map, hlen]
 rw [hrow, ← hlen]
 have hsc : ∀ l : List ByteArray, (rowC encS l).all scal = true := fun l => by
  induction l with
  | nil => rfl
  | cons x l ih => rw [rowC_cons]; simpa [encS, scal] using ih
 have hc : Cells ρ (rowC encS (splitV s sep)) (rowC encS (splitV s sep)) := ⟨rfl, fun i v v' e1 e2 => by rw [e1] at e2; cases e2; exact VRel.scal_refl ρ (List.all_eq_true.1 (hsc _) v (List.mem_of_getElem? e1))⟩
 have hH := h2.newCellsS (B := B) h4 (C := (rowC encS (splitV s sep)).toArray) (D := (rowC encS (splitV s sep)).toArray) (cs := rowC encS (splitV s sep)) (by simpa using hc) (by simp) (by simp) 9 (es := 1) (fun q => by cases q)
 subst h3
 refine ⟨_, _, _, _, _, rfl, ?_, Rho.le_push ρ _, by simp, hH, ?_, rfl, rfl, rfl⟩
 ·refine .slice _ _ _ _ ⟨w.heap.size, 0, (rowC encS (splitV s sep)).toArray.size, 1⟩ 0 _ (by simp) (.inl rfl) (fun q => by cases q) (fun _ => ⟨Nat.le_refl _, ?_, Nat.le_refl _⟩)
  simp [hl2, hlen]
 ·exact Bel.of ((Below.refl _ w).alloc (Nat.le_refl _) _) h4
def hasV (s p : ByteArray) : Bool := Lib.hasPrefix s.data.toList p.data.toList
def lastB (s : ByteArray) (c : Int) : Int := Lib.lastIndexByte s c
def itoaV (n : Int) : ByteArray := ⟨(Lib.itoa n).toArray⟩
def sufV (s p : ByteArray) : ByteArray := ⟨(Lib.trimSuffix s.data.toList p.data.toList).toArray⟩
def cutV1 (s p : ByteArray) : ByteArray := ⟨(Lib.trimPrefix s.data.toList p.data.toList).toArray⟩
def trimV (s p : ByteArray) : ByteArray := ⟨(Lib.trimS s.data.toList p.data.toList).toArray⟩
def okI (n : Int) : Bool := decide (-9223372036854775808 ≤ n) && decide (n ≤ 9223372036854775807)
theorem itoaV_ok {n : Int} (h : okI n = true) (w : World) (hI : maInv w) : Calls Proofs.Tryz.prog 44 #[.int .i64 n] w fun e w' => e = .returned (.string (itoaV n)) ∧ Below w.heap.size w w' := by
 simp only [okI, Bool.and_eq_true, decide_eq_true_eq] at h
 exact itoa_c n h.1 h.2 w hI
theorem suf_ok {s p : ByteArray} (h : okS s = true) (w : World) (hI : maInv w) : Calls Proofs.Tryz.prog 65 #[.string s, .string p] w fun e w' => e = .returned (.string (sufV s p)) ∧ Below w.heap.size w w' :=
 (Proofs.Tryz.strings_TrimSuffix _ _ w (by have := okS_le h; omega)).mono (fun e w' ⟨he, hw⟩ => ⟨he, hw ▸ Below.refl _ _⟩)
theorem cutP_ok (s p : ByteArray) (w : World) (hI : maInv w) : Calls Proofs.Tryz.prog 96 #[.string s, .string p] w fun e w' => e = .returned (.tuple #[.string (cutV1 s p), .bool (hasV s p)]) ∧ Below w.heap.size w w' :=
 (Proofs.Tryz.strings_CutPrefix _ _ w).mono (fun e w' ⟨he, hw⟩ => ⟨he, hw ▸ Below.refl _ _⟩)
theorem trim_ok {s p : ByteArray} (h : okS s = true) (hp : (Nat.ble p.size 1000 && p.data.toList.all (fun b => decide (b.toNat < 128))) = true) (w : World) (hI : maInv w) : Calls Proofs.Tryz.prog 119 #[.string s, .string p] w fun e w' => e = .returned (.string (trimV s p)) ∧ Below w.heap.size w w' := by
 simp only [Bool.and_eq_true, Nat.ble_eq] at hp
 exact Proofs.Tryz.strings_Trim_laid _ _ w (by have := okS_le h; omega) (by omega) hp.2
theorem num_ok {s : ByteArray} (h : okS s = true) (w : World) (hI : maInv w) : Calls Proofs.Tryz.prog 92 #[.string s] w fun e w' => e = .returned (.tuple #[.int .i64 (numV s).1, .bool (numV s).2]) ∧ Below w.heap.size w w' := num_c s h w hI
inductive Deed where
 | nop | shut | closed | undo
 | arrive (name : ByteArray) (kilos wish : Int)
 | move (name : ByteArray) (wish : Int)
 | take (name : ByteArray) (kilos : Int)
 | count (name : ByteArray) (bay kilos : Int)
 | supply (n : Int) | band (n : Int) | spoil (n : Int) | turn (key : Int) | leave (n : Int)
def deedV : Deed → Value
 | .nop => .nilIface
 | .shut => .iface 150 (.agg #[])
 | .closed => .iface 151 (.agg #[])
 | .undo => .iface 104 (.agg #[])
 | .arrive a k w => .iface 186 (.agg #[.string a, .int .i64 k, .int .i64 w])
 | .move a w => .iface 188 (.agg #[.string a, .int .i64 w])
 | .take a k => .iface 190 (.agg #[.string a, .int .i64 k])
 | .count a b k => .iface 192 (.agg #[.string a, .int .i64 b, .int .i64 k])
 | .supply n => .iface 155 (.agg #[.int .i64 n])
 | .band n => .iface 156 (.agg #[.int .i64 n])
 | .spoil n => .iface 157 (.agg #[.int .i64 n])
 | .turn n => .iface 159 (.agg #[.int .i64 n])
 | .leave n => .iface 160 (.agg #[.int .i64 n])
theorem XR.runD {E : Env} (hE : E.Ok) {nt k : Nat} {ops : Array Oper} {j : Nat} (n m : Nat) (σ' : St) (D : Heap → Heap) (c' : Nat) {σ : St} {h : Heap} {c : Nat} {Q : QP} (hl : (σ'.map Prod.fst).all (fun i => Nat.blt i nt) = true)
 (hr : obsO (σ'.map Prod.fst) (xops (callF E (exec E n)) (((gsOf E nt ops).drop j).take m) (trS nt σ) h c) = some (σ', D h, c')) (hx : XR E nt k ops (j + m) σ' (D h) c' Q) : XR E nt k ops j σ h c Q :=
 XR.run hE n m _ hl hr hx
end Go.Xm
