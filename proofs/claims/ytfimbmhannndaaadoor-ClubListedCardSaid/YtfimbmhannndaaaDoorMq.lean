/- The abstract machine, part 15: regions that draw their order: operations that read, and calls that touch nothing that was there, in any order; then one operation behind the other. Conditions: none; nothing here speaks of one program. -/
import Derived.Test.YtfimbmhannndaaaDoorMx
namespace Go.Xm
open Go.RowKit
section
variable {P : Program} {ops : Array Oper} {md : Region.Mode} {C : World → Prop}
end
theorem wpPure_append {P : Program} {ops : Array Oper} {Q : Act → Prop} : ∀ (l l2 : List Oper) (a : Act), wpPure P ops (fun a' => wpPure P ops Q l2 a') l a → wpPure P ops Q (l ++ l2) a
  | [], _, _, h => h
  | _ :: l, l2, _, ⟨v, h1, h2⟩ => ⟨v, h1, wpPure_append l l2 _ h2⟩
theorem wpPure_other {P : Program} {ops ops' : Array Oper} {Q Q' : Act → Prop} (hQ : ∀ a, Q a → Q' a) : ∀ (l : List Oper), freeOf l = true → ∀ a, wpPure P ops Q l a → wpPure P ops' Q' l a
  | [], _, a, h => hQ a h
  | o :: l, hf, a, ⟨v, h1, h2⟩ => by
    simp only [freeOf, List.all_cons, Bool.and_eq_true] at hf
    refine ⟨v, ?_, wpPure_other hQ l hf.2 _ h2⟩
    rcases h1 with ⟨_, h1⟩ | ⟨h1, _⟩
    · exact .inl ⟨free_wanted hf.1 _, h1⟩
    · rw [free_wanted hf.1 _] at h1; cases h1
def XP (E : Env) (nt : Nat) (ops : Array Oper) (j : Nat) (σ : St) (Q : St → Prop) : Prop :=
  ∀ (ρ : Rho) (a : Act), SRel ρ nt σ a → ∀ ds : List Deferred, a.defers = ds → wpPure E.P ops (fun a' => ∃ σ', a'.defers = ds ∧ SRel ρ nt σ' a' ∧ Q σ') (ops.toList.drop j) a
theorem XP.done {E : Env} {nt : Nat} {ops : Array Oper} {j : Nat} (hj : Nat.ble ops.size j = true) {σ : St} {Q : St → Prop} (hq : Q σ) : XP E nt ops j σ Q := by
  intro ρ a h1 ds h2
  have : ops.toList.drop j = [] := List.drop_eq_nil_of_le (by simpa using hj)
  rw [this]
  exact ⟨σ, h2, h1, hq⟩
theorem XP.step {E : Env} (hE : E.Ok) {nt : Nat} {ops : Array Oper} {j : Nat} (i : Nat) (live : List Nat) {σ σ' : St} {Q : St → Prop} (hl : live.all (fun i => Nat.blt i nt) = true)
    (hr : obsT live (pops (((ops.toList.drop j).take i).map fun o => (isMove o, compG E nt ops.toList o)) (trS nt σ)) = some σ') (hx : XP E nt ops (j + i) σ' Q) : XP E nt ops j σ Q := by
  intro ρ a h1 ds h2
  cases hx0 : pops (((ops.toList.drop j).take i).map fun o => (isMove o, compG E nt ops.toList o)) (trS nt σ) with
  | none => rw [hx0] at hr; cases hr
  | some t2 =>
    rw [hx0] at hr
    cases hr
    have hlist : ops.toList.drop j = (ops.toList.drop j).take i ++ ops.toList.drop (j + i) := by
      rw [← List.drop_drop, List.take_append_drop]
    rw [hlist]
    refine wpPure_append _ _ a ?_
    have key := pops_ok hE (World.settled E.P default) (all := ops.toList) (Q := fun a' => wpPure E.P ops (fun a' => ∃ σ', a'.defers = ds ∧ SRel ρ nt σ' a' ∧ Q σ') (ops.toList.drop (j + i)) a') ((ops.toList.drop j).take i) _ t2 hx0 a h1.tr (fun a' d1 r1 => hx ρ a' (SRel.of_tr r1 hl) ds (d1.trans h2))
    have harr : ops.toList.toArray = ops := by simp
    rw [harr] at key
    exact key
theorem XP.rd {E : Env} (hE : E.Ok) {nt : Nat} {ops : Array Oper} {j : Nat} (hf : freeOf ops.toList = true) (live : List Nat) {σ σ' : St} {v : Value} {Q : St → Prop} (hl : live.all (fun i => Nat.blt i nt) = true) (hp : (plain v || ptrV v) = true)
    (hv : insV (headI ((gsOf E nt ops).drop j) (trS nt σ)) (trS nt σ) [] = some v) (hσ : readS (putX (insD (headI ((gsOf E nt ops).drop j) (trS nt σ))) v (trS nt σ)) live = σ')
    (hx : XP E nt ops (j + 1) σ' Q) : XP E nt ops j σ Q := by
  refine XP.step hE 1 live (σ' := σ') hl ?_ hx
  have e1 : (gsOf E nt ops).drop j = (ops.toList.drop j).map (compG E nt ops.toList) := by simp [gsOf, List.map_drop]
  rw [e1] at hv hσ
  cases hd : ops.toList.drop j with
  | nil => rw [hd] at hv; cases hv
  | cons o l =>
    rw [hd] at hv hσ
    have ho : o ∈ ops.toList := List.mem_of_mem_drop (i := j) (by rw [hd]; exact List.mem_cons_self ..)
    have hg : o.guard = none := by simpa using List.all_eq_true.1 hf o ho
    have ec : compG E nt ops.toList o = .ins (compOp E nt o) := by unfold compG; rw [hg]
    have hv' : insV (compOp E nt o) (trS nt σ) [] = some v := by
      have : headI ((o :: l).map (compG E nt ops.toList)) (trS nt σ) = compOp E nt o := by
        show headI (compG E nt ops.toList o :: _) _ = _
        rw [ec]; rfl
      rw [this] at hv; exact hv
    have hd' : insD (headI ((o :: l).map (compG E nt ops.toList)) (trS nt σ)) = insD (compOp E nt o) := by
      show insD (headI (compG E nt ops.toList o :: _) _) = _
      rw [ec]; rfl
    rw [hd'] at hσ
    have hpin : pins (isMove o) (.ins (compOp E nt o)) (trS nt σ) = some (putX (insD (compOp E nt o)) v (trS nt σ)) := by
      generalize compOp E nt o = ins at hv'
      cases ins with
      | rd d f =>
        have hf2 : f (trS nt σ) [] = some v := hv'
        show Option.casesOn (motive := fun _ => Option Tr) (f (trS nt σ) []) none (fun v => Bool.casesOn (isMove o || (plain v || ptrV v)) none (some (putX d v (trS nt σ)))) = _
        rw [hf2]
        show Bool.casesOn (motive := fun _ => Option Tr) (isMove o || (plain v || ptrV v)) none (some (putX d v (trS nt σ))) = _
        rw [hp, Bool.or_true]
        rfl
      | _ => cases hv'
    show obsT live (Option.casesOn (motive := fun _ => Option Tr) (pins (isMove o) (compG E nt ops.toList o) (trS nt σ)) none (pops [])) = some σ'
    rw [ec, hpin, ← hσ]
    rfl
theorem XQ.preP {E : Env} (hE : E.Ok) {nt k : Nat} {code : Code} (p H : List Nat) (t0 : Nat) (T : List Nat) (hs : drawOf code = some true) (hB : preTailB .any (opsOf code).toList.toArray p H t0 T = true) (hf : freeOf (opsOf code).toList = true)
    {σ : St} {h : Heap} {c : Nat} {Q : QP} (hx : XP E nt (reOps (opsOf code) p) 0 σ (fun σ' => XS E nt k (reOps (opsOf code) (H ++ t0 :: T)) H.length 0 σ' h c Q)) : XQ E nt k code σ h c Q := by
  cases code with
  | region id ops d =>
    cases hs
    intro B ρ a w h1 h2 h3 h4 h5 h6 h7
    have hb := drew_below w
    have hhd : HRel B ρ h w.drew := h2.keepB hb
    have hId : E.inv w.drew := hE.keepN (Nat.le_trans h5.1 h4) h6 hb
    have hf : freeOf ops.toList = true := hf
    have hB : preTailB .any ops.toList.toArray p H t0 T = true := hB
    have hlt : ∀ i ∈ H, i < ops.toList.length := by
      have hB2 := hB
      simp only [preTailB, Bool.and_eq_true] at hB2
      intro i hi
      have := List.all_eq_true.1 hB2.1.1.1.1.1.1.2 i (by simp only [List.mem_append]; exact .inl (.inr hi))
      simpa [Nat.blt_eq] using this
    have hlen : (opsAt ops.toList H).length = H.length := by
      have := congrArg List.length (opsAt_map (l := ops.toList) H hlt)
      simpa using this.symm
    have hwp := wp_region_pre (P := E.P) (id := id) (Q := After k B nt ρ w a.defers Q) (a := a) (w := w) (l := ops.toList) p H t0 T hE.mixed hB (fun cc a w ⟨e, _, _, _, _, q, _⟩ => by cases e <;> cases q) ?_
    · simpa using hwp
    · refine wpPure_other ?_ (opsAt ops.toList p) (opsAt_free hf _) a (hx ρ a h1 a.defers rfl)
      rintro a' ⟨σ', d1, s1, q1⟩
      have key := q1 B ρ a' w.drew s1 hhd h3 h4 h5 hId ρ w a.defers ⟨h7, fun _ _ => rfl⟩ (Bel.refl B w).drew d1
      have e1 : (reOps ops (H ++ t0 :: T)).toList = opsAt ops.toList H ++ opsAt ops.toList (t0 :: T) := by
        show (opsAt ops.toList (H ++ t0 :: T)).toArray.toList = _
        rw [opsAt_append]
      have e2 : (reOps (opsOf (.region id ops true)) (H ++ t0 :: T)) = reOps ops (H ++ t0 :: T) := rfl
      rw [e2, e1, ← hlen, List.take_left', List.drop_left', List.drop_zero] at key
      · exact wpStill_other (fun a h => wpList_other _ (opsAt_free hf _) a _ h) _ (opsAt_free hf _) a' key
      · rfl
      · rfl
  | _ => cases hs
end Go.Xm
