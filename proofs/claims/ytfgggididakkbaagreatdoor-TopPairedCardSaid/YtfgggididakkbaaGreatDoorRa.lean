/- The abstract machine: what is left of a function's body, run by the machine from a state on. -/
import Derived.Test.YtfgggididakkbaaGreatDoorMx
namespace Go.Xm
open Go.RowKit

/-- A test of how code ends. -/
abbrev FB := Ex → Tr → Heap → Nat → Bool

noncomputable def allS (nt : Nat) (t : Tr) : St := readS t (List.range nt)

theorem mem_readS {t : Tr} : ∀ {live : List Nat} {i : Nat}, i ∈ live → (i, t.get (path 12 i)) ∈ readS t live
  | j :: l, i, h => by
    have h0 : readS t (j :: l) = (j, t.get (path 12 j)) :: readS t l := rfl
    rw [h0]
    rcases List.mem_cons.1 h with e | e
    · subst e; exact List.mem_cons_self ..
    · exact List.mem_cons_of_mem _ (mem_readS e)

theorem SRel.all {ρ : Rho} {nt : Nat} {t : Tr} {a : Act} (h : SRel ρ nt (allS nt t) a) : TRel ρ nt t a :=
  ⟨h.1, h.2.1, fun i hi => (h.2.2 i _ (mem_readS (List.mem_range.2 hi))).2⟩

theorem SRel.of_all {ρ : Rho} {nt : Nat} {t : Tr} {a : Act} (h : TRel ρ nt t a) : SRel ρ nt (allS nt t) a :=
  SRel.of_tr h (List.all_eq_true.2 fun i hi => by simpa [Nat.blt_eq] using List.mem_range.1 hi)

noncomputable def runB (E : Env) (nt n : Nat) (code : Code) (f : FB) (t : Tr) (h : Heap) (c : Nat) : Bool :=
  Rs.casesOn (exec E n (comp E nt code) t h c) false (fun e t h c => Bool.casesOn (smallE e) false (f e t h c))

noncomputable def runR (E : Env) (nt n : Nat) (ops : Array Oper) (j : Nat) (f : FB) (t : Tr) (h : Heap) (c : Nat) : Bool :=
  Os.casesOn (xops (callF E (exec E n)) ((gsOf E nt ops).drop j) t h c) false (f .normal)

noncomputable def thenB (next : Tr → Heap → Nat → Bool) (f : FB) : FB := fun e t h c => Ex.casesOn e (next t h c) (fun i => f (.exit i) t h c) (f .ret t h c)

noncomputable def blkB (id : Nat) (f : FB) : FB := fun e t h c => Ex.casesOn e (f .normal t h c) (fun i => Bool.casesOn (Nat.beq i id) (f (.exit i) t h c) (f .normal t h c)) (f .ret t h c)

noncomputable def finB (E : Env) (nt : Nat) (rs : List ResultVar) : FB := fun e t h _ => Ex.casesOn e
  (match resOf E nt (trS nt (allS nt t)) h rs with | some (.bool b) => b | _ => false) (fun _ => false)
  (match resOf E nt (trS nt (allS nt t)) h rs with | some (.bool b) => b | _ => false)

def Good (nt : Nat) (Q : QP) (f : FB) : Prop := ∀ e t h c, f e t h c = true → Q e (allS nt t) h c

theorem XQ.runT {E : Env} (hE : E.Ok) {nt k : Nat} {code : Code} {t : Tr} {h : Heap} {c : Nat} {Q : QP} {f : FB} (n : Nat) (hf : Good nt Q f) (hr : runB E nt n code f t h c = true) : XQ E nt k code (allS nt t) h c Q := by
  intro B ρ a w h1 h2 h3 h4 h5 h6 h7
  unfold runB at hr
  cases hx : exec E n (comp E nt code) t h c with
  | none => rw [hx] at hr; cases hr
  | some e2 t2 h2' c2 =>
    rw [hx] at hr
    have hs : smallE e2 = true := by
      cases hs : smallE e2 with
      | true => rfl
      | false => simp only [hs] at hr; cases hr
    simp only [hs] at hr
    refine wp_mono ((exec_ok hE n).1 nt code _ h c _ t2 _ _ hx B ρ a w h1.all h2 h3 h4 h5 h6) ?_
    rintro e' a' w' ⟨rfl, d, ρ', p1, p2, p3, p4, p5⟩
    exact ⟨_, _, _, _, ρ', smallE_eq hs, d, SRel.of_all p1, p4, p3, Keeps.of_le h7 p2, p5, hf _ _ _ _ hr⟩

theorem XQ.runB {E : Env} (hE : E.Ok) {nt k : Nat} {code : Code} {σ : St} {h : Heap} {c : Nat} {Q : QP} {f : FB} (n : Nat) (hf : Good nt Q f) (hr : Xm.runB E nt n code f (trS nt σ) h c = true) : XQ E nt k code σ h c Q := by
  intro B ρ a w h1 h2 h3 h4 h5 h6 h7
  exact XQ.runT hE n hf hr B ρ a w (SRel.of_all h1.tr) h2 h3 h4 h5 h6 h7

theorem XR.runR {E : Env} (hE : E.Ok) {nt k : Nat} {ops : Array Oper} {j : Nat} {σ : St} {h : Heap} {c : Nat} {Q : QP} {f : FB} (n : Nat) (hf : Good nt Q f) (hr : Xm.runR E nt n ops j f (trS nt σ) h c = true) : XR E nt k ops j σ h c Q := by
  unfold Xm.runR at hr
  cases hx0 : xops (callF E (exec E n)) ((gsOf E nt ops).drop j) (trS nt σ) h c with
  | none => rw [hx0] at hr; cases hr
  | some t2 h2' c2 =>
    rw [hx0] at hr
    intro B ρ a w h1 h2 h3 h4 h5 h6
    have hl : (List.range nt).all (fun i => Nat.blt i nt) = true := List.all_eq_true.2 fun i hi => by simpa [Nat.blt_eq] using List.mem_range.1 hi
    refine XR.run hE n (σ' := allS nt t2) (h' := h2') (c' := c2) (max ops.size ((gsOf E nt ops).drop j).length) (List.range nt) hl ?_ (XR.done (by simp [Nat.ble_eq]; omega) (hf _ _ _ _ hr)) B ρ a w h1 h2 h3 h4 h5 h6
    rw [List.take_of_length_le (Nat.le_max_right _ _), hx0]
    rfl

theorem good_then {E : Env} (hE : E.Ok) {nt k : Nat} {code : Code} {Q : QP} {f : FB} (n : Nat) (hf : Good nt Q f) : Good nt (Then (fun σ h c => XQ E nt k code σ h c Q) Q) (thenB (Xm.runB E nt n code f) f) := by
  intro e t h c hr
  cases e with
  | normal => exact XQ.runT hE n hf hr
  | exit i => exact hf _ _ _ _ hr
  | ret => exact hf _ _ _ _ hr

theorem good_blk {nt id : Nat} {Q : QP} {f : FB} (hf : Good nt Q f) : Good nt (InBlk id Q) (blkB id f) := by
  intro e t h c hr
  cases e with
  | normal => exact hf _ _ _ _ hr
  | ret => exact hf _ _ _ _ hr
  | exit i =>
    simp only [blkB] at hr
    show (match Nat.beq i id with | true => Q .normal _ h c | false => Q (.exit i) _ h c)
    cases hb : Nat.beq i id with
    | true => rw [hb] at hr; exact hf _ _ _ _ hr
    | false => rw [hb] at hr; exact hf _ _ _ _ hr

theorem good_fin {E : Env} {nt : Nat} {rs : List ResultVar} : Good nt (fun e σ h' _ => (∀ i, e ≠ .exit i) ∧ ∃ v, resOf E nt (trS nt σ) h' rs = some v ∧ v = .bool true) (finB E nt rs) := by
  intro e t h c hr
  cases e with
  | exit i => cases hr
  | normal =>
    simp only [finB] at hr
    refine ⟨fun i q => (by cases q), ?_⟩
    split at hr
    · rename_i b hb; subst hr; exact ⟨_, hb, rfl⟩
    · cases hr
  | ret =>
    simp only [finB] at hr
    refine ⟨fun i q => (by cases q), ?_⟩
    split at hr
    · rename_i b hb; subst hr; exact ⟨_, hb, rfl⟩
    · cases hr

/-! ### The same, run where append stays within known cells -/
theorem XQ.inE {E : Env} {nt k : Nat} {code : Code} {σ : St} {h : Heap} {c : Nat} {Q : QP} (hx : XQ (fastEnv E) nt k code σ h c Q) : XQ E nt k code σ h c Q :=
  fun B ρ a w h1 h2 h3 h4 h5 h6 h7 => hx B ρ a w h1 h2 h3 h4 h5 h6 h7

theorem XQ.runI {E : Env} (hE : E.Ok) {nt k : Nat} {code : Code} {σ : St} {h : Heap} {c : Nat} {Q : QP} {f : FB} (n : Nat) (hf : Good nt Q f) (hr : Xm.runB (fastEnv E) nt n code f (trS nt σ) h c = true) : XQ E nt k code σ h c Q :=
  XQ.inE (XQ.runB (fastEnv_ok hE) n hf hr)

theorem good_thenI {E : Env} (hE : E.Ok) {nt k : Nat} {code : Code} {Q : QP} {f : FB} (n : Nat) (hf : Good nt Q f) : Good nt (Then (fun σ h c => XQ E nt k code σ h c Q) Q) (thenB (Xm.runB (fastEnv E) nt n code f) f) := by
  intro e t h c hr
  cases e with
  | normal => exact XQ.inE (XQ.runT (fastEnv_ok hE) n hf hr)
  | exit i => exact hf _ _ _ _ hr
  | ret => exact hf _ _ _ _ hr

end Go.Xm
