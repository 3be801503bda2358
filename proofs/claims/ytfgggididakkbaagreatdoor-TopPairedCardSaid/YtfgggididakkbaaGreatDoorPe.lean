/- A run of the first statements of a chain that ends normally: of its state some slots and some blocks are kept. Conditions: none. -/
import Derived.Test.YtfgggididakkbaaGreatDoorPc
namespace Go.Xm
open Go.RowKit
set_option linter.unusedVariables false

/-- The first statements of a chain, and what is left. -/
def spn : Nat → Code → List Code
  | 0, _ => []
  | n + 1, code => lft code :: spn n (rgt code)
def drp : Nat → Code → Code
  | 0, code => code
  | n + 1, code => drp n (rgt code)
def seqs : Nat → Code → Bool
  | 0, _ => true
  | n + 1, code => isSeq code && seqs n (rgt code)

noncomputable def runL (E : Env) (nt n : Nat) (l : List Code) : Tr → Heap → Nat → Rs :=
  List.rec (fun t h c => .some .normal t h c) (fun code _ ih t h c => Rs.casesOn (exec E n (comp E nt code) t h c) .none (fun e t h c => Ex.casesOn e (ih t h c) (fun _ => .none) .none)) l

theorem XQ.runTE {E : Env} (hE : E.Ok) {nt k : Nat} {code : Code} {t : Tr} {h : Heap} {c : Nat} {Q : QP} (n : Nat) {e2 : Ex} {t2 : Tr} {h2' : Heap} {c2 : Nat} (hx : exec E n (comp E nt code) t h c = .some e2 t2 h2' c2) (hs : smallE e2 = true) (hq : Q e2 (allS nt t2) h2' c2) : XQ E nt k code (allS nt t) h c Q := by
  intro B ρ a w h1 h2 h3 h4 h5 h6 h7
  refine wp_mono ((exec_ok hE n).1 nt code _ h c _ t2 _ _ hx B ρ a w h1.all h2 h3 h4 h5 h6) ?_
  rintro e' a' w' ⟨rfl, d, ρ', p1, p2, p3, p4, p5⟩
  exact ⟨_, _, _, _, ρ', smallE_eq hs, d, SRel.of_all p1, p4, p3, Keeps.of_le h7 p2, p5, hq⟩

theorem XQ.allS {E : Env} {nt k : Nat} {code : Code} {σ : St} {h : Heap} {c : Nat} {Q : QP} (hx : XQ E nt k code (allS nt (trS nt σ)) h c Q) : XQ E nt k code σ h c Q :=
  fun B ρ a w h1 h2 h3 h4 h5 h6 h7 => hx B ρ a w (SRel.of_all h1.tr) h2 h3 h4 h5 h6 h7

theorem XQ.runL {E : Env} (hE : E.Ok) {nt k n : Nat} {Q : QP} : ∀ (m : Nat) {code : Code} {t : Tr} {h : Heap} {c : Nat} {t2 : Tr} {h2 : Heap} {c2 : Nat}, seqs m code = true → Xm.runL E nt n (spn m code) t h c = .some .normal t2 h2 c2 → XQ E nt k (drp m code) (Xm.allS nt t2) h2 c2 Q → XQ E nt k code (Xm.allS nt t) h c Q
  | 0, code, t, h, c, t2, h2, c2, hs, hr, hx => by
    have hr : Rs.some .normal t h c = .some .normal t2 h2 c2 := hr
    cases hr; exact hx
  | m + 1, code, t, h, c, t2, h2, c2, hs, hr, hx => by
    have hs : (isSeq code && seqs m (rgt code)) = true := hs
    rw [Bool.and_eq_true] at hs
    have hr : (Rs.casesOn (motive := fun _ => Rs) (exec E n (comp E nt (lft code)) t h c) Rs.none (fun e t h c => Ex.casesOn e (Xm.runL E nt n (spn m (rgt code)) t h c) (fun _ => Rs.none) Rs.none)) = Rs.some .normal t2 h2 c2 := hr
    cases he : exec E n (comp E nt (lft code)) t h c with
    | none => rw [he] at hr; cases hr
    | some e t1 h1 c1 =>
      rw [he] at hr
      cases e with
      | exit i => cases hr
      | ret => cases hr
      | normal =>
        have hr : Xm.runL E nt n (spn m (rgt code)) t1 h1 c1 = .some .normal t2 h2 c2 := hr
        refine XQ.seq hE hs.1 ?_
        refine XQ.runTE hE n he rfl ?_
        exact XQ.runL hE m hs.2 hr hx

/-- The values of some slots, and some blocks, where the run ends normally. -/
noncomputable def pickN (r : Rs) (live bs : List Nat) : Option (List Value × List (Option XObj)) :=
  Rs.casesOn r none (fun e t h _ => Ex.casesOn e (some (live.map (fun i => t.get (path 12 i)), bs.map (hget h))) (fun _ => none) none)

theorem pickN_some {r : Rs} {live bs : List Nat} {x : List Value × List (Option XObj)} (h : pickN r live bs = some x) : ∃ t g c, r = .some .normal t g c ∧ live.map (fun i => t.get (path 12 i)) = x.1 ∧ bs.map (hget g) = x.2 := by
  cases r with
  | none => cases h
  | some e t g c =>
    cases e with
    | exit i => cases h
    | ret => cases h
    | normal => cases h; exact ⟨t, g, c, rfl, rfl, rfl⟩

theorem RenH.of_get {s : List Nat} {g : Heap} : ∀ {h' : Heap}, (∀ p ∈ h', ∃ j o, s[p.1]? = some j ∧ hget g j = some o ∧ ObjRen s p.2 o) → RenH s g h'
  | [], _ => trivial
  | (i, o) :: l, h => ⟨h _ (List.mem_cons_self ..), RenH.of_get (fun p hp => h p (List.mem_cons_of_mem _ hp))⟩

theorem XQ.goL {E : Env} (hE : E.Ok) {nt : Nat} {code : Code} {σ : St} {h : Heap} {c : Nat} {Q : QP} (n m : Nat) (bs : List Nat) (σ' : St) (h' : Heap) (os : List XObj)
    (hb : bs.Nodup) (hl : (σ'.map Prod.fst).all (fun i => Nat.blt i nt) = true) (hs : seqs m code = true)
    (hr : pickN (Xm.runL (fastEnv E) nt n (spn m code) (trS nt σ) h c) (σ'.map Prod.fst) bs = some (σ'.map (fun p => renV bs p.2), os.map some))
    (ho : ∀ g : Heap, bs.map (hget g) = os.map some → RenH bs g h')
    (hx : XQ E nt 0 (drp m code) σ' h' bs.length Q) : XQ E nt 0 code σ h c Q := by
  obtain ⟨t2, h2, c2, hr, r1, r2⟩ := pickN_some hr
  refine XQ.allS (XQ.inE (XQ.runL (fastEnv_ok hE) m hs hr ?_))
  have hx : XQ (fastEnv E) nt 0 (drp m code) σ' h' bs.length Q := hx
  refine XQ.ren bs hb rfl (subS_of (fun i hi => ?_) r1) (ho _ r2) rfl hx
  have := List.all_eq_true.1 hl i hi
  simpa [Nat.blt_eq] using this

/-- One round of a loop. -/
theorem XL.go {E : Env} (hE : E.Ok) {nt k : Nat} {code : Code} {σ : St} {h : Heap} {c : Nat} {Q : QP} (n : Nat) (bs : List Nat) (σ' : St) (h' : Heap) (os : List XObj)
    (hb : bs.Nodup) (hl : (σ'.map Prod.fst).all (fun i => Nat.blt i nt) = true)
    (hr : pickN (exec (fastEnv E) n (comp (fastEnv E) nt code) (trS nt σ) h c) (σ'.map Prod.fst) bs = some (σ'.map (fun p => renV bs p.2), os.map some))
    (ho : ∀ g : Heap, bs.map (hget g) = os.map some → RenH bs g h')
    (hx : XL E nt 0 k code σ' h' bs.length Q) : XL E nt 0 (k + 1) code σ h c Q := by
  obtain ⟨t2, h2, c2, hr, r1, r2⟩ := pickN_some hr
  refine XL.succ hE (XQ.allS (XQ.inE (XQ.runTE (fastEnv_ok hE) n hr rfl ?_)))
  show XL E nt 0 k code (Xm.allS nt t2) h2 c2 Q
  refine XL.ren bs hb rfl (subS_of (fun i hi => ?_) r1) (ho _ r2) rfl hx
  have := List.all_eq_true.1 hl i hi
  simpa [Nat.blt_eq] using this

end Go.Xm
