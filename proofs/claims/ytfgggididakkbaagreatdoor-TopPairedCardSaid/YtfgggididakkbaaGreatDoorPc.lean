/- A run of code that ends normally at a known place: of its state some slots and one block are kept. Conditions: none. -/
import Derived.Test.YtfgggididakkbaaGreatDoorRa
import Derived.Test.YtfgggididakkbaaGreatDoorMs
namespace Go.Xm
open Go.RowKit
set_option linter.unusedVariables false

theorem XQ.runE {E : Env} (hE : E.Ok) {nt k : Nat} {code : Code} {σ : St} {h : Heap} {c : Nat} {Q : QP} (n : Nat) {e2 : Ex} {t2 : Tr} {h2' : Heap} {c2 : Nat} (hx : exec E n (comp E nt code) (trS nt σ) h c = .some e2 t2 h2' c2) (hs : smallE e2 = true) (hq : Q e2 (allS nt t2) h2' c2) : XQ E nt k code σ h c Q := by
  intro B ρ a w h1 h2 h3 h4 h5 h6 h7
  refine wp_mono ((exec_ok hE n).1 nt code _ h c _ t2 _ _ hx B ρ a w (SRel.of_all h1.tr).all h2 h3 h4 h5 h6) ?_
  rintro e' a' w' ⟨rfl, d, ρ', p1, p2, p3, p4, p5⟩
  exact ⟨_, _, _, _, ρ', smallE_eq hs, d, SRel.of_all p1, p4, p3, Keeps.of_le h7 p2, p5, hq⟩

theorem lookS_all {nt : Nat} {t : Tr} : ∀ {l : List Nat} {i : Nat}, i ∈ l → lookS (readS t l) i = some (t.get (path 12 i))
  | j :: l, i, h => by
    have h0 : lookS (readS t (j :: l)) i = Bool.casesOn (Nat.beq j i) (lookS (readS t l) i) (some (t.get (path 12 j))) := rfl
    rw [h0]
    cases hb : Nat.beq j i with
    | true => rw [Nat.eq_of_beq_eq_true hb]
    | false =>
      rcases List.mem_cons.1 h with e | e
      · subst e; rw [Nat.beq_refl] at hb; cases hb
      · exact lookS_all (nt := nt) e

/-- The values of some slots, and one block, where the run ends normally. -/
noncomputable def pick1 (r : Rs) (live : List Nat) (b : Nat) : Option (List Value × Option XObj) :=
  Rs.casesOn r none (fun e t h _ => Ex.casesOn e (some (live.map (fun i => t.get (path 12 i)), hget h b)) (fun _ => none) none)

theorem subS_of {s : List Nat} {nt : Nat} {t : Tr} : ∀ {σ' : St}, (∀ i ∈ σ'.map Prod.fst, i < nt) → (σ'.map Prod.fst).map (fun i => t.get (path 12 i)) = σ'.map (fun p => renV s p.2) → SubS s (allS nt t) σ'
  | [], _, _ => trivial
  | (i, v) :: l, hl, he => by
    simp only [List.map_cons, List.cons.injEq] at he
    refine ⟨?_, subS_of (fun j hj => hl j (List.mem_cons_of_mem _ hj)) he.2⟩
    rw [← he.1]
    exact lookS_all (nt := nt) (List.mem_range.2 (hl i (List.mem_cons_self ..)))

theorem XQ.runTo {E : Env} (hE : E.Ok) {nt : Nat} {code rest : Code} {σ : St} {h : Heap} {c : Nat} {Q : QP} (n : Nat) (b : Nat) (σ' : St) {o o' : XObj}
    (hl : (σ'.map Prod.fst).all (fun i => Nat.blt i nt) = true) (hr : pick1 (exec E n (comp E nt code) (trS nt σ) h c) (σ'.map Prod.fst) b = some (σ'.map (fun p => renV [b] p.2), some o)) (ho : ObjRen [b] o' o)
    (hx : XQ E nt 0 rest σ' [(0, o')] 1 Q) : XQ E nt 0 code σ h c (Then (fun σ h c => XQ E nt 0 rest σ h c Q) Q) := by
  cases he : exec E n (comp E nt code) (trS nt σ) h c with
  | none => rw [he] at hr; cases hr
  | some e2 t2 h2 c2 =>
    rw [he] at hr
    cases e2 with
    | exit i => cases hr
    | ret => cases hr
    | normal =>
      have hr : some ((σ'.map Prod.fst).map (fun i => t2.get (path 12 i)), hget h2 b) = some (σ'.map (fun p => renV [b] p.2), some o) := hr
      simp only [Option.some.injEq, Prod.mk.injEq] at hr
      obtain ⟨r1, r2⟩ := hr
      refine XQ.runE hE n he rfl ?_
      refine XQ.ren [b] (σ' := σ') (h' := [(0, o')]) (c' := 1) (by simp) rfl (subS_of (fun i hi => ?_) r1) ⟨⟨b, o, rfl, r2, ho⟩, trivial⟩ rfl hx
      have := List.all_eq_true.1 hl i hi
      simpa [Nat.blt_eq] using this

end Go.Xm
