/- The abstract machine: regions that draw their order: a quiet head in any order, then every order of what is left, operations behind guards too. Conditions: none; nothing here speaks of one program. -/
import Derived.Test.YtlfobnldaneccaaGreatDoorMq
import Derived.Test.YtlfobnldaneccaaGreatDoorMr
namespace Go.Xm
open Go.RowKit

section
variable {P : Program} {ops : Array Oper} {md : Region.Mode} {C : World → Prop}

def headL (md : Region.Mode) (ops : Array Oper) : List Nat → Array Bool → Option (Array Bool)
  | [], listed => some listed
  | i :: l, listed => match ((Region.ready md ops listed).contains i && Region.free md ops listed i) with
    | true => headL md ops l (listed.setIfInBounds i true)
    | false => none

theorem headQ_any {H T : List Nat} {t0 n : Nat} {Lq : Act → Prop} {fin : Array Bool} (hsel : Region.noSelect ops = true) (hs : sinkP md ops H t0 = true) (hc : chainP md ops t0 T = true) (hn : n = ops.size)
    (hfin : (Region.ready md ops fin).all (fun j => (t0 :: T).contains j) = true) :
    ∀ (l : List Nat) (os : List Oper) (listed : Array Bool) (a : Act), l.map (fun i => ops[i]?) = os.map some → (∀ i ∈ l, i ∈ H ∧ i ∉ t0 :: T) → PInv md ops (t0 :: T) listed →
    headL md ops l listed = some fin → wpQuiet P ops C Lq os a →
    wpAnyLQ P md ops C n (fun listed' a' => listed' = fin ∧ Lq a') l.length listed a
  | [], os, listed, a, hm, _, inv, hB, h => by
    have : os = [] := by cases os with | nil => rfl | cons => cases hm
    subst this
    exact ⟨Option.some.inj hB, h⟩
  | i :: l, [], listed, a, hm, _, inv, hB, h => by cases hm
  | i :: l, o :: os, listed, a, hm, hlt, inv, hB, h => by
    simp only [List.map_cons, List.cons.injEq] at hm
    obtain ⟨h0, hm⟩ := hm
    simp only [headL] at hB
    split at hB
    · rename_i hrf
      obtain ⟨hr, hf⟩ := Bool.and_eq_true_iff.1 hrf
      obtain ⟨hin, hiT⟩ := hlt i (List.mem_cons_self ..)
      have hr' : i ∈ Region.ready md ops listed := by simpa using hr
      have hst : qOp P ops C i (wpQuiet P ops C Lq os) a := by unfold qOp; simp only [h0]; exact h
      obtain ⟨v, hy, hK⟩ := yieldsIn_of_qOp h0 hst
      refine headQ_first h0 (Region.noSelect_spec hsel) hs hc hn hin ?_ l.length listed a inv (Region.free_spec h0 hf) hr' hy
        (headQ_any hsel hs hc hn hfin l os _ _ hm (fun k hk => hlt k (List.mem_cons_of_mem _ hk)) (inv.set hr' hiT) hB hK)
      rintro listed' a' ⟨rfl, _⟩ j hj
      have := List.all_eq_true.1 hfin j hj
      simpa using this
    · cases hB

/-- First H in any order, then t0 and T in any order that they wait for. -/
def quietAnyB (md : Region.Mode) (ops : Array Oper) (H : List Nat) (t0 : Nat) (T : List Nat) (fin : Array Bool) : Bool :=
  Region.noSelect ops && (H ++ t0 :: T).all (fun i => Nat.blt i ops.size) &&
  H.all (fun i => !(t0 :: T).contains i) && sinkP md ops H t0 && chainP md ops t0 T && (Region.ready md ops fin).all (fun j => (t0 :: T).contains j)

theorem wp_region_quiet_any {id : Nat} {Q : Exit → Act → World → Prop} {a : Act} {w : World} {l : List Oper} (H : List Nat) (t0 : Nat) (T : List Nat) {g : Nat} {fin : Array Bool} (hm : P.follows .mixedOrders = true) (hB : quietAnyB .any l.toArray H t0 T fin = true)
    (hg : Nat.beq (H.length + g) l.toArray.size = true) (hL : headL .any l.toArray H (Array.replicate l.toArray.size false) = some fin) (hC : C { w with drawn := w.drawn + 1 })
    (h : wpQuiet P l.toArray C (fun a' => ∀ w', C w' → wpAny P .any l.toArray Q g fin a' w') (opsAt l H) a) : (Code.region id l.toArray true).wp P Q a w := by
  simp only [quietAnyB, Bool.and_eq_true] at hB
  obtain ⟨⟨⟨⟨⟨hsel, hlt⟩, hHT⟩, hs⟩, hc⟩, hfin⟩ := hB
  have hlt' : ∀ i ∈ H ++ t0 :: T, i < l.length := fun i hi => by
    have := List.all_eq_true.1 hlt i hi
    simpa [Nat.blt_eq] using this
  have hHT' : ∀ i ∈ H, i ∉ t0 :: T := fun i hi => by
    have := List.all_eq_true.1 hHT i hi
    simpa using this
  have hlen := Nat.eq_of_beq_eq_true hg
  have inv0 : PInv .any l.toArray (t0 :: T) (Array.replicate l.toArray.size false) :=
    ⟨by simp, fun j oj _ hl => (by rw [getD_replicate_false] at hl; cases hl), fun t ht => getD_in (by simpa using hlt' t (by simp only [List.mem_append]; exact .inr ht)) (getD_replicate_false _ _)⟩
  refine wp_region_any hm ?_
  have H0 : wpAny P .any l.toArray Q (H.length + g) (Array.replicate l.toArray.size false) a { w with drawn := w.drawn + 1 } := ?_
  · rw [hlen] at H0; exact H0
  have HH := headQ_any (P := P) (C := C) (md := .any) (T := T) (t0 := t0) hsel hs hc rfl hfin H (opsAt l H) _ a (opsAt_map _ (fun i hi => hlt' i (by simp only [List.mem_append]; exact .inl hi))) (fun i hi => ⟨hi, hHT' i hi⟩) inv0 hL h
  exact wpAny_of_headQ (Q' := Q) (g := g) (fun listed' a' w' hw' hL' => by rw [hL'.1]; exact hL'.2 w' hw') _ _ _ _ hC HH
end

/-- Guards that look ahead of number m only. -/
def guardsIn (m : Nat) (l : List Oper) : Bool := l.all fun o => match o.guard with | none => true | some (j, _) => Nat.blt j m

theorem wanted_pre {ops ops' : Array Oper} {m : Nat} {o : Oper} (hg : (match o.guard with | none => true | some (j, _) => Nat.blt j m) = true) (he : ∀ j, j < m → ops[j]? = ops'[j]?) (tm : Array Value) : Region.wanted o (yielded ops tm) = Region.wanted o (yielded ops' tm) := by
  cases hgo : o.guard with
  | none => simp [Region.wanted, hgo]
  | some p =>
    obtain ⟨j, want⟩ := p
    rw [hgo] at hg
    have hj : j < m := by simpa [Nat.blt_eq] using hg
    simp only [Region.wanted, hgo, yielded, he j hj]

theorem wpQuiet_pre {P : Program} {ops ops' : Array Oper} {C : World → Prop} {Q Q' : Act → Prop} {m : Nat} (he : ∀ j, j < m → ops[j]? = ops'[j]?) (hQ : ∀ a, Q a → Q' a) : ∀ (l : List Oper), guardsIn m l = true → ∀ a, wpQuiet P ops C Q l a → wpQuiet P ops' C Q' l a
  | [], _, a, h => hQ a h
  | o :: l, hf, a, h => by
    simp only [guardsIn, List.all_cons, Bool.and_eq_true] at hf
    have hw := wanted_pre hf.1 he a.tmps
    unfold wpQuiet at h ⊢
    rw [← hw]
    split
    · rename_i hh
      rw [if_pos hh] at h
      exact Oper.quiet_mono (fun a h => wpQuiet_pre he hQ l hf.2 a h) h
    · rename_i hh
      rw [if_neg hh] at h
      exact wpQuiet_pre he hQ l hf.2 _ h

theorem reOps_range_get {ops : Array Oper} {m : Nat} : ∀ j, j < m → (reOps ops (List.range m))[j]? = ops[j]? := by
  have key : ∀ (l : List Oper) (m : Nat), opsAt l (List.range m) = l.take m := by
    intro l m
    induction m with
    | zero => simp [opsAt]
    | succ m ih =>
      rw [List.range_succ, opsAt_append, ih]
      have : opsAt l [m] = (l[m]?).toList := by
        cases h : l[m]? <;> simp [opsAt, h]
      rw [this, List.take_add_one]
  intro j hj
  unfold reOps
  rw [key]
  simp [hj]

/-- A quiet head, then every order of what is left. -/
theorem XQ.qA {E : Env} (hE : E.Ok) {nt k : Nat} {code : Code} (m t0 : Nat) (T : List Nat) {g : Nat} {fin : Array Bool} (hs : drawOf code = some true) (hB : quietAnyB .any (opsOf code).toList.toArray (List.range m) t0 T fin = true)
    (hg : Nat.beq ((List.range m).length + g) (opsOf code).toList.toArray.size = true) (hL : headL .any (opsOf code).toList.toArray (List.range m) (Array.replicate (opsOf code).toList.toArray.size false) = some fin) (hf : guardsIn m (opsAt (opsOf code).toList (List.range m)) = true)
    {σ σ' : St} {h h' : Heap} {c c' : Nat} {Q : QP} (hq : Q .normal σ' h' c')
    (hx : XU E nt (reOps (opsOf code) (List.range m)) 0 σ h c (fun σ2 => XA E nt k (opsOf code) g fin σ2 h c (fun e σ1 h1 c1 => e = .normal ∧ (σ1, h1, c1) = (σ', h', c')))) : XQ E nt k code σ h c Q := by
  cases code with
  | region id ops d =>
    cases hs
    have hB : quietAnyB .any ops.toList.toArray (List.range m) t0 T fin = true := hB
    have hg : Nat.beq ((List.range m).length + g) ops.toList.toArray.size = true := hg
    have hL : headL .any ops.toList.toArray (List.range m) (Array.replicate ops.toList.toArray.size false) = some fin := hL
    have hf : guardsIn m (opsAt ops.toList (List.range m)) = true := hf
    have harr : ops.toList.toArray = ops := by simp
    intro B ρ a w h1 h2 h3 h4 h5 h6 h7
    have hb := drew_below w
    have hhd : HRel B ρ h w.drew := h2.keepB hb
    have hId : E.inv w.drew := hE.keepN (Nat.le_trans h5.1 h4) h6 hb
    have hwp := wp_region_quiet_any (P := E.P) (C := fun w' => Below w.drew.heap.size w.drew w') (id := id) (Q := After k B nt ρ w a.defers Q) (a := a) (w := w) (l := ops.toList) (List.range m) t0 T hE.mixed hB hg hL (Below.refl _ _) ?_
    · simpa using hwp
    · have key := hx ρ a w.drew B h1 hhd h3 (Nat.le_trans h5.1 h4) hId a.defers rfl
      have key2 := wpQuiet_mono (Q' := fun a' => ∀ w', Below w.drew.heap.size w.drew w' → wpAny E.P .any ops.toList.toArray (After k B nt ρ w a.defers Q) g fin a' w') ?_ _ a key
      · exact wpQuiet_pre (ops := reOps ops (List.range m)) (m := m) (fun j hj => by rw [harr]; exact reOps_range_get j hj) (fun _ h => h) (opsAt ops.toList (List.range m)) hf a key2
      · rintro a' ⟨σ2, d1, s1, q1⟩ w' hw'
        have hb2 : Bel B w w' := (Bel.refl B w).drew.trans (Bel.of hw' h4)
        have q2 := q1 B ρ a' w' s1 (hhd.keepB hw') h3 (Nat.le_trans h4 hw'.size) h5 (hE.keepN (Nat.le_trans h5.1 h4) hId hw') ρ w a.defers ⟨h7, fun _ _ => rfl⟩ hb2 d1
        rw [harr]
        refine wpAny_mono2 ?_ _ _ _ _ q2
        rintro e' a'' w'' ⟨e, σ1, h1', c1, ρ', q1, q2, q3, q4, q5, q6, q7, rfl, q9⟩
        cases q9
        exact ⟨.normal, _, _, _, ρ', q1, q2, q3, q4, q5, q6, q7, hq⟩
  | _ => cases hs

/-! ### One operation of an order, behind its guard -/
noncomputable def bareG (ops : Array Oper) (j : Nat) : Array Oper := match ops.toList[j]? with
  | some o => #[{ o with guard := none }]
  | none => #[]

noncomputable def wantJ (nt : Nat) (ops : Array Oper) (σ : St) (j : Nat) : Bool := match ops.toList[j]? with
  | some o => match o.guard with
    | none => true
    | some (i, want) => match dstAt ops.toList i with
      | some di => match Nat.blt di nt with
        | true => match wantB ((trS nt σ).get (path 12 di)) want with
          | some true => true
          | _ => false
        | false => false
      | none => false
  | none => false

theorem wantJ_ok {nt : Nat} {ops : Array Oper} {σ : St} {j : Nat} (h : wantJ nt ops σ j = true) {o : Oper} (ho : ops[j]? = some o) {ρ : Rho} {a : Act} (hs : SRel ρ nt σ a) : Region.wanted o (yielded ops a.tmps) = true := by
  unfold wantJ at h
  have hol : ops.toList[j]? = some o := by simpa using ho
  rw [hol] at h
  simp only at h
  split at h
  · rename_i hg
    simp [Region.wanted, hg]
  · rename_i i want hg
    split at h
    · rename_i di hdi
      split at h
      · rename_i hlt
        split at h
        · rename_i hw
          have hlt : di < nt := by simpa [Nat.blt_eq] using hlt
          have := wanted_of hs.tr (all := ops.toList) hg (by rw [← dstAt_eq]; exact hdi) hlt hw
          simpa using this
        · cases h
      · cases h
    · cases h

theorem XA.stepG {E : Env} (hE : E.Ok) {nt k : Nat} {ops : Array Oper} {g : Nat} {listed : Array Bool} (js : List Nat) (hr : Region.ready .any ops listed = js) (hn : js.isEmpty = false) {σ : St} {h : Heap} {c : Nat} {Q : QP}
    (hx : AllJ js fun j => wantJ nt ops σ j = true ∧ XR E nt k (bareG ops j) 0 σ h c (fun e σ' h' c' => e = .normal ∧ XA E nt k ops g (listed.setIfInBounds j true) σ' h' c' Q)) : XA E nt k ops (g + 1) listed σ h c Q := by
  intro B ρ a w h1 h2 h3 h4 h5 h6 ρ0 w0 ds h7 h8 h9
  subst hr
  refine ⟨fun h0 => (by rw [h0] at hn; cases hn), fun j hj => ?_⟩
  obtain ⟨_, o, ho, _⟩ := mem_ready.1 hj
  obtain ⟨hwant, hxj0⟩ := hx.mem j hj
  have hxj := hxj0 B ρ a w h1 h2 h3 h4 h5 h6 ρ w ds ⟨h7.le, fun _ _ => rfl⟩ (Bel.refl B w) h9
  have hoj : ops.toList[j]? = some o := by simpa using ho
  have hl : (bareG ops j).toList.drop 0 = [{ o with guard := none }] := by simp [bareG, hoj]
  rw [hl] at hxj
  unfold wpOp
  simp only [ho]
  rw [if_pos (wantJ_ok hwant ho h1)]
  unfold wpList at hxj
  rw [if_pos (free_wanted rfl _)] at hxj
  have np : ∀ c a' w', ¬ After k B nt ρ w ds (fun e σ' h' c' => e = .normal ∧ XA E nt k ops g (listed.setIfInBounds j true) σ' h' c' Q) (.panic c) a' w' := by
    rintro c a' w' ⟨e, _, _, _, _, q, _, _, _, _, _, _, rfl, _⟩
    cases q
  have no : ¬ LetsOut (After k B nt ρ w ds (fun e σ' h' c' => e = .normal ∧ XA E nt k ops g (listed.setIfInBounds j true) σ' h' c' Q)) := by
    rintro ⟨a, w, e, _, _, _, _, q, _, _, _, _, _, _, rfl, _⟩
    cases q
  rcases hxj with hxj | ⟨_, hxj⟩
  · refine .inl ?_
    have hxj' : o.wp E.P a w _ _ := hxj
    refine Oper.wp_two ?_ (fun c a w q => absurd q (np c a w)) (fun q => absurd q no) hxj'
    rintro a' w' ⟨e, σ', h', c', ρ', _, d1, s1, s2, s3, s4, s5, rfl, s6⟩
    exact s6 B ρ' a' w' s1 s2 s3 (Nat.le_trans h4 s5.size) h5 (hE.keep h5 h6 s5) ρ0 w0 ds (h7.trans s4) (h8.trans s5) d1
  · exact absurd hxj no

/-- What was comes back: what was made of it is dead. -/
theorem XR.backR {E : Env} {nt k : Nat} {ops : Array Oper} {p : Nat} {α : Type} {f : α → List Value} {s : Nat} (hf : Enc f s) (hs1 : Nat.ble 1 s = true) (i j : Nat) {xs ys : List α} {e : TypeId} {σ : St} {h h' : Heap} {c : Nat} {Q : QP}
    (hi : hget h i = some (.was (rowC f xs) j 0 e s)) (hj : hget h j = some (.cells (rowC f (xs ++ ys)) 0 e s)) (hh : hset (hdel h j) i (.cells (rowC f xs) 0 e s) = h') (hx : XR E nt k ops p σ h' c Q) : XR E nt k ops p σ h c Q := by
  have hb : backH h i = h' := by
    rw [← hh]
    have b1 : Nat.beq e e = true := Nat.beq_refl e
    have b2 : Nat.beq s s = true := Nat.beq_refl s
    have b3 : (rowC f (xs ++ ys)).take (rowC f xs).length = rowC f xs := by rw [rowC_append, List.take_left]
    simp only [backH, hi, hj, b1, b2, hs1, b3, eqVs_refl (rowC_scal hf xs), Bool.and_self]
    rfl
  intro B ρ a w h1 h2 h3 h4 h5 h6 h7
  subst hb
  exact hx B ρ a w h1 (h2.backH i) h3 h4 h5 h6 h7

end Go.Xm
