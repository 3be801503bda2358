/- The abstract machine, more: a row whose last elements nothing asks for any more. -/
import Derived.Test.YtlfobnldaneccaaGreatDoorMr
import Derived.Maps.RangeRun
namespace Go.Xm
open Go.RowKit
theorem HRel.trim {B : Bd} {ρ : Rho} {h : Heap} {w : World} (H : HRel B ρ h w) {i : Nat} {cs cs' : List Value} {e : TypeId} {es : Nat} (hg : hget h i = some (.cells cs 0 e es)) (hes : es ≠ 0) (t : List Value) (ht : cs = cs' ++ t) : HRel B ρ (hset h i (.cells cs' 0 e es)) w := by
  have f1 : frz (.cells cs' 0 e es) = false := rfl
  have f0 : frz (.cells cs 0 e es) = false := rfl
  refine ⟨fun i' o hi => ?_, fun a b o o' L L' hi hj hL hL' n1 n2 o1 o2 hz hb => ?_⟩
  · rw [hget_hset hg] at hi
    by_cases ei : i' = i
    · rw [if_pos ei] at hi
      cases hi
      subst ei
      obtain ⟨L, q1, q2, q3, q4⟩ := H.ok i' _ hg
      refine ⟨L, q1, fun _ => q2 f0, q3, ?_⟩
      rcases q4 with ⟨q4, q5⟩ | ⟨C, fr, p1, p2, p3, p4, p5, p6⟩
      · refine .inl ⟨q4, ?_⟩
        rw [ht] at q5
        exact (List.append_eq_nil_iff.1 q5).1
      · refine .inr ⟨C, fr, p1, p2, ?_, fun k v hk => p4 k v ?_, p5, fun z => absurd (q3.symm.trans z) hes⟩
        · rw [ht, List.length_append] at p3; omega
        · rw [ht, List.getElem?_append_left (List.getElem?_eq_some_iff.1 hk).1]; exact hk
    · rw [if_neg ei] at hi
      exact H.ok i' o hi
  · have key : ∀ a o L, hget (hset h i (.cells cs' 0 e es)) a = some o → own ρ L o → ∃ u, hget h a = some u ∧ own ρ L u ∧ (frz o = false → frz u = false) := by
      intro a o L ha ho
      rw [hget_hset hg] at ha
      by_cases ea : a = i
      · rw [if_pos ea] at ha
        cases ha
        exact ⟨.cells cs 0 e es, by rw [ea]; exact hg, True.intro, fun _ => f0⟩
      · rw [if_neg ea] at ha
        exact ⟨o, ha, ho, id⟩
    obtain ⟨u, a1, a2, a3⟩ := key a o L hi o1
    obtain ⟨u', b1, b2, b3⟩ := key b o' L' hj o2
    exact H.inj a b u u' L L' a1 b1 hL hL' n1 n2 a2 b2 (hz.imp a3 b3) hb
theorem XQ.trimR {E : Env} {nt k : Nat} {code : Code} {α : Type} {g : α → List Value} (i : Nat) (e : TypeId) (es j : Nat) (l : List α) (n m : Nat) (hes : Nat.ble 1 es = true) {σ : St} {h : Heap} {c : Nat} {Q : QP}
    (hg : hget h i = some (.cells (rowC g l) 0 e es)) (hj : lookS σ j = some (.slice (some ⟨i, 0, none⟩) n m)) (hn : (Nat.ble n m && Nat.ble n l.length) = true)
    (hx : XQ E nt k code ((j, .slice (some ⟨i, 0, none⟩) (l.take n).length (l.take n).length) :: σ) (hset h i (.cells (rowC g (l.take n)) 0 e es)) c Q) : XQ E nt k code σ h c Q := by
  intro B ρ a w h1 h2 h3 h4 h5 h6 h7
  have hes' : es ≠ 0 := by have : 1 ≤ es := Nat.le_of_ble_eq_true hes
                           omega
  have hn' : n ≤ m := Nat.le_of_ble_eq_true (Bool.and_eq_true_iff.1 hn).1
  have hn2 : n ≤ l.length := Nat.le_of_ble_eq_true (Bool.and_eq_true_iff.1 hn).2
  have e1 : (l.take n).length = n := by rw [List.length_take]; omega
  have ht : rowC g l = rowC g (l.take n) ++ rowC g (l.drop n) := by
    rw [← rowC_append, List.take_append_drop]
  refine hx B ρ a w ⟨h1.1, h1.2.1, fun i' v hm' => ?_⟩ (h2.trim hg hes' _ ht) h3 h4 h5 h6 h7
  rcases List.mem_cons.1 hm' with e0 | e0
  · cases e0
    obtain ⟨q1, q2⟩ := h1.2.2 j _ (lookS_mem hj)
    refine ⟨q1, ?_⟩
    rw [e1]
    generalize a.tmps.getD j undef = x at q2 ⊢
    cases q2 with
    | slice _ _ _ _ L o' cap' p1 p2 p3 p4 =>
      obtain ⟨M, m1, _, m3, _⟩ := h2.ok i _ hg
      rw [p1] at m1; cases m1
      have hL : L.es ≠ 0 := by rw [m3]; exact hes'
      obtain ⟨r1, r2, r3⟩ := p4 hL
      exact .slice _ _ _ _ L o' cap' p1 (p2.imp id (fun ⟨z1, z2⟩ => ⟨z2, z2⟩)) (fun z => absurd z hL) (fun _ => ⟨by omega, r2, r3⟩)
    | sliceN _ _ L p1 p2 => exact .sliceN _ _ L p1 p2
  · exact h1.2.2 i' v e0
end Go.Xm
namespace Go.Xm
open Go.RowKit
set_option linter.unusedVariables false
set_option linter.unusedSimpArgs false
def XW (E : Env) (nt : Nat) (ops : Array Oper) (j : Nat) (σ : St) (h : Heap) (c : Nat) (Q : St → Prop) : Prop :=
  ∀ (B : Bd) (ρ : Rho) (a : Act) (w : World), SRel ρ nt σ a → HRel B ρ h w → ρ.length = c → E.G ≤ w.heap.size → E.inv w →
    ∀ ds : List Deferred, a.defers = ds → wpStill E.P ops w (fun a' => ∃ σ', a'.defers = ds ∧ SRel ρ nt σ' a' ∧ Q σ') (ops.toList.drop j) a
theorem XW.done {E : Env} {nt : Nat} {ops : Array Oper} {j : Nat} (hj : Nat.ble ops.size j = true) {σ : St} {h : Heap} {c : Nat} {Q : St → Prop} (hq : Q σ) : XW E nt ops j σ h c Q := by
  intro B ρ a w h1 h2 h3 g1 g2 ds h6
  have : ops.toList.drop j = [] := List.drop_eq_nil_of_le (by simpa using hj)
  rw [this]
  exact wpStill_nil ⟨σ, h6, h1, hq⟩
theorem XW.step {E : Env} (hE : E.Ok) {nt : Nat} {ops : Array Oper} {j : Nat} (m : Nat) (live : List Nat) {σ σ' : St} {h : Heap} {c : Nat} {Q : St → Prop} (hl : live.all (fun i => Nat.blt i nt) = true)
    (hr : obsT live (qops noCall (((gsOf E nt ops).drop j).take m) h (trS nt σ)) = some σ') (hx : XW E nt ops (j + m) σ' h c Q) : XW E nt ops j σ h c Q := by
  intro B ρ a w h1 h2 h3 g1 g2 ds h9
  cases hx0 : qops noCall (((gsOf E nt ops).drop j).take m) h (trS nt σ) with
  | none => rw [hx0] at hr; cases hr
  | some t2 =>
    rw [hx0] at hr
    cases hr
    obtain ⟨s1, s2⟩ := sub_ok hE nt ops j m
    have hlist : ops.toList.drop j = (ops.toList.drop j).take m ++ ops.toList.drop (j + m) := by
      rw [← List.drop_drop, List.take_append_drop]
    have harr : ops.toList.toArray = ops := by simp
    rw [hlist]
    have key := qops_still_pre (all := ops.toList) (Q := fun a' => ∃ σ', a'.defers = ds ∧ SRel ρ nt σ' a' ∧ Q σ') h2 g1 g2 (ops.toList.drop (j + m)) _ _ s1 s2 _ t2 hx0 a h1.tr ?_
    · rw [harr] at key; exact key
    · intro a' d1 r1
      rw [harr]
      exact hx B ρ a' w (SRel.of_tr r1 hl) h2 h3 g1 g2 ds (d1.trans h9)
theorem XW.rd {E : Env} (hE : E.Ok) {nt : Nat} {ops : Array Oper} {j : Nat} (live : List Nat) {σ σ' : St} {h : Heap} {c : Nat} {v : Value} {Q : St → Prop} (hl : live.all (fun i => Nat.blt i nt) = true)
    (hv : insV (headI ((gsOf E nt ops).drop j) (trS nt σ)) (trS nt σ) h = some v) (hσ : readS (putX (insD (headI ((gsOf E nt ops).drop j) (trS nt σ))) v (trS nt σ)) live = σ')
    (hx : XW E nt ops (j + 1) σ' h c Q) : XW E nt ops j σ h c Q := by
  refine XW.step hE 1 live (σ' := σ') hl ?_ hx
  rw [qops_rd hv, ← hσ]
  rfl
theorem wpList_still {P : Program} {ops : Array Oper} {w : World} {Q : Act → Prop} {Q' : Exit → Act → World → Prop} (hQ : ∀ a, Q a → Q' .normal a w) : ∀ (l : List Oper) (a : Act), wpStill P ops w Q l a → wpList P ops Q' l a w
  | [], a, h => hQ a h
  | o :: l, a, h => by
    unfold wpStill at h
    refine wpList_step (fun K hK => ?_)
    split at h
    · rename_i hw
      rw [if_pos hw]
      exact Oper.wp_of_still (fun a' ha' => hK _ _ (wpList_still hQ l a' ha')) h
    · rename_i hw
      rw [if_neg hw]
      exact hK _ _ (wpList_still hQ l _ h)
def XV (E : Env) (nt : Nat) (code : Code) (σ : St) (h : Heap) (c : Nat) (Q : Ex → St → Prop) : Prop :=
  ∀ (B : Bd) (ρ : Rho) (a : Act) (w : World), SRel ρ nt σ a → HRel B ρ h w → ρ.length = c → E.G ≤ w.heap.size → E.inv w →
    code.wp E.P (fun e' a' w' => w' = w ∧ a'.defers = a.defers ∧ ∃ e σ', e' = exO e ∧ SRel ρ nt σ' a' ∧ Q e σ') a w
theorem XV.skip {E : Env} {nt : Nat} {code : Code} (hs : isSkip code = true) {σ : St} {h : Heap} {c : Nat} {Q : Ex → St → Prop} (hq : Q .normal σ) : XV E nt code σ h c Q := by
  cases code with
  | skip =>
    intro B ρ a w h1 h2 h3 g1 g2
    exact wp_skip ⟨rfl, rfl, .normal, σ, rfl, h1, hq⟩
  | _ => cases hs
theorem XV.region {E : Env} {nt : Nat} {code : Code} (hs : drawOf code = some false) {σ : St} {h : Heap} {c : Nat} {Q : Ex → St → Prop} (hx : XW E nt (opsOf code) 0 σ h c (Q .normal)) : XV E nt code σ h c Q := by
  cases code with
  | region id ops d =>
    cases hs
    intro B ρ a w h1 h2 h3 g1 g2
    refine wp_region_list (wpList_still (fun a' ha' => ?_) _ _ (hx B ρ a w h1 h2 h3 g1 g2 a.defers rfl))
    obtain ⟨σ', d1, s1, q1⟩ := ha'
    exact ⟨rfl, d1, .normal, σ', rfl, s1, q1⟩
  | _ => cases hs
theorem XV.cond {E : Env} {nt : Nat} {code : Code} {s : Operand} (hs : condOf code = some s) {σ : St} {h : Heap} {c : Nat} {Q : Ex → St → Prop} {b : Bool} (hb : ev (trS nt σ) (src nt s) = .bool b)
    (ht : b = true → XV E nt (lft code) σ h c Q) (hf : b = false → XV E nt (rgt code) σ h c Q) : XV E nt code σ h c Q := by
  cases code with
  | cond s' x y =>
    cases hs
    intro B ρ a w h1 h2 h3 g1 g2
    have hv := src_ok h1.tr s
    rw [hb] at hv
    generalize e1 : a.eval s = v at hv
    cases hv
    cases b with
    | true => exact wp_cond e1 (ht rfl B ρ a w h1 h2 h3 g1 g2)
    | false => exact wp_cond e1 (hf rfl B ρ a w h1 h2 h3 g1 g2)
  | _ => cases hs
theorem XV.seq {E : Env} {nt : Nat} {code : Code} (hs : isSeq code = true) {σ : St} {h : Heap} {c : Nat} {Q : Ex → St → Prop}
    (hx : XV E nt (lft code) σ h c (fun e σ' => match e with | .normal => XV E nt (rgt code) σ' h c Q | e => Q e σ')) : XV E nt code σ h c Q := by
  cases code with
  | seq x y =>
    intro B ρ a w h1 h2 h3 g1 g2
    refine wp_seq (wp_mono (hx B ρ a w h1 h2 h3 g1 g2) ?_)
    rintro e' a1 w1 ⟨rfl, d1, e, σ', rfl, s1, q1⟩
    cases e with
    | normal =>
      refine wp_mono (q1 B ρ a1 w1 s1 h2 h3 g1 g2) ?_
      rintro e2 a2 w2 ⟨rfl, d2, e, σ2, rfl, s2, q2⟩
      exact ⟨rfl, d2.trans d1, e, σ2, rfl, s2, q2⟩
    | exit i => exact ⟨rfl, d1, .exit i, σ', rfl, s1, q1⟩
    | ret => exact ⟨rfl, d1, .ret, σ', rfl, s1, q1⟩
  | _ => cases hs
theorem SRel.put {ρ : Rho} {nt : Nat} {σ : St} {a : Act} (h : SRel ρ nt σ a) {t : Nat} (ht : t < nt) {v v' : Value} (hv : VRel ρ v v') {σ' : St} (hs : ∀ i u, (i, u) ∈ σ' → i ≠ t ∧ (i, u) ∈ σ) : SRel ρ nt ((t, v) :: σ') (a.put (some t) v') := by
  have hsz : t < a.tmps.size := by rw [h.1]; exact ht
  refine ⟨by simp [Act.put, h.1], h.2.1, fun i u hm => ?_⟩
  rcases List.mem_cons.1 hm with e | e
  · cases e
    refine ⟨ht, ?_⟩
    have : (a.put (some t) v').tmps.getD t undef = v' := by simp [Act.put, hsz]
    rw [this]; exact hv
  · obtain ⟨n1, m1⟩ := hs i u e
    obtain ⟨q1, q2⟩ := h.2.2 i u m1
    refine ⟨q1, ?_⟩
    have : (a.put (some t) v').tmps.getD i undef = a.tmps.getD i undef := by
      simp only [Act.put, Array.getD_eq_getD_getElem?]
      rw [Array.getElem?_setIfInBounds_ne (Ne.symm n1)]
    rw [this]; exact q2
def SubN (t : Nat) (σ : St) : St → Prop
  | [] => True
  | (i, v) :: l => (Nat.beq i t = false ∧ lookS σ i = some v) ∧ SubN t σ l
theorem SubN.mem {t : Nat} {σ : St} : ∀ {σ' : St}, SubN t σ σ' → ∀ i v, (i, v) ∈ σ' → i ≠ t ∧ (i, v) ∈ σ
  | [], _, _, _, hm => by cases hm
  | (_, _) :: _, hs, _, _, hm => by
    rcases List.mem_cons.1 hm with e | e
    · cases e
      refine ⟨fun q => ?_, lookS_mem hs.1.2⟩
      have := hs.1.1
      rw [q] at this
      simp at this
    · exact SubN.mem hs.2 _ _ e
end Go.Xm
namespace Go.Xm
open Go.RowKit
set_option linter.unusedVariables false
set_option linter.unusedSimpArgs false
def imA {α : Type} (g : α → Value) (l : List (List Int × α)) : List (List Int × Value) := l.map fun p => (p.1, g p.2)
def getA {α : Type} (d : α) : List (List Int × α) → List Int → α
  | [], _ => d
  | p :: t, k => if p.1 = k then p.2 else getA d t k
def putA {α : Type} : List (List Int × α) → List Int → α → List (List Int × α)
  | [], k, v => [(k, v)]
  | p :: t, k, v => if p.1 = k then (k, v) :: t else p :: putA t k v
def lensA {α : Type} (n : Nat) (l : List (List Int × α)) : Bool := l.all fun p => Nat.beq p.1.length n
theorem lens_imA {α : Type} (g : α → Value) (n : Nat) (l : List (List Int × α)) : lens n (imA g l) = lensA n l := by
  unfold lens imA lensA
  rw [List.all_map]
  rfl
theorem mfind_imA {α : Type} (g : α → Value) (d : α) (k : List Int) : ∀ l : List (List Int × α), (mfind (imA g l) k).getD (g d) = g (getA d l k)
  | [] => rfl
  | p :: l => by
    have ih := mfind_imA g d k l
    show (if p.1 = k then some (g p.2) else mfind (imA g l) k).getD (g d) = g (if p.1 = k then p.2 else getA d l k)
    by_cases e : p.1 = k
    · rw [if_pos e, if_pos e]; rfl
    · rw [if_neg e, if_neg e, ih]
theorem mput_imA {α : Type} (g : α → Value) (k : List Int) (v : α) : ∀ l : List (List Int × α), mput (imA g l) k (g v) = imA g (putA l k v)
  | [] => rfl
  | p :: l => by
    have ih := mput_imA g k v l
    show (if p.1 = k then (k, g v) :: imA g l else (p.1, g p.2) :: mput (imA g l) k (g v)) = imA g (if p.1 = k then (k, v) :: l else p :: putA l k v)
    by_cases e : p.1 = k
    · rw [if_pos e, if_pos e]; rfl
    · rw [if_neg e, if_neg e, ih]; rfl
theorem intsA_row : ∀ L : List Int, intsL (rowC (encI .i64) L) = some L
  | [] => rfl
  | x :: L => by
    have ih := intsA_row L
    show intsL (Value.int .i64 x :: rowC (encI .i64) L) = some (x :: L)
    simp only [intsL, ih]
theorem keyL_row {L : List Int} (h : Nat.beq L.length 1 = false) : keyL (.agg (rowC (encI .i64) L).toArray) = some L := by
  simp only [keyL, intsA_row, h]
theorem e_mputA {α : Type} (g : α → Value) {J : Ins} {d : Option (List Bool)} {n : Nat} {m i x : Src} {t : Tr} {h h' : Heap} {c : Nat} (hI : J = .ef d (eMapUpdate n m i x)) {b : Nat} {k : List Int} (hx : ev t m = .map (some b)) (hi : ev t i = .agg (rowC (encI .i64) k).toArray) (hn : Nat.beq n 1 = false) {l : List (List Int × α)}
    (hg : hget h b = some (.imap (imA g l))) (hl : (Nat.beq k.length n && lensA n l) = true) {a : α} (hv : ev t x = g a) (hs : scal (g a) = true) (hh : hset h b (.imap (imA g (putA l k a))) = h') : insE J t h c = some (undef, h', c) := by
  subst hI
  obtain ⟨l1, l2⟩ := Bool.and_eq_true_iff.1 hl
  have e0 : k.length = n := Nat.eq_of_beq_eq_true l1
  have e1 : Nat.beq k.length 1 = false := by rw [e0]; exact hn
  simp only [insE, eMapUpdate, hx, hg, hi, hv, hs, keyL_row e1, l1, lens_imA, l2, Bool.and_self]
  rw [mput_imA, hh]
theorem v_loadA {J : Ins} {d : Option (List Bool)} {n : Nat} {x : Src} {t : Tr} {h : Heap} (hI : J = .rd d (rLoadN n x)) {b : Nat} (hx : ev t x = .pointer (some ⟨b, 0, none⟩)) {L : List Int} {fz : Nat} {e : TypeId} {es : Nat}
    (hg : hget h b = some (.cells (rowC (encI .i64) L) fz e es)) (hn : decide (L.length = n) = true) : insV J t h = some (.agg (rowC (encI .i64) L).toArray) := by
  subst hI
  have hn := of_decide_eq_true hn
  have l2 : (rowC (encI .i64) L).length = L.length := by rw [rowC_length (encI_ok .i64)]; simp
  have hb : Nat.ble (0 + n) (rowC (encI .i64) L).length = true := by rw [Nat.ble_eq]; omega
  simp only [insV, rLoadN, hx, hg, hb, List.drop_zero]
  rw [List.take_of_length_le (by omega)]
end Go.Xm
namespace Go.Xm
open Go.RowKit
def RenO (c : Nat) (R : Value → Heap → Nat → Prop) (v : Value) (h : Heap) (_ : Nat) : Prop :=
  ∃ (s : List Nat) (v2 : Value) (h2 : Heap), s.Nodup ∧ s.take c = List.range c ∧ renV s v2 = v ∧ RenH s h h2 ∧ R v2 h2 s.length
theorem KC.renO {E : Env} {K : Nat} {args : List Value} {h : Heap} {c : Nat} {R : Value → Heap → Nat → Prop} (hx : KC E K args h c (RenO c R)) : KC E K args h c R := by
  intro B ρ w args' h1 h2 h3 h4 h5 h6
  obtain ⟨q1, q2⟩ := hx B ρ w args' h1 h2 h3 h4 h5 h6
  refine ⟨q1, q2.mono ?_⟩
  rintro en w' ⟨v, v', ρ', h', c', rfl, e2, e3, e4, e5, e6, s, v2, hh2, hn, hk, rfl, hr, hR⟩
  have hle : Rho.le ρ (renR s ρ') := by
    intro i L hi
    have hic : i < c := by have := (List.getElem?_eq_some_iff.1 hi).1; omega
    have g1 : s[i]? = some i := by
      have g2 : (s.take c)[i]? = some i := by rw [hk]; simp [hic]
      rw [List.getElem?_take, if_pos hic] at g2
      exact g2
    exact renR_at g1 (e3 i L hi)
  exact ⟨v2, v', renR s ρ', hh2, s.length, rfl, e2.renV, hle, by simp [renR], e5.ren hn hr, e6, hR⟩
end Go.Xm
