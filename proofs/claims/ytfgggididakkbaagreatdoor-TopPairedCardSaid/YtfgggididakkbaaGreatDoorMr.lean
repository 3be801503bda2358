/- The abstract machine, part 18: appends that keep what was, for rows of any length. Conditions: none; nothing here speaks of one program. -/
import Derived.Test.YtfgggididakkbaaGreatDoorMp
import Derived.Test.YtfgggididakkbaaGreatDoorMq
namespace Go.Xm
open Go.RowKit

/-! ### Appends that keep what was -/
theorem e_appendK {α : Type} {f : α → List Value} {s : Nat} (hf : Enc f s) {g : Ins} {d : Option (List Bool)} {bytes : Nat} {e : TypeId} {x y : Src} {t : Tr} {h h' : Heap} {c : Nat} (hI : g = .ef d (eAppendK s bytes e x y)) {b len cap : Nat} (hx : ev t x = .slice (some ⟨b, 0, none⟩) len cap) {xs : List α}
    (hg : hget h b = some (.cells (rowC f xs) 0 e s)) {m : Nat} {ys : List α} (hy : fetch h s (ev t y) = some (m + 1, rowC f ys)) (hs1 : Nat.ble 1 s = true) (hlen : len = xs.length) (hcap : cap = xs.length) (h1 : decide (1 ≤ xs.length) = true) (hft : fitsB (len + (m + 1)) bytes = true) {n' : Nat} (hn' : len + (m + 1) = n')
    (hh : (c, .cells (rowC f (xs ++ ys)) 0 e s) :: hset h b (.was (rowC f xs) c 0 e s) = h') :
    insE g t h c = some (.slice (some ⟨c, 0, none⟩) n' n', h', c + 1) := by
  subst hI
  subst hlen
  subst hcap
  subst hn'
  have h1 := of_decide_eq_true h1
  simp only [fitsB, Bool.and_eq_true] at hft
  obtain ⟨t1, t2⟩ := hft
  have hl := rowC_length hf xs
  have hrv : reviveH 30 h b = h := by simp only [reviveH, hg]
  have b1 : Nat.ble xs.length xs.length = true := Nat.ble_self_eq_true xs.length
  have b2 : Nat.ble (0 + xs.length * s) (rowC f xs).length = true := by rw [Nat.ble_eq]; omega
  have b3 : Nat.beq e e = true := Nat.beq_refl e
  have b4 : Nat.ble 0 (xs.length * s) = true := by rw [Nat.ble_eq]; omega
  have b5 : Nat.beq s s = true := Nat.beq_refl s
  simp only [insE, eAppendK, hx, hrv, eAppend, hg, hy, b1, b2, b3, t1, t2, rowC_one1 hf ys, hs1, Bool.and_self]
  cases s with
  | zero => cases hs1
  | succ s' =>
    simp only [b4, b5, Bool.and_self]
    have h3 : ((rowC f xs).drop 0).take (xs.length * (s' + 1)) = rowC f xs := by
      rw [List.drop_zero]; exact List.take_of_length_le (by omega)
    have hw : wasH true h b 0 xs.length (s' + 1) c (rowC f xs) 0 e (s' + 1) = hset h b (.was (rowC f xs) c 0 e (s' + 1)) := by
      have q1 : Nat.ble 1 xs.length = true := by rw [Nat.ble_eq]; exact h1
      have q2 : Nat.beq (xs.length * (s' + 1)) (rowC f xs).length = true := by rw [hl]; exact Nat.beq_refl _
      simp only [wasH, q1, q2, Nat.beq_refl, Bool.and_self]
    rw [h3, ← rowC_append, hw, hh]

theorem eqV0_refl {a : Value} (h : scal a = true) : eqV0 a a = true := by
  cases a with
  | bool b => cases b <;> rfl
  | _ => simp_all [scal, eqV0]

theorem eqVs0_refl : ∀ {l : List Value}, l.all scal = true → eqVs0 l l = true
  | [], _ => rfl
  | a :: l, h => by
    simp only [List.all_cons, Bool.and_eq_true] at h
    simp only [eqVs0, eqV0_refl h.1, eqVs0_refl h.2, Bool.and_self]

theorem eqV_refl {a : Value} (h : flt a = true) : eqV a a = true := by
  unfold flt at h
  split at h
  · rename_i b; exact eqV0_refl (a := .bool b) (by rfl)
  · rename_i k n; exact eqV0_refl (a := .int k n) (by rfl)
  · rename_i s; exact eqV0_refl (a := .string s) (by rfl)
  · simp only [eqV, eqVs0_refl h, decide_true, Bool.and_self]
  · cases h

theorem eqVs_refl : ∀ {l : List Value}, l.all flt = true → eqVs l l = true
  | [], _ => rfl
  | a :: l, h => by
    simp only [List.all_cons, Bool.and_eq_true] at h
    simp only [eqVs, eqV_refl h.1, eqVs_refl h.2, Bool.and_self]

theorem XQ.backR {E : Env} {nt k : Nat} {code : Code} {α : Type} {f : α → List Value} {s : Nat} (hf : Enc f s) (hs1 : Nat.ble 1 s = true) (i j : Nat) {xs ys : List α} {e : TypeId} {σ : St} {h h' : Heap} {c : Nat} {Q : QP}
    (hi : hget h i = some (.was (rowC f xs) j 0 e s)) (hj : hget h j = some (.cells (rowC f (xs ++ ys)) 0 e s)) (hh : hset (hdel h j) i (.cells (rowC f xs) 0 e s) = h') (hx : XQ E nt k code σ h' c Q) : XQ E nt k code σ h c Q := by
  have hb : backH h i = h' := by
    rw [← hh]
    have b1 : Nat.beq e e = true := Nat.beq_refl e
    have b2 : Nat.beq s s = true := Nat.beq_refl s
    have b3 : (rowC f (xs ++ ys)).take (rowC f xs).length = rowC f xs := by rw [rowC_append, List.take_left]
    simp only [backH, hi, hj, b1, b2, hs1, b3, eqVs_refl (rowC_scal hf xs), Bool.and_self]
    rfl
  intro B ρ a w h1 h2 h3 h4 h5 h6 h7
  subst hb
  exact hx B ρ a w h1 (h2.backH i) h3 h4 h5 h6 h7

/-! ### Regions that draw: every order, one operation at a time -/
theorem Oper.wp_two {P : Program} {o : Oper} {a : Act} {w : World} {K K' : Act → World → Prop} {Q Q' : Exit → Act → World → Prop} (h : ∀ a w, K a w → K' a w) (hp : ∀ c a w, Q (.panic c) a w → Q' (.panic c) a w) (ho : LetsOut Q → LetsOut Q')
    (hh : o.wp P a w K Q) : o.wp P a w K' Q' := by
  unfold Oper.wp at *
  generalize (execOp a.eval o).run P w = r at *
  cases r with
  | ok n w' =>
    cases n with
    | value v => exact h _ _ hh
    | skip => exact h _ _ hh
    | defer d => exact h _ _ hh
    | enter f args =>
      refine Calls.mono hh ?_
      intro e w'' he
      cases e with
      | returned v => exact h _ _ he
      | panicked c => exact hp _ _ _ he
      | outgrown => exact ho he
    | row r args => exact Rows.mono hh (fun v w'' he => h _ _ he)
    | _ => exact hh
  | halt c w' =>
    cases c with
    | panic v => exact hp _ _ _ hh
    | _ => exact hh

theorem wpAny_mono2 {P : Program} {md : Region.Mode} {ops : Array Oper} {Q Q' : Exit → Act → World → Prop} (h : ∀ e a w, Q e a w → Q' e a w) : ∀ (g : Nat) (listed : Array Bool) (a : Act) (w : World), wpAny P md ops Q g listed a w → wpAny P md ops Q' g listed a w
  | 0, listed, a, w, hh => ⟨hh.1, h _ _ _ hh.2⟩
  | g + 1, listed, a, w, hh => by
    refine ⟨fun h0 => h _ _ _ (hh.1 h0), fun i hi => ?_⟩
    have hi2 := hh.2 i hi
    unfold wpOp at hi2 ⊢
    split
    · rename_i hn
      simp only [hn] at hi2
      exact wpAny_mono2 h g _ _ _ hi2
    · rename_i o ho
      simp only [ho] at hi2
      split
      · rename_i hw
        rw [if_pos hw] at hi2
        rcases hi2 with q | ⟨q, a', w', q2⟩
        · exact .inl (Oper.wp_two (fun a w => wpAny_mono2 h g _ a w) (fun c a w => h _ a w) (fun ⟨a, w, q⟩ => ⟨a, w, h _ _ _ q⟩) q)
        · exact .inr ⟨q, a', w', h _ _ _ q2⟩
      · rename_i hw
        rw [if_neg hw] at hi2
        exact wpAny_mono2 h g _ _ _ hi2

def XA (E : Env) (nt k : Nat) (ops : Array Oper) (g : Nat) (listed : Array Bool) (σ : St) (h : Heap) (c : Nat) (Q : QP) : Prop :=
  ∀ (B : Bd) (ρ : Rho) (a : Act) (w : World), SRel ρ nt σ a → HRel B ρ h w → ρ.length = c → B.n ≤ w.heap.size → B.ge E.G → E.inv w →
    ∀ (ρ0 : Rho) (w0 : World) (ds : List Deferred), Keeps k ρ0 ρ → Bel B w0 w → a.defers = ds → wpAny E.P .any ops (After k B nt ρ0 w0 ds Q) g listed a w

theorem XA.done {E : Env} {nt k : Nat} {ops : Array Oper} {listed : Array Bool} (hr : (Region.ready .any ops listed).isEmpty = true) {σ : St} {h : Heap} {c : Nat} {Q : QP} (hq : Q .normal σ h c) : XA E nt k ops 0 listed σ h c Q := by
  intro B ρ a w h1 h2 h3 h4 h5 h6 ρ0 w0 ds h7 h8 h9
  exact ⟨List.isEmpty_iff.1 hr, .normal, σ, h, c, ρ, rfl, h9, h1, h2, h3, h7, h8, hq⟩

theorem XA.ren {E : Env} {nt k : Nat} {ops : Array Oper} {g : Nat} {listed : Array Bool} (s : List Nat) (hn : s.Nodup) (hk : s.take k = List.range k) {σ σ' : St} {h h' : Heap} {c c' : Nat} {Q : QP} (hσ : SubS s σ σ') (hh : RenH s h h') (hc : s.length = c')
    (hx : XA E nt k ops g listed σ' h' c' Q) : XA E nt k ops g listed σ h c Q := by
  intro B ρ a w h1 h2 h3 h4 h5 h6 ρ0 w0 ds h7 h8 h9
  exact hx B (renR s ρ) a w (h1.ren hσ) (h2.ren hn hh) (by simpa [renR] using hc) h4 h5 h6 ρ0 w0 ds (h7.trans (Keeps.ren h7.le hk)) h8 h9

theorem XA.conv {E : Env} {nt k : Nat} {ops : Array Oper} {g : Nat} {listed : Array Bool} {σ σ' : St} {h h' : Heap} {c c' : Nat} {Q : QP} (hx : XA E nt k ops g listed σ' h' c' Q) (e : (σ, h, c) = (σ', h', c')) : XA E nt k ops g listed σ h c Q := by cases e; exact hx

def AllJ : List Nat → (Nat → Prop) → Prop
  | [], _ => True
  | j :: l, p => p j ∧ AllJ l p

theorem AllJ.mem {p : Nat → Prop} : ∀ {l : List Nat}, AllJ l p → ∀ j ∈ l, p j
  | _ :: l, h, j, hj => by
    rcases List.mem_cons.1 hj with rfl | hj
    · exact h.1
    · exact AllJ.mem h.2 j hj

theorem XA.step {E : Env} (hE : E.Ok) {nt k : Nat} {ops : Array Oper} {g : Nat} {listed : Array Bool} (js : List Nat) (hr : Region.ready .any ops listed = js) (hn : js.isEmpty = false) (hf : freeOf ops.toList = true) {σ : St} {h : Heap} {c : Nat} {Q : QP}
    (hx : AllJ js fun j => XR E nt k (reOps ops [j]) 0 σ h c (fun e σ' h' c' => e = .normal ∧ XA E nt k ops g (listed.setIfInBounds j true) σ' h' c' Q)) : XA E nt k ops (g + 1) listed σ h c Q := by
  intro B ρ a w h1 h2 h3 h4 h5 h6 ρ0 w0 ds h7 h8 h9
  subst hr
  refine ⟨fun h0 => (by rw [h0] at hn; cases hn), fun j hj => ?_⟩
  obtain ⟨_, o, ho, _⟩ := mem_ready.1 hj
  have hxj := hx.mem j hj B ρ a w h1 h2 h3 h4 h5 h6 ρ w ds ⟨h7.le, fun _ _ => rfl⟩ (Bel.refl B w) h9
  have hoj : ops.toList[j]? = some o := by simpa using ho
  have hfo : o.guard.isNone = true := by
    have := List.all_eq_true.1 hf o (List.mem_of_getElem? hoj)
    exact this
  have hl : (reOps ops [j]).toList.drop 0 = [o] := by simp [reOps, opsAt, ho]
  rw [hl] at hxj
  unfold wpOp
  simp only [ho]
  rw [if_pos (free_wanted hfo _)]
  unfold wpList at hxj
  rw [if_pos (free_wanted hfo _)] at hxj
  have np : ∀ c a' w', ¬ After k B nt ρ w ds (fun e σ' h' c' => e = .normal ∧ XA E nt k ops g (listed.setIfInBounds j true) σ' h' c' Q) (.panic c) a' w' := by
    rintro c a' w' ⟨e, _, _, _, _, q, _, _, _, _, _, _, rfl, _⟩
    cases q
  have no : ¬ LetsOut (After k B nt ρ w ds (fun e σ' h' c' => e = .normal ∧ XA E nt k ops g (listed.setIfInBounds j true) σ' h' c' Q)) := by
    rintro ⟨a, w, e, _, _, _, _, q, _, _, _, _, _, _, rfl, _⟩
    cases q
  rcases hxj with hxj | ⟨_, hxj⟩
  · refine .inl (Oper.wp_two ?_ (fun c a w q => absurd q (np c a w)) (fun q => absurd q no) hxj)
    rintro a' w' ⟨e, σ', h', c', ρ', _, d1, s1, s2, s3, s4, s5, rfl, s6⟩
    exact s6 B ρ' a' w' s1 s2 s3 (Nat.le_trans h4 s5.size) h5 (hE.keep h5 h6 s5) ρ0 w0 ds (h7.trans s4) (h8.trans s5) d1
  · exact absurd hxj no

theorem XQ.anyC {E : Env} (hE : E.Ok) {nt k : Nat} {code : Code} (hs : drawOf code = some true) {g : Nat} (hg : (opsOf code).size = g) {σ σ' : St} {h h' : Heap} {c c' : Nat} {Q : QP} (hq : Q .normal σ' h' c')
    (hx : XA E nt k (opsOf code) g (Array.replicate g false) σ h c (fun e σ1 h1 c1 => e = .normal ∧ (σ1, h1, c1) = (σ', h', c'))) : XQ E nt k code σ h c Q := by
  cases code with
  | region id ops d =>
    cases hs
    subst hg
    intro B ρ a w h1 h2 h3 h4 h5 h6 h7
    have hb := drew_below w
    have hhd : HRel B ρ h w.drew := h2.keepB hb
    have hId : E.inv w.drew := hE.keepN (Nat.le_trans h5.1 h4) h6 hb
    refine wp_region_any hE.mixed ?_
    have key := hx B ρ a w.drew h1 hhd h3 h4 h5 hId ρ w a.defers ⟨h7, fun _ _ => rfl⟩ ((Bel.refl B w).drew) rfl
    refine wpAny_mono2 ?_ _ _ _ _ key
    rintro e' a' w' ⟨e, σ1, h1', c1, ρ', q1, q2, q3, q4, q5, q6, q7, rfl, q9⟩
    cases q9
    exact ⟨.normal, _, _, _, ρ', q1, q2, q3, q4, q5, q6, q7, hq⟩
  | _ => cases hs

/-- Operations that do not look at memory first; then every order of the others. -/
theorem XQ.preA {E : Env} (hE : E.Ok) {nt k : Nat} {code : Code} (p : List Nat) (hs : drawOf code = some true) {g : Nat} {listed : Array Bool} (hB : preB .any (opsOf code).toList.toArray p (Array.replicate (opsOf code).toList.toArray.size false) = some listed) (hsel : Region.noSelect (opsOf code).toList.toArray = true)
    (hlt : p.all (fun i => Nat.blt i (opsOf code).toList.toArray.size) = true) (hg : Nat.beq (p.length + g) (opsOf code).toList.toArray.size = true) (hf : freeOf (opsOf code).toList = true) {σ σ' : St} {h h' : Heap} {c c' : Nat} {Q : QP} (hq : Q .normal σ' h' c')
    (hx : XP E nt (reOps (opsOf code) p) 0 σ (fun σ2 => XA E nt k (opsOf code) g listed σ2 h c (fun e σ1 h1 c1 => e = .normal ∧ (σ1, h1, c1) = (σ', h', c')))) : XQ E nt k code σ h c Q := by
  cases code with
  | region id ops d =>
    cases hs
    have hf : freeOf ops.toList = true := hf
    have hB : preB .any ops.toList.toArray p (Array.replicate ops.toList.toArray.size false) = some listed := hB
    have harr : ops.toList.toArray = ops := by simp
    have hsel : Region.noSelect ops.toList.toArray = true := hsel
    have hg : Nat.beq (p.length + g) ops.toList.toArray.size = true := hg
    have hlt : p.all (fun i => Nat.blt i ops.toList.toArray.size) = true := hlt
    intro B ρ a w h1 h2 h3 h4 h5 h6 h7
    have hb := drew_below w
    have hhd : HRel B ρ h w.drew := h2.keepB hb
    have hId : E.inv w.drew := hE.keepN (Nat.le_trans h5.1 h4) h6 hb
    refine wp_region_any hE.mixed ?_
    have hlt' : ∀ i ∈ p, i < ops.toList.length := fun i hi => by
      have := List.all_eq_true.1 hlt i hi
      simpa [Nat.blt_eq] using this
    have hps := Nat.eq_of_beq_eq_true hg
    have key := hx ρ a h1 a.defers rfl
    have key2 : wpPure E.P ops.toList.toArray (fun a' => wpAny E.P .any ops.toList.toArray (After k B nt ρ w a.defers Q) g listed a' w.drew) (opsAt ops.toList p) a := by
      refine wpPure_other ?_ (opsAt ops.toList p) (opsAt_free hf _) a key
      rintro a' ⟨σ2, d1, s1, q1⟩
      have q2 := q1 B ρ a' w.drew s1 hhd h3 h4 h5 hId ρ w a.defers ⟨h7, fun _ _ => rfl⟩ ((Bel.refl B w).drew) d1
      rw [harr]
      refine wpAny_mono2 ?_ _ _ _ _ q2
      rintro e' a' w' ⟨e, σ1, h1', c1, ρ', q1, q2, q3, q4, q5, q6, q7, rfl, q9⟩
      cases q9
      exact ⟨.normal, _, _, _, ρ', q1, q2, q3, q4, q5, q6, q7, hq⟩
    have fin := pre_lex (P := E.P) (md := .any) (ops := ops.toList.toArray) (fun cc a w ⟨e, _, _, _, _, q, _⟩ => by cases e <;> cases q) hsel p (T := []) (opsAt ops.toList p) (Array.replicate ops.toList.toArray.size false) listed a (w := w.drew) (g := g) (Q := After k B nt ρ w a.defers Q) (opsAt_map _ hlt') (fun _ _ q => by cases q) ⟨by simp, fun j oj _ hl => (by rw [getD_replicate_false] at hl; cases hl), fun t ht => by cases ht⟩ hB (wpPure_mono (fun a h _ => h) _ _ key2)
    rw [hps, harr] at fin
    exact fin
  | _ => cases hs

/-- Calls are worth the same where append keeps what was. -/
theorem KC.keep {E : Env} {K : Nat} {args : List Value} {h : Heap} {c : Nat} {R : Value → Heap → Nat → Prop} (hx : KC E K args h c R) : KC (keepEnv E) K args h c R := hx
theorem KC.unkeep {E : Env} {K : Nat} {args : List Value} {h : Heap} {c : Nat} {R : Value → Heap → Nat → Prop} (hx : KC (keepEnv E) K args h c R) : KC E K args h c R := hx

end Go.Xm
