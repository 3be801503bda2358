/- Heaps: checks, crowds, and the reference's search for a crowded span, as plain laws about their Lean functions. Conditions: none. -/
import Derived.Test.YtfdeihnkoaihfaaBe
import Derived.Test.YtfdeihnkoaihfaaEb
namespace Go.Xm
set_option linter.unusedVariables false
set_option linter.unusedSimpArgs false
set_option maxRecDepth 20000

theorem getDi (l : List Hp) {i : Nat} (hi : i < l.length) : List.getD l (Int.toNat (i : Int)) (0, 0) = l[i] := by simp [hi]
theorem getDz (l : List Int) {i : Nat} (hi : i < l.length) : List.getD l (Int.toNat (i : Int)) 0 = l[i] := by simp [hi]

/-! ### Checks -/
def chkL : List Hp → Int
  | [] => 0
  | h :: l => if ¬ (0 ≤ h.1 ∧ h.1 ≤ 23) then 1 else if ¬ (0 ≤ h.2 ∧ h.2 ≤ 23) then 1 else if h.1 > h.2 then 7 else chkL l

def chk (l : List Hp) : Int := if l.length > 10 then 3 else chkL l

def hnd (l : List Hp) (b : Int) : Int := if chk l = 0 then (if 1 ≤ b ∧ b ≤ 10 then 0 else 1) else chk l

theorem chkL_ok : ∀ {l : List Hp}, chkL l = 0 → OkL l
  | [], _ => fun h hh => by cases hh
  | h :: l, hc => by
    unfold chkL at hc
    split at hc
    · cases hc
    · rename_i e1
      split at hc
      · cases hc
      · rename_i e2
        split at hc
        · cases hc
        · rename_i e3
          intro x hx
          rcases List.mem_cons.1 hx with rfl | hx
          · omega
          · exact chkL_ok hc x hx

theorem chk_ok {l : List Hp} (h : chk l = 0) : OkL l ∧ l.length ≤ 10 := by
  unfold chk at h
  split at h
  · cases h
  · rename_i e
    exact ⟨chkL_ok h, by omega⟩

theorem hnd_ok {l : List Hp} {b : Int} (h : hnd l b = 0) : OkL l ∧ l.length ≤ 10 ∧ 1 ≤ b ∧ b ≤ 10 := by
  unfold hnd at h
  split at h
  · rename_i e
    split at h
    · rename_i e2
      exact ⟨(chk_ok e).1, (chk_ok e).2, e2⟩
    · cases h
  · rename_i e
    exact absurd h e

def ofC23 (v : Int) : Of23_1 := if v = 0 then .x0 else .r v
def ofC24 (v : Int) : Of24_1 := if v = 0 then .x0 else .r v

theorem f23_1_eq (m : Nat) (l : List Hp) (h10 : l.length ≤ 1000) :
    ∀ (r i fuel : Nat), i + r = l.length → r < fuel → f23_1 m fuel l ((l.length : Nat) : Int) (i : Int) = some (ofC23 (chkL (l.drop i)))
  | 0, i, fuel + 1, hr, hf => by
    rw [f23_1, dcF (p := (i : Int) < ((l.length : Nat) : Int)) (by omega), List.drop_eq_nil_of_le (by omega)]
    rfl
  | r + 1, i, fuel + 1, hr, hf => by
    have hi : i < l.length := by omega
    rw [f23_1, dcT (p := (i : Int) < ((l.length : Nat) : Int)) (by omega), inR hi, getDi l hi, f64_eq, f64_eq, nat_succ i (by omega), List.drop_eq_getElem_cons hi]
    unfold chkL
    by_cases e1 : 0 ≤ (l[i]).1 ∧ (l[i]).1 ≤ 23
    · rw [dcT e1, if_neg (fun q => q e1)]
      by_cases e2 : 0 ≤ (l[i]).2 ∧ (l[i]).2 ≤ 23
      · rw [dcT e2, if_neg (fun q => q e2)]
        by_cases e3 : (l[i]).1 > (l[i]).2
        · rw [dcT e3, if_pos e3]; rfl
        · rw [dcF e3, if_neg e3]
          exact f23_1_eq m l h10 r (i + 1) fuel (by omega) (by omega)
      · rw [dcF e2, if_pos e2]; rfl
    · rw [dcF e1, if_pos e1]; rfl

theorem f23_eq (m : Nat) (hm : 1001 ≤ m) (l : List Hp) (hl : l.length ≤ 1000) : f23 m l = some (chk l) := by
  unfold f23 chk
  by_cases e : l.length > 10
  · rw [dcT (p := ((l.length : Nat) : Int) > 10) (by omega), if_pos e]; rfl
  · rw [dcF (p := ((l.length : Nat) : Int) > 10) (by omega), if_neg e]
    show (f23_1 m m l _ ((0 : Nat) : Int)).bind _ = _
    rw [f23_1_eq m l hl l.length 0 m (by omega) (by omega), List.drop_zero]
    show (match ofC23 (chkL l) with | .r v => some v | .x0 => some 0) = _
    unfold ofC23
    split
    · rename_i v hv
      split at hv
      · cases hv
      · cases hv; rfl
    · rename_i hv
      split at hv
      · rename_i e0; rw [e0]
      · cases hv

theorem f57_eq (m : Nat) (hm : 1001 ≤ m) (l : List Hp) (hl : l.length ≤ 1000) (b : Int) : f57 m l b = some (hnd l b) := by
  unfold f57 hnd
  rw [f23_eq m hm l hl, f64_eq]
  show cond (chk l == 0) ((some _).bind _) _ = _
  by_cases e : chk l = 0
  · rw [e, if_pos rfl]
    show some (cond (!decide (1 ≤ b ∧ b ≤ 10)) 1 0) = _
    by_cases e2 : 1 ≤ b ∧ b ≤ 10
    · rw [dcT e2, if_pos e2]; rfl
    · rw [dcF e2, if_neg e2]; rfl
  · have : (chk l == 0) = false := by simp [e]
    rw [this, if_neg e]
    rfl

theorem f63_eq (m : Nat) (a b c : Int) : f63 m a b c = some (decide (b ≤ a ∧ a ≤ c)) := by
  unfold f63
  by_cases h : b ≤ a
  · rw [dcT (p := a ≥ b) h]; simp [h]
  · rw [dcF (p := a ≥ b) h]; simp [h]

theorem f24_1_eq (m : Nat) (l : List Hp) (h10 : l.length ≤ 1000) :
    ∀ (r i fuel : Nat), i + r = l.length → r < fuel → f24_1 m fuel l (i : Int) = some (ofC24 (chkL (l.drop i)))
  | 0, i, fuel + 1, hr, hf => by
    rw [f24_1, dcF (p := (i : Int) < ((l.length : Nat) : Int)) (by omega), List.drop_eq_nil_of_le (by omega)]
    rfl
  | r + 1, i, fuel + 1, hr, hf => by
    have hi : i < l.length := by omega
    rw [f24_1, dcT (p := (i : Int) < ((l.length : Nat) : Int)) (by omega), inR hi, getDi l hi, f63_eq, f63_eq, nat_succ i (by omega), List.drop_eq_getElem_cons hi]
    unfold chkL
    by_cases e1 : 0 ≤ (l[i]).1 ∧ (l[i]).1 ≤ 23
    · rw [dcT e1, if_neg (fun q => q e1)]
      by_cases e2 : 0 ≤ (l[i]).2 ∧ (l[i]).2 ≤ 23
      · rw [dcT e2, if_neg (fun q => q e2)]
        by_cases e3 : (l[i]).1 > (l[i]).2
        · rw [dcT e3, if_pos e3]; rfl
        · rw [dcF e3, if_neg e3]
          exact f24_1_eq m l h10 r (i + 1) fuel (by omega) (by omega)
      · rw [dcF e2, if_pos e2]; rfl
    · rw [dcF e1, if_pos e1]; rfl

theorem f24_eq (m : Nat) (hm : 1001 ≤ m) (l : List Hp) (hl : l.length ≤ 1000) : f24 m l = some (chk l) := by
  unfold f24 chk
  by_cases e : l.length > 10
  · rw [dcT (p := ((l.length : Nat) : Int) > 10) (by omega), if_pos e]; rfl
  · rw [dcF (p := ((l.length : Nat) : Int) > 10) (by omega), if_neg e]
    show (f24_1 m m l ((0 : Nat) : Int)).bind _ = _
    rw [f24_1_eq m l hl l.length 0 m (by omega) (by omega), List.drop_zero]
    show (match ofC24 (chkL l) with | .r v => some v | .x0 => some 0) = _
    unfold ofC24
    split
    · rename_i v hv
      split at hv
      · cases hv
      · cases hv; rfl
    · rename_i hv
      split at hv
      · rename_i e0; rw [e0]
      · cases hv

theorem f59_eq (m : Nat) (hm : 1001 ≤ m) (l : List Hp) (hl : l.length ≤ 1000) (b : Int) : f59 m l b = some (hnd l b) := by
  unfold f59 hnd
  rw [f24_eq m hm l hl, f63_eq]
  show cond (chk l == 0) ((some _).bind _) _ = _
  by_cases e : chk l = 0
  · rw [e, if_pos rfl]
    show some (cond (!decide (1 ≤ b ∧ b ≤ 10)) 1 0) = _
    by_cases e2 : 1 ≤ b ∧ b ≤ 10
    · rw [dcT e2, if_pos e2]; rfl
    · rw [dcF e2, if_neg e2]; rfl
  · have : (chk l == 0) = false := by simp [e]
    rw [this, if_neg e]
    rfl

/-! ### Crowds -/
theorem crw_cons (h : Hp) (l : List Hp) (a b : Int) : crw (h :: l) a b = crw l a b + (if a ≤ h.1 ∧ h.2 ≤ b then 1 else 0) := by
  unfold crw
  rw [List.countP_cons]
  congr 1
  by_cases e : a ≤ h.1 ∧ h.2 ≤ b
  · rw [if_pos e, if_pos (by simp [e])]
  · rw [if_neg e, if_neg (by simpa using e)]

theorem crw_le (l : List Hp) (a b : Int) : crw l a b ≤ l.length := List.countP_le_length

theorem f66_1_eq (m : Nat) (l : List Hp) (h10 : l.length ≤ 1000) (b c : Int) :
    ∀ (r i fuel n : Nat), i + r = l.length → r < fuel → n ≤ i → f66_1 m fuel l b c (n : Int) (i : Int) = some (((n + crw (l.drop i) b c : Nat) : Int))
  | 0, i, fuel + 1, n, hr, hf, hn => by
    rw [f66_1, dcF (p := (i : Int) < ((l.length : Nat) : Int)) (by omega), List.drop_eq_nil_of_le (by omega)]
    rfl
  | r + 1, i, fuel + 1, n, hr, hf, hn => by
    have hi : i < l.length := by omega
    rw [f66_1, dcT (p := (i : Int) < ((l.length : Nat) : Int)) (by omega), inR hi, getDi l hi, nat_succ i (by omega), nat_succ n (by omega), List.drop_eq_getElem_cons hi, crw_cons]
    by_cases e1 : (l[i]).1 ≥ b
    · rw [dcT e1]
      by_cases e2 : (l[i]).2 ≤ c
      · rw [dcT e2, if_pos ⟨e1, e2⟩]
        show f66_1 m fuel l b c ((n + 1 : Nat) : Int) ((i + 1 : Nat) : Int) = _
        rw [f66_1_eq m l h10 b c r (i + 1) fuel (n + 1) (by omega) (by omega) (by omega)]
        congr 2; omega
      · rw [dcF e2, if_neg (fun q => e2 q.2)]
        exact f66_1_eq m l h10 b c r (i + 1) fuel n (by omega) (by omega) (by omega)
    · rw [dcF e1, if_neg (fun q => e1 q.1)]
      exact f66_1_eq m l h10 b c r (i + 1) fuel n (by omega) (by omega) (by omega)

theorem f66_eq (m : Nat) (hm : 1001 ≤ m) (l : List Hp) (hl : l.length ≤ 1000) (b c : Int) : f66 m l b c = some ((crw l b c : Nat) : Int) := by
  unfold f66
  show (f66_1 m m l b c ((0 : Nat) : Int) ((0 : Nat) : Int)).bind _ = _
  rw [f66_1_eq m l hl b c l.length 0 m 0 (by omega) (by omega) (by omega), List.drop_zero, Nat.zero_add]
  rfl

/-! ### The first crowded span -/
def Crd (k : Int) (l : List Hp) (f t : Int) : Prop := ((crw l f t : Nat) : Int) > k * (t - f + 1)
instance (k : Int) (l : List Hp) (f t : Int) : Decidable (Crd k l f t) := by unfold Crd; infer_instance

/-- The first end of a span that begins at f, from t on, that is crowded. -/
def whyT (k : Int) (l : List Hp) (f : Int) : Nat → Int → Option Int
  | 0, _ => none
  | d + 1, t => if Crd k l f t then some t else whyT k l f d (t + 1)

def whyF (k : Int) (l : List Hp) : Nat → Int → Option (Int × Int)
  | 0, _ => none
  | d + 1, f => match whyT k l f (d + 1) f with
    | some t => some (f, t)
    | none => whyF k l d (f + 1)

theorem whyT_none {k : Int} {l : List Hp} {f : Int} : ∀ {d : Nat} {t : Int}, whyT k l f d t = none ↔ ∀ u, t ≤ u → u < t + d → ¬ Crd k l f u
  | 0, t => ⟨fun _ u h1 h2 => by omega, fun _ => rfl⟩
  | d + 1, t => by
    unfold whyT
    split
    · rename_i e
      simp only [reduceCtorEq, false_iff]
      intro h
      exact h t (by omega) (by omega) e
    · rename_i e
      rw [whyT_none]
      constructor
      · intro h u h1 h2
        by_cases eu : u = t
        · subst eu; exact e
        · exact h u (by omega) (by omega)
      · intro h u h1 h2
        exact h u (by omega) (by omega)

theorem whyT_some {k : Int} {l : List Hp} {f : Int} : ∀ {d : Nat} {t r : Int}, whyT k l f d t = some r → t ≤ r ∧ r < t + d ∧ Crd k l f r ∧ ∀ u, t ≤ u → u < r → ¬ Crd k l f u
  | 0, t, r, h => by cases h
  | d + 1, t, r, h => by
    unfold whyT at h
    split at h
    · rename_i e
      cases h
      exact ⟨by omega, by omega, e, fun u h1 h2 => by omega⟩
    · rename_i e
      obtain ⟨h1, h2, h3, h4⟩ := whyT_some h
      refine ⟨by omega, by omega, h3, fun u u1 u2 => ?_⟩
      by_cases eu : u = t
      · subst eu; exact e
      · exact h4 u (by omega) u2

theorem whyF_none {k : Int} {l : List Hp} : ∀ {d : Nat} {f : Int}, (f + d = 24) → (whyF k l d f = none ↔ ∀ g u, f ≤ g → g ≤ u → u ≤ 23 → ¬ Crd k l g u)
  | 0, f, hd => ⟨fun _ g u h1 h2 h3 => by omega, fun _ => rfl⟩
  | d + 1, f, hd => by
    unfold whyF
    split
    · rename_i t ht
      simp only [reduceCtorEq, false_iff]
      intro h
      obtain ⟨h1, h2, h3, _⟩ := whyT_some ht
      exact h f t (by omega) (by omega) (by omega) h3
    · rename_i ht
      rw [whyF_none (by omega)]
      rw [whyT_none] at ht
      constructor
      · intro h g u h1 h2 h3
        by_cases eg : g = f
        · subst eg; exact ht u (by omega) (by omega)
        · exact h g u (by omega) h2 h3
      · intro h g u h1 h2 h3
        exact h g u (by omega) h2 h3

theorem whyF_some {k : Int} {l : List Hp} : ∀ {d : Nat} {f a b : Int}, (f + d = 24) → whyF k l d f = some (a, b) → f ≤ a ∧ a ≤ b ∧ b ≤ 23 ∧ Crd k l a b ∧ (∀ u, a ≤ u → u < b → ¬ Crd k l a u) ∧ ∀ g u, f ≤ g → g < a → g ≤ u → u ≤ 23 → ¬ Crd k l g u
  | 0, f, a, b, _, h => by cases h
  | d + 1, f, a, b, hd, h => by
    unfold whyF at h
    split at h
    · rename_i t ht
      cases h
      obtain ⟨h1, h2, h3, h4⟩ := whyT_some ht
      exact ⟨by omega, by omega, by omega, h3, h4, fun g u g1 g2 => by omega⟩
    · rename_i ht
      rw [whyT_none] at ht
      obtain ⟨h1, h2, h3, h4, h5, h6⟩ := whyF_some (by omega) h
      refine ⟨by omega, h2, h3, h4, h5, fun g u g1 g2 g3 g4 => ?_⟩
      by_cases eg : g = f
      · subst eg; exact ht u (by omega) (by omega)
      · exact h6 g u (by omega) g2 g3 g4

theorem fits_crd {k : Nat} {l : List Hp} : Fits k l ↔ ∀ g u : Int, 0 ≤ g → g ≤ u → u ≤ 23 → ¬ Crd k l g u := by
  unfold Fits Crd
  constructor
  · intro h g u h1 h2 h3
    have := h g u h1 h2 h3
    omega
  · intro h g u h1 h2 h3
    have := h g u h1 h2 h3
    omega

theorem whyF_fits {k : Nat} {l : List Hp} : whyF k l 24 0 = none ↔ Fits k l := by rw [whyF_none (by rfl), fits_crd]

theorem mulB {k x : Int} (h1 : 0 ≤ k) (h2 : k ≤ 1000) (h3 : 0 ≤ x) (h4 : x ≤ 1000) : 0 ≤ k * x ∧ k * x ≤ 1000000 := by
  refine ⟨Int.mul_nonneg h1 h3, ?_⟩
  exact Int.le_trans (Int.mul_le_mul h2 h4 h3 (by omega)) (by omega)

theorem crd_w {k : Int} (h1 : 0 ≤ k) (h2 : k ≤ 1000) {f t : Int} (hf : 0 ≤ f) (hft : f ≤ t) (ht : t ≤ 23) : w64 (k * (w64 ((w64 (t - f)) + 1))) = k * (t - f + 1) := by
  have := mulB h1 h2 (x := t - f + 1) (by omega) (by omega)
  rw [w64i (x := t - f) (by omega) (by omega), w64i (x := t - f + 1) (by omega) (by omega), w64i (by omega) (by omega)]

theorem f69_2_eq (m : Nat) (hm : 1001 ≤ m) (l : List Hp) (hl : l.length ≤ 1000) (k : Int) (h1 : 0 ≤ k) (h2 : k ≤ 1000) (f : Int) (hf : 0 ≤ f) : ∀ (d fuel : Nat) (t : Int), f ≤ t → t + d = 24 → d < fuel →
    f69_2 m fuel l k f t = some (match whyT k l f d t with | some u => .r u | none => .x2)
  | 0, fuel + 1, t, ht, hd, hfu => by
    rw [f69_2, dcF (p := t ≤ 23) (by omega)]
    rfl
  | d + 1, fuel + 1, t, ht, hd, hfu => by
    rw [f69_2, dcT (p := t ≤ 23) (by omega), f66_eq m hm l hl, crd_w h1 h2 hf ht (by omega), w64i (x := t + 1) (by omega) (by omega)]
    show cond (decide (Crd k l f t)) _ _ = _
    unfold whyT
    by_cases e : Crd k l f t
    · rw [dcT e, if_pos e]; rfl
    · rw [dcF e, if_neg e]
      exact f69_2_eq m hm l hl k h1 h2 f hf d fuel (t + 1) (by omega) (by omega) (by omega)

theorem f69_1_eq (m : Nat) (hm : 1001 ≤ m) (l : List Hp) (hl : l.length ≤ 1000) (k : Int) (h1 : 0 ≤ k) (h2 : k ≤ 1000) : ∀ (d fuel : Nat) (f : Int), 0 ≤ f → f + d = 24 → d < fuel →
    f69_1 m fuel l k f = some (match whyF k l d f with | some u => .r u.1 u.2 | none => .x0)
  | 0, fuel + 1, f, hf, hd, hfu => by
    rw [f69_1, dcF (p := f ≤ 23) (by omega)]
    rfl
  | d + 1, fuel + 1, f, hf, hd, hfu => by
    rw [f69_1, dcT (p := f ≤ 23) (by omega), f69_2_eq m hm l hl k h1 h2 f hf (d + 1) m f (by omega) (by omega) (by omega), w64i (x := f + 1) (by omega) (by omega)]
    unfold whyF
    cases hq : whyT k l f (d + 1) f with
    | some t => rfl
    | none => exact f69_1_eq m hm l hl k h1 h2 d fuel (f + 1) (by omega) (by omega) (by omega)

theorem f69_eq (m : Nat) (hm : 1001 ≤ m) (l : List Hp) (hl : l.length ≤ 1000) (k : Int) (h1 : 0 ≤ k) (h2 : k ≤ 1000) :
    f69 m l k = some (match whyF k l 24 0 with | some u => (u.1, u.2, true) | none => (0, 0, false)) := by
  unfold f69
  rw [f69_1_eq m hm l hl k h1 h2 24 m 0 (by omega) (by omega) (by omega)]
  cases whyF k l 24 0 <;> rfl

/-- PLANNED: no span is crowded. -/
theorem f60_eq (m : Nat) (hm : 1001 ≤ m) (l : List Hp) (hl : l.length ≤ 1000) (b : Int) (k : Nat) (hk : b = (k : Int)) (h2 : k ≤ 1000) : f60 m l b = some (fitsB' k l) := by
  subst hk
  unfold f60
  rw [f69_eq m hm l hl _ (by omega) (by omega)]
  show some (!(match whyF (k : Int) l 24 0 with | some u => (u.1, u.2, true) | none => (0, 0, false)).2.2) = _
  congr 1
  cases hw : whyF (k : Int) l 24 0 with
  | none =>
    have := fitsB'_iff.2 (whyF_fits.1 hw)
    rw [this]; rfl
  | some u =>
    have : fitsB' k l = false := by
      cases hb : fitsB' k l with
      | false => rfl
      | true =>
        have := whyF_fits.2 (fitsB'_iff.1 hb)
        rw [hw] at this; cases this
    rw [this]; rfl

end Go.Xm
