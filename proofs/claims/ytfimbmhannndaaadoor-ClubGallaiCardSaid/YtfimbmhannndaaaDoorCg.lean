/- ClubCan: both answers are the same, whatever the counts. Plain Lean. Conditions: none. -/
import Derived.Test.YtfimbmhannndaaaDoorCf
import Derived.Test.YtfimbmhannndaaaDoorDe
namespace Go.Xm
set_option linter.unusedVariables false
set_option linter.unusedSimpArgs false
set_option maxRecDepth 20000

theorem f65_eq (m : Nat) (a b c : Int) : f65 m a b c = some (decide (b ≤ a ∧ a ≤ c)) := by
  unfold f65
  by_cases h : b ≤ a
  · rw [dcT h]; simp [h]
  · rw [dcF h]; simp [h]
theorem f66_eq (m : Nat) (a b c : Int) : f66 m a b c = some (decide (b ≤ a ∧ a ≤ c)) := by
  unfold f66
  by_cases h : b ≤ a
  · rw [dcT (p := a ≥ b) h]; simp [h]
  · rw [dcF (p := a ≥ b) h]; simp [h]

/-- Is each count from number i on small enough. -/
def fit (n : Int) : List Int → Bool
  | [] => true
  | x :: l => decide (0 ≤ x ∧ x ≤ n - 1) && fit n l

theorem f21_1_eq (m : Nat) (a : List Int) (h8 : a.length ≤ 8) : ∀ (r i fuel : Nat), i + r = a.length → r < fuel →
    (fit (a.length : Int) (a.drop i) = true ∧ f21_1 m fuel a ((a.length : Nat) : Int) (i : Int) ((a.length : Nat) : Int) = some (.x0 ((a.length : Nat) : Int))) ∨ (fit (a.length : Int) (a.drop i) = false ∧ ∃ j : Nat, f21_1 m fuel a ((a.length : Nat) : Int) (i : Int) ((a.length : Nat) : Int) = some (.r (j : Int) ((a.length : Nat) : Int)))
  | 0, i, fuel + 1, hi, _ => by
    rw [f21_1, dcF (p := (i : Int) < ((a.length : Nat) : Int)) (by omega), List.drop_eq_nil_of_le (by omega)]
    exact .inl ⟨rfl, rfl⟩
  | r + 1, i, fuel + 1, hi, hf => by
    have hil : i < a.length := by omega
    rw [f21_1, dcT (p := (i : Int) < ((a.length : Nat) : Int)) (by omega), inR hil]
    have t : Int.toNat (i : Int) = i := rfl
    rw [t, w64i (by omega) (by omega), f65_eq, drop_getD hil, nat_succ _ (by omega)]
    unfold fit
    by_cases e : 0 ≤ a.getD i 0 ∧ a.getD i 0 ≤ ((a.length : Nat) : Int) - 1
    · rw [dcT e]
      rcases f21_1_eq m a h8 r (i + 1) fuel (by omega) (by omega) with ⟨q1, q2⟩ | ⟨q1, j, q2⟩
      · exact .inl ⟨by rw [q1]; rfl, q2⟩
      · exact .inr ⟨by rw [q1]; rfl, j, q2⟩
    · rw [dcF e]
      exact .inr ⟨rfl, i, rfl⟩

theorem f22_1_eq (m : Nat) (a : List Int) (h8 : a.length ≤ 8) : ∀ (r i fuel : Nat), i + r = a.length → r < fuel →
    f22_1 m fuel a (i : Int) = some (match fit (a.length : Int) (a.drop i) with | true => .x0 | false => .r)
  | 0, i, fuel + 1, hi, _ => by
    rw [f22_1, dcF (p := (i : Int) < ((a.length : Nat) : Int)) (by omega), List.drop_eq_nil_of_le (by omega)]
    rfl
  | r + 1, i, fuel + 1, hi, hf => by
    have hil : i < a.length := by omega
    rw [f22_1, dcT (p := (i : Int) < ((a.length : Nat) : Int)) (by omega), inR hil]
    have t : Int.toNat (i : Int) = i := rfl
    rw [t, w64i (by omega) (by omega), f66_eq, drop_getD hil, nat_succ _ (by omega)]
    unfold fit
    by_cases e : 0 ≤ a.getD i 0 ∧ a.getD i 0 ≤ ((a.length : Nat) : Int) - 1
    · rw [dcT e]
      have := f22_1_eq m a h8 r (i + 1) fuel (by omega) (by omega)
      exact this
    · rw [dcF e]
      rfl

def ckR (a : List Int) : Int := if a.length = 0 then 4 else if 8 < a.length then 3 else if fit a.length a = true then 0 else 1

theorem f21_eq (m : Nat) (hm : 1001 ≤ m) (a : List Int) (hl : a.length ≤ 1000) : f21 m a = some (ckR a) := by
  unfold f21 ckR
  by_cases h0 : a.length = 0
  · rw [if_pos h0, h0]; rfl
  · rw [if_neg h0]
    have e0 : (((a.length : Nat) : Int) == 0) = false := by simp; intro q; subst q; simp at h0
    rw [e0]
    by_cases h8 : 8 < a.length
    · rw [if_pos h8, dcT (p := ((a.length : Nat) : Int) > 8) (by omega)]; rfl
    · rw [if_neg h8, dcF (p := ((a.length : Nat) : Int) > 8) (by omega)]
      show ((f21_1 m m a ((a.length : Nat) : Int) 0 ((a.length : Nat) : Int)).bind _) = _
      rcases f21_1_eq m a (by omega) a.length 0 m (by omega) (by omega) with ⟨q1, q2⟩ | ⟨q1, j, q2⟩
      · have q2' : f21_1 m m a ((a.length : Nat) : Int) 0 ((a.length : Nat) : Int) = _ := q2
        rw [List.drop_zero] at q1
        rw [q2', if_pos q1]
        rfl
      · have q2' : f21_1 m m a ((a.length : Nat) : Int) 0 ((a.length : Nat) : Int) = _ := q2
        rw [List.drop_zero] at q1
        rw [q2', if_neg (by rw [q1]; simp)]
        show cond (decide ((j : Int) ≥ 0)) (some (1 : Int)) (some (0 : Int)) = some 1
        rw [dcT (p := (j : Int) ≥ 0) (by omega)]
        rfl

theorem f22_eq (m : Nat) (hm : 1001 ≤ m) (a : List Int) (hl : a.length ≤ 1000) : f22 m a = some (ckR a) := by
  unfold f22 ckR
  by_cases h0 : a.length = 0
  · rw [if_pos h0, h0]; rfl
  · rw [if_neg h0]
    have e0 : (((a.length : Nat) : Int) == 0) = false := by simp; intro q; subst q; simp at h0
    rw [e0]
    by_cases h8 : 8 < a.length
    · rw [if_pos h8, dcT (p := ((a.length : Nat) : Int) > 8) (by omega)]; rfl
    · rw [if_neg h8, dcF (p := ((a.length : Nat) : Int) > 8) (by omega)]
      have q2 := f22_1_eq m a (by omega) a.length 0 m (by omega) (by omega)
      have q2' : f22_1 m m a 0 = _ := q2
      show ((f22_1 m m a 0).bind _) = _
      rw [q2', List.drop_zero]
      cases fit (a.length : Int) a <;> rfl

theorem fit_all {n : Int} : ∀ {l : List Int}, fit n l = true → ∀ x ∈ l, 0 ≤ x ∧ x ≤ n - 1
  | y :: l, h, x, hx => by
    unfold fit at h
    rw [Bool.and_eq_true, decide_eq_true_eq] at h
    rcases List.mem_cons.1 hx with rfl | hx
    · exact h.1
    · exact fit_all h.2 x hx

theorem tabs {l : List Nat} (h1 : 1 ≤ l.length) (h8 : l.length ≤ 8) (hp : l.Pairwise (· ≥ ·)) (hx : ∀ x ∈ l, x < l.length) : chk l = true := by
  have key : ∀ n, n = l.length → l ∈ dls n n := fun n hn => mem_dls hn.symm hp (fun x hx' => by have := hx x hx'; omega)
  rcases (show l.length = 1 ∨ l.length = 2 ∨ l.length = 3 ∨ l.length = 4 ∨ l.length = 5 ∨ l.length = 6 ∨ l.length = 7 ∨ l.length = 8 by omega) with h | h | h | h | h | h | h | h
  · exact List.all_eq_true.1 tab1 l (key 1 h.symm)
  · exact List.all_eq_true.1 tab2 l (key 2 h.symm)
  · exact List.all_eq_true.1 tab3 l (key 3 h.symm)
  · exact List.all_eq_true.1 tab4 l (key 4 h.symm)
  · exact List.all_eq_true.1 tab5 l (key 5 h.symm)
  · exact List.all_eq_true.1 tab6 l (key 6 h.symm)
  · exact List.all_eq_true.1 tab7 l (key 7 h.symm)
  · exact List.all_eq_true.1 tab8 l (key 8 h.symm)

/-- What holds of counts that may be. -/
structure Good (m : Nat) (a : List Int) (l : List Nat) : Prop where
  cts : Cts a
  len : 1 ≤ a.length
  dsc : dsc a = toI l
  can : f59 m a = some (canN 8 l)
  chk : chk l = true

theorem good_of (m : Nat) (hm : 1001 ≤ m) {a : List Int} (h : ckR a = 0) : ∃ l, Good m a l := by
  unfold ckR at h
  by_cases h0 : a.length = 0
  · rw [if_pos h0] at h; omega
  · rw [if_neg h0] at h
    by_cases h8 : 8 < a.length
    · rw [if_pos h8] at h; omega
    · rw [if_neg h8] at h
      by_cases hf : fit a.length a = true
      · have hx := fit_all hf
        have hc : Cts a := ⟨by omega, fun x hx' => by have := hx x hx'; omega⟩
        obtain ⟨l, hl⟩ := nats_of (d := dsc a) (fun x hx' => (hc.dsc.2 x hx').1)
        have hll : l.length = a.length := by rw [← toI_len, ← hl, dsc_len]
        have hin : ∀ x ∈ l, x < l.length := fun x hx' => by
          have h1 : (x : Int) ∈ dsc a := by rw [hl]; exact List.mem_map.2 ⟨x, hx', rfl⟩
          have := hx _ ((dsc_perm a).mem_iff.1 h1)
          omega
        have hp : l.Pairwise (· ≥ ·) := by
          have h1 := dsc_pw a
          rw [hl] at h1
          have h2 := List.pairwise_map.1 h1
          exact h2.imp (fun {x y} q => by have q : (x : Int) ≥ (y : Int) := q; omega)
        exact ⟨l, hc, by omega, hl, f59_eq m hm a l hl (by omega) (fun x hx' => by have := hin x hx'; omega), tabs (by omega) (by omega) hp hin⟩
      · rw [if_neg hf] at h; omega

theorem tmod2 (n : Nat) : Int.tmod ((n : Nat) : Int) 2 = ((n % 2 : Nat) : Int) := rfl

theorem f60_eq (m : Nat) (hm : 1001 ≤ m) {a : List Int} {l : List Nat} (g : Good m a l) : f60 m a = some (canN 8 l) := by
  unfold f60
  have hw : whyD (dsc a) = ((fstN l l.length 1 0 : Nat) : Int) := by
    unfold whyD
    rw [g.dsc, toI_len]
    exact fstN_eq l 0 l.length 1
  rw [f63_eq m hm a g.cts, f64_eq m hm a g.cts, hw, g.dsc, smN_eq]
  have hc := g.chk
  unfold Xm.chk at hc
  show cond ((((smN l % 2 : Nat) : Int)) == 0) _ _ = _
  by_cases h1 : smN l % 2 = 0
  · rw [h1] at hc ⊢
    by_cases h2 : fstN l l.length 1 0 = 0
    · rw [h2] at hc ⊢
      have hc' : canN 8 l = true := hc
      rw [hc']; rfl
    · have e : Nat.beq (fstN l l.length 1 0) 0 = false := by
        cases hb : Nat.beq (fstN l l.length 1 0) 0 with
        | false => rfl
        | true => exact absurd (Nat.eq_of_beq_eq_true hb) h2
      rw [e] at hc
      have hc' : (!canN 8 l && _) = true := hc
      rw [Bool.and_eq_true, Bool.not_eq_true'] at hc'
      rw [hc'.1]
      show some (((fstN l l.length 1 0 : Nat) : Int) == 0) = some false
      rw [beq_eq_false_iff_ne.2 (by omega)]
  · have e : Nat.beq (smN l % 2) 0 = false := by
      cases hb : Nat.beq (smN l % 2) 0 with
      | false => rfl
      | true => exact absurd (Nat.eq_of_beq_eq_true hb) h1
    rw [e] at hc
    have hc' : (!canN 8 l && _) = true := hc
    rw [Bool.and_eq_true, Bool.not_eq_true'] at hc'
    rw [hc'.1, beq_eq_false_iff_ne.2 (show (((smN l % 2 : Nat)) : Int) ≠ 0 by omega)]
    rfl

def canR (m : Nat) (a : List Int) : Bool × Int := if ckR a = 0 then ((f59 m a).getD false, 0) else (false, ckR a)

theorem f15_eq (m : Nat) (hm : 1001 ≤ m) (a : List Int) (hl : a.length ≤ 1000) : f15 m a = some (canR m a) := by
  unfold f15 canR
  rw [f21_eq m hm a hl]
  by_cases h : ckR a = 0
  · obtain ⟨l, g⟩ := good_of m hm h
    rw [if_pos h, h, g.can]; rfl
  · rw [if_neg h]
    show cond (ckR a != 0) _ _ = _
    rw [bne_iff_ne.2 h]; rfl

theorem f16_eq (m : Nat) (hm : 1001 ≤ m) (a : List Int) (hl : a.length ≤ 1000) : f16 m a = some (canR m a) := by
  unfold f16 canR
  rw [f22_eq m hm a hl]
  by_cases h : ckR a = 0
  · obtain ⟨l, g⟩ := good_of m hm h
    rw [if_pos h, h, f60_eq m hm g, g.can]; rfl
  · rw [if_neg h]
    show cond (ckR a != 0) _ _ = _
    rw [bne_iff_ne.2 h]; rfl

theorem f17_18 (m : Nat) (hm : 1001 ≤ m) (a : List Int) (hl : a.length ≤ 1000) : ∃ r, f17 m a = some r ∧ f18 m a = some r := by
  unfold f17 f18
  rw [f21_eq m hm a hl, f22_eq m hm a hl]
  by_cases h : ckR a = 0
  · obtain ⟨l, g⟩ := good_of m hm h
    have ha8 := g.cts.1
    have hs : f17_1 m m a 0 ((a.length : Nat) : Int) 0 = some (((smN l : Nat)) : Int) := by
      rw [f17_1_eq]
      have h1 := f63_eq m hm a g.cts
      unfold f63 at h1
      cases h2 : f63_1 m m a 0 0 with
      | none => rw [h2] at h1; cases h1
      | some x =>
        rw [h2] at h1
        have h1' : some x = some (dsc a).sum := h1
        rw [h1', g.dsc, smN_eq]
    have hw : whyD (dsc a) = ((fstN l l.length 1 0 : Nat) : Int) := by
      unfold whyD
      rw [g.dsc, toI_len]
      exact fstN_eq l 0 l.length 1
    have hdl : (dsc a).length = l.length := by rw [g.dsc, toI_len]
    have hll : l.length = a.length := by rw [← hdl, dsc_len]
    have hq : f17_2 m m a 1 (dsc a) = some (((fstN l (l.length - 1) 1 l.length : Nat)) : Int) := by
      have h1 := f17_2_eq m hm a (dsc a) g.cts.dsc ((dsc a).length - 1) 1 m (by have := g.len; omega) (by omega)
      have h2 := fstN_eq l l.length (l.length - 1) 1
      rw [g.dsc, toI_len] at h1
      rw [g.dsc]
      exact h1.trans (congrArg some h2)
    rw [h, f60_eq m hm g, f63_eq m hm a g.cts, f64_eq m hm a g.cts, g.can, hs, f61_eq m hm a hl, hw]
    have hc := g.chk
    unfold Xm.chk at hc
    cases hcan : canN 8 l with
    | true => exact ⟨_, rfl, rfl⟩
    | false =>
      rw [hcan] at hc
      have e1 : (dsc a).sum = ((smN l : Nat) : Int) := by rw [g.dsc, smN_eq]
      by_cases ho : smN l % 2 = 1
      · refine ⟨(0, 17), ?_, ?_⟩
        · show cond ((Int.tmod ((smN l : Nat) : Int) 2) == 1) _ _ = _
          rw [tmod2, ho]; rfl
        · show cond ((cond ((Int.tmod (dsc a).sum 2) == 1) 17 (cond false 13 0) : Int) != 0) _ _ = _
          rw [e1, tmod2, ho]; rfl
      · have h0 : smN l % 2 = 0 := by omega
        have hfin : fstN l (l.length - 1) 1 l.length = fstN l l.length 1 0 := by
          rw [h0] at hc
          cases hb : Nat.beq (fstN l l.length 1 0) 0 with
          | true => rw [hb] at hc; cases hc
          | false =>
            rw [hb] at hc
            have hc' : (!false && (Nat.beq 0 1 || Nat.beq (fstN l (l.length - 1) 1 l.length) (fstN l l.length 1 0))) = true := hc
            simp only [Bool.not_false, Bool.true_and] at hc'
            have hc2 : Nat.beq (fstN l (l.length - 1) 1 l.length) (fstN l l.length 1 0) = true := hc'
            exact Nat.eq_of_beq_eq_true hc2
        refine ⟨(((fstN l l.length 1 0 : Nat) : Int), 0), ?_, ?_⟩
        · show cond ((Int.tmod ((smN l : Nat) : Int) 2) == 1) _ _ = _
          rw [tmod2, h0]
          show ((f17_2 m m a 1 (dsc a)).bind _) = _
          rw [hq, hfin]; rfl
        · show cond ((cond ((Int.tmod (dsc a).sum 2) == 1) 17 (cond false 13 0) : Int) != 0) _ _ = _
          rw [e1, tmod2, h0]; rfl
  · refine ⟨(0, ckR a), ?_, ?_⟩
    · show cond (ckR a != 0) _ _ = _
      rw [bne_iff_ne.2 h]; rfl
    · show cond (ckR a == 0) _ _ = _
      rw [beq_eq_false_iff_ne.2 h]
      show cond (ckR a != 0) _ _ = _
      rw [bne_iff_ne.2 h]; rfl

theorem f19_20 (m : Nat) (hm : 1001 ≤ m) (a : List Int) (hl : a.length ≤ 1000) (b : Int) : ∃ r, f19 m a b = some r ∧ f20 m a b = some r := by
  unfold f19 f20
  rw [f21_eq m hm a hl, f22_eq m hm a hl]
  by_cases h : ckR a = 0
  · obtain ⟨l, g⟩ := good_of m hm h
    have ha8 := g.cts.1
    rw [h, f61_eq m hm a hl]
    show ∃ r, ((f65 m b 1 ((a.length : Nat) : Int)).bind _) = some r ∧ ((f66 m b 1 ((a.length : Nat) : Int)).bind _) = some r
    rw [f65_eq, f66_eq]
    by_cases hb : 1 ≤ b ∧ b ≤ ((a.length : Nat) : Int)
    · rw [dcT hb]
      obtain ⟨k, hk⟩ : ∃ k : Nat, b = (k : Int) := ⟨b.toNat, by omega⟩
      have h1 := f62_eq m hm (dsc a) g.cts.dsc b (by omega)
      have h2 := f67_eq m hm a g.cts k (by omega)
      rw [← hk] at h2
      refine ⟨cond (!stB b (dsc a)) 14 0, ?_, ?_⟩
      · show ((f62 m (dsc a) b).bind _) = _
        rw [h1]
        cases stB b (dsc a) <;> rfl
      · show ((f67 m a b).bind _) = _
        rw [h2]
        rfl
    · rw [dcF hb]
      exact ⟨1, rfl, rfl⟩
  · refine ⟨ckR a, ?_, ?_⟩
    · show cond (ckR a != 0) _ _ = _
      rw [bne_iff_ne.2 h]; rfl
    · show cond (ckR a == 0) _ _ = _
      rw [beq_eq_false_iff_ne.2 h]; rfl

theorem f3_true (m : Nat) (hm : 1001 ≤ m) (a : List Int) (b : Int) : f3 m a b = some true := by
  unfold f3
  by_cases ha : a.length > 60
  · rw [dcT (p := ((a.length : Nat) : Int) > 60) (by omega)]; rfl
  · obtain ⟨r, q1, q2⟩ := f17_18 m hm a (by omega)
    obtain ⟨r', p1, p2⟩ := f19_20 m hm a (by omega) b
    rw [dcF (p := ((a.length : Nat) : Int) > 60) (by omega)]
    simp only [cond_false, Option.bind_some, f15_eq m hm a (by omega), f16_eq m hm a (by omega), q1, q2, p1, p2, f21_eq m hm a (by omega), f22_eq m hm a (by omega), beq_self_eq_true, cond_true]

end Go.Xm
