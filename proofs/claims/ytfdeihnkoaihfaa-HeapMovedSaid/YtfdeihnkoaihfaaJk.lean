/- Plans, ends, crowded spans and choices of heaps whose hours are moved or turned round. Plain Lean. Conditions: none. -/
import Derived.Test.YtfdeihnkoaihfaaJc
import Derived.Test.YtfdeihnkoaihfaaGp
import Derived.Test.YtfdeihnkoaihfaaHg
import Derived.Test.YtfdeihnkoaihfaaHd
import Derived.Test.YtfdeihnkoaihfaaHs
import Derived.Test.YtfdeihnkoaihfaaBp
namespace Go.Xm
set_option linter.unusedVariables false
set_option linter.unusedSimpArgs false
theorem shH_set (d : Int) (l : List Hp) (i : Nat) (x : Int) : shH d (l.set i (x, x)) = (shH d l).set i (x + d, x + d) := by
 unfold shH
 rw [List.map_set]
theorem shH_get {d : Int} {l : List Hp} {i : Nat} (hi : i < l.length) : (shH d l)[i]'(by rw [shH_len]; exact hi) = ((l[i]).1 + d, (l[i]).2 + d) := by
 unfold shH
 rw [List.getElem_map]
theorem firstH_sh {k : Nat} {l : List Hp} {d : Int} (h1 : OkL l) (h2 : OkL (shH d l)) (hf : Fits k l) {i : Nat} (hi : i < l.length) :
  firstH k (shH d l) i 24 ((l[i]).1 + d) = firstH k l i 24 (l[i]).1 + d := by
 have hi2 : i < (shH d l).length := by rw [shH_len]; exact hi
 obtain ⟨a1, a2, a3, a4⟩ := firstH_in h1 hf hi
 have b := firstH_in h2 ((fits_sh h1 h2).2 hf) hi2
 rw [shH_get hi] at b
 obtain ⟨b1, b2, b3, b4⟩ := b
 have o1 := h1 _ (List.getElem_mem hi)
 have o2 := h2 _ (List.getElem_mem hi2)
 rw [shH_get hi] at o2
 simp only at b1 b2 b4 o2
 generalize firstH k l i 24 (l[i]).1 = y at *
 generalize firstH k (shH d l) i 24 ((l[i]).1 + d) = z at *
 have iff : ∀ x : Int, (l[i]).1 ≤ x → x ≤ (l[i]).2 → (Fits k ((shH d l).set i (x + d, x + d)) ↔ Fits k (l.set i (x, x))) := by
  intro x x1 x2
  have q1 : OkL (l.set i (x, x)) := h1.set (by omega) (by omega)
  have q2 : OkL (shH d (l.set i (x, x))) := by rw [shH_set]; exact h2.set (by omega) (by omega)
  rw [← shH_set]
  exact fits_sh q1 q2
 rcases Int.lt_trichotomy z (y + d) with c | c | c
 ·exfalso
  have := (iff (z - d) (by omega) (by omega)).1 (by rw [Int.sub_add_cancel]; exact b3)
  exact a4 (z - d) (by omega) (by omega) this
 ·exact c
 ·exfalso
  exact b4 (y + d) (by omega) (by omega) ((iff y a1 a2).2 a3)
theorem planL_sh {k : Nat} (d : Int) : ∀ (r i : Nat) (l : List Hp) (acc : List Int), OkL l → OkL (shH d l) → Fits k l → i + r = l.length → planL k r i (shH d l) (acc.map fun x => x + d) = (planL k r i l acc).map fun x => x + d
 | 0, _, _, _, _, _, _, _ => rfl
 | r + 1, i, l, acc, h1, h2, hf, hi => by
  have hil : i < l.length := by omega
  have hi2 : i < (shH d l).length := by rw [shH_len]; exact hil
  have e1 : List.getD l i (0, 0) = l[i] := by rw [List.getD_eq_getElem?_getD, List.getElem?_eq_getElem hil]; rfl
  have e2 : List.getD (shH d l) i (0, 0) = ((l[i]).1 + d, (l[i]).2 + d) := by rw [List.getD_eq_getElem?_getD, List.getElem?_eq_getElem hi2, shH_get hil]; rfl
  have ef := firstH_sh h1 h2 hf hil
  obtain ⟨a1, a2, a3, a4⟩ := firstH_in h1 hf hil
  have o1 := h1 _ (List.getElem_mem hil)
  have o2 := h2 _ (List.getElem_mem hi2)
  rw [shH_get hil] at o2
  simp only at o2
  rw [planL_succ, planL_succ, e1, e2]
  simp only
  rw [ef]
  generalize firstH k l i 24 (l[i]).1 = y at *
  have q1 : OkL (l.set i (y, y)) := h1.set (by omega) (by omega)
  have q2 : OkL (shH d (l.set i (y, y))) := by rw [shH_set]; exact h2.set (by omega) (by omega)
  have ih := planL_sh (k := k) d r (i + 1) (l.set i (y, y)) (acc ++ [y]) q1 q2 a3 (by rw [List.length_set]; omega)
  rw [shH_set, List.map_append] at ih
  exact ih
theorem mxF_sh {l : List Hp} {d : Int} (h1 : OkL l) (hd : 0 ≤ d) (hne : l ≠ []) : mxF (shH d l) 0 = mxF l 0 + d := by
 obtain ⟨a1, a2⟩ := mxF_ge l 0
 obtain ⟨b1, b2⟩ := mxF_ge (shH d l) 0
 have b3 : ∀ h ∈ l, h.1 + d ≤ mxF (shH d l) 0 := fun h hh => b2 _ (List.mem_map.2 ⟨h, hh, rfl⟩)
 have up : mxF (shH d l) 0 ≤ mxF l 0 + d := by
  rcases mxF_is (shH d l) 0 with e | ⟨h, hh, e⟩
  ·omega
  ·have := a2 _ (mem_shH.1 hh)
   simp only at this
   omega
 rcases mxF_is l 0 with e | ⟨h, hh, e⟩
 ·cases l with
  | nil => exact absurd rfl hne
  | cons y l =>
   have := b3 y (List.mem_cons_self ..)
   have := h1 y (List.mem_cons_self ..)
   omega
 ·have := b3 h hh
  omega
theorem cutL_sh (d y : Int) (l : List Hp) : cutL (shH d l) (y + d) = shH d (cutL l y) := by
 unfold cutL shH
 rw [List.map_map, List.map_map]
 refine List.map_congr_left (fun h _ => ?_)
 show (h.1 + d, min (h.2 + d) (y + d)) = (h.1 + d, min h.2 y + d)
 have : min (h.2 + d) (y + d) = min h.2 y + d := by omega
 rw [this]
theorem end_sh {k : Nat} {l : List Hp} {d : Int} (h1 : OkL l) (h2 : OkL (shH d l)) (hd : 0 ≤ d) (hne : l ≠ []) (hf : Fits k l) :
  endN k (shH d l) 24 (mxF (shH d l) 0) = endN k l 24 (mxF l 0) + d := by
 obtain ⟨a0, a1, a2, a3, a4⟩ := fin_end h1 hf
 obtain ⟨b0, b1, b2, b3, b4⟩ := fin_end h2 ((fits_sh h1 h2).2 hf)
 have em := mxF_sh h1 hd hne
 obtain ⟨_, m2⟩ := mxF_ge l 0
 obtain ⟨_, m3⟩ := mxF_ge (shH d l) 0
 generalize endN k l 24 (mxF l 0) = y at *
 generalize endN k (shH d l) 24 (mxF (shH d l) 0) = z at *
 have iff : ∀ x : Int, mxF l 0 ≤ x → (Fits k (cutL (shH d l) (x + d)) ↔ Fits k (cutL l x)) := by
  intro x hx
  have q1 : OkL (cutL l x) := cutL_ok h1 (fun h hh => by have := m2 h hh; omega)
  have q2 : OkL (shH d (cutL l x)) := by
   rw [← cutL_sh]
   exact cutL_ok h2 (fun h hh => by have := m3 h hh; omega)
  rw [cutL_sh]
  exact fits_sh q1 q2
 rcases Int.lt_trichotomy z (y + d) with c | c | c
 ·exfalso
  exact a4 (z - d) (by omega) (by omega) ((iff (z - d) (by omega)).1 (by rw [Int.sub_add_cancel]; exact b3))
 ·exact c
 ·exfalso
  exact b4 (y + d) (by omega) (by omega) ((iff y a1).2 a3)
theorem crw_sh (d a b : Int) : ∀ l : List Hp, crw (shH d l) (a + d) (b + d) = crw l a b := fun l => by
 unfold crw shH
 rw [List.countP_map]
 congr 1
 funext h
 show (decide (a + d ≤ h.1 + d) && decide (h.2 + d ≤ b + d)) = (decide (a ≤ h.1) && decide (h.2 ≤ b))
 congr 1
 ·exact decide_eq_decide.2 (by omega)
 ·exact decide_eq_decide.2 (by omega)
theorem crd_sh {k : Int} {l : List Hp} {d a b : Int} : Crd k (shH d l) (a + d) (b + d) ↔ Crd k l a b := by
 unfold Crd
 rw [crw_sh, show b + d - (a + d) + 1 = b - a + 1 by omega]
theorem why_sh {k : Nat} {l : List Hp} {d a b : Int} (h1 : OkL l) (h2 : OkL (shH d l)) (hd : 0 ≤ d) (hw : whyF k l 24 0 = some (a, b)) :
  ∃ c m, whyF k (shH d l) 24 0 = some (c, m) ∧ (c < a + d ∨ (c = a + d ∧ m = b + d)) := by
 obtain ⟨a1, a2, a3, a4, a5, a6⟩ := whyF_some (by rfl) hw
 have hin := first_end (k := (k : Int)) (by omega) h1 a2 a4 a5
 obtain ⟨x, hx, hxb⟩ := List.mem_map.1 hin
 have hb23 : b + d ≤ 23 := by
  have := h2 (x.1 + d, x.2 + d) (List.mem_map.2 ⟨x, hx, rfl⟩)
  simp only at this
  omega
 cases hv : whyF k (shH d l) 24 0 with
 | none =>
  exfalso
  exact (whyF_none (by rfl)).1 hv (a + d) (b + d) (by omega) (by omega) hb23 (crd_sh.2 a4)
 | some u =>
  obtain ⟨c, m⟩ := u
  obtain ⟨b1, b2, b3, b4, b5, b6⟩ := whyF_some (by rfl) hv
  refine ⟨c, m, rfl, ?_⟩
  rcases Int.lt_trichotomy c (a + d) with q | q | q
  ·exact Or.inl q
  ·subst q
   refine Or.inr ⟨rfl, ?_⟩
   rcases Int.lt_trichotomy m (b + d) with r | r | r
   ·exfalso
    refine a5 (m - d) (by omega) (by omega) ?_
    have : Crd k (shH d l) (a + d) (m - d + d) := by rw [Int.sub_add_cancel]; exact b4
    exact crd_sh.1 this
   ·exact r
   ·exfalso
    exact b5 (b + d) (by omega) (by omega) (crd_sh.2 a4)
  ·exfalso
   exact b6 (a + d) (b + d) (by omega) q (by omega) hb23 (crd_sh.2 a4)
theorem sel_sub : ∀ (l : List Hp) (s : Nat), (selS l s).Sublist l
 | [], _ => List.Sublist.refl _
 | h :: L, s => by
  unfold selS
  split
  ·exact (sel_sub L _).cons_cons h
  ·exact (sel_sub L _).cons h
theorem sub_sel {X l : List Hp} (h : X.Sublist l) : ∃ s, selS l s = X := by
 induction h with
 | slnil => exact ⟨0, rfl⟩
 | cons a h ih =>
  obtain ⟨s, e⟩ := ih
  refine ⟨2 * s, ?_⟩
  rw [selS_cons, if_neg (by omega), show 2 * s / 2 = s by omega, e]
 | cons_cons a h ih =>
  obtain ⟨s, e⟩ := ih
  refine ⟨2 * s + 1, ?_⟩
  rw [selS_cons, if_pos (by omega), show (2 * s + 1) / 2 = s by omega, e]
theorem keep_le {k : Nat} {l r : List Hp} (h1 : OkL l) (h2 : OkL r) (hp : r.Perm (miH l)) : (kpL k l 0 []).length ≤ (kpL k r 0 []).length := by
 obtain ⟨⟨s, _, hs, eb⟩, _⟩ := kept_all (k := k) h1
 obtain ⟨_, hm, _⟩ := kept_all (k := k) h2
 have hsub := sel_sub l s
 have ho : OkL (selS l s) := fun x hx => h1 x (selS_mem hx)
 have hsub2 : (miH (selS l s)).Sublist (miH l) := hsub.map _
 obtain ⟨Y, hY, hYs⟩ := List.exists_perm_sublist hsub2 hp.symm
 obtain ⟨u, eu⟩ := sub_sel hYs
 have hfY : Fits k (selS r u) := by
  rw [eu]
  exact fits_perm hY.symm ((fits_mi ho).2 hs)
 have := hm u hfY
 rw [← selS_len, eu, hY.length_eq, miH_len] at this
 rw [← eb, ← selS_len]
 exact this
theorem miH_perm {l r : List Hp} (hp : r.Perm (miH l)) : l.Perm (miH r) := by
 have : (miH r).Perm (miH (miH l)) := hp.map _
 rw [miH_back] at this
 exact this.symm
theorem keep_mi {k : Nat} {l r : List Hp} (h1 : OkL l) (h2 : OkL r) (hp : r.Perm (miH l)) : (kpL k l 0 []).length = (kpL k r 0 []).length :=
 Nat.le_antisymm (keep_le h1 h2 hp) (keep_le h2 h1 (miH_perm hp))
end Go.Xm
namespace Go.Xm
set_option linter.unusedVariables false
set_option linter.unusedSimpArgs false
set_option maxRecDepth 20000
noncomputable def keepL (k : Nat) : List Hp → Nat → List Int → List Hp → List Int
 | [], _, acc, _ => acc
 | h :: l, i, acc, kept => cond (fitsB' k (kept ++ [h])) (keepL k l (i + 1) (acc ++ [(i : Int)]) (kept ++ [h])) (keepL k l (i + 1) acc kept)
theorem keepL_kpL (k : Nat) : ∀ (l : List Hp) (i : Nat) (acc : List Int) (kept : List Hp), keepL k l i acc kept = acc ++ kpL k l i kept
 | [], i, acc, kept => (List.append_nil acc).symm
 | h :: l, i, acc, kept => by
  unfold keepL kpL
  cases hb : fitsB' k (kept ++ [h]) with
  | true =>
   rw [if_pos rfl]
   show keepL k l (i + 1) (acc ++ [(i : Int)]) (kept ++ [h]) = _
   rw [keepL_kpL k l]
   simp
  | false =>
   rw [if_neg (by decide)]
   exact keepL_kpL k l _ _ _
theorem OkL.snocK {l : List Hp} {h : Hp} (ho : OkL l) (h1 : 0 ≤ h.1 ∧ h.1 ≤ h.2 ∧ h.2 ≤ 23) : OkL (l ++ [h]) := by
 intro x hx
 rcases List.mem_append.1 hx with hx | hx
 ·exact ho x hx
 ·rw [List.mem_singleton.1 hx]; exact h1
theorem f33_2_eq (m : Nat) (hm : 1001 ≤ m) (a : List Hp) (h10 : a.length ≤ 10) (ho : OkL a) (b : Int) (k : Nat) (hk : b = (k : Int)) (hk1 : 1 ≤ k) (hk2 : k ≤ 1000) : ∀ (r i fuel : Nat) (acc : List Int) (kept : List Hp), i + r = a.length → r < fuel → acc.length ≤ i → kept.length ≤ i → 1 ≤ acc.length → 1 ≤ kept.length → OkL kept →
  f33_2 m fuel a b ((a.length : Nat) : Int) (i : Int) acc kept = some (keepL k (a.drop i) i acc kept)
 | 0, i, fuel + 1, acc, kept, hr, hf, h1, h2, h3, h4, hok => by
  rw [f33_2, dcF (p := (i : Int) < ((a.length : Nat) : Int)) (by omega), List.drop_eq_nil_of_le (by omega)]
  rfl
 | r + 1, i, fuel + 1, acc, kept, hr, hf, h1, h2, h3, h4, hok => by
  have hi : i < a.length := by omega
  rw [f33_2, dcT (p := (i : Int) < ((a.length : Nat) : Int)) (by omega), inR hi, dcT (p := 1 ≤ kept.length) h4, fitsI (n := kept.length + 1) (by omega) (by omega), getDi a hi, nat_succ i (by omega), dcT (p := 1 ≤ acc.length) h3, fitsI (n := acc.length + 1) (by omega) (by omega), List.drop_eq_getElem_cons hi]
  show (f58 m (kept ++ [a[i]]) b).bind _ = _
  have hok2 := hok.snocK (ho _ (List.getElem_mem hi))
  rw [f58_eq m hm _ b k hk hk2 (by simp; omega) hok2 (.inl hk1)]
  unfold keepL
  cases hb : fitsB' k (kept ++ [a[i]]) with
  | true => exact f33_2_eq m hm a h10 ho b k hk hk1 hk2 r (i + 1) fuel _ _ (by omega) (by omega) (by simp; omega) (by simp; omega) (by simp) (by simp) hok2
  | false => exact f33_2_eq m hm a h10 ho b k hk hk1 hk2 r (i + 1) fuel _ _ (by omega) (by omega) (by omega) (by omega) h3 h4 hok
theorem f33_1_eq (m : Nat) (hm : 1001 ≤ m) (a : List Hp) (h10 : a.length ≤ 10) (ho : OkL a) (b : Int) (k : Nat) (hk : b = (k : Int)) (hk1 : 1 ≤ k) (hk2 : k ≤ 1000) : ∀ (r i fuel : Nat), i + r = a.length → r < fuel →
  f33_1 m fuel a b ((a.length : Nat) : Int) (i : Int) = some (keepL k (a.drop i) i [] [])
 | 0, i, fuel + 1, hr, hf => by
  rw [f33_1, dcF (p := (i : Int) < ((a.length : Nat) : Int)) (by omega), List.drop_eq_nil_of_le (by omega)]
  rfl
 | r + 1, i, fuel + 1, hr, hf => by
  have hi : i < a.length := by omega
  have h1 := ho _ (List.getElem_mem hi)
  have hok : OkL [a[i]] := fun x hx => by rw [List.mem_singleton.1 hx]; exact h1
  rw [f33_1, dcT (p := (i : Int) < ((a.length : Nat) : Int)) (by omega), inR hi, getDi a hi, nat_succ i (by omega), List.drop_eq_getElem_cons hi]
  show (f58 m [a[i]] b).bind _ = _
  rw [f58_eq m hm _ b k hk hk2 (by simp) hok (.inl hk1)]
  unfold keepL
  show (cond (fitsB' k [a[i]]) _ _) = some (cond (fitsB' k [a[i]]) _ _)
  cases hb : fitsB' k [a[i]] with
  | true =>
   show (f33_2 m fuel a b ((a.length : Nat) : Int) ((i + 1 : Nat) : Int) [(i : Int)] [a[i]]).bind _ = _
   cases r with
   | zero =>
    obtain ⟨f, rfl⟩ : ∃ f, fuel = f + 1 := ⟨fuel - 1, by omega⟩
    rw [f33_2_eq m hm a h10 ho b k hk hk1 hk2 0 (i + 1) (f + 1) _ _ (by omega) (by omega) (by simp) (by simp) (by simp) (by simp) hok]
    rfl
   | succ r =>
    rw [f33_2_eq m hm a h10 ho b k hk hk1 hk2 (r + 1) (i + 1) fuel _ _ (by omega) (by omega) (by simp) (by simp) (by simp) (by simp) hok]
    rfl
  | false => exact f33_1_eq m hm a h10 ho b k hk hk1 hk2 r (i + 1) fuel (by omega) (by omega)
theorem f33_ok1 (m : Nat) (hm : 1001 ≤ m) (l : List Hp) (h10 : l.length ≤ 10) (ho : OkL l) (k : Nat) (hk1 : 1 ≤ k) (hk2 : k ≤ 10) : f33 m l (k : Int) = some (kpL k l 0 [], 0) := by
 unfold f33
 rw [f57_ok0 m (by omega) l ho h10 _ ⟨by omega, by omega⟩]
 show (f33_1 m m l (k : Int) _ ((0 : Nat) : Int)).bind _ = _
 rw [f33_1_eq m hm l h10 ho _ k rfl hk1 (by omega) l.length 0 m (by omega) (by omega), List.drop_zero, keepL_kpL]
 rfl
end Go.Xm
