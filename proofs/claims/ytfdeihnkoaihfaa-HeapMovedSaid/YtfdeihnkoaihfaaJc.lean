/- Heaps whose hours are moved, or turned round, or that come in another order: what stays. Plain Lean. Conditions: none. -/
import Derived.Test.YtfdeihnkoaihfaaEa
import Derived.Test.YtfdeihnkoaihfaaFa
namespace Go.Xm
set_option linter.unusedVariables false
set_option linter.unusedSimpArgs false
def shH (d : Int) (l : List Hp) : List Hp := l.map fun h => (h.1 + d, h.2 + d)
theorem shH_len (d : Int) (l : List Hp) : (shH d l).length = l.length := List.length_map ..
theorem mem_shH {d : Int} {l : List Hp} {x : Hp} : x ∈ shH d l ↔ (x.1 - d, x.2 - d) ∈ l := by
 unfold shH
 rw [List.mem_map]
 constructor
 ·rintro ⟨h, hh, rfl⟩
  have : (h.1 + d - d, h.2 + d - d) = h := by
   rw [Int.add_sub_cancel, Int.add_sub_cancel]
  rw [this]; exact hh
 ·intro h
  exact ⟨_, h, by simp⟩
theorem shH_back (d : Int) (l : List Hp) : shH (-d) (shH d l) = l := by
 unfold shH
 rw [List.map_map]
 conv => rhs; rw [← List.map_id l]
 refine List.map_congr_left (fun h _ => ?_)
 show (h.1 + d + -d, h.2 + d + -d) = h
 have e1 : h.1 + d + -d = h.1 := by omega
 have e2 : h.2 + d + -d = h.2 := by omega
 rw [e1, e2]
theorem count_sh (d t : Int) : ∀ p : List Int, (p.map fun x => x + d).count t = p.count (t - d)
 | [] => rfl
 | x :: p => by
  have ih := count_sh d t p
  rw [List.map_cons, List.count_cons, List.count_cons, ih]
  by_cases e : x + d = t
  ·rw [if_pos (by simpa using e), if_pos (by simp; omega)]
  ·rw [if_neg (by simpa using e), if_neg (by simp; omega)]
theorem plan_sh {k : Nat} {l : List Hp} {p : List Int} (d : Int) (h : Plan k l p) : Plan k (shH d l) (p.map fun x => x + d) := by
 obtain ⟨h1, h2, h3⟩ := h
 refine ⟨by rw [List.length_map, shH_len]; exact h1, fun x hx => ?_, fun t => ?_⟩
 ·unfold shH at hx
  rw [List.zip_map] at hx
  obtain ⟨y, hy, rfl⟩ := List.mem_map.1 hx
  have := h2 y hy
  show y.1.1 + d ≤ y.2 + d ∧ y.2 + d ≤ y.1.2 + d
  omega
 ·rw [count_sh]; exact h3 _
theorem fits_sh {k : Nat} {l : List Hp} {d : Int} (h1 : OkL l) (h2 : OkL (shH d l)) : Fits k (shH d l) ↔ Fits k l := by
 rw [fits_iff_plan h1, fits_iff_plan h2]
 constructor
 ·rintro ⟨p, hp⟩
  have := plan_sh (-d) hp
  rw [shH_back] at this
  exact ⟨_, this⟩
 ·rintro ⟨p, hp⟩
  exact ⟨_, plan_sh d hp⟩
def miH (l : List Hp) : List Hp := l.map fun h => (23 - h.2, 23 - h.1)
theorem miH_len (l : List Hp) : (miH l).length = l.length := List.length_map ..
theorem miH_back (l : List Hp) : miH (miH l) = l := by
 unfold miH
 rw [List.map_map]
 conv => rhs; rw [← List.map_id l]
 refine List.map_congr_left (fun h _ => ?_)
 show (23 - (23 - h.1), 23 - (23 - h.2)) = h
 have e1 : 23 - (23 - h.1) = h.1 := by omega
 have e2 : 23 - (23 - h.2) = h.2 := by omega
 rw [e1, e2]
theorem OkL.mi {l : List Hp} (h : OkL l) : OkL (miH l) := by
 intro x hx
 obtain ⟨y, hy, rfl⟩ := List.mem_map.1 hx
 have := h y hy
 show 0 ≤ 23 - y.2 ∧ 23 - y.2 ≤ 23 - y.1 ∧ 23 - y.1 ≤ 23
 omega
theorem OkL.perm {l l' : List Hp} (h : OkL l) (hp : l'.Perm l) : OkL l' := fun x hx => h x (hp.mem_iff.1 hx)
theorem count_mi (t : Int) : ∀ p : List Int, (p.map fun x => 23 - x).count t = p.count (23 - t)
 | [] => rfl
 | x :: p => by
  have ih := count_mi t p
  rw [List.map_cons, List.count_cons, List.count_cons, ih]
  by_cases e : 23 - x = t
  ·rw [if_pos (by simpa using e), if_pos (by simp; omega)]
  ·rw [if_neg (by simpa using e), if_neg (by simp; omega)]
theorem plan_mi {k : Nat} {l : List Hp} {p : List Int} (h : Plan k l p) : Plan k (miH l) (p.map fun x => 23 - x) := by
 obtain ⟨h1, h2, h3⟩ := h
 refine ⟨by rw [List.length_map, miH_len]; exact h1, fun x hx => ?_, fun t => ?_⟩
 ·unfold miH at hx
  rw [List.zip_map] at hx
  obtain ⟨y, hy, rfl⟩ := List.mem_map.1 hx
  have := h2 y hy
  show 23 - y.1.2 ≤ 23 - y.2 ∧ 23 - y.2 ≤ 23 - y.1.1
  omega
 ·rw [count_mi]; exact h3 _
theorem fits_mi {k : Nat} {l : List Hp} (h1 : OkL l) : Fits k (miH l) ↔ Fits k l := by
 rw [fits_iff_plan h1, fits_iff_plan h1.mi]
 constructor
 ·rintro ⟨p, hp⟩
  have := plan_mi hp
  rw [miH_back] at this
  exact ⟨_, this⟩
 ·rintro ⟨p, hp⟩
  exact ⟨_, plan_mi hp⟩
theorem mt_sh {l : List Hp} {d : Int} (h1 : OkL l) (h2 : OkL (shH d l)) : mt (shH d l) = mt l := by
 refine Nat.le_antisymm ?_ ?_
 ·obtain ⟨hs, e, st⟩ := mt_stb h1
  rw [← e, ← List.length_map (f := fun x => x + d)]
  refine mt_le h2 (fun x hx => ?_)
  obtain ⟨t, t1, t2, t3⟩ := st _ (mem_shH.1 hx)
  exact ⟨t + d, List.mem_map.2 ⟨t, t1, rfl⟩, by simp only at t2; omega, by simp only at t3; omega⟩
 ·obtain ⟨hs, e, st⟩ := mt_stb h2
  rw [← e, ← List.length_map (f := fun x => x - d)]
  refine mt_le h1 (fun x hx => ?_)
  obtain ⟨t, t1, t2, t3⟩ := st (x.1 + d, x.2 + d) (List.mem_map.2 ⟨x, hx, rfl⟩)
  exact ⟨t - d, List.mem_map.2 ⟨t, t1, rfl⟩, by simp only at t2; omega, by simp only at t3; omega⟩
theorem mt_mi_le {l : List Hp} (h1 : OkL l) : mt (miH l) ≤ mt l := by
 obtain ⟨hs, e, st⟩ := mt_stb h1
 rw [← e, ← List.length_map (f := fun x => 23 - x)]
 refine mt_le h1.mi (fun x hx => ?_)
 obtain ⟨y, hy, rfl⟩ := List.mem_map.1 hx
 obtain ⟨t, t1, t2, t3⟩ := st y hy
 exact ⟨23 - t, List.mem_map.2 ⟨t, t1, rfl⟩, by show 23 - y.2 ≤ 23 - t; omega, by show 23 - t ≤ 23 - y.1; omega⟩
theorem mt_mi {l : List Hp} (h1 : OkL l) : mt (miH l) = mt l := by
 refine Nat.le_antisymm (mt_mi_le h1) ?_
 have := mt_mi_le h1.mi
 rw [miH_back] at this
 exact this
theorem mt_perm {l l' : List Hp} (h : OkL l) (hp : l'.Perm l) : mt l' = mt l :=
 Nat.le_antisymm (mt_mono h (fun x hx => hp.mem_iff.1 hx)) (mt_mono (h.perm hp) (fun x hx => hp.mem_iff.2 hx))
theorem rem_sh (d t : Int) (l : List Hp) : rem (t + d) (shH d l) = shH d (rem t l) := by
 unfold rem shH
 rw [List.filter_map]
 congr 1
 refine List.filter_congr (fun h _ => ?_)
 show (!hasB (t + d) (h.1 + d, h.2 + d)) = !hasB t h
 unfold hasB
 congr 1
 refine decide_eq_decide.2 ?_
 simp only
 omega
theorem OkL.shrem {l : List Hp} {d t : Int} (h : OkL (shH d l)) : OkL (shH d (Xm.rem t l)) := by
 rw [← rem_sh]
 exact h.filter _
theorem hrL_sh (d : Int) : ∀ (n : Nat) (t : Int) (l : List Hp), OkL l → OkL (shH d l) → hrL n (t + d) (shH d l) = (hrL n t l).map fun x => x + d
 | 0, _, _, _, _ => rfl
 | n + 1, t, [], _, _ => rfl
 | n + 1, t, h :: l, h1, h2 => by
  have e1 := mt_sh h1 h2
  have e2 : mt (rem (t + d) (shH d (h :: l))) = mt (rem t (h :: l)) := by
   rw [rem_sh]
   exact mt_sh (h1.filter _) h2.shrem
  have a1 := hrL_sh d n (t + 1) (rem t (h :: l)) (h1.filter _) h2.shrem
  have a2 := hrL_sh d n (t + 1) (h :: l) h1 h2
  rw [show t + 1 + d = t + d + 1 by omega] at a1 a2
  have es : shH d (h :: l) = (h.1 + d, h.2 + d) :: shH d l := rfl
  unfold hrL
  rw [es]
  rw [es] at e1 e2 a2
  simp only
  rw [e1, e2]
  by_cases c : mt (rem t (h :: l)) + 1 = mt (h :: l)
  ·rw [if_pos c, if_pos c, List.map_cons, ← es, rem_sh, a1]
  ·rw [if_neg c, if_neg c, a2]
theorem rem_none {t : Int} {l : List Hp} (h : ∀ x ∈ l, ¬ (x.1 ≤ t ∧ t ≤ x.2)) : rem t l = l := by
 unfold rem
 refine List.filter_eq_self.2 (fun x hx => ?_)
 unfold hasB
 rw [decide_eq_false (h x hx)]
 rfl
theorem hrL_skip : ∀ (j n : Nat) (t : Int) (l : List Hp), (∀ x ∈ l, t + j ≤ x.1) → hrL (j + n) t l = hrL n (t + j) l
 | 0, n, t, l, _ => by
  rw [Nat.zero_add, show t + ((0 : Nat) : Int) = t by simp]
 | j + 1, n, t, l, h => by
  rw [show j + 1 + n = (j + n) + 1 by omega]
  cases l with
  | nil =>
   have : ∀ m u, hrL m u [] = [] := fun m u => by cases m <;> rfl
   rw [this, this]
  | cons y l =>
   have hr : rem t (y :: l) = y :: l := rem_none (fun x hx => by have := h x hx; omega)
   have ih := hrL_skip j n (t + 1) (y :: l) (fun x hx => by have := h x hx; omega)
   show (if mt (rem t (y :: l)) + 1 = mt (y :: l) then t :: hrL (j + n) (t + 1) (rem t (y :: l)) else hrL (j + n) (t + 1) (y :: l)) = _
   rw [hr, if_neg (by omega), ih]
   congr 1
   omega
theorem hrL_late : ∀ (n : Nat) (t : Int) (l : List Hp), (∀ x ∈ l, x.2 < t) → hrL n t l = []
 | 0, _, _, _ => rfl
 | n + 1, t, [], _ => rfl
 | n + 1, t, y :: l, h => by
  have hr : rem t (y :: l) = y :: l := rem_none (fun x hx => by have := h x hx; omega)
  show (if mt (rem t (y :: l)) + 1 = mt (y :: l) then t :: hrL n (t + 1) (rem t (y :: l)) else hrL n (t + 1) (y :: l)) = _
  rw [hr, if_neg (by omega)]
  exact hrL_late n (t + 1) _ (fun x hx => by have := h x hx; omega)
theorem hrL_enough : ∀ (n j : Nat) (t : Int) (l : List Hp), (∀ x ∈ l, x.2 < t + n) → hrL (n + j) t l = hrL n t l
 | 0, j, t, l, h => by
  rw [Nat.zero_add]
  exact hrL_late j t l (fun x hx => by have := h x hx; omega)
 | n + 1, j, t, [], _ => by
  rw [show n + 1 + j = (n + j) + 1 by omega]
  rfl
 | n + 1, j, t, y :: l, h => by
  have a1 := hrL_enough n j (t + 1) (rem t (y :: l)) (fun x hx => by have := h x (List.mem_filter.1 hx).1; omega)
  have a2 := hrL_enough n j (t + 1) (y :: l) (fun x hx => by have := h x hx; omega)
  rw [show n + 1 + j = (n + j) + 1 by omega]
  show (if mt (rem t (y :: l)) + 1 = mt (y :: l) then t :: hrL (n + j) (t + 1) (rem t (y :: l)) else hrL (n + j) (t + 1) (y :: l)) = (if mt (rem t (y :: l)) + 1 = mt (y :: l) then t :: hrL n (t + 1) (rem t (y :: l)) else hrL n (t + 1) (y :: l))
  rw [a1, a2]
theorem hours_sh {l : List Hp} {d : Nat} (h1 : OkL l) (h2 : OkL (shH d l)) (hd : d ≤ 12) (h11 : ∀ x ∈ l, x.2 ≤ 11) : hrL 24 0 (shH d l) = (hrL 24 0 l).map fun x => x + (d : Int) := by
 have e1 : hrL 24 0 (shH d l) = hrL (24 - d) d (shH d l) := by
  have := hrL_skip d (24 - d) 0 (shH d l) (fun x hx => by
   have := h1 _ (mem_shH.1 hx)
   simp only at this
   omega)
  rw [show d + (24 - d) = 24 by omega, Int.zero_add] at this
  exact this
 have e2 : hrL 24 0 l = hrL (24 - d) 0 l := by
  have := hrL_enough (24 - d) d 0 l (fun x hx => by have := h11 x hx; omega)
  rw [show 24 - d + d = 24 by omega] at this
  exact this
 have e3 := hrL_sh (d : Int) (24 - d) 0 l h1 h2
 rw [Int.zero_add] at e3
 rw [e1, e2, e3]
end Go.Xm
namespace Go.Xm
set_option linter.unusedVariables false
set_option linter.unusedSimpArgs false
def rotL (l : List Hp) (t : Nat) : List Hp := l.drop (t % l.length) ++ l.take (t % l.length)
theorem rotL_perm (l : List Hp) (t : Nat) : (rotL l t).Perm l := by
 unfold rotL
 have := List.perm_append_comm (l₁ := l.drop (t % l.length)) (l₂ := l.take (t % l.length))
 rwa [List.take_append_drop] at this
theorem rotL_len (l : List Hp) (t : Nat) : (rotL l t).length = l.length := (rotL_perm l t).length_eq
theorem rotL_get {l : List Hp} {t i : Nat} (hi : i < l.length) : (rotL l t).getD i (0, 0) = l.getD ((i + t) % l.length) (0, 0) := by
 have hm : t % l.length < l.length := Nat.mod_lt _ (by omega)
 have e : (i + t) % l.length = if i < l.length - t % l.length then i + t % l.length else i + t % l.length - l.length := by
  have h1 : (i + t) % l.length = (i + t % l.length) % l.length := by rw [Nat.add_mod_mod]
  rw [h1]
  by_cases c : i < l.length - t % l.length
  ·rw [if_pos c, Nat.mod_eq_of_lt (by omega)]
  ·rw [if_neg c, Nat.mod_eq_sub_mod (by omega), Nat.mod_eq_of_lt (by omega)]
 rw [e]
 unfold rotL
 rw [List.getD_eq_getElem?_getD, List.getD_eq_getElem?_getD]
 by_cases c : i < l.length - t % l.length
 ·rw [if_pos c, List.getElem?_append_left (by rw [List.length_drop]; exact c), List.getElem?_drop, Nat.add_comm]
 ·rw [if_neg c, List.getElem?_append_right (by rw [List.length_drop]; omega), List.length_drop, List.getElem?_take_of_lt (by omega)]
  congr 2
  omega
theorem getD_setH (l : List Hp) (i j : Nat) (v : Hp) (hi : i < l.length) : (l.set i v).getD j (0, 0) = if i = j then v else l.getD j (0, 0) := by
 rw [List.getD_eq_getElem?_getD, List.getElem?_set, List.getD_eq_getElem?_getD]
 by_cases e : i = j
 ·subst e
  rw [if_pos rfl, if_pos rfl, if_pos hi]
  rfl
 ·rw [if_neg e, if_neg e]
theorem ext_getDH : ∀ (a b : List Hp), a.length = b.length → (∀ i, i < a.length → a.getD i (0, 0) = b.getD i (0, 0)) → a = b
 | [], [], _, _ => rfl
 | [], _ :: _, h, _ => by cases h
 | _ :: _, [], h, _ => by cases h
 | x :: a, y :: b, h, hg => by
  have h0 := hg 0 (by simp)
  have : x = y := h0
  subst this
  have := ext_getDH a b (by simpa using h) (fun i hi => hg (i + 1) (by simp; omega))
  rw [this]
theorem rev_getD {L R : List Hp} (hl : R.length = L.length) (h : ∀ x, x < L.length → R.getD x (0, 0) = L.getD (L.length - 1 - x) (0, 0)) : R = L.reverse := by
 refine ext_getDH _ _ (by rw [List.length_reverse]; exact hl) (fun i hi => ?_)
 rw [h i (by omega), List.getD_eq_getElem?_getD, List.getD_eq_getElem?_getD, List.getElem?_reverse (by omega)]
theorem miH_get {l : List Hp} {i : Nat} (hi : i < l.length) : (miH l).getD i (0, 0) = (23 - (l.getD i (0, 0)).2, 23 - (l.getD i (0, 0)).1) := by
 unfold miH
 rw [List.getD_eq_getElem?_getD, List.getElem?_map, List.getElem?_eq_getElem hi, List.getD_eq_getElem?_getD, List.getElem?_eq_getElem hi]
 rfl
theorem take_snocH {l : List Hp} {k : Nat} (h : k < l.length) : l.take (k + 1) = l.take k ++ [l.getD k (0, 0)] := by
 rw [List.getD_eq_getElem?_getD, List.getElem?_eq_getElem h, List.take_succ_eq_append_getElem h]
 rfl
theorem map_getD {p : List Int} {i : Nat} (d : Int) (hi : i < p.length) : (p.map fun x => x + d).getD i 0 = p.getD i 0 + d := by
 rw [List.getD_eq_getElem?_getD, List.getElem?_map, List.getElem?_eq_getElem hi, List.getD_eq_getElem?_getD, List.getElem?_eq_getElem hi]
 rfl
end Go.Xm
