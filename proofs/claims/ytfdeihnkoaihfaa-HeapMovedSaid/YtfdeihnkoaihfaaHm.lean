/- Choices of heaps that can be turned: what cannot be added to is as large as any. Plain Lean. Conditions: none. -/
import Derived.Test.YtfdeihnkoaihfaaEa
namespace Go.Xm
set_option linter.unusedVariables false
set_option linter.unusedSimpArgs false
def dayL : List Int := (List.range 24).map fun (n : Nat) => (n : Int)
theorem mem_day {t : Int} : t ∈ dayL ↔ 0 ≤ t ∧ t ≤ 23 := by
 unfold dayL
 rw [List.mem_map]
 constructor
 ·rintro ⟨n, hn, rfl⟩
  rw [List.mem_range] at hn; omega
 ·intro h
  exact ⟨t.toNat, by rw [List.mem_range]; omega, by omega⟩
theorem sum_le {α : Type} {f g : α → Nat} : ∀ {l : List α}, (∀ x ∈ l, f x ≤ g x) → (l.map f).sum ≤ (l.map g).sum
 | [], _ => Nat.le_refl _
 | x :: l, h => by
  have := sum_le (l := l) (fun y hy => h y (List.mem_cons_of_mem _ hy))
  have := h x (List.mem_cons_self ..)
  simp only [List.map_cons, List.sum_cons]; omega
theorem sum_const {α : Type} (k : Nat) : ∀ l : List α, (l.map fun _ => k).sum = k * l.length
 | [] => by simp
 | x :: l => by
  have := sum_const k l
  simp only [List.map_cons, List.sum_cons, List.length_cons, Nat.mul_succ]; omega
theorem sum_add {α : Type} (f g : α → Nat) : ∀ l : List α, (l.map fun x => f x + g x).sum = (l.map f).sum + (l.map g).sum
 | [] => rfl
 | x :: l => by
  have := sum_add f g l
  simp only [List.map_cons, List.sum_cons]; omega
theorem sum_full {α : Type} {k : Nat} {f : α → Nat} : ∀ {l : List α}, (∀ x ∈ l, f x ≤ k) → k * l.length ≤ (l.map f).sum → ∀ x ∈ l, f x = k
 | [], _, _, x, hx => by cases hx
 | y :: l, h, hs, x, hx => by
  have h1 := h y (List.mem_cons_self ..)
  have h2 := sum_le (l := l) (g := fun _ => k) (fun z hz => h z (List.mem_cons_of_mem _ hz))
  rw [sum_const] at h2
  simp only [List.map_cons, List.sum_cons, List.length_cons, Nat.mul_succ] at hs
  rcases List.mem_cons.1 hx with rfl | hx
  ·omega
  ·exact sum_full (fun z hz => h z (List.mem_cons_of_mem _ hz)) (by omega) x hx
theorem nodup_day : dayL.Nodup := List.pairwise_map.2 (List.Pairwise.imp (fun h e => h (by omega)) (List.nodup_range (n := 24)))
theorem sum_ind {t : Int} : ∀ {l : List Int}, l.Nodup → (l.map fun u => if t = u then 1 else 0).sum = if t ∈ l then 1 else 0
 | [], _ => rfl
 | x :: l, h => by
  obtain ⟨h1, h2⟩ := List.nodup_cons.1 h
  have ih := sum_ind (t := t) h2
  simp only [List.map_cons, List.sum_cons, ih]
  by_cases e : t = x
  ·subst e
   simp [h1]
  ·simp [e]
theorem count_hours {α : Type} (g : α → Int) (W : α → Bool) (l : List Int) (hl : l.Nodup) : ∀ q : List α, (∀ x ∈ q, W x = true → g x ∈ l) → q.countP W = (l.map fun t => q.countP fun x => W x && decide (g x = t)).sum
 | [], _ => by
  have : ∀ l : List Int, (l.map fun t => ([] : List α).countP fun x => W x && decide (g x = t)).sum = 0 := by
   intro l
   induction l with
   | nil => rfl
   | cons y l ih => simp only [List.map_cons, List.sum_cons, ih]; rfl
  rw [this]; rfl
 | x :: q, h => by
  have ih := count_hours g W l hl q (fun y hy => h y (List.mem_cons_of_mem _ hy))
  have e : (l.map fun t => (x :: q).countP fun x => W x && decide (g x = t)) = l.map fun t => (q.countP fun x => W x && decide (g x = t)) + (if W x = true ∧ g x = t then 1 else 0) := by
   refine List.map_congr_left (fun t _ => ?_)
   rw [List.countP_cons]
   congr 1
   by_cases e1 : W x = true <;> by_cases e2 : g x = t <;> simp [e1, e2]
  rw [e, sum_add, ← ih, List.countP_cons]
  congr 1
  by_cases e1 : W x = true
  ·rw [if_pos e1]
   have h1 := sum_ind (t := g x) hl
   rw [if_pos (h x (List.mem_cons_self ..) e1)] at h1
   have h2 : (l.map fun t => if W x = true ∧ g x = t then 1 else 0) = l.map fun t => if g x = t then 1 else 0 := List.map_congr_left (fun t _ => by simp only [e1, true_and])
   rw [h2]
   exact h1.symm
  ·rw [if_neg e1]
   have : (l.map fun t => if W x = true ∧ g x = t then 1 else 0) = l.map fun _ => 0 := List.map_congr_left (fun t _ => by simp [e1])
   rw [this, sum_const]; omega
def inU (U : Int → Bool) (h : Hp) : Bool := dayL.all fun t => !(decide (h.1 ≤ t) && decide (t ≤ h.2)) || U t
theorem inU_iff {U : Int → Bool} {h : Hp} (hh : 0 ≤ h.1 ∧ h.2 ≤ 23) : inU U h = true ↔ ∀ t, h.1 ≤ t → t ≤ h.2 → U t = true := by
 unfold inU
 rw [List.all_eq_true]
 constructor
 ·intro H t h1 h2
  have := H t (mem_day.2 (by omega))
  simpa [h1, h2] using this
 ·intro H t ht
  by_cases h1 : h.1 ≤ t
  ·by_cases h2 : t ≤ h.2
   ·simp [H t h1 h2]
   ·simp [h2]
  ·simp [h1]
theorem fits_in {k : Nat} {X : List Hp} (ho : OkL X) (hf : Fits k X) (U : Int → Bool) : X.countP (inU U) ≤ k * (dayL.filter U).length := by
 obtain ⟨p, hp⟩ := (fits_iff_plan ho).1 hf
 obtain ⟨⟨q1, q2⟩, q3⟩ := plan_planQ hp
 generalize X.zip p = q at q1 q2 q3
 have hok : ∀ x ∈ q, 0 ≤ x.1.1 ∧ x.1.1 ≤ x.1.2 ∧ x.1.2 ≤ 23 := fun x hx => ho x.1 (by rw [← q3]; exact List.mem_map_of_mem hx)
 rw [← q3, List.countP_map]
 have h1 : q.countP (inU U ∘ Prod.fst) ≤ q.countP fun x => U x.2 := countP_le (fun x hx hw => by
  have h2 := hok x hx
  have h3 := q1 x hx
  exact (inU_iff ⟨h2.1, h2.2.2⟩).1 hw x.2 h3.1 h3.2)
 have h2 := count_hours (fun x : Hp × Int => x.2) (fun x => U x.2) (dayL.filter U) (nodup_day.filter _) q (fun x hx hw => by
  have h2 := hok x hx
  have h3 := q1 x hx
  exact List.mem_filter.2 ⟨mem_day.2 (by omega), hw⟩)
 have h3 : ((dayL.filter U).map fun t => q.countP fun x => U x.2 && decide (x.2 = t)).sum ≤ k * (dayL.filter U).length := by
  rw [← sum_const]
  refine sum_le (fun t _ => Nat.le_trans ?_ (q2 t))
  rw [List.count_eq_countP, List.countP_map]
  refine countP_le (fun x hx hw => ?_)
  simp only [Bool.and_eq_true, decide_eq_true_eq] at hw
  simp [hw.2]
 omega
def Tight (k : Nat) (A : List Hp) (a b : Int) : Prop := 0 ≤ a ∧ a ≤ b ∧ b ≤ 23 ∧ (k : Int) * (b - a + 1) ≤ ((crw A a b : Nat) : Int)
noncomputable def fullU (k : Nat) (A : List Hp) (t : Int) : Bool := by classical exact decide (∃ a b, Tight k A a b ∧ a ≤ t ∧ t ≤ b)
theorem fullU_iff {k : Nat} {A : List Hp} {t : Int} : fullU k A t = true ↔ ∃ a b, Tight k A a b ∧ a ≤ t ∧ t ≤ b := by simp [fullU]
theorem day_span {a b : Int} (h1 : 0 ≤ a) (h2 : a ≤ b) (h3 : b ≤ 23) : (((dayL.filter fun t => decide (a ≤ t) && decide (t ≤ b)).length : Nat) : Int) = b - a + 1 := by
 obtain ⟨x, rfl⟩ : ∃ x : Nat, a = (x : Int) := ⟨a.toNat, by omega⟩
 obtain ⟨y, rfl⟩ : ∃ y : Nat, b = (y : Int) := ⟨b.toNat, by omega⟩
 have : ∀ x y : Fin 24, x.val ≤ y.val → (((dayL.filter fun t => decide (((x.val : Nat) : Int) ≤ t) && decide (t ≤ ((y.val : Nat) : Int))).length : Nat) : Int) = ((y.val : Nat) : Int) - ((x.val : Nat) : Int) + 1 := by decide +kernel
 exact this ⟨x, by omega⟩ ⟨y, by omega⟩ (by show x ≤ y; omega)
theorem full_in {k : Nat} {A : List Hp} (ho : OkL A) (hf : Fits k A) : k * (dayL.filter (fullU k A)).length ≤ A.countP (inU (fullU k A)) := by
 obtain ⟨p, hp⟩ := (fits_iff_plan ho).1 hf
 obtain ⟨⟨q1, q2⟩, q3⟩ := plan_planQ hp
 generalize A.zip p = q at q1 q2 q3
 have hok : ∀ x ∈ q, 0 ≤ x.1.1 ∧ x.1.1 ≤ x.1.2 ∧ x.1.2 ≤ 23 := fun x hx => ho x.1 (by rw [← q3]; exact List.mem_map_of_mem hx)
 have hat : ∀ t, (q.countP fun x => decide (x.2 = t)) ≤ k := fun t => by
  refine Nat.le_trans (Nat.le_of_eq ?_) (q2 t)
  rw [List.count_eq_countP, List.countP_map]
  refine List.countP_congr (fun x hx => ?_)
  simp
 -- an hour of a full span is full of heaps of the span
 have key : ∀ t, fullU k A t = true → k ≤ q.countP fun x => inU (fullU k A) x.1 && decide (x.2 = t) := fun t ht => by
  obtain ⟨a, b, ⟨t1, t2, t3, t4⟩, t5, t6⟩ := fullU_iff.1 ht
  have hsum := count_hours (fun x : Hp × Int => x.2) (fun x => decide (a ≤ x.1.1) && decide (x.1.2 ≤ b)) (dayL.filter fun t => decide (a ≤ t) && decide (t ≤ b)) (nodup_day.filter _) q (fun x hx hw => by
   have h2 := hok x hx
   have h3 := q1 x hx
   simp only [Bool.and_eq_true, decide_eq_true_eq] at hw
   refine List.mem_filter.2 ⟨mem_day.2 (by omega), ?_⟩
   simp only [Bool.and_eq_true, decide_eq_true_eq]; omega)
  have hc : (q.countP fun x => decide (a ≤ x.1.1) && decide (x.1.2 ≤ b)) = crw A a b := by
   unfold crw
   rw [← q3, List.countP_map]
   rfl
  rw [hc] at hsum
  have hlen := day_span t1 t2 t3
  have hmul : k * (dayL.filter fun t => decide (a ≤ t) && decide (t ≤ b)).length ≤ crw A a b := by
   have : ((k * (dayL.filter fun t => decide (a ≤ t) && decide (t ≤ b)).length : Nat) : Int) = (k : Int) * (b - a + 1) := by rw [Int.natCast_mul, hlen]
   omega
  rw [hsum] at hmul
  have hfull := sum_full (fun u _ => Nat.le_trans (countP_le (fun x hx hw => by
   simp only [Bool.and_eq_true] at hw
   exact hw.2)) (hat u)) hmul t (List.mem_filter.2 ⟨mem_day.2 (by omega), by simp only [Bool.and_eq_true, decide_eq_true_eq]; omega⟩)
  refine Nat.le_trans (Nat.le_of_eq hfull.symm) (countP_le (fun x hx hw => ?_))
  simp only [Bool.and_eq_true, decide_eq_true_eq] at hw ⊢
  refine ⟨(inU_iff ⟨(hok x hx).1, (hok x hx).2.2⟩).2 (fun u u1 u2 => fullU_iff.2 ⟨a, b, ⟨t1, t2, t3, t4⟩, by omega, by omega⟩), hw.2⟩
 have h0 : A.countP (inU (fullU k A)) = q.countP (inU (fullU k A) ∘ Prod.fst) := by
  generalize fullU k A = U
  rw [← q3, List.countP_map]
 rw [h0]
 have h1 : (q.countP fun x => inU (fullU k A) x.1 && fullU k A x.2) ≤ q.countP (inU (fullU k A) ∘ Prod.fst) := countP_le (fun x hx hw => by
  simp only [Bool.and_eq_true] at hw
  exact hw.1)
 have hsum := count_hours (fun x : Hp × Int => x.2) (fun x => inU (fullU k A) x.1 && fullU k A x.2) (dayL.filter (fullU k A)) (nodup_day.filter _) q (fun x hx hw => by
  have h2 := hok x hx
  have h3 := q1 x hx
  simp only [Bool.and_eq_true] at hw
  exact List.mem_filter.2 ⟨mem_day.2 (by omega), hw.2⟩)
 have h2 : k * (dayL.filter (fullU k A)).length ≤ ((dayL.filter (fullU k A)).map fun t => q.countP fun x => (inU (fullU k A) x.1 && fullU k A x.2) && decide (x.2 = t)).sum := by
  rw [← sum_const]
  refine sum_le (fun t ht => ?_)
  have htU := (List.mem_filter.1 ht).2
  refine Nat.le_trans (key t htU) (countP_le (fun x hx hw => ?_))
  simp only [Bool.and_eq_true, decide_eq_true_eq] at hw ⊢
  exact ⟨⟨hw.1, by rw [hw.2]; exact htU⟩, hw.2⟩
 rw [← hsum] at h2
 exact Nat.le_trans h2 h1
theorem crw_cons1 (h : Hp) (l : List Hp) (a b : Int) : crw (h :: l) a b = crw l a b + (if a ≤ h.1 ∧ h.2 ≤ b then 1 else 0) := by
 unfold crw
 rw [List.countP_cons]
 congr 1
 by_cases h1 : a ≤ h.1 <;> by_cases h2 : h.2 ≤ b <;> simp [h1, h2]
theorem not_added {k : Nat} {A : List Hp} (hf : Fits k A) {h : Hp} (hh : 0 ≤ h.1 ∧ h.1 ≤ h.2 ∧ h.2 ≤ 23) (hn : ¬ Fits k (h :: A)) : inU (fullU k A) h = true := by
 have : ∃ a b : Int, 0 ≤ a ∧ a ≤ b ∧ b ≤ 23 ∧ ¬ ((crw (h :: A) a b : Nat) : Int) ≤ k * (b - a + 1) := by
  by_cases q : ∃ a b : Int, 0 ≤ a ∧ a ≤ b ∧ b ≤ 23 ∧ ¬ ((crw (h :: A) a b : Nat) : Int) ≤ k * (b - a + 1)
  ·exact q
  ·exact absurd (fun a b h1 h2 h3 => by
    by_cases q2 : ((crw (h :: A) a b : Nat) : Int) ≤ k * (b - a + 1)
    ·exact q2
    ·exact absurd ⟨a, b, h1, h2, h3, q2⟩ q) hn
 obtain ⟨a, b, h1, h2, h3, h4⟩ := this
 have h5 := hf a b h1 h2 h3
 rw [crw_cons1] at h4
 generalize hX : (k : Int) * (b - a + 1) = X at h4 h5
 by_cases q : a ≤ h.1 ∧ h.2 ≤ b
 ·rw [if_pos q] at h4
  refine (inU_iff ⟨hh.1, hh.2.2⟩).2 (fun t t1 t2 => fullU_iff.2 ⟨a, b, ⟨h1, h2, h3, by rw [hX]; omega⟩, by omega, by omega⟩)
 ·rw [if_neg q] at h4
  exact absurd h5 h4
theorem kept_most {α : Type} {k : Nat} (g : α → Hp) (P Q : α → Bool) (Z : List α) (ho : OkL (Z.map g)) (hP : Fits k ((Z.filter P).map g)) (hQ : Fits k ((Z.filter Q).map g)) (hn : ∀ z ∈ Z, Q z = true → P z = false → ¬ Fits k (g z :: (Z.filter P).map g)) : Z.countP Q ≤ Z.countP P := by
 have hoP : OkL ((Z.filter P).map g) := fun x hx => by
  obtain ⟨z, z1, rfl⟩ := List.mem_map.1 hx
  exact ho _ (List.mem_map_of_mem (List.mem_filter.1 z1).1)
 have hoQ : OkL ((Z.filter Q).map g) := fun x hx => by
  obtain ⟨z, z1, rfl⟩ := List.mem_map.1 hx
  exact ho _ (List.mem_map_of_mem (List.mem_filter.1 z1).1)
 have h1 := fits_in hoQ hQ (fullU k ((Z.filter P).map g))
 have h2 := full_in hoP hP
 generalize hU : fullU k ((Z.filter P).map g) = U at h1 h2
 rw [List.countP_map, List.countP_filter] at h1 h2
 have hs : ∀ R : α → Bool, Z.countP R = (Z.countP fun z => (inU U ∘ g) z && R z) + Z.countP fun z => !(inU U ∘ g) z && R z := fun R => by
  have : ∀ Z : List α, Z.countP R = (Z.countP fun z => (inU U ∘ g) z && R z) + Z.countP fun z => !(inU U ∘ g) z && R z := by
   intro Z
   induction Z with
   | nil => rfl
   | cons z Z ih =>
    rw [List.countP_cons, List.countP_cons, List.countP_cons, ih]
    cases (inU U ∘ g) z <;> cases R z <;> simp <;> omega
  exact this Z
 have h3 : (Z.countP fun z => !(inU U ∘ g) z && Q z) ≤ Z.countP fun z => !(inU U ∘ g) z && P z := countP_le (fun z hz hw => by
  simp only [Bool.and_eq_true, Bool.not_eq_true'] at hw ⊢
  refine ⟨hw.1, ?_⟩
  cases hp : P z with
  | true => rfl
  | false =>
   have h4 := not_added hP (ho _ (List.mem_map_of_mem hz)) (hn z hz hw.2 hp)
   rw [hU] at h4
   have h5 : inU U (g z) = false := hw.1
   rw [h4] at h5; cases h5)
 have h4 := hs Q
 have h5 := hs P
 omega
end Go.Xm
