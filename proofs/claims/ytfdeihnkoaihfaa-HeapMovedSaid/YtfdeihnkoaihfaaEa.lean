/- Heaps that are turned hour by hour, those first that must be turned first: it can be done just if no span is crowded, and just if there is a plan. Plain Lean. Conditions: none. -/
import Derived.Test.YtfdeihnkoaihfaaMx
namespace Go.Xm
set_option linter.unusedVariables false
set_option linter.unusedSimpArgs false
abbrev Hp := Int × Int
def crw (l : List Hp) (a b : Int) : Nat := l.countP fun h => decide (a ≤ h.1) && decide (h.2 ≤ b)
def Fits (k : Nat) (l : List Hp) : Prop := ∀ a b : Int, 0 ≤ a → a ≤ b → b ≤ 23 → ((crw l a b : Nat) : Int) ≤ k * (b - a + 1)
def OkL (l : List Hp) : Prop := ∀ h ∈ l, 0 ≤ h.1 ∧ h.1 ≤ h.2 ∧ h.2 ≤ 23
def estep (t : Int) : List Hp → Nat → List Hp
 | [], _ => []
 | h :: l, 0 => h :: l
 | h :: l, k + 1 => if h.1 ≤ t then estep t l k else h :: estep t l (k + 1)
def etake (t : Int) : List Hp → Nat → List Hp
 | [], _ => []
 | _ :: _, 0 => []
 | h :: l, k + 1 => if h.1 ≤ t then h :: etake t l k else etake t l (k + 1)
theorem estep_count (t : Int) (p : Hp → Bool) : ∀ (l : List Hp) (k : Nat), l.countP p = (estep t l k).countP p + (etake t l k).countP p
 | [], _ => rfl
 | h :: l, 0 => rfl
 | h :: l, k + 1 => by
  unfold estep etake
  by_cases e : h.1 ≤ t
  ·rw [if_pos e, if_pos e, List.countP_cons, List.countP_cons, estep_count t p l k]; omega
  ·rw [if_neg e, if_neg e, List.countP_cons, List.countP_cons, estep_count t p l (k + 1)]; omega
theorem estep_perm (t : Int) : ∀ (l : List Hp) (k : Nat), (etake t l k ++ estep t l k).Perm l
 | [], _ => List.Perm.refl _
 | h :: l, 0 => List.Perm.refl _
 | h :: l, k + 1 => by
  unfold estep etake
  by_cases e : h.1 ≤ t
  ·rw [if_pos e, if_pos e]; exact (estep_perm t l k).cons h
  ·rw [if_neg e, if_neg e]
   exact (List.perm_middle).trans ((estep_perm t l (k + 1)).cons h)
theorem etake_mem {t : Int} : ∀ {l : List Hp} {k : Nat} {x : Hp}, x ∈ etake t l k → x.1 ≤ t ∧ x ∈ l
 | [], _, x, h => by cases h
 | y :: l, 0, x, h => by cases h
 | y :: l, k + 1, x, h => by
  unfold etake at h
  by_cases e : y.1 ≤ t
  ·rw [if_pos e] at h
   rcases List.mem_cons.1 h with rfl | h
   ·exact ⟨e, List.mem_cons_self ..⟩
   ·exact ⟨(etake_mem h).1, List.mem_cons_of_mem _ (etake_mem h).2⟩
  ·rw [if_neg e] at h
   exact ⟨(etake_mem h).1, List.mem_cons_of_mem _ (etake_mem h).2⟩
theorem etake_len (t : Int) : ∀ (l : List Hp) (k : Nat), (etake t l k).length ≤ k
 | [], _ => Nat.zero_le _
 | _ :: _, 0 => Nat.zero_le _
 | h :: l, k + 1 => by
  unfold etake
  by_cases e : h.1 ≤ t
  ·rw [if_pos e]; have := etake_len t l k; simp only [List.length_cons]; omega
  ·rw [if_neg e]; exact etake_len t l (k + 1)
theorem estep_sub (t : Int) : ∀ (l : List Hp) (k : Nat), (estep t l k).Sublist l
 | [], _ => List.Sublist.refl _
 | h :: l, 0 => List.Sublist.refl _
 | h :: l, k + 1 => by
  unfold estep
  by_cases e : h.1 ≤ t
  ·rw [if_pos e]; exact (estep_sub t l k).cons h
  ·rw [if_neg e]; exact (estep_sub t l (k + 1)).cons_cons h
def SortedTo (l : List Hp) : Prop := l.Pairwise fun a b => a.2 ≤ b.2
theorem estep_key (t b : Int) : ∀ (l : List Hp) (k : Nat), SortedTo l → ((etake t l k).length = k ∧ ∀ h ∈ etake t l k, h.2 ≤ b) ∨ ∀ h ∈ estep t l k, h.2 ≤ b → t < h.1
 | [], k, _ => .inr (fun h hh => by cases hh)
 | h :: l, 0, _ => .inl ⟨rfl, fun h hh => by cases hh⟩
 | h :: l, k + 1, hs => by
  unfold estep etake
  have hs' := List.pairwise_cons.1 hs
  by_cases e : h.1 ≤ t
  ·rw [if_pos e, if_pos e]
   rcases estep_key t b l k hs'.2 with ⟨h1, h2⟩ | h1
   ·by_cases hb : h.2 ≤ b
    ·refine .inl ⟨by simp [h1], fun x hx => ?_⟩
     rcases List.mem_cons.1 hx with rfl | hx
     ·exact hb
     ·exact h2 x hx
    ·refine .inr (fun x hx hxb => ?_)
     have := hs'.1 x ((estep_sub t l k).subset hx)
     omega
   ·exact .inr h1
  ·rw [if_neg e, if_neg e]
   rcases estep_key t b l (k + 1) hs'.2 with h1 | h1
   ·exact .inl h1
   ·refine .inr (fun x hx hxb => ?_)
    rcases List.mem_cons.1 hx with rfl | hx
    ·omega
    ·exact h1 x hx hxb
def cnt (t : Int) (l : List Hp) (a b : Int) : Nat := l.countP fun h => decide (a ≤ max h.1 t) && decide (h.2 ≤ b)
def FT (k : Nat) (t : Int) (l : List Hp) : Prop := ∀ a b : Int, t ≤ a → a ≤ b → ((cnt t l a b : Nat) : Int) ≤ k * (b - a + 1)
theorem mul_mono {k : Nat} {x y : Int} (h : x ≤ y) : (k : Int) * x ≤ k * y := Int.mul_le_mul_of_nonneg_left h (by omega)
theorem mul_nn {k : Nat} {x : Int} (h : 0 ≤ x) : 0 ≤ (k : Int) * x := Int.mul_nonneg (by omega) h
theorem mul_succ {k : Nat} {x : Int} : (k : Int) * (x + 1) = k * x + k := by rw [Int.mul_add, Int.mul_one]
theorem countP_le {α : Type} {p q : α → Bool} {l : List α} (h : ∀ x ∈ l, p x = true → q x = true) : l.countP p ≤ l.countP q := List.countP_mono_left h
theorem countP_none {α : Type} {p : α → Bool} {l : List α} (h : ∀ x ∈ l, p x = false) : l.countP p = 0 := by
 rw [List.countP_eq_zero]
 intro x hx
 simp [h x hx]
theorem countP_every {α : Type} {p : α → Bool} {l : List α} (h : ∀ x ∈ l, p x = true) : l.countP p = l.length := List.countP_eq_length.2 h
theorem ft_step (k : Nat) (t : Int) (l : List Hp) (hs : SortedTo l) (ha : ∀ h ∈ l, h.1 ≤ h.2 ∧ t ≤ h.2) : FT k t l ↔ (∀ h ∈ estep t l k, t < h.2) ∧ FT k (t + 1) (estep t l k) := by
 have hsub := fun x hx => (estep_sub t l k).subset (a := x) hx
 constructor
 ·intro hF
  have h1 : ∀ h ∈ estep t l k, t < h.2 := by
   intro h hh
   have hal := ha h (hsub h hh)
   rcases estep_key t t l k hs with ⟨q1, q2⟩ | q1
   ·have hc := hF t t (by omega) (by omega)
    have hc2 := estep_count t (fun h => decide (t ≤ max h.1 t) && decide (h.2 ≤ t)) l k
    have hc3 : (etake t l k).countP (fun h => decide (t ≤ max h.1 t) && decide (h.2 ≤ t)) = k := by
     rw [countP_every (fun x hx => by have := q2 x hx; simp only [Bool.and_eq_true, decide_eq_true_eq]; omega), q1]
    by_cases he : t < h.2
    ·exact he
    ·have hc4 : 0 < (estep t l k).countP (fun h => decide (t ≤ max h.1 t) && decide (h.2 ≤ t)) :=
      List.countP_pos_iff.2 ⟨h, hh, by simp only [Bool.and_eq_true, decide_eq_true_eq]; omega⟩
     have e1 : (k : Int) * (t - t + 1) = k := by rw [Int.sub_self, Int.zero_add, Int.mul_one]
     unfold cnt at hc
     rw [e1] at hc
     omega
   ·by_cases he : t < h.2
    ·exact he
    ·have := q1 h hh (by omega); omega
  refine ⟨h1, fun a b hab hb => ?_⟩
  by_cases ea : a = t + 1
  ·subst ea
   rcases estep_key t b l k hs with ⟨q1, q2⟩ | q1
   ·have hc := hF t b (by omega) (by omega)
    have hc2 := estep_count t (fun h => decide (t ≤ max h.1 t) && decide (h.2 ≤ b)) l k
    have hc3 : (etake t l k).countP (fun h => decide (t ≤ max h.1 t) && decide (h.2 ≤ b)) = k := by
     rw [countP_every (fun x hx => by have := q2 x hx; simp only [Bool.and_eq_true, decide_eq_true_eq]; omega), q1]
    have hc4 : cnt (t + 1) (estep t l k) (t + 1) b ≤ (estep t l k).countP (fun h => decide (t ≤ max h.1 t) && decide (h.2 ≤ b)) := by
     refine countP_le (fun x hx => ?_)
     simp only [Bool.and_eq_true, decide_eq_true_eq]; omega
    have e1 : (k : Int) * (b - t + 1) = k * (b - (t + 1) + 1) + k := by rw [← mul_succ]; congr 1; omega
    unfold cnt at hc
    rw [e1] at hc
    omega
   ·have hc := hF (t + 1) b (by omega) (by omega)
    have hc4 : cnt (t + 1) (estep t l k) (t + 1) b ≤ cnt t l (t + 1) b := by
     refine Nat.le_trans (countP_le (q := fun h => decide (t + 1 ≤ max h.1 t) && decide (h.2 ≤ b)) (fun x hx => ?_)) (List.Sublist.countP_le (estep_sub t l k))
     simp only [Bool.and_eq_true, decide_eq_true_eq]
     intro hx2
     have := q1 x hx hx2.2
     omega
    omega
  ·have hc := hF a b (by omega) hb
   have hc4 : cnt (t + 1) (estep t l k) a b ≤ cnt t l a b := by
    refine Nat.le_trans (countP_le (q := fun h => decide (a ≤ max h.1 t) && decide (h.2 ≤ b)) (fun x hx => ?_)) (List.Sublist.countP_le (estep_sub t l k))
    simp only [Bool.and_eq_true, decide_eq_true_eq]
    omega
   omega
 ·rintro ⟨h1, hF⟩ a b hta hab
  have hc2 := estep_count t (fun h => decide (a ≤ max h.1 t) && decide (h.2 ≤ b)) l k
  by_cases ea : a = t
  ·subst ea
   have hc3 : (etake a l k).countP (fun h => decide (a ≤ max h.1 a) && decide (h.2 ≤ b)) ≤ k := Nat.le_trans List.countP_le_length (etake_len a l k)
   by_cases eb : b = a
   ·subst eb
    have hc4 : (estep b l k).countP (fun h => decide (b ≤ max h.1 b) && decide (h.2 ≤ b)) = 0 := by
     refine countP_none (fun x hx => ?_)
     have := h1 x hx
     rw [Bool.and_eq_false_iff]
     right
     simp only [decide_eq_false_iff_not]; omega
    have e1 : (k : Int) * (b - b + 1) = k := by rw [Int.sub_self, Int.zero_add, Int.mul_one]
    unfold cnt
    rw [e1]
    omega
   ·have hc := hF (a + 1) b (by omega) (by omega)
    have hc4 : (estep a l k).countP (fun h => decide (a ≤ max h.1 a) && decide (h.2 ≤ b)) ≤ cnt (a + 1) (estep a l k) (a + 1) b := by
     refine countP_le (fun x hx => ?_)
     simp only [Bool.and_eq_true, decide_eq_true_eq]; omega
    have e1 : (k : Int) * (b - a + 1) = k * (b - (a + 1) + 1) + k := by rw [← mul_succ]; congr 1; omega
    unfold cnt at hc hc4 ⊢
    rw [e1]
    omega
  ·have hc := hF a b (by omega) hab
   have hc3 : (etake t l k).countP (fun h => decide (a ≤ max h.1 t) && decide (h.2 ≤ b)) = 0 := by
    refine countP_none (fun x hx => ?_)
    have := (etake_mem hx).1
    rw [Bool.and_eq_false_iff]
    left
    simp only [decide_eq_false_iff_not]; omega
   have hc4 : (estep t l k).countP (fun h => decide (a ≤ max h.1 t) && decide (h.2 ≤ b)) ≤ cnt (t + 1) (estep t l k) a b := by
    refine countP_le (fun x hx => ?_)
    simp only [Bool.and_eq_true, decide_eq_true_eq]; omega
   unfold cnt at hc hc4 ⊢
   omega
def edf (k : Nat) : Nat → Int → List Hp → Bool
 | 0, _, _ => true
 | n + 1, t, l => match l with
  | [] => true
  | h :: l0 => (estep t (h :: l0) k).all (fun h => decide (t < h.2)) && edf k n (t + 1) (estep t (h :: l0) k)
theorem ft_nil (k : Nat) (t : Int) : FT k t [] := fun a b h1 h2 => by
 have := mul_nn (k := k) (x := b - a + 1) (by omega)
 simpa [cnt] using this
theorem edf_iff (k : Nat) : ∀ (n : Nat) (t : Int) (l : List Hp), SortedTo l → (∀ h ∈ l, h.1 ≤ h.2 ∧ t ≤ h.2 ∧ h.2 ≤ 23) → 24 ≤ t + n → (edf k n t l = true ↔ FT k t l)
 | n, t, [], _, _, _ => by
  have e : edf k n t [] = true := by cases n <;> rfl
  simp only [e, true_iff]
  exact ft_nil k t
 | 0, t, h :: l, _, ha, hn => by
  have := ha h (List.mem_cons_self ..)
  omega
 | n + 1, t, h :: l, hs, ha, hn => by
  have hst := ft_step k t (h :: l) hs (fun x hx => ⟨(ha x hx).1, (ha x hx).2.1⟩)
  rw [hst]
  have hsub := fun x hx => (estep_sub t (h :: l) k).subset (a := x) hx
  simp only [edf, Bool.and_eq_true, List.all_eq_true, decide_eq_true_eq]
  constructor
  ·rintro ⟨h1, h2⟩
   refine ⟨h1, (edf_iff k n (t + 1) _ (hs.sublist (estep_sub ..)) (fun x hx => ⟨(ha x (hsub x hx)).1, ?_, (ha x (hsub x hx)).2.2⟩) (by omega)).1 h2⟩
   have := h1 x hx; omega
  ·rintro ⟨h1, h2⟩
   refine ⟨h1, (edf_iff k n (t + 1) _ (hs.sublist (estep_sub ..)) (fun x hx => ⟨(ha x (hsub x hx)).1, ?_, (ha x (hsub x hx)).2.2⟩) (by omega)).2 h2⟩
   have := h1 x hx; omega
theorem ft_fits (k : Nat) (l : List Hp) (ho : OkL l) : FT k 0 l ↔ Fits k l := by
 have e : ∀ a b : Int, 0 ≤ a → cnt 0 l a b = crw l a b := by
  intro a b _
  refine Nat.le_antisymm (countP_le (fun x hx => ?_)) (countP_le (fun x hx => ?_)) <;>
   (have := ho x hx; simp only [Bool.and_eq_true, decide_eq_true_eq]; omega)
 constructor
 ·intro h a b h1 h2 h3
  have := h a b h1 h2
  rw [e a b h1] at this
  exact this
 ·intro h a b h1 h2
  rw [e a b h1]
  by_cases hb : b ≤ 23
  ·exact h a b h1 h2 hb
  ·by_cases ha : a ≤ 23
   ·have h4 : crw l a b = crw l a 23 := by
     refine Nat.le_antisymm (countP_le (fun x hx => ?_)) (countP_le (fun x hx => ?_)) <;>
      (have := ho x hx; simp only [Bool.and_eq_true, decide_eq_true_eq]; omega)
    rw [h4]
    refine Int.le_trans (h a 23 h1 ha (by omega)) (mul_mono (by omega))
   ·have h4 : crw l a b = 0 := by
     refine countP_none (fun x hx => ?_)
     have := ho x hx
     rw [Bool.and_eq_false_iff]
     left
     simp only [decide_eq_false_iff_not]; omega
    rw [h4]
    exact mul_nn (by omega)
theorem fits_perm {k : Nat} {l l' : List Hp} (h : l.Perm l') (hf : Fits k l) : Fits k l' := fun a b h1 h2 h3 => by
 have := hf a b h1 h2 h3
 unfold crw at this ⊢
 rw [← h.countP_eq]
 exact this
def Plan (k : Nat) (l : List Hp) (p : List Int) : Prop := p.length = l.length ∧ (∀ x ∈ l.zip p, x.1.1 ≤ x.2 ∧ x.2 ≤ x.1.2) ∧ ∀ t, p.count t ≤ k
def PlanQ (k : Nat) (q : List (Hp × Int)) : Prop := (∀ x ∈ q, x.1.1 ≤ x.2 ∧ x.2 ≤ x.1.2) ∧ ∀ t, (q.map Prod.snd).count t ≤ k
theorem planQ_perm {k : Nat} {q q' : List (Hp × Int)} (h : q.Perm q') (hp : PlanQ k q) : PlanQ k q' :=
 ⟨fun x hx => hp.1 x (h.mem_iff.2 hx), fun t => by rw [← (h.map Prod.snd).count_eq]; exact hp.2 t⟩
theorem perm_map {α β : Type} {f : α → β} {l1 l2 : List β} (h : l1.Perm l2) : ∀ q : List α, q.map f = l1 → ∃ q', q.Perm q' ∧ q'.map f = l2 := by
 induction h with
 | nil => intro q hq; exact ⟨q, List.Perm.refl _, hq⟩
 | cons x h ih =>
  intro q hq
  obtain ⟨a, q0, rfl, rfl, rfl⟩ := List.map_eq_cons_iff.1 hq
  obtain ⟨q1, p1, p2⟩ := ih q0 rfl
  exact ⟨a :: q1, p1.cons a, by simp [p2]⟩
 | swap x y l =>
  intro q hq
  obtain ⟨a, q0, rfl, rfl, h2⟩ := List.map_eq_cons_iff.1 hq
  obtain ⟨b, q1, rfl, rfl, rfl⟩ := List.map_eq_cons_iff.1 h2
  exact ⟨b :: a :: q1, List.Perm.swap b a q1, by simp⟩
 | trans h1 h2 ih1 ih2 =>
  intro q hq
  obtain ⟨q1, p1, p2⟩ := ih1 q hq
  obtain ⟨q2, r1, r2⟩ := ih2 q1 p2
  exact ⟨q2, p1.trans r1, r2⟩
theorem planQ_of (k : Nat) : ∀ (n : Nat) (t : Int) (l : List Hp), SortedTo l → (∀ h ∈ l, h.1 ≤ h.2 ∧ t ≤ h.2 ∧ h.2 ≤ 23) → 24 ≤ t + n → FT k t l → ∃ q : List (Hp × Int), (q.map Prod.fst).Perm l ∧ PlanQ k q ∧ ∀ x ∈ q, t ≤ x.2
 | n, t, [], _, _, _, _ => ⟨[], List.Perm.refl _, ⟨fun x hx => (by cases hx), fun t => by simp⟩, fun x hx => by cases hx⟩
 | 0, t, h :: l, _, ha, hn, _ => by
  have := ha h (List.mem_cons_self ..)
  omega
 | n + 1, t, h :: l, hs, ha, hn, hF => by
  obtain ⟨h1, h2⟩ := (ft_step k t (h :: l) hs (fun x hx => ⟨(ha x hx).1, (ha x hx).2.1⟩)).1 hF
  have hsub := fun x hx => (estep_sub t (h :: l) k).subset (a := x) hx
  obtain ⟨q, q1, q2, q3⟩ := planQ_of k n (t + 1) _ (hs.sublist (estep_sub ..)) (fun x hx => ⟨(ha x (hsub x hx)).1, by have := h1 x hx; omega, (ha x (hsub x hx)).2.2⟩) (by omega) h2
  have hm : ((etake t (h :: l) k).map fun x => ((x, t) : Hp × Int)).map Prod.fst = etake t (h :: l) k := by simp [List.map_map, Function.comp_def]
  refine ⟨(etake t (h :: l) k).map (fun x => (x, t)) ++ q, ?_, ⟨fun x hx => ?_, fun u => ?_⟩, fun x hx => ?_⟩
  ·rw [List.map_append, hm]
   exact (List.Perm.append_left _ q1).trans (estep_perm t (h :: l) k)
  ·rcases List.mem_append.1 hx with hx | hx
   ·obtain ⟨y, y1, rfl⟩ := List.mem_map.1 hx
    have := etake_mem y1
    exact ⟨this.1, (ha y this.2).2.1⟩
   ·exact q2.1 x hx
  ·rw [List.map_append, List.count_append]
   have e1 : ((etake t (h :: l) k).map fun x => ((x, t) : Hp × Int)).map Prod.snd = List.replicate (etake t (h :: l) k).length t := by
    rw [List.map_map]; simp [Function.comp_def, List.map_const']
   rw [e1, List.count_replicate]
   have hlen := etake_len t (h :: l) k
   by_cases eu : t = u
   ·subst eu
    have e2 : (q.map Prod.snd).count t = 0 := by
     rw [List.count_eq_zero]
     intro hm
     obtain ⟨x, x1, x2⟩ := List.mem_map.1 hm
     have := q3 x x1
     omega
    rw [e2]
    simp only [beq_self_eq_true, if_true]
    omega
   ·have : (t == u) = false := by simp [eu]
    rw [this]
    have := q2.2 u
    simp only [Bool.false_eq_true, if_false]
    omega
  ·rcases List.mem_append.1 hx with hx | hx
   ·obtain ⟨y, y1, rfl⟩ := List.mem_map.1 hx
    exact Int.le_refl _
   ·have := q3 x hx; omega
theorem count_span (p : List Int) (k : Nat) (hk : ∀ t, p.count t ≤ k) (a : Int) : ∀ n : Nat, (((p.countP fun x => decide (a ≤ x) && decide (x ≤ a + n)) : Nat) : Int) ≤ k * ((n : Int) + 1)
 | 0 => by
  have h1 : (p.countP fun x => decide (a ≤ x) && decide (x ≤ a + (0 : Nat))) ≤ p.count a := by
   refine countP_le (fun x hx => ?_)
   simp only [Bool.and_eq_true, decide_eq_true_eq, beq_iff_eq]; omega
  have h2 := hk a
  have e : (k : Int) * (((0 : Nat) : Int) + 1) = k := by rw [show ((0 : Nat) : Int) = 0 from rfl, Int.zero_add, Int.mul_one]
  rw [e]
  omega
 | n + 1 => by
  have ih := count_span p k hk a n
  have h2 := hk (a + (n + 1 : Nat))
  have h1 : (p.countP fun x => decide (a ≤ x) && decide (x ≤ a + (n + 1 : Nat))) ≤ (p.countP fun x => decide (a ≤ x) && decide (x ≤ a + n)) + p.count (a + (n + 1 : Nat)) := by
   clear ih h2 hk
   induction p with
   | nil => simp
   | cons x p ihp =>
    rw [List.countP_cons, List.countP_cons, List.count_cons]
    by_cases e : x = a + (n + 1 : Nat)
    ·subst e
     simp only [beq_self_eq_true, if_true]
     split <;> split <;> omega
    ·have e0 : (x == a + (n + 1 : Nat)) = false := by simp only [beq_eq_false_iff_ne]; exact e
     rw [e0]
     by_cases e1 : a ≤ x ∧ x ≤ a + n
     ·have e2 : (decide (a ≤ x) && decide (x ≤ a + (n + 1 : Nat))) = true := by simp only [Bool.and_eq_true, decide_eq_true_eq]; omega
      have e3 : (decide (a ≤ x) && decide (x ≤ a + n)) = true := by simp only [Bool.and_eq_true, decide_eq_true_eq]; omega
      rw [e2, e3]; simp only [if_true, Bool.false_eq_true, if_false]; omega
     ·have e2 : (decide (a ≤ x) && decide (x ≤ a + (n + 1 : Nat))) = false := by
       rw [Bool.and_eq_false_iff]; simp only [decide_eq_false_iff_not]; omega
      rw [e2]; simp only [Bool.false_eq_true, if_false]
      split <;> omega
  have e : (k : Int) * (((n + 1 : Nat) : Int) + 1) = k * ((n : Int) + 1) + k := by rw [← mul_succ]; congr 1
  rw [e]
  omega
theorem fits_of_planQ {k : Nat} {q : List (Hp × Int)} (hp : PlanQ k q) : Fits k (q.map Prod.fst) := by
 intro a b h1 h2 h3
 have hc := count_span (q.map Prod.snd) k hp.2 a (b - a).toNat
 have e1 : ((b - a).toNat : Int) = b - a := Int.toNat_of_nonneg (by omega)
 rw [e1] at hc
 have h4 : crw (q.map Prod.fst) a b ≤ ((q.map Prod.snd).countP fun x => decide (a ≤ x) && decide (x ≤ a + (b - a))) := by
  unfold crw
  rw [List.countP_map, List.countP_map]
  refine countP_le (fun x hx => ?_)
  have := hp.1 x hx
  simp only [Function.comp, Bool.and_eq_true, decide_eq_true_eq]
  omega
 omega
theorem fst_zip {α β : Type} : ∀ (l : List α) (p : List β), p.length = l.length → (l.zip p).map Prod.fst = l
 | [], [], _ => rfl
 | _ :: l, _ :: p, h => by simp [fst_zip l p (by simpa using h)]
theorem snd_zip {α β : Type} : ∀ (l : List α) (p : List β), p.length = l.length → (l.zip p).map Prod.snd = p
 | [], [], _ => rfl
 | _ :: l, _ :: p, h => by simp [snd_zip l p (by simpa using h)]
theorem zip_maps {α β : Type} : ∀ q : List (α × β), (q.map Prod.fst).zip (q.map Prod.snd) = q
 | [] => rfl
 | (a, b) :: q => by simp [zip_maps q]
theorem plan_planQ {k : Nat} {l : List Hp} {p : List Int} (h : Plan k l p) : PlanQ k (l.zip p) ∧ (l.zip p).map Prod.fst = l :=
 ⟨⟨h.2.1, fun t => by rw [snd_zip l p h.1]; exact h.2.2 t⟩, fst_zip l p h.1⟩
theorem planQ_plan {k : Nat} {q : List (Hp × Int)} (h : PlanQ k q) : Plan k (q.map Prod.fst) (q.map Prod.snd) :=
 ⟨by simp, fun x hx => by rw [zip_maps] at hx; exact h.1 x hx, h.2⟩
theorem fits_of_plan {k : Nat} {l : List Hp} {p : List Int} (h : Plan k l p) : Fits k l := by
 obtain ⟨h1, h2⟩ := plan_planQ h
 have := fits_of_planQ h1
 rwa [h2] at this
theorem fits_iff_plan {k : Nat} {l : List Hp} (ho : OkL l) : Fits k l ↔ ∃ p, Plan k l p := by
 constructor
 ·intro hf
  have hperm : (l.mergeSort fun a b => decide (a.2 ≤ b.2)).Perm l := List.mergeSort_perm l _
  generalize hs : (l.mergeSort fun a b => decide (a.2 ≤ b.2)) = s at hperm
  have hsort : SortedTo s := by
   have h0 := List.pairwise_mergeSort (le := fun a b : Hp => decide (a.2 ≤ b.2)) (by intro a b c; simp only [decide_eq_true_eq]; omega) (by intro a b; simp only [Bool.or_eq_true, decide_eq_true_eq]; omega) l
   rw [hs] at h0
   exact h0.imp (fun h => of_decide_eq_true h)
  have hos : OkL s := fun x hx => ho x (hperm.mem_iff.1 hx)
  have hft : FT k 0 s := (ft_fits k s hos).2 (fits_perm hperm.symm hf)
  obtain ⟨q, q1, q2, _⟩ := planQ_of k 24 0 s hsort (fun x hx => ⟨(hos x hx).2.1, by have := hos x hx; omega, (hos x hx).2.2⟩) (by omega) hft
  obtain ⟨q', r1, r2⟩ := perm_map (q1.trans hperm) q rfl
  refine ⟨q'.map Prod.snd, ?_⟩
  have := planQ_plan (planQ_perm r1 q2)
  rwa [r2] at this
 ·rintro ⟨p, hp⟩
  exact fits_of_plan hp
theorem fits_some {k : Nat} {l : List Hp} (ho : OkL l) (hf : Fits k l) {i : Nat} (hi : i < l.length) : ∃ x : Int, (l[i]).1 ≤ x ∧ x ≤ (l[i]).2 ∧ Fits k (l.set i (x, x)) := by
 obtain ⟨p, h1, h2, h3⟩ := (fits_iff_plan ho).1 hf
 have hp : i < p.length := by omega
 have hz : (l[i], p[i]) ∈ l.zip p := by
  refine List.mem_of_getElem? (i := i) ?_
  rw [List.getElem?_zip_eq_some]
  exact ⟨List.getElem?_eq_getElem hi, List.getElem?_eq_getElem hp⟩
 have := h2 _ hz
 refine ⟨p[i], this.1, this.2, fits_of_plan (p := p) ⟨by simpa using h1, fun x hx => ?_, h3⟩⟩
 obtain ⟨j, hj⟩ := List.getElem?_of_mem hx
 rw [List.getElem?_zip_eq_some] at hj
 by_cases e : i = j
 ·subst e
  rw [List.getElem?_set_self hi, List.getElem?_eq_getElem hp] at hj
  obtain ⟨ha, hb⟩ := hj
  cases x
  simp only [Option.some.injEq] at ha hb
  subst ha
  subst hb
  exact ⟨Int.le_refl _, Int.le_refl _⟩
 ·rw [List.getElem?_set_ne e] at hj
  exact h2 x (List.mem_of_getElem? (List.getElem?_zip_eq_some.2 hj))
end Go.Xm
