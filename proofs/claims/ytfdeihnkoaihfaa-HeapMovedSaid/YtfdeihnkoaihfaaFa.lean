/- Hours that meet all heaps, and heaps that have no hour in common: as many are needed as there are. Plain Lean. Conditions: none. -/
import Derived.Test.YtfdeihnkoaihfaaEa
namespace Go.Xm
set_option linter.unusedVariables false
set_option linter.unusedSimpArgs false
def hasB (t : Int) (h : Hp) : Bool := decide (h.1 ≤ t ∧ t ≤ h.2)
def rem (t : Int) (l : List Hp) : List Hp := l.filter fun h => !hasB t h
def mnT (l : List Hp) (c : Int) : Int := l.foldl (fun c h => min c h.2) c
def lastT (l : List Hp) : Int := mnT l (l.getD 0 (0, 0)).2
theorem mnT_le : ∀ (l : List Hp) (c : Int), mnT l c ≤ c ∧ ∀ h ∈ l, mnT l c ≤ h.2
 | [], c => ⟨Int.le_refl _, fun h hh => by cases hh⟩
 | x :: l, c => by
  obtain ⟨h1, h2⟩ := mnT_le l (min c x.2)
  have e : mnT (x :: l) c = mnT l (min c x.2) := rfl
  rw [e]
  refine ⟨by omega, fun h hh => ?_⟩
  rcases List.mem_cons.1 hh with rfl | hh
  ·omega
  ·exact h2 h hh
theorem mnT_is : ∀ (l : List Hp) (c : Int), mnT l c = c ∨ ∃ h ∈ l, h.2 = mnT l c
 | [], c => .inl rfl
 | x :: l, c => by
  have e : mnT (x :: l) c = mnT l (min c x.2) := rfl
  rw [e]
  rcases mnT_is l (min c x.2) with h | ⟨h, hh, h2⟩
  ·by_cases q : c ≤ x.2
   ·exact .inl (by rw [h]; omega)
   ·exact .inr ⟨x, List.mem_cons_self .., by rw [h]; omega⟩
  ·exact .inr ⟨h, List.mem_cons_of_mem _ hh, h2⟩
theorem lastT_le {l : List Hp} : ∀ h ∈ l, lastT l ≤ h.2 := (mnT_le l _).2
theorem lastT_is {l : List Hp} (hl : l ≠ []) : ∃ h ∈ l, h.2 = lastT l := by
 cases l with
 | nil => exact absurd rfl hl
 | cons x l =>
  rcases mnT_is (x :: l) x.2 with h | h
  ·exact ⟨x, List.mem_cons_self .., h.symm⟩
  ·exact h
theorem OkL.filter {l : List Hp} (h : OkL l) (p : Hp → Bool) : OkL (l.filter p) := fun x hx => h x (List.mem_filter.1 hx).1
theorem OkL.tail {h : Hp} {l : List Hp} (ho : OkL (h :: l)) : OkL l := fun x hx => ho x (List.mem_cons_of_mem _ hx)
theorem OkL.sub {l l' : List Hp} (h : OkL l) (hs : ∀ x ∈ l', x ∈ l) : OkL l' := fun x hx => h x (hs x hx)
theorem OkL.rem {l : List Hp} (h : OkL l) (t : Int) : OkL (rem t l) := h.filter _
theorem mem_rem {t : Int} {l : List Hp} {h : Hp} : h ∈ rem t l ↔ h ∈ l ∧ ¬ (h.1 ≤ t ∧ t ≤ h.2) := by
 unfold rem hasB
 rw [List.mem_filter]
 simp only [Bool.not_eq_true', decide_eq_false_iff_not]
theorem rem_lt {l : List Hp} (hl : l ≠ []) (ho : OkL l) : (rem (lastT l) l).length < l.length := by
 obtain ⟨h, h1, h2⟩ := lastT_is hl
 unfold rem
 refine List.length_filter_lt_length_iff_exists.2 ⟨h, h1, ?_⟩
 have := ho h h1
 unfold hasB
 simp only [Bool.not_eq_true', decide_eq_false_iff_not]
 omega
def mtF : Nat → List Hp → Nat
 | 0, _ => 0
 | _ + 1, [] => 0
 | n + 1, h :: l => 1 + mtF n (rem (lastT (h :: l)) (h :: l))
def mt (l : List Hp) : Nat := mtF l.length l
def Stb (l : List Hp) (hs : List Int) : Prop := ∀ h ∈ l, ∃ t ∈ hs, h.1 ≤ t ∧ t ≤ h.2
theorem mtF_stb : ∀ (n : Nat) (l : List Hp), OkL l → l.length ≤ n → ∃ hs, hs.length = mtF n l ∧ Stb l hs
 | 0, l, _, hl => ⟨[], rfl, fun h hh => by rw [List.eq_nil_of_length_eq_zero (l := l) (by omega)] at hh; cases hh⟩
 | n + 1, [], _, _ => ⟨[], rfl, fun h hh => by cases hh⟩
 | n + 1, x :: l, ho, hl => by
  have hlt := rem_lt (l := x :: l) (by simp) ho
  obtain ⟨hs, h1, h2⟩ := mtF_stb n (rem (lastT (x :: l)) (x :: l)) (ho.filter _) (by omega)
  refine ⟨lastT (x :: l) :: hs, by simp only [List.length_cons, mtF]; omega, fun h hh => ?_⟩
  by_cases e : h.1 ≤ lastT (x :: l) ∧ lastT (x :: l) ≤ h.2
  ·exact ⟨_, List.mem_cons_self .., e⟩
  ·obtain ⟨t, t1, t2⟩ := h2 h (mem_rem.2 ⟨hh, e⟩)
   exact ⟨t, List.mem_cons_of_mem _ t1, t2⟩
theorem mtF_le : ∀ (n : Nat) (l : List Hp) (hs : List Int), OkL l → Stb l hs → mtF n l ≤ hs.length
 | 0, l, hs, _, _ => Nat.zero_le _
 | n + 1, [], hs, _, _ => Nat.zero_le _
 | n + 1, x :: l, hs, ho, hst => by
  obtain ⟨h0, g1, g2⟩ := lastT_is (l := x :: l) (by simp)
  obtain ⟨t, t1, t2, t3⟩ := hst h0 g1
  have ih := mtF_le n (rem (lastT (x :: l)) (x :: l)) (hs.erase t) (ho.filter _) (fun y hy => by
   obtain ⟨y1, y2⟩ := mem_rem.1 hy
   obtain ⟨s, s1, s2, s3⟩ := hst y y1
   have hl := lastT_le y y1
   refine ⟨s, (List.mem_erase_of_ne (fun q => ?_)).2 s1, s2, s3⟩
   subst q
   exact y2 ⟨by omega, hl⟩)
  rw [List.length_erase_of_mem t1] at ih
  have := List.length_pos_of_mem t1
  simp only [mtF]
  omega
theorem mtF_eq {n : Nat} {l : List Hp} (ho : OkL l) (hn : l.length ≤ n) : mtF n l = mt l := by
 obtain ⟨h1, a1, a2⟩ := mtF_stb n l ho hn
 obtain ⟨h2, b1, b2⟩ := mtF_stb l.length l ho (Nat.le_refl _)
 have c1 := mtF_le n l h2 ho b2
 have c2 := mtF_le l.length l h1 ho a2
 unfold mt
 omega
theorem mt_stb {l : List Hp} (ho : OkL l) : ∃ hs, hs.length = mt l ∧ Stb l hs := mtF_stb _ l ho (Nat.le_refl _)
theorem mt_le {l : List Hp} {hs : List Int} (ho : OkL l) (h : Stb l hs) : mt l ≤ hs.length := mtF_le _ l hs ho h
theorem mt_cons {h : Hp} {l : List Hp} (ho : OkL (h :: l)) : mt (h :: l) = 1 + mt (rem (lastT (h :: l)) (h :: l)) := by
 have hlt := rem_lt (l := h :: l) (by simp) ho
 show 1 + mtF l.length (rem (lastT (h :: l)) (h :: l)) = _
 rw [mtF_eq (l := rem (lastT (h :: l)) (h :: l)) (ho.filter _) (by simp only [List.length_cons] at hlt; omega)]
theorem mt_mono {l l' : List Hp} (ho : OkL l') (h : ∀ x ∈ l, x ∈ l') : mt l ≤ mt l' := by
 obtain ⟨hs, h1, h2⟩ := mt_stb ho
 rw [← h1]
 exact mt_le (ho.sub h) (fun x hx => h2 x (h x hx))
theorem mt_len {l : List Hp} (ho : OkL l) : mt l ≤ l.length := by
 have : ∀ (n : Nat) (l : List Hp), l.length ≤ n → OkL l → mtF n l ≤ l.length := by
  intro n
  induction n with
  | zero => intro l _ _; exact Nat.zero_le _
  | succ n ih =>
   intro l hl ho
   cases l with
   | nil => exact Nat.zero_le _
   | cons x l =>
    have hlt := rem_lt (l := x :: l) (by simp) ho
    have := ih (rem (lastT (x :: l)) (x :: l)) (by omega) (ho.filter _)
    simp only [mtF]
    omega
 exact this _ l (Nat.le_refl _) ho
theorem mt_rem {l : List Hp} (ho : OkL l) (t : Int) : mt l ≤ 1 + mt (rem t l) := by
 obtain ⟨hs, h1, h2⟩ := mt_stb (ho.filter fun h => !hasB t h)
 have := mt_le (hs := t :: hs) ho (fun x hx => by
  by_cases e : x.1 ≤ t ∧ t ≤ x.2
  ·exact ⟨t, List.mem_cons_self .., e⟩
  ·obtain ⟨s, s1, s2⟩ := h2 x (mem_rem.2 ⟨hx, e⟩)
   exact ⟨s, List.mem_cons_of_mem _ s1, s2⟩)
 simp only [List.length_cons] at this
 unfold rem
 omega
def shrd (x y : Hp) : Bool := decide (x.1 ≤ y.2 ∧ y.1 ≤ x.2)
theorem shrd_symm (x y : Hp) : shrd x y = shrd y x := by unfold shrd; congr 1; exact propext ⟨fun h => ⟨h.2, h.1⟩, fun h => ⟨h.2, h.1⟩⟩
def Dj (x y : Hp) : Prop := shrd x y = false
theorem mtF_ind : ∀ (n : Nat) (l : List Hp), OkL l → l.length ≤ n → ∃ c : List Hp, c.length = mtF n l ∧ (∀ x ∈ c, x ∈ l) ∧ c.Pairwise Dj
 | 0, l, _, hl => ⟨[], rfl, (fun x hx => by cases hx), List.Pairwise.nil⟩
 | n + 1, [], _, _ => ⟨[], rfl, (fun x hx => by cases hx), List.Pairwise.nil⟩
 | n + 1, x :: l, ho, hl => by
  have hlt := rem_lt (l := x :: l) (by simp) ho
  obtain ⟨c, h1, h2, h3⟩ := mtF_ind n (rem (lastT (x :: l)) (x :: l)) (ho.filter _) (by omega)
  obtain ⟨h0, g1, g2⟩ := lastT_is (l := x :: l) (by simp)
  refine ⟨h0 :: c, by simp only [List.length_cons, mtF]; omega, fun y hy => ?_, List.pairwise_cons.2 ⟨fun y hy => ?_, h3⟩⟩
  ·rcases List.mem_cons.1 hy with rfl | hy
   ·exact g1
   ·exact (mem_rem.1 (h2 y hy)).1
  ·obtain ⟨y1, y2⟩ := mem_rem.1 (h2 y hy)
   have hl := lastT_le y y1
   unfold Dj shrd
   simp only [decide_eq_false_iff_not]
   omega
theorem mt_ge1 {h : Hp} {l : List Hp} (ho : OkL (h :: l)) : 1 + mt (l.filter fun x => !shrd h x) ≤ mt (h :: l) := by
 obtain ⟨hs, h1, h2⟩ := mt_stb ho
 obtain ⟨t, t1, t2, t3⟩ := h2 h (List.mem_cons_self ..)
 have := mt_le (l := l.filter fun x => !shrd h x) (hs := hs.erase t) (ho.tail.filter _) (fun y hy => by
  obtain ⟨y1, y2⟩ := List.mem_filter.1 hy
  obtain ⟨s, s1, s2, s3⟩ := h2 y (List.mem_cons_of_mem _ y1)
  refine ⟨s, (List.mem_erase_of_ne (fun q => ?_)).2 s1, s2, s3⟩
  subst q
  simp only [shrd, Bool.not_eq_true', decide_eq_false_iff_not] at y2
  omega)
 rw [List.length_erase_of_mem t1] at this
 have := List.length_pos_of_mem t1
 omega
theorem mt_ind : ∀ (c : List Hp), OkL c → c.Pairwise Dj → c.length ≤ mt c
 | [], _, _ => Nat.zero_le _
 | h :: c, ho, hp => by
  obtain ⟨p1, p2⟩ := List.pairwise_cons.1 hp
  have h1 := mt_ge1 ho
  have e : (c.filter fun x => !shrd h x) = c := List.filter_eq_self.2 (fun x hx => by rw [show shrd h x = false from p1 x hx]; rfl)
  rw [e] at h1
  have := mt_ind c ho.tail p2
  simp only [List.length_cons]
  omega
theorem mt_rec {h : Hp} {l : List Hp} (ho : OkL (h :: l)) : mt (h :: l) = max (mt l) (1 + mt (l.filter fun x => !shrd h x)) := by
 have h1 := mt_ge1 ho
 have h2 := mt_mono (l := l) ho (fun x hx => List.mem_cons_of_mem _ hx)
 obtain ⟨c, c1, c2, c3⟩ := mtF_ind _ (h :: l) ho (Nat.le_refl _)
 have c1 : c.length = mt (h :: l) := c1
 have hoc : OkL c := ho.sub c2
 have hh := ho h (List.mem_cons_self ..)
 by_cases e : h ∈ c
 ·have hperm := List.perm_cons_erase e
  have hp2 : (h :: c.erase h).Pairwise Dj := (hperm.pairwise_iff (fun {x y} q => by unfold Dj at q ⊢; rw [shrd_symm]; exact q)).1 c3
  obtain ⟨p1, p2⟩ := List.pairwise_cons.1 hp2
  have hsub : ∀ x ∈ c.erase h, x ∈ l.filter fun x => !shrd h x := fun x hx => by
   have hd := p1 x hx
   refine List.mem_filter.2 ⟨?_, by rw [show shrd h x = false from hd]; rfl⟩
   rcases List.mem_cons.1 (c2 x (List.mem_of_mem_erase hx)) with rfl | q
   ·unfold Dj shrd at hd
    simp only [decide_eq_false_iff_not] at hd
    omega
   ·exact q
  have h3 := mt_ind (c.erase h) (hoc.sub (fun x hx => List.mem_of_mem_erase hx)) p2
  have h4 := mt_mono (ho.tail.filter _) hsub
  rw [List.length_erase_of_mem e] at h3
  have := List.length_pos_of_mem e
  omega
 ·have hsub : ∀ x ∈ c, x ∈ l := fun x hx => by
   rcases List.mem_cons.1 (c2 x hx) with rfl | q
   ·exact absurd hx e
   ·exact q
  have h3 := mt_ind c hoc c3
  have h4 := mt_mono ho.tail hsub
  omega
def hrL : Nat → Int → List Hp → List Int
 | 0, _, _ => []
 | d + 1, t, S => match S with
  | [] => []
  | h :: l => if mt (rem t (h :: l)) + 1 = mt (h :: l) then t :: hrL d (t + 1) (rem t (h :: l)) else hrL d (t + 1) (h :: l)
theorem rem_later {t : Int} {S : List Hp} (h : ∀ x ∈ S, t ≤ x.2) : ∀ x ∈ rem t S, t + 1 ≤ x.1 := fun x hx => by
 obtain ⟨x1, x2⟩ := mem_rem.1 hx
 have := h x x1
 omega
theorem take_last {h : Hp} {l : List Hp} (ho : OkL (h :: l)) : mt (rem (lastT (h :: l)) (h :: l)) + 1 = mt (h :: l) := by rw [mt_cons ho]; omega
theorem not_taken {t : Int} {S : List Hp} (ho : OkL S) (h : ∀ x ∈ S, t ≤ x.2) (hne : S ≠ []) (hn : ¬ mt (rem t S) + 1 = mt S) : ∀ x ∈ S, t + 1 ≤ x.2 := by
 intro x hx
 cases S with
 | nil => cases hx
 | cons y l =>
  obtain ⟨h0, g1, g2⟩ := lastT_is (l := y :: l) (by simp)
  have h1 := h h0 g1
  have h2 := lastT_le x hx
  by_cases e : t = lastT (y :: l)
  ·subst e; exact absurd (take_last ho) hn
  ·omega
theorem hrL_cons (d : Nat) (t : Int) (h : Hp) (l : List Hp) : hrL (d + 1) t (h :: l) = if mt (rem t (h :: l)) + 1 = mt (h :: l) then t :: hrL d (t + 1) (rem t (h :: l)) else hrL d (t + 1) (h :: l) := rfl
theorem hrL_len : ∀ (d : Nat) (t : Int) (S : List Hp), OkL S → (∀ x ∈ S, t ≤ x.2) → t + d = 24 → (hrL d t S).length = mt S
 | 0, t, S, ho, h, hd => by
  cases S with
  | nil => rfl
  | cons y l =>
   have := h y (List.mem_cons_self ..)
   have := ho y (List.mem_cons_self ..)
   omega
 | d + 1, t, [], _, _, _ => rfl
 | d + 1, t, y :: l, ho, h, hd => by
  rw [hrL_cons]
  by_cases e : mt (rem t (y :: l)) + 1 = mt (y :: l)
  ·rw [if_pos e, List.length_cons, hrL_len d (t + 1) _ (ho.rem t) (fun x hx => by
    have := rem_later h x hx
    have := ho x (mem_rem.1 hx).1
    omega) (by omega)]
   exact e
  ·rw [if_neg e]
   exact hrL_len d (t + 1) _ ho (not_taken ho h (by simp) e) (by omega)
def cmp (ch : List Hp) (h : Hp) : Bool := ch.all fun x => !shrd x h
def comp2 (ch : List Hp) (l : List Hp) : List Hp := l.filter (cmp ch)
theorem comp2_snoc (ch : List Hp) (h : Hp) (l : List Hp) : comp2 (ch ++ [h]) l = (comp2 ch l).filter fun x => !shrd h x := by
 unfold comp2
 rw [List.filter_filter]
 refine List.filter_congr (fun x _ => ?_)
 unfold cmp
 rw [List.all_append]
 simp [Bool.and_comm]
theorem comp2_cons (ch : List Hp) (h : Hp) (l : List Hp) : comp2 ch (h :: l) = if cmp ch h = true then h :: comp2 ch l else comp2 ch l := by
 unfold comp2
 rw [List.filter_cons]
theorem comp2_nil (l : List Hp) : comp2 [] l = l := by
 unfold comp2
 exact List.filter_eq_self.2 (fun x _ => rfl)
def apL : List Hp → Nat → List Hp → List Int → List Int
 | [], _, _, acc => acc
 | h :: L, i, ch, acc => if cmp ch h = true ∧ 1 + mt (comp2 (ch ++ [h]) L) = mt (comp2 ch (h :: L)) then apL L (i + 1) (ch ++ [h]) (acc ++ [(i : Int)]) else apL L (i + 1) ch acc
theorem comp2_ok {l : List Hp} (ho : OkL l) (ch : List Hp) : OkL (comp2 ch l) := ho.filter _
theorem mt_skip {h : Hp} {L ch : List Hp} (ho : OkL (h :: L)) (hn : ¬ (cmp ch h = true ∧ 1 + mt (comp2 (ch ++ [h]) L) = mt (comp2 ch (h :: L)))) : mt (comp2 ch L) = mt (comp2 ch (h :: L)) := by
 rw [comp2_cons] at hn ⊢
 by_cases e : cmp ch h = true
 ·rw [if_pos e] at hn ⊢
  have ho2 : OkL (h :: comp2 ch L) := fun x hx => by
   rcases List.mem_cons.1 hx with rfl | hx
   ·exact ho _ (List.mem_cons_self ..)
   ·exact ho.tail.filter _ x hx
  have h1 := mt_rec ho2
  rw [comp2_snoc] at hn
  have h2 : ¬ 1 + mt ((comp2 ch L).filter fun x => !shrd h x) = mt (h :: comp2 ch L) := fun q => hn ⟨e, q⟩
  omega
 ·rw [if_neg e]
theorem apL_len : ∀ (L : List Hp) (i : Nat) (ch : List Hp) (acc : List Int), OkL L → (apL L i ch acc).length = acc.length + mt (comp2 ch L)
 | [], i, ch, acc, _ => rfl
 | h :: L, i, ch, acc, ho => by
  unfold apL
  by_cases e : cmp ch h = true ∧ 1 + mt (comp2 (ch ++ [h]) L) = mt (comp2 ch (h :: L))
  ·rw [if_pos e, apL_len L (i + 1) _ _ ho.tail, ← e.2]
   simp only [List.length_append, List.length_cons, List.length_nil]
   omega
  ·rw [if_neg e, apL_len L (i + 1) _ _ ho.tail, mt_skip ho e]
end Go.Xm
