/- HeapEnds: all plans are tried; the walk. Conditions: none. -/
import Derived.Test.YtfdeihnkoaihfaaHg
import Derived.Test.YtfdeihnkoaihfaaHe
import Derived.Test.YtfdeihnkoaihfaaCh
import Derived.Test.YtfdeihnkoaihfaaAq
namespace Go.Xm
set_option linter.unusedVariables false
set_option linter.unusedSimpArgs false
set_option maxRecDepth 20000

theorem getDz (l : List Int) {i : Nat} (hi : i < l.length) : List.getD l (Int.toNat (i : Int)) 0 = l[i] := by simp [hi]

/-! ### The greatest of a list -/
def mxI : List Int → Int
  | [] => 0
  | x :: l => l.foldl max x

theorem fold_ge : ∀ (l : List Int) (c : Int), c ≤ l.foldl max c ∧ ∀ y ∈ l, y ≤ l.foldl max c
  | [], c => ⟨Int.le_refl _, fun y hy => by cases hy⟩
  | x :: l, c => by
    obtain ⟨h1, h2⟩ := fold_ge l (max c x)
    refine ⟨by show c ≤ l.foldl max (max c x); omega, fun y hy => ?_⟩
    show y ≤ l.foldl max (max c x)
    rcases List.mem_cons.1 hy with rfl | hy
    · omega
    · exact h2 y hy
theorem fold_mem : ∀ (l : List Int) (c : Int), l.foldl max c = c ∨ l.foldl max c ∈ l
  | [], c => .inl rfl
  | x :: l, c => by
    show l.foldl max (max c x) = c ∨ l.foldl max (max c x) ∈ x :: l
    rcases fold_mem l (max c x) with h | h
    · by_cases e : x ≤ c
      · exact .inl (by rw [h]; omega)
      · exact .inr (by rw [h, show max c x = x by omega]; exact List.mem_cons_self ..)
    · exact .inr (List.mem_cons_of_mem _ h)
theorem mxI_ge {q : List Int} : ∀ y ∈ q, y ≤ mxI q := fun y hy => by
  cases q with
  | nil => cases hy
  | cons x l =>
    obtain ⟨h1, h2⟩ := fold_ge l x
    rcases List.mem_cons.1 hy with rfl | hy
    · exact h1
    · exact h2 y hy
theorem mxI_mem {q : List Int} (h : q ≠ []) : mxI q ∈ q := by
  cases q with
  | nil => exact absurd rfl h
  | cons x l =>
    rcases fold_mem l x with e | e
    · show l.foldl max x ∈ x :: l
      rw [e]; exact List.mem_cons_self ..
    · exact List.mem_cons_of_mem _ e

theorem f49_1_eq (m : Nat) (a : List Int) (ha : a.length ≤ 1000) : ∀ (r i fuel : Nat) (c : Int), i + r = a.length → r < fuel → f49_1 m fuel a c (i : Int) = some ((a.drop i).foldl max c)
  | 0, i, fuel + 1, c, hr, hf => by
    rw [f49_1, dcF (p := (i : Int) < ((a.length : Nat) : Int)) (by omega), List.drop_eq_nil_of_le (by omega)]
    rfl
  | r + 1, i, fuel + 1, c, hr, hf => by
    have hi : i < a.length := by omega
    rw [f49_1, dcT (p := (i : Int) < ((a.length : Nat) : Int)) (by omega), inR hi, getDz a hi, nat_succ i (by omega), iMax_eq, List.drop_eq_getElem_cons hi]
    exact f49_1_eq m a ha r (i + 1) fuel _ (by omega) (by omega)

theorem f49_eq (m : Nat) (hm : 1001 ≤ m) (a : List Int) (ha : a.length ≤ 1000) (h0 : a ≠ []) : f49 m a = some (mxI a) := by
  cases a with
  | nil => exact absurd rfl h0
  | cons x l =>
    unfold f49
    have hl : (x :: l).length = l.length + 1 := rfl
    have e : inRow 0 (x :: l).length = true := inR (i := 0) (by omega)
    rw [dcF (p := (((x :: l).length : Nat) : Int) < 1) (by omega), e]
    show (f49_1 m m (x :: l) x ((1 : Nat) : Int)).bind _ = _
    rw [f49_1_eq m (x :: l) ha l.length 1 m x (by omega) (by omega)]
    rfl

/-! ### Plans, hour by hour -/
theorem plan_idx {k : Nat} {l : List Hp} {q : List Int} : Plan k l q ↔ q.length = l.length ∧ (∀ (j : Nat) (h1 : j < l.length) (h2 : j < q.length), (l[j]).1 ≤ q[j] ∧ q[j] ≤ (l[j]).2) ∧ ∀ t, q.count t ≤ k := by
  constructor
  · rintro ⟨h1, h2, h3⟩
    refine ⟨h1, fun j j1 j2 => ?_, h3⟩
    refine h2 (l[j], q[j]) ?_
    rw [List.mem_iff_getElem]
    exact ⟨j, by simp; omega, by simp⟩
  · rintro ⟨h1, h2, h3⟩
    refine ⟨h1, fun x hx => ?_, h3⟩
    obtain ⟨j, hj, rfl⟩ := List.mem_iff_getElem.1 hx
    have hj2 : j < l.length ∧ j < q.length := by simp at hj; omega
    have := h2 j hj2.1 hj2.2
    simpa using this

/-- What is found among plans. -/
def Bst (C : List Int → Prop) (v v' : Int) : Prop := v' ≤ v ∧ (v' = v ∨ ∃ q, C q ∧ mxI q = v') ∧ ∀ q, C q → v' ≤ mxI q

theorem take_next {q P : List Int} {i : Nat} (hP : P.length = i) (hi : i < q.length) (h : q.take i = P) : q.take (i + 1) = P ++ [List.getD q i 0] := by
  rw [List.take_succ_eq_append_getElem hi, h]
  simp [hi]

def Cmp (k : Nat) (l : List Hp) (P : List Int) (q : List Int) : Prop := Plan k l q ∧ q.take P.length = P

theorem count_take {q P : List Int} {i : Nat} {x : Int} (h : q.take i = P ++ [x]) : P.count x + 1 ≤ q.count x := by
  have h1 : (q.take i).count x ≤ q.count x := (List.take_sublist i q).count_le x
  rw [h, List.count_append, List.count_cons_self] at h1
  simpa using h1

theorem f11_3_eq (m : Nat) (l : List Hp) (k : Nat) (hk2 : k ≤ 10) (h10 : l.length ≤ 10) (ho : OkL l) (P : List Int) (hi : P.length < l.length) (hc : ∀ t, P.count t ≤ k) (F : Int → List Hp → Int → Int → List Int → List Int → Option (Int × List Int × List Int))
    (hF : ∀ (x v : Int) (p busy : List Int), hour x → (l[P.length]).1 ≤ x → x ≤ (l[P.length]).2 → p.length = l.length → p.take (P.length + 1) = P ++ [x] → Busy busy (P ++ [x]) → (∀ t, (P ++ [x]).count t ≤ k) →
      ∃ v' p', F ((P.length + 1 : Nat) : Int) l v (k : Int) p busy = some (v', p', busy) ∧ p'.length = l.length ∧ p'.take (P.length + 1) = P ++ [x] ∧ Bst (Cmp k l (P ++ [x])) v v') :
    ∀ (d fuel : Nat) (x v : Int) (p busy : List Int), (l[P.length]).1 ≤ x → x + d = (l[P.length]).2 + 1 → d < fuel → p.length = l.length → p.take P.length = P → Busy busy P →
      ∃ v' p', f11_3 m F fuel (P.length : Int) l (k : Int) x v p busy = some (v', p', busy) ∧ p'.length = l.length ∧ p'.take P.length = P ∧ Bst (fun q => Cmp k l P q ∧ x ≤ List.getD q P.length 0) v v'
  | 0, fuel + 1, x, v, p, busy, h1, h2, hf, hp, hpt, hb => by
    refine ⟨v, p, ?_, hp, hpt, Int.le_refl _, .inl rfl, fun q hq => ?_⟩
    · rw [f11_3, inR hi, getDi l hi, dcF (p := x ≤ (l[P.length]).2) (by omega)]
      rfl
    · obtain ⟨⟨q1, q2⟩, q3⟩ := hq
      obtain ⟨r1, r2, r3⟩ := plan_idx.1 q1
      have hq : P.length < q.length := by omega
      have := (r2 P.length hi hq).2
      have e : List.getD q P.length 0 = q[P.length] := by simp [hq]
      rw [e] at q3
      omega
  | d + 1, fuel + 1, x, v, p, busy, h1, h2, hf, hp, hpt, hb => by
    have hh := ho _ (List.getElem_mem hi)
    have hx : hour x := ⟨by omega, by omega⟩
    obtain ⟨y, rfl⟩ : ∃ y : Nat, x = (y : Int) := ⟨x.toNat, by have := hx.1; omega⟩
    have hy : y < 24 := by have := hx.2; omega
    have hbl := hb.1
    have hbv := hb.2 y hy
    have hcy := hc (y : Int)
    have hPp : P.length < p.length := by omega
    have step : f11_3 m F (fuel + 1) (P.length : Int) l (k : Int) (y : Int) v p busy = cond (decide (((P.count (y : Int) : Nat) : Int) < (k : Int)))
        ((F ((P.length + 1 : Nat) : Int) l v (k : Int) (p.set P.length (y : Int)) (busy.set y (List.getD busy y 0 + 1))).bind fun r37_ => cond (decide (y < r37_.2.2.length)) (f11_3 m F fuel (P.length : Int) l (k : Int) ((y + 1 : Nat) : Int) r37_.1 r37_.2.1 (List.set r37_.2.2 y (w64 ((List.getD r37_.2.2 y 0) - 1)))) none)
        (f11_3 m F fuel (P.length : Int) l (k : Int) ((y + 1 : Nat) : Int) v p busy) := by
      rw [f11_3, inR hi, getDi l hi, dcT (p := (y : Int) ≤ (l[P.length]).2) (by omega), inR (show y < 24 from hy), Int.toNat_natCast, Int.toNat_natCast, dcT (p := y < busy.length) (by omega), hbv, inR hPp, nat_succ P.length (by omega), nat_succ y (by omega),
        w64i (x := ((P.count (y : Int) : Nat) : Int) + 1) (by omega) (by omega)]
      rfl
    rw [step]
    have next : ∀ q, Cmp k l P q → (y : Int) ≤ List.getD q P.length 0 → (q.take (P.length + 1) = P ++ [(y : Int)]) ∨ ((y + 1 : Nat) : Int) ≤ List.getD q P.length 0 := fun q hq h => by
      have hql : P.length < q.length := by rw [hq.1.1]; exact hi
      by_cases e : List.getD q P.length 0 = (y : Int)
      · left; rw [take_next rfl hql hq.2, e]
      · right; omega
    have down : ∀ q, Cmp k l (P ++ [(y : Int)]) q → Cmp k l P q ∧ (y : Int) ≤ List.getD q P.length 0 := fun q hq => by
      have e2 : (P ++ [(y : Int)]).length = P.length + 1 := by simp
      have h3 := hq.2
      rw [e2] at h3
      have hql : P.length < q.length := by rw [hq.1.1]; exact hi
      have h4 : q.take P.length = P := by
        have : q.take P.length = (q.take (P.length + 1)).take P.length := by rw [List.take_take]; congr 1; omega
        rw [this, h3, List.take_left]
      refine ⟨⟨hq.1, h4⟩, ?_⟩
      have h5 := take_next rfl hql h4
      rw [h3] at h5
      have := List.append_cancel_left h5
      have := (List.cons.inj this).1
      omega
    have e2 : (P ++ [(y : Int)]).length = P.length + 1 := by simp
    by_cases hlt : P.count (y : Int) < k
    · rw [dcT (p := ((P.count (y : Int) : Nat) : Int) < (k : Int)) (by omega)]
      simp only [cond_true]
      obtain ⟨v1, p1, g1, g2, g3, g4, g5, g6⟩ := hF (y : Int) v (p.set P.length (y : Int)) (busy.set y (List.getD busy y 0 + 1)) hx h1 (by omega) (by rw [List.length_set]; exact hp) (by rw [take_set hPp, hpt]) (hb.snoc hy) (snoc_count hc hlt)
      rw [g1]
      simp only [Option.bind_some]
      rw [dcT (p := y < (busy.set y (List.getD busy y 0 + 1)).length) (by rw [List.length_set]; omega), getD_set_eq (by omega), if_pos rfl, show List.getD busy y 0 + 1 - 1 = List.getD busy y 0 by omega, hbv, w64i (by omega) (by omega), ← hbv, set_back (by omega)]
      have g7 : p1.take P.length = P := by
        have : p1.take P.length = (p1.take (P.length + 1)).take P.length := by rw [List.take_take]; congr 1; omega
        rw [this, g3, List.take_left]
      obtain ⟨v', p', t1, t2, t3, t4, t5, t6⟩ := f11_3_eq m l k hk2 h10 ho P hi hc F hF d fuel ((y + 1 : Nat) : Int) v1 p1 busy (by omega) (by omega) (by omega) g2 g7 hb
      refine ⟨v', p', t1, t2, t3, by omega, ?_, fun q hq => ?_⟩
      · rcases t5 with t5 | ⟨q, ⟨t5, t7⟩, t8⟩
        · rcases g5 with g5 | ⟨q, g5, g8⟩
          · left; omega
          · right; exact ⟨q, down q g5, by omega⟩
        · right; exact ⟨q, ⟨t5, by omega⟩, t8⟩
      · rcases next q hq.1 hq.2 with e | e
        · have := g6 q ⟨hq.1.1, by rw [e2]; exact e⟩
          omega
        · exact t6 q ⟨hq.1, e⟩
    · rw [dcF (p := ((P.count (y : Int) : Nat) : Int) < (k : Int)) (by omega)]
      obtain ⟨v', p', t1, t2, t3, t4, t5, t6⟩ := f11_3_eq m l k hk2 h10 ho P hi hc F hF d fuel ((y + 1 : Nat) : Int) v p busy (by omega) (by omega) (by omega) hp hpt hb
      refine ⟨v', p', t1, t2, t3, t4, ?_, fun q hq => ?_⟩
      · rcases t5 with t5 | ⟨q, ⟨t5, t7⟩, t8⟩
        · exact .inl t5
        · right; exact ⟨q, ⟨t5, by omega⟩, t8⟩
      · rcases next q hq.1 hq.2 with e | e
        · have h3 := count_take e
          have h4 := hq.1.1.2.2 (y : Int)
          omega
        · exact t6 q ⟨hq.1, e⟩

theorem f11_2_eq (m : Nat) (hm : 1001 ≤ m) (l : List Hp) (hne : l ≠ []) (k : Nat) (hk2 : k ≤ 10) (h10 : l.length ≤ 10) (ho : OkL l) : ∀ (r fuel : Nat) (P : List Int) (v : Int) (p busy : List Int), P.length + r = l.length → r < fuel → p.length = l.length → p.take P.length = P → Busy busy P → (∀ (j : Nat) (h1 : j < l.length) (h2 : j < P.length), (l[j]).1 ≤ P[j] ∧ P[j] ≤ (l[j]).2) → (∀ t, P.count t ≤ k) →
    ∃ v' p', f11_2 m fuel (P.length : Int) l v (k : Int) p busy = some (v', p', busy) ∧ p'.length = l.length ∧ p'.take P.length = P ∧ Bst (Cmp k l P) v v'
  | 0, fuel + 1, P, v, p, busy, hr, hf, hp, hpt, hb, hP, hc => by
    have hpP : p = P := by rw [← hpt, List.take_of_length_le (by omega)]
    subst hpP
    have e1 : (((p.length : Nat) : Int) == ((l.length : Nat) : Int)) = true := by rw [beq_iff_eq]; omega
    have h0 : p ≠ [] := fun q => by
      rw [q] at hp
      exact hne (List.eq_nil_of_length_eq_zero hp.symm)
    have hpl : Plan k l p := plan_idx.2 ⟨hp, hP, hc⟩
    refine ⟨min v (mxI p), p, ?_, hp, hpt, by omega, ?_, fun q hq => ?_⟩
    · rw [f11_2, e1, f49_eq m hm p (by omega) h0]
      show some (iMin v (mxI p), p, busy) = _
      rw [iMin_eq]
    · by_cases e : v ≤ mxI p
      · left; omega
      · right; exact ⟨p, ⟨hpl, by rw [List.take_length]⟩, by omega⟩
    · have : q = p := by rw [← hq.2, List.take_of_length_le (by have := hq.1.1; omega)]
      rw [this]; omega
  | r + 1, fuel + 1, P, v, p, busy, hr, hf, hp, hpt, hb, hP, hc => by
    have hi : P.length < l.length := by omega
    have hh := ho _ (List.getElem_mem hi)
    have e1 : (((P.length : Nat) : Int) == ((l.length : Nat) : Int)) = false := by rw [beq_eq_false_iff_ne]; omega
    obtain ⟨v', p', t1, t2, t3, t4, t5, t6⟩ := f11_3_eq m l k hk2 h10 ho P hi hc (f11_2 m fuel) (fun x v p busy hx x1 x2 g1 g2 g3 g4 => by
      have e2 : (P ++ [x]).length = P.length + 1 := by simp
      have := f11_2_eq m hm l hne k hk2 h10 ho r fuel (P ++ [x]) v p busy (by omega) (by omega) g1 (by rw [e2]; exact g2) g3 (fun j j1 j2 => by
        by_cases e : j < P.length
        · rw [List.getElem_append_left e]; exact hP j j1 e
        · have ej : j = P.length := by omega
          subst ej
          simp only [List.getElem_append_right (Nat.le_refl _), Nat.sub_self, List.getElem_cons_zero]
          exact ⟨x1, x2⟩) g4
      rw [e2] at this
      exact this) ((l[P.length]).2 + 1 - (l[P.length]).1).toNat m (l[P.length]).1 v p busy (Int.le_refl _) (by omega) (by omega) hp hpt hb
    refine ⟨v', p', ?_, t2, t3, t4, ?_, fun q hq => ?_⟩
    · rw [f11_2, e1, inR hi, getDi l hi]
      simp only [cond_false, cond_true, t1, Option.bind_some]
    · rcases t5 with t5 | ⟨q, ⟨t5, t7⟩, t8⟩
      · exact .inl t5
      · exact .inr ⟨q, t5, t8⟩
    · refine t6 q ⟨hq, ?_⟩
      obtain ⟨r1, r2, r3⟩ := plan_idx.1 hq.1
      have hql : P.length < q.length := by omega
      have e : List.getD q P.length 0 = q[P.length] := by simp [hql]
      rw [e]
      exact (r2 P.length hi hql).1

theorem f11_1_eq (m : Nat) (hm : 1001 ≤ m) (c : Int) (l : List Hp) (h10 : l.length ≤ 10) (ho : OkL l) : ∀ (d fuel n : Nat), n + d = need l → d < fuel → f11_1 m fuel c (n : Int) l = some (((need l : Nat) : Int), l)
  | 0, fuel + 1, n, hd, hf => by
    have hn : n = need l := by omega
    rw [f11_1, f42_eq m hm l n (by have := need_le l; omega) h10 ho, fitsB'_iff.2 (need_iff.1 (by omega))]
    show some ((n : Int), l) = _
    rw [hn]
  | d + 1, fuel + 1, n, hd, hf => by
    have hb : fitsB' n l = false := by
      cases hb : fitsB' n l with
      | false => rfl
      | true => have := need_iff.2 (fitsB'_iff.1 hb); omega
    rw [f11_1, f42_eq m hm l n (by have := need_le l; omega) h10 ho, hb, nat_succ n (by have := need_le l; omega)]
    exact f11_1_eq m hm c l h10 ho d fuel (n + 1) (by omega) (by omega)

/-! ### The earliest end -/
theorem plan_cut {k : Nat} {l : List Hp} {q : List Int} {x : Int} (h : Plan k l q) (hx : ∀ y ∈ q, y ≤ x) : Plan k (cutL l x) q := by
  obtain ⟨r1, r2, r3⟩ := plan_idx.1 h
  refine plan_idx.2 ⟨by rw [cutL_len]; exact r1, fun j h1 h2 => ?_, r3⟩
  rw [cutL_len] at h1
  have := r2 j h1 h2
  have := hx _ (List.getElem_mem h2)
  simp only [cutL, List.getElem_map]
  omega

theorem plan_uncut {k : Nat} {l : List Hp} {q : List Int} {x : Int} (h : Plan k (cutL l x) q) : Plan k l q ∧ ∀ y ∈ q, y ≤ x := by
  obtain ⟨r1, r2, r3⟩ := plan_idx.1 h
  rw [cutL_len] at r1
  refine ⟨plan_idx.2 ⟨r1, fun j h1 h2 => ?_, r3⟩, fun y hy => ?_⟩
  · have := r2 j (by rw [cutL_len]; exact h1) h2
    simp only [cutL, List.getElem_map] at this
    omega
  · obtain ⟨j, hj, rfl⟩ := List.mem_iff_getElem.1 hy
    have := r2 j (by rw [cutL_len]; omega) hj
    simp only [cutL, List.getElem_map] at this
    omega

/-- The end that is returned is the smallest one. -/
theorem end_best {k : Nat} {l : List Hp} (ho : OkL l) (hf : Fits k l) (hne : l ≠ []) {v : Int} (hv : (∃ q, Plan k l q ∧ mxI q = v) ∧ ∀ q, Plan k l q → v ≤ mxI q) : endN k l 24 (mxF l 0) = v := by
  obtain ⟨q0, q1, q2, q3, q4⟩ := fin_end ho hf
  obtain ⟨m1, m2⟩ := mxF_ge l 0
  have hcut : ∀ x, mxF l 0 ≤ x → OkL (cutL l x) := fun x hx => cutL_ok ho (fun h hh => by have := m2 h hh; omega)
  generalize endN k l 24 (mxF l 0) = E at q1 q2 q3 q4
  obtain ⟨p, hp⟩ := (fits_iff_plan (hcut E q1)).1 q3
  obtain ⟨p1, p2⟩ := plan_uncut hp
  have hpn : p ≠ [] := fun q => by
    have := p1.1
    rw [q] at this
    exact hne (List.eq_nil_of_length_eq_zero this.symm)
  have h1 := hv.2 p p1
  have h2 := p2 _ (mxI_mem hpn)
  obtain ⟨q, g1, g2⟩ := hv.1
  have hc := plan_cut g1 (x := v) (fun y hy => by have := mxI_ge y hy; omega)
  have hm : mxF l 0 ≤ v := by
    obtain ⟨r1, r2, r3⟩ := plan_idx.1 g1
    have hql : q ≠ [] := fun e => by
      rw [e] at r1
      exact hne (List.eq_nil_of_length_eq_zero r1.symm)
    rcases mxF_is l 0 with e | ⟨h, hh, e⟩
    · have hy := mxI_mem hql
      obtain ⟨j, hj, e2⟩ := List.mem_iff_getElem.1 hy
      have := r2 j (by omega) hj
      have := ho _ (List.getElem_mem (show j < l.length by omega))
      omega
    · obtain ⟨j, hj, rfl⟩ := List.mem_iff_getElem.1 hh
      have := r2 j hj (by omega)
      have := mxI_ge _ (List.getElem_mem (show j < q.length by omega))
      omega
  have h3 := fits_of_plan hc
  by_cases e : v < E
  · exact absurd h3 (q4 v hm e)
  · omega

theorem end_more {k : Nat} {l : List Hp} (ho : OkL l) (hf : Fits k l) : endN (k + 1) l 24 (mxF l 0) ≤ endN k l 24 (mxF l 0) := by
  obtain ⟨q0, q1, q2, q3, q4⟩ := fin_end ho hf
  obtain ⟨r0, r1, r2, r3, r4⟩ := fin_end ho (fits_more (show k ≤ k + 1 by omega) hf)
  by_cases e : endN k l 24 (mxF l 0) < endN (k + 1) l 24 (mxF l 0)
  · exact absurd (fits_more (show k ≤ k + 1 by omega) q3) (r4 _ q1 e)
  · omega

theorem f11_true (m : Nat) (hm : 1001 ≤ m) (a0 b0 a1 b1 a2 b2 a3 b3 a4 b4 a5 b5 a6 b6 a7 b7 b c : Int) (hy : bytesP [(a0, b0), (a1, b1), (a2, b2), (a3, b3), (a4, b4), (a5, b5), (a6, b6), (a7, b7)]) (hb : 0 ≤ b ∧ b ≤ 255) (hc : 0 ≤ c ∧ c ≤ 255) :
    f11 m a0 b0 a1 b1 a2 b2 a3 b3 a4 b4 a5 b5 a6 b6 a7 b7 b c = some true := by
  unfold f11
  rw [w64i (x := b) (by omega) (by omega), w64i (x := c) (by omega) (by omega), tme hc.1, w64i (x := 1 + c % 3) (by omega) (by omega), f41_eq m (by omega) _ _ _ _ _ _ _ _ _ _ _ _ _ _ _ _ _ _ _ _ hy ⟨by omega, by omega⟩ ⟨by omega, by omega⟩ ⟨by omega, by omega⟩ ⟨by omega, by omega⟩]
  have h8 := heapsOf_len [(a0, b0), (a1, b1), (a2, b2), (a3, b3), (a4, b4), (a5, b5), (a6, b6), (a7, b7)] b 7 8 0
  have ho := heapsOf_ok hy (b := b) (c := 7) (d := 8) (e := 0) (by omega)
  generalize heapsOf [(a0, b0), (a1, b1), (a2, b2), (a3, b3), (a4, b4), (a5, b5), (a6, b6), (a7, b7)] b 7 8 0 = l at h8 ho
  have hok : OkL l := fun h hh => by have := ho h hh; unfold okHeap at this; omega
  obtain ⟨k, hk⟩ : ∃ k : Nat, 1 + c % 3 = (k : Int) := ⟨(1 + c % 3).toNat, by omega⟩
  have hk1 : 1 ≤ k := by omega
  have hk4 : k ≤ 3 := by omega
  rw [hk]
  clear hk
  have hnl := need_le l
  have q1 : f11_1 m m c 0 l = some (((need l : Nat) : Int), l) := f11_1_eq m hm c l (by omega) hok (need l) m 0 (by omega) (by omega)
  have z0 : ((0 : Int) != 0) = false := rfl
  have z00 : ((0 : Int) == 0) = true := rfl
  have z12 : ((12 : Int) == 12) = true := rfl
  have zn : (((need l : Nat) : Int) != ((need l : Nat) : Int)) = false := by simp
  have hk4' : w64 ((k : Int) + 1) = ((k + 1 : Nat) : Int) := nat_succ k (by omega)
  have h29 : f29 m l = some (((need l : Nat) : Int), 0) := f29_ok1 m hm l (by omega) hok
  simp only [Option.bind_some, q1, h29, z0, zn, cond_false, f31_ok1 m hm l hok (by omega) k hk1 (by omega), hk4', f31_ok1 m hm l hok (by omega) (k + 1) (by omega) (by omega)]
  by_cases e : (k : Int) < ((need l : Nat) : Int)
  · have hb : fitsB' k l = false := by
      cases hb : fitsB' k l with
      | false => rfl
      | true => have := need_iff.2 (fitsB'_iff.1 hb); omega
    simp only [dcT e, hb, cond_true, cond_false, z12, z00]
  · have hf := need_iff.1 (show need l ≤ k by omega)
    have hb := fitsB'_iff.2 hf
    have hb1 := fitsB'_iff.2 (fits_more (show k ≤ k + 1 by omega) hf)
    have hle := end_more hok hf
    simp only [dcF e, hb, hb1, cond_true, cond_false]
    by_cases hne : l = []
    · subst hne
      have e1 : endN k [] 24 (mxF [] 0) = 0 := by
        show endN k [] 24 0 = 0
        unfold endN
        have : cutL [] 0 = [] := rfl
        rw [this, hb]; rfl
      have e2 : endN (k + 1) [] 24 (mxF [] 0) = 0 := by
        show endN (k + 1) [] 24 0 = 0
        unfold endN
        have : cutL [] 0 = [] := rfl
        rw [this, hb1]; rfl
      simp only [e1, e2]
      rfl
    · have h0 : 0 < l.length := List.length_pos_iff.2 hne
      have hz : Busy [0, 0, 0, 0, 0, 0, 0, 0, 0, 0, 0, 0, 0, 0, 0, 0, 0, 0, 0, 0, 0, 0, 0, 0] [] := by
        refine ⟨rfl, fun y hy => ?_⟩
        have : ∀ y : Fin 24, List.getD [(0 : Int), 0, 0, 0, 0, 0, 0, 0, 0, 0, 0, 0, 0, 0, 0, 0, 0, 0, 0, 0, 0, 0, 0, 0] y.val 0 = 0 := by decide
        rw [this ⟨y, hy⟩]
        rfl
      obtain ⟨v', p', t1, t2, t3, t4, t5, t6⟩ := f11_2_eq m hm l hne k (by omega) (by omega) hok l.length m [] 100 (List.replicate l.length 0) _ (by simp) (by omega) (by simp) rfl hz (fun j h1 h2 => by simp at h2) (fun t => by simp)
      have t1 : f11_2 m m 0 l 100 (k : Int) (List.replicate l.length 0) [0, 0, 0, 0, 0, 0, 0, 0, 0, 0, 0, 0, 0, 0, 0, 0, 0, 0, 0, 0, 0, 0, 0, 0] = some (v', p', _) := t1
      have hmk : mkOK ((l.length : Nat) : Int) ((l.length : Nat) : Int) 8 = true := by
        unfold mkOK
        simp
        omega
      have hall : ∀ q, Plan k l q → v' ≤ mxI q := fun q hq => t6 q ⟨hq, rfl⟩
      have hex : ∃ q, Plan k l q ∧ mxI q = v' := by
        rcases t5 with t5 | ⟨q, q1, q2⟩
        · obtain ⟨q, hq⟩ := (fits_iff_plan hok).1 hf
          have hqn : q ≠ [] := fun e => by
            have := hq.1
            rw [e] at this
            simp at this
            omega
          have h1 := hall q hq
          obtain ⟨r1, r2, r3⟩ := plan_idx.1 hq
          obtain ⟨j, hj, e2⟩ := List.mem_iff_getElem.1 (mxI_mem hqn)
          have := r2 j (by omega) hj
          have := hok _ (List.getElem_mem (show j < l.length by omega))
          omega
        · exact ⟨q, q1.1, q2⟩
      have hE := end_best hok hf hne ⟨hex, hall⟩
      rw [hE] at hle
      simp only [dcT (show ((l.length : Nat) : Int) > 0 by omega), cond_true, hmk, Int.toNat_natCast, t1, Option.bind_some, hE, z00, beq_self_eq_true, dcT hle]

end Go.Xm

namespace Go.Proofs.Ytfdeihnkoaihfaa.heapEnds
open Go.Xm Go.RowKit

theorem u8b {z : Int} (h : (Lit.int .u8 z).wf = true) : 0 ≤ z ∧ z ≤ 255 := by
  simp [Lit.wf, IntKind.min, IntKind.max, IntKind.signed, IntKind.bits] at h
  omega

theorem walk (z0 : List Int) (a1 a2 : Int) (w : World) (l0 : z0.length = 16) (w0 : ∀ z ∈ z0, (Lit.int .u8 z).wf = true) (w1 : (Lit.int .u8 a1).wf = true) (w2 : (Lit.int .u8 a2).wf = true) :
    Calls Try.prog 11 #[.agg (z0.map (.int .u8)).toArray, .int .u8 a1, .int .u8 a2] w fun e w' => e = .returned (.bool true) ∧ Below w.heap.size w w' := by
  obtain ⟨a0, b0, a1', b1, a2', b2, a3, b3, a4', b4, a5, b5, a6, b6, a7, b7, rfl⟩ := list16 l0
  have hy : bytesP [(a0, b0), (a1', b1), (a2', b2), (a3, b3), (a4', b4), (a5, b5), (a6, b6), (a7, b7)] := by
    intro p hp
    have hb : ∀ z, z ∈ [a0, b0, a1', b1, a2', b2, a3, b3, a4', b4, a5, b5, a6, b6, a7, b7] → 0 ≤ z ∧ z ≤ 255 := fun z hz => u8b (w0 z hz)
    simp only [List.mem_cons, List.not_mem_nil, or_false] at hp
    rcases hp with rfl | rfl | rfl | rfl | rfl | rfl | rfl | rfl <;> (refine ⟨(hb _ ?_).1, (hb _ ?_).2, (hb _ ?_).1, (hb _ ?_).2⟩ <;> simp)
  exact f11_ok 1001 _ _ _ _ _ _ _ _ _ _ _ _ _ _ _ _ _ _ true (f11_true 1001 (by omega) _ _ _ _ _ _ _ _ _ _ _ _ _ _ _ _ _ _ hy (u8b w1) (u8b w2)) w trivial

end Go.Proofs.Ytfdeihnkoaihfaa.heapEnds
