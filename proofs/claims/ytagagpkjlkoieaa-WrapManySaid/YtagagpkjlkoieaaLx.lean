/- WrapMany. Conditions: none. -/
import Derived.Test.YtagagpkjlkoieaaLy
import Derived.Test.YtagagpkjlkoieaaKo
import Derived.Test.YtagagpkjlkoieaaQh
namespace Go.Xm
set_option linter.unusedVariables false
set_option linter.unusedSimpArgs false

theorem wm_made {a b t : Int} (wa : (Lit.int .u8 a).wf = true) (wb : (Lit.int .u8 b).wf = true) (wt : (Lit.int .u8 t).wf = true) :
    ∃ M S o T : Nat, Good M S 1 o ∧ 1 ≤ T ∧ T ≤ o ∧ f45 3000 a b t 100 = some ((M : Int), (S : Int), (T : Int)) := by
  obtain ⟨M, S, e1, e2, m1, m2, m3⟩ := roll wa wb
  obtain ⟨o, g⟩ := good_one M S m1 m2 m3
  have g1 := g.to
  have g2 := g.om
  obtain ⟨T, e3, t1, t2⟩ := roll_turns wt (o := o) g1 (by omega)
  refine ⟨M, S, o, T, g, t1, t2, ?_⟩
  have c1 : ((M : Int) != 0) = true := by simp; omega
  have c2 : ((o : Int) != 0) = true := by simp; omega
  unfold f45
  rw [e1, e2, c1, f47_eq 3000 M S o (by omega) g]
  simp only [Option.bind_some]
  rw [c2, e3]
  rfl

theorem wm_getput {α : Type} (d v : α) (k x : Int) : ∀ l : List (Int × α), getM d (putM l k v) x = if x = k then v else getM d l x
  | [] => by
    show (if k = x then v else d) = if x = k then v else d
    by_cases e : x = k
    · rw [if_pos e, if_pos e.symm]
    · rw [if_neg e, if_neg (Ne.symm e)]
  | p :: l => by
    have ih := wm_getput d v k x l
    by_cases e1 : p.1 = k
    · rw [show putM (p :: l) k v = (k, v) :: l by simp [putM, e1]]
      show (if k = x then v else getM d l x) = if x = k then v else (if p.1 = x then p.2 else getM d l x)
      by_cases e : x = k
      · rw [if_pos e, if_pos e.symm]
      · rw [if_neg e, if_neg (Ne.symm e), if_neg (fun q => e (q.symm.trans e1))]
    · rw [show putM (p :: l) k v = p :: putM l k v by simp [putM, e1]]
      show (if p.1 = x then p.2 else getM d (putM l k v) x) = if x = k then v else (if p.1 = x then p.2 else getM d l x)
      rw [ih]
      by_cases e2 : p.1 = x
      · rw [if_pos e2, if_pos e2, if_neg (fun q => e1 (e2.trans q))]
      · rw [if_neg e2, if_neg e2]

theorem f24_1_eq29 (m : Nat) (a b t : Int) : ∀ (fuel : Nat) (x p q : Int), f24_1 m fuel a b t x p q = f29_1 m fuel a b t x p q
  | 0, _, _, _ => rfl
  | fuel + 1, x, p, q => by
    unfold f24_1 f29_1
    simp only [f24_1_eq29 m a b t fuel]

theorem f24_val {m M S T o b : Nat} (hm : 2000 < m) (g : Good M S 1 o) (h1 : 1 ≤ T) (h2 : T ≤ o) (hb : b < T) : f24 m M S T b = some ((nextN T (bes M S T).2 (bes M S T).1 b : Int), 0) := by
  have l1 := g.m1
  have l2 := g.m2
  have l3 := g.s
  have l5 := g.om
  have hbl := bes_le (M := M) (S := S) h1
  unfold f24
  rw [f20_0 (by omega) g h1 h2, f24_1_eq29, f29_1_bes hm (by omega) (by omega) h1 (by omega)]
  simp only [Option.bind_some, bne_self_eq_false, cond_false]
  rw [decide_eq_false (by omega), decide_eq_false (by omega), f71_eq69, f69_eq m M S T _ _ b (by omega) hb hbl.2 hbl.1]
  rfl

theorem wm_mod {A B M : Nat} (hA : A < M) (hB : B < M) (hM : M ≤ 100) : Int.tmod (w64 (w64 ((A : Int) - (B : Int)) + (M : Int))) (M : Int) = (((A + M - B) % M : Nat) : Int) := by
  rw [w64_id (x := (A : Int) - (B : Int)) (by omega) (by omega), show (A : Int) - (B : Int) + (M : Int) = ((A + M - B : Nat) : Int) by omega, natw (by omega), tmN]

theorem wm_dist {A B M : Nat} (hA : A < M) (hB : B < M) (hne : A ≠ B) : (A + M - B) % M = if B < A then A - B else M - (B - A) := by
  by_cases c : B < A
  · rw [if_pos c, show A + M - B = (A - B) + M by omega, Nat.add_mod_right, Nat.mod_eq_of_lt (by omega)]
  · rw [if_neg c, Nat.mod_eq_of_lt (by omega)]
    omega

/-- The next turn is another one. -/
theorem next_ne {M T k j : Nat} {P : Nat → Nat} (h : Turns M T P) (hT : 2 ≤ T) (hk : k < T) (hn : IsNext M T P k j) : j ≠ k := by
  intro e
  subst e
  rcases hn.2 with ⟨q, _⟩ | ⟨e, q⟩
  · omega
  · subst e
    have := q 1 (by omega)
    have := h.own 1 (by omega) (by omega)
    rw [h.zero] at *
    omega

/-- The way to the next turn. -/
theorem gp_dist {M S T k : Nat} (h : Turns M T (mrk M S)) (hT : 2 ≤ T) (hk : k < T) : (mrk M S (nextN T (bes M S T).1 (bes M S T).2 k) + M - mrk M S k) % M = gp M S T k := by
  have hn := bes_isNext h hk
  have hne : mrk M S (nextN T (bes M S T).1 (bes M S T).2 k) ≠ mrk M S k := fun e => next_ne h hT hk hn (h.inj hn.1 hk e)
  have l1 := h.lt k
  have l2 := h.lt (nextN T (bes M S T).1 (bes M S T).2 k)
  rw [wm_dist l2 l1 hne]
  unfold gp
  by_cases c : nextN T (bes M S T).1 (bes M S T).2 k = 0
  · rw [if_pos c, c, mrk_zero, if_neg (by omega)]
    omega
  · rw [if_neg c, if_pos]
    rcases hn.2 with ⟨e, _⟩ | ⟨e, _⟩
    · exact e
    · omega

/-- No turn begins between. -/
theorem gp_between {M S T k j : Nat} (h : Turns M T (mrk M S)) (hT : 2 ≤ T) (hk : k < T) (hj : j < T) (hne : mrk M S j ≠ mrk M S k) : gp M S T k ≤ (mrk M S j + M - mrk M S k) % M := by
  have hn := bes_isNext h hk
  have l1 := h.lt k
  have l2 := h.lt j
  have l3 := h.lt (nextN T (bes M S T).1 (bes M S T).2 k)
  rw [wm_dist l2 l1 hne]
  unfold gp
  by_cases c : nextN T (bes M S T).1 (bes M S T).2 k = 0
  · rw [if_pos c]
    rcases hn.2 with ⟨e, _⟩ | ⟨_, q⟩
    · rw [c, mrk_zero] at e; omega
    · have := q j hj
      rw [if_neg (by omega)]; omega
  · rw [if_neg c]
    rcases hn.2 with ⟨e, q⟩ | ⟨e, _⟩
    · have := q j hj
      split <;> omega
    · omega

/-- No turn begins between: the program's own loop. -/
theorem f7_2_eq (m M S T k to : Nat) (x5 x10 x12 x106 : Int) (s t : Int) (mp : List (Int × Int)) (d : Int) (hM1 : 1 ≤ M) (hM : M ≤ 100) (hT : T ≤ 100) (h : Turns M T (mrk M S)) (h2 : 2 ≤ T) (hk : k < T) (ht : to < T) (hd : d = (gp M S T k : Int)) :
    ∀ (r i fuel : Nat), i + r = T → r < fuel → f7_2 m fuel x5 x10 x12 x106 k M s t (mks M S T 0) mp to d T i = some (.x2 d)
  | r, i, 0, _, h => by omega
  | 0, i, fuel + 1, hi, _ => by
    unfold f7_2
    rw [decide_eq_false (by omega)]
    rfl
  | r + 1, i, fuel + 1, hi, hf => by
    have ih := f7_2_eq m M S T k to x5 x10 x12 x106 s t mp d hM1 hM hT h h2 hk ht hd r (i + 1) fuel (by omega) (by omega)
    have r1 : inRow (i : Int) (mks M S T 0).length = true := inRow_iff.2 ⟨by omega, by rw [mks_len]; omega⟩
    have r2 : inRow (k : Int) (mks M S T 0).length = true := inRow_iff.2 ⟨by omega, by rw [mks_len]; omega⟩
    have r3 : inRow (to : Int) (mks M S T 0).length = true := inRow_iff.2 ⟨by omega, by rw [mks_len]; omega⟩
    have v1 := mks_get M S T 0 i (by omega)
    have v2 := mks_get M S T 0 k hk
    have v3 := mks_get M S T 0 to ht
    rw [Nat.zero_add] at v1 v2 v3
    have li := h.lt i
    have lk := h.lt k
    have c0 : ((M : Int) != 0) = true := by simp; omega
    unfold f7_2
    rw [decide_eq_true (by omega), r1, r2, r3, Int.toNat_natCast, Int.toNat_natCast, Int.toNat_natCast, v1, v2, v3, w64_succ i (by omega), ih, c0, wm_mod li lk hM]
    simp only [cond_true]
    by_cases c : mrk M S i = mrk M S k
    · rw [show (((mrk M S i : Nat) : Int) != ((mrk M S k : Nat) : Int)) = false by rw [c]; simp]
      rfl
    · have hb := gp_between h h2 hk (by omega) c
      rw [show (((mrk M S i : Nat) : Int) != ((mrk M S k : Nat) : Int)) = true by simp; omega, decide_eq_false (by omega)]
      simp only [cond_true, cond_false]
      cases (((mrk M S i : Nat) : Int) != ((mrk M S to : Nat) : Int)) <;> rfl

theorem f7_1_eq (m M S T o : Nat) (hm : 2000 < m) (g : Good M S 1 o) (h2 : 2 ≤ T) (hTo : T ≤ o) : ∀ (r k fuel : Nat) (mp : List (Int × Int)), k + r = T → r < fuel → (∀ w : Nat, getM 0 mp (w : Int) = ((cr (fun t => gp M S T t == w) k : Nat) : Int)) →
    ∃ mp', f7_1 m fuel T (bes M S T).1 (bes M S T).2 T k M S T (mks M S T 0) mp = some (.x0 T (bes M S T).1 (bes M S T).2 M S T (mks M S T 0) mp') ∧ ∀ w : Nat, getM 0 mp' (w : Int) = ((cw M S T w : Nat) : Int)
  | r, k, 0, _, _, h, _ => by omega
  | 0, k, fuel + 1, mp, hk, _, hmp => by
    have e : k = T := by omega
    subst e
    refine ⟨mp, ?_, hmp⟩
    unfold f7_1
    rw [decide_eq_false (by omega)]
    rfl
  | r + 1, k, fuel + 1, mp, hk, hf, hmp => by
    have l1 := g.m1
    have l2 := g.m2
    have l3 := g.s
    have l5 := g.om
    have hT := g.turns (n := T) hTo
    have hkT : k < T := by omega
    have hn := bes_isNext hT hkT
    have hbn := before_next hT hkT
    have hgd := gp_dist hT h2 hkT
    have hgl := gp_le M S T k (by omega)
    have v22 := f22_val (m := m) (b := k) (by omega) g (by omega) hTo hkT
    have v24 := f24_val (m := m) (b := nextN T (bes M S T).1 (bes M S T).2 k) (by omega) g (by omega) hTo hn.1
    rw [hbn] at v24
    have hb : Beside T (mrk M S) (bes M S T).1 (bes M S T).2 := loopB_all (M := M) (S := S) h2
    have hsum := beside_sum hT hb
    obtain ⟨p0, pT, q0, qT, _⟩ := hb
    have hto : (cond (decide ((k : Int) < (w64 ((T : Int) - ((bes M S T).1 : Int))))) (w64 ((k : Int) + ((bes M S T).1 : Int))) (cond (decide ((k : Int) < ((bes M S T).2 : Int))) (w64 ((w64 ((k : Int) + ((bes M S T).1 : Int))) - ((bes M S T).2 : Int))) (w64 ((k : Int) - ((bes M S T).2 : Int))))) = ((nextN T (bes M S T).1 (bes M S T).2 k : Nat) : Int) := by
      have e1 : w64 ((T : Int) - ((bes M S T).1 : Int)) = ((T - (bes M S T).1 : Nat) : Int) := by rw [w64_id (by omega) (by omega)]; omega
      have e2 : w64 ((k : Int) + ((bes M S T).1 : Int)) = ((k + (bes M S T).1 : Nat) : Int) := by rw [w64_id (by omega) (by omega)]; omega
      rw [e1, e2]
      unfold nextN
      by_cases c1 : k < T - (bes M S T).1
      · rw [if_pos c1, decide_eq_true (by omega)]; rfl
      · rw [if_neg c1, decide_eq_false (by omega)]
        simp only [cond_false]
        by_cases c2 : k < (bes M S T).2
        · rw [if_pos c2, decide_eq_true (by omega)]
          simp only [cond_true]
          rw [w64_id (by omega) (by omega)]; omega
        · rw [if_neg c2, decide_eq_false (by omega)]
          simp only [cond_false]
          rw [w64_id (by omega) (by omega)]; omega
    generalize hj : nextN T (bes M S T).1 (bes M S T).2 k = j at *
    have r1 : inRow (j : Int) (mks M S T 0).length = true := inRow_iff.2 ⟨by omega, by rw [mks_len]; have := hn.1; omega⟩
    have r2 : inRow (k : Int) (mks M S T 0).length = true := inRow_iff.2 ⟨by omega, by rw [mks_len]; omega⟩
    have v2 := mks_get M S T 0 k hkT
    have v3 := mks_get M S T 0 j hn.1
    rw [Nat.zero_add] at v2 v3
    have lk := hT.lt k
    have lj := hT.lt j
    have c0 : ((M : Int) != 0) = true := by simp; omega
    have hjT := hn.1
    have i2 := f7_2_eq m M S T k j T (bes M S T).1 (bes M S T).2 T S T mp (gp M S T k : Int) l1 l2 (by omega) hT h2 hkT hjT rfl T 0 m (by omega) (by omega)
    have i2 : f7_2 m m T (bes M S T).1 (bes M S T).2 T k M S T (mks M S T 0) mp j (gp M S T k : Int) T 0 = some (.x2 (gp M S T k : Int)) := i2
    have hmp' : ∀ w : Nat, getM 0 (putM mp (gp M S T k : Int) (w64 ((getM 0 mp (gp M S T k : Int)) + 1))) (w : Int) = ((cr (fun t => gp M S T t == w) (k + 1) : Nat) : Int) := by
      intro w
      rw [wm_getput]
      have hcl : ∀ w k, cr (fun t => gp M S T t == w) k ≤ k := by
        intro w k
        induction k with
        | zero => exact Nat.le_refl _
        | succ k ih =>
          show cr _ k + _ ≤ k + 1
          split <;> omega
      show _ = ((cr (fun t => gp M S T t == w) k + (if (gp M S T k == w) = true then 1 else 0) : Nat) : Int)
      by_cases c : (w : Int) = (gp M S T k : Int)
      · have c' : gp M S T k = w := by omega
        rw [if_pos c, if_pos (by simpa using c'), c', hmp w]
        have := hcl w k
        rw [w64_id (by omega) (by omega)]
        omega
      · rw [if_neg c, if_neg (by simpa using fun q => c (by omega)), hmp w]
        rfl
    obtain ⟨mp', e1, e2⟩ := f7_1_eq m M S T o hm g h2 hTo r (k + 1) fuel _ (by omega) (by omega) hmp'
    refine ⟨mp', ?_, e2⟩
    unfold f7_1
    rw [decide_eq_true (by omega), v22]
    simp only [Option.bind_some, cond_true]
    rw [v24]
    simp only [Option.bind_some, bne_self_eq_false, cond_false]
    rw [hto]
    simp only [bne_self_eq_false, cond_false]
    rw [decide_eq_false (by omega), decide_eq_false (by omega), r1, r2, c0, Int.toNat_natCast, Int.toNat_natCast, v2, v3, wm_mod lj lk l2, hgd, mks_len]
    simp only [cond_true, cond_false]
    rw [i2]
    simp only [Option.bind_some]
    rw [w64_succ k (by omega)]
    exact e1

theorem f7_eq {a b t : Int} (wa : (Lit.int .u8 a).wf = true) (wb : (Lit.int .u8 b).wf = true) (wt : (Lit.int .u8 t).wf = true) : f7 3000 a b t = some true := by
  obtain ⟨M, S, o, T, g, t1, t2, e45⟩ := wm_made wa wb wt
  have g1 := g.m1
  have g2 := g.m2
  have g3 := g.s
  have g5 := g.om
  have hT := g.turns (n := T) t2
  have v22 := f22_val (m := 3000) (b := 0) (by omega) g t1 t2 (by omega)
  have v24 := f24_val (m := 3000) (b := 0) (by omega) g t1 t2 (by omega)
  unfold f7
  rw [e45]
  simp only [Option.bind_some]
  rw [f46_eq 3000 M S T (by omega) (by omega) g2 g3 (by omega)]
  simp only [Option.bind_some]
  by_cases c : T = 1
  · subst c
    have e0 : nextN 1 (bes M S 1).1 (bes M S 1).2 0 = 0 := rfl
    have e1 : nextN 1 (bes M S 1).2 (bes M S 1).1 0 = 0 := rfl
    rw [e0] at v22
    rw [e1] at v24
    have v22 : f22 3000 M S ((1 : Nat) : Int) 0 = some (0, 0) := v22
    have v24 : f24 3000 M S ((1 : Nat) : Int) 0 = some (0, 0) := v24
    rw [v22, v24]
    rfl
  · have h2 : 2 ≤ T := by omega
    have hb : Beside T (mrk M S) (bes M S T).1 (bes M S T).2 := loopB_all (M := M) (S := S) h2
    have hsum := beside_sum hT hb
    have hcw := cw_val hT h2
    obtain ⟨p0, pT, q0, qT, mm⟩ := hb
    have e0 : nextN T (bes M S T).1 (bes M S T).2 0 = (bes M S T).1 := by unfold nextN; rw [if_pos (by omega)]; omega
    have e1 : nextN T (bes M S T).2 (bes M S T).1 0 = (bes M S T).2 := by unfold nextN; rw [if_pos (by omega)]; omega
    rw [e0] at v22
    rw [e1] at v24
    have v22 : f22 3000 M S T 0 = some (((bes M S T).1 : Int), 0) := v22
    have v24 : f24 3000 M S T 0 = some (((bes M S T).2 : Int), 0) := v24
    obtain ⟨mp, em, hmp⟩ := f7_1_eq 3000 M S T o (by omega) g h2 t2 T 0 3000 [] (by omega) (by omega) (fun w => rfl)
    have em : f7_1 3000 3000 T (bes M S T).1 (bes M S T).2 T 0 M S T (mks M S T 0) [] = _ := em
    have ec : ((T : Int) == 1) = false := by simp; omega
    have op := hT.own _ p0 pT
    have lp := hT.lt (bes M S T).1
    have lq := hT.lt (bes M S T).2
    have w1 := mks_get M S T 0 _ pT
    have w2 := mks_get M S T 0 _ qT
    rw [Nat.zero_add] at w1 w2
    have r1 : inRow ((bes M S T).1 : Int) (mks M S T 0).length = true := inRow_iff.2 ⟨by omega, by rw [mks_len]; omega⟩
    have r2 : inRow ((bes M S T).2 : Int) (mks M S T 0).length = true := inRow_iff.2 ⟨by omega, by rw [mks_len]; omega⟩
    rw [ec, v22, v24]
    simp only [Option.bind_some, cond_false, bne_self_eq_false]
    generalize hp : (bes M S T).1 = p at *
    generalize hq : (bes M S T).2 = q at *
    have s1 : w64 ((p : Int) + (q : Int)) = ((p + q : Nat) : Int) := by rw [w64_id (by omega) (by omega)]; omega
    rw [s1, decide_eq_false (by omega), decide_eq_false (by omega), decide_eq_false (by omega), decide_eq_false (by omega), decide_eq_false (by omega)]
    simp only [cond_false]
    rw [em]
    simp only [Option.bind_some]
    rw [r1, r2, Int.toNat_natCast, Int.toNat_natCast, w1, w2]
    generalize hA : mrk M S p = A at *
    generalize hB : mrk M S q = B at *
    have s2 : w64 ((T : Int) - (p : Int)) = ((T - p : Nat) : Int) := by rw [w64_id (by omega) (by omega)]; omega
    have s3 : w64 ((T : Int) - (q : Int)) = ((T - q : Nat) : Int) := by rw [w64_id (by omega) (by omega)]; omega
    have s4 : w64 (((p + q : Nat) : Int) - (T : Int)) = ((p + q - T : Nat) : Int) := by rw [w64_id (by omega) (by omega)]; omega
    have s5 : w64 ((M : Int) - (B : Int)) = ((M - B : Nat) : Int) := by rw [w64_id (by omega) (by omega)]; omega
    have s6 : w64 ((A : Int) + ((M - B : Nat) : Int)) = ((A + (M - B) : Nat) : Int) := by rw [w64_id (by omega) (by omega)]; omega
    have zid : ∀ x : Nat, x ≤ 1000 → w64 (0 + (x : Int)) = (x : Int) := fun x hx => by rw [w64_id (by omega) (by omega)]; omega
    simp only [cond_true, s1, s2, s3, s4, s5, s6]
    have hAB : A + (M - B) ≠ A := by omega
    have hAB2 : A + (M - B) ≠ M - B := by omega
    have k1 := hcw A
    have k2 := hcw (M - B)
    have k3 := hcw (A + (M - B))
    rw [if_pos rfl, if_neg (by omega)] at k1
    rw [if_neg hAB2, if_pos (show M - B = M - B from rfl)] at k2
    by_cases e : A = M - B
    · rw [if_pos e.symm] at k1
      rw [if_neg (by omega), if_pos rfl, if_neg (by omega)] at k3
      have hall : List.all (putM (putM (putM [] (A : Int) (w64 ((getM 0 [] (A : Int)) + ((T - p : Nat) : Int)))) ((M - B : Nat) : Int) (w64 ((getM 0 (putM [] (A : Int) (w64 ((getM 0 [] (A : Int)) + ((T - p : Nat) : Int)))) ((M - B : Nat) : Int)) + ((T - q : Nat) : Int)))) ((A + (M - B) : Nat) : Int) (w64 ((getM 0 (putM (putM [] (A : Int) (w64 ((getM 0 [] (A : Int)) + ((T - p : Nat) : Int)))) ((M - B : Nat) : Int) (w64 ((getM 0 (putM [] (A : Int) (w64 ((getM 0 [] (A : Int)) + ((T - p : Nat) : Int)))) ((M - B : Nat) : Int)) + ((T - q : Nat) : Int)))) ((A + (M - B) : Nat) : Int)) + ((p + q - T : Nat) : Int)))) (fun x => !(getM 0 mp x.1 != x.2)) = true := by
        rw [← e]
        have f1 : ((A : Nat) : Int) ≠ ((A + A : Nat) : Int) := by omega
        have hA2 := hmp A
        have hA3 := hmp (A + A)
        rw [← e] at k3
        simp only [putM, getM, if_true, if_neg f1, zid (T - p) (by omega), zid (p + q - T) (by omega)]
        have z1 : w64 (((T - p : Nat) : Int) + ((T - q : Nat) : Int)) = ((T - p + (T - q) : Nat) : Int) := by rw [w64_id (by omega) (by omega)]; omega
        rw [z1]
        simp only [List.all_cons, List.all_nil, Bool.and_true, hA2, hA3, k3]
        rw [show cw M S T A = T - p + (T - q) by omega]
        simp
      rw [hall]
      rfl
    · rw [if_neg (by omega)] at k1
      rw [if_neg e] at k2
      rw [if_neg (by omega), if_pos rfl, if_neg (by omega)] at k3
      have hall : List.all (putM (putM (putM [] (A : Int) (w64 ((getM 0 [] (A : Int)) + ((T - p : Nat) : Int)))) ((M - B : Nat) : Int) (w64 ((getM 0 (putM [] (A : Int) (w64 ((getM 0 [] (A : Int)) + ((T - p : Nat) : Int)))) ((M - B : Nat) : Int)) + ((T - q : Nat) : Int)))) ((A + (M - B) : Nat) : Int) (w64 ((getM 0 (putM (putM [] (A : Int) (w64 ((getM 0 [] (A : Int)) + ((T - p : Nat) : Int)))) ((M - B : Nat) : Int) (w64 ((getM 0 (putM [] (A : Int) (w64 ((getM 0 [] (A : Int)) + ((T - p : Nat) : Int)))) ((M - B : Nat) : Int)) + ((T - q : Nat) : Int)))) ((A + (M - B) : Nat) : Int)) + ((p + q - T : Nat) : Int)))) (fun x => !(getM 0 mp x.1 != x.2)) = true := by
        have f1 : ((A : Nat) : Int) ≠ ((M - B : Nat) : Int) := by omega
        have f2 : ((A : Nat) : Int) ≠ ((A + (M - B) : Nat) : Int) := by omega
        have f3 : ((M - B : Nat) : Int) ≠ ((A + (M - B) : Nat) : Int) := by omega
        have hA1 := hmp A
        have hA2 := hmp (M - B)
        have hA3 := hmp (A + (M - B))
        simp only [putM, getM, if_true, if_neg f1, if_neg f2, if_neg f3, zid (T - p) (by omega), zid (T - q) (by omega), zid (p + q - T) (by omega)]
        simp only [List.all_cons, List.all_nil, Bool.and_true, hA1, hA2, hA3, k1, k2, k3]
        simp
      rw [hall]
      rfl
end Go.Xm

namespace Go.Proofs.Ytagagpkjlkoieaa.wrapMany
open Go.Xm Go.RowKit
set_option linter.unusedVariables false

theorem walk (a0_0 : Int) (a0_1 : Int) (a0_2 : Int) (w : World) (w0_0 : (Lit.int .u8 a0_0).wf = true) (w0_1 : (Lit.int .u8 a0_1).wf = true) (w0_2 : (Lit.int .u8 a0_2).wf = true) :
    Calls Try.prog 7 #[.agg #[.int .u8 a0_0, .int .u8 a0_1, .int .u8 a0_2]] w fun e w' => e = .returned (.bool true) ∧ Below w.heap.size w w' :=
  f7_ok 3000 a0_0 a0_1 a0_2 true (f7_eq w0_0 w0_1 w0_2) w trivial
end Go.Proofs.Ytagagpkjlkoieaa.wrapMany
