/- WrapThree. Conditions: none. -/
import Derived.Test.YtagagpkjlkoieaaLT
import Derived.Test.YtagagpkjlkoieaaQe
namespace Go.Xm
set_option linter.unusedVariables false
set_option linter.unusedSimpArgs false

theorem th_made {a b t : Int} (wa : (Lit.int .u8 a).wf = true) (wb : (Lit.int .u8 b).wf = true) (wt : (Lit.int .u8 t).wf = true) :
    ∃ M S o T : Nat, Good M S 1 o ∧ 1 ≤ T ∧ T ≤ o ∧ f45 3000 a b t 100 = some ((M : Int), (S : Int), (T : Int)) := by
  obtain ⟨M, S, e1, e2, m1, m2, m3⟩ := roll wa wb
  obtain ⟨o, g⟩ := good_one M S m1 m2 m3
  have g1 := g.to
  have g2 := g.om
  obtain ⟨T, e3, t1, t2⟩ := roll_turns wt (o := o) g1 (by omega)
  refine ⟨M, S, o, T, g, t1, t2, ?_⟩
  have c1 : ((M : Int) != 0) = true := by simp; omega
  have c2 : ((o : Int) != 0) = true := by simp; omega
  unfold f45
  rw [e1, e2, c1, f47_eq 3000 M S o (by omega) g]
  simp only [Option.bind_some]
  rw [c2, e3]
  rfl

/-- How many gaps have a width. -/
theorem f15_2_eq (m : Nat) (x98 h0 h1 h2 w : Int) (y : Nat) (G K l3 : List Int) (l4 : List (Int × Int)) (p q : Int) (hG : G.length ≤ 1000) (hy : y < K.length) (hw : K.getD y 0 = w) : ∀ (k x fuel n : Nat), x + k = G.length → k < fuel → n ≤ x →
    f15_2 m fuel x98 y h0 h1 h2 G K l3 l4 n (G.length : Int) x p q = some (((n + cI w (G.drop x) : Nat) : Int), p, q)
  | k, x, 0, n, _, h, _ => by omega
  | 0, x, fuel + 1, n, hx, _, _ => by
    unfold f15_2
    rw [decide_eq_false (by omega), List.drop_eq_nil_of_le (by omega)]
    rfl
  | k + 1, x, fuel + 1, n, hx, hf, hn => by
    have hr : inRow (x : Int) G.length = true := inRow_iff.2 ⟨by omega, by omega⟩
    have hr2 : inRow (y : Int) K.length = true := inRow_iff.2 ⟨by omega, by omega⟩
    unfold f15_2
    rw [decide_eq_true (by omega), hr, hr2, Int.toNat_natCast, Int.toNat_natCast, w64_succ x (by omega), w64_succ n (by omega), hw, drop_cons (by omega)]
    simp only [cond_true]
    by_cases c : G.getD x 0 = w
    · rw [show (G.getD x 0 == w) = true by simpa using c]
      simp only [cond_true]
      rw [f15_2_eq m x98 h0 h1 h2 w y G K l3 l4 p q hG hy hw k (x + 1) fuel (n + 1) (by omega) (by omega) (by omega)]
      show _ = some (((n + ((if G.getD x 0 = w then 1 else 0) + cI w (G.drop (x + 1))) : Nat) : Int), p, q)
      rw [if_pos c]
      congr 3
      omega
    · rw [show (G.getD x 0 == w) = false by simpa using c]
      simp only [cond_false]
      rw [f15_2_eq m x98 h0 h1 h2 w y G K l3 l4 p q hG hy hw k (x + 1) fuel n (by omega) (by omega) (by omega)]
      show _ = some (((n + ((if G.getD x 0 = w then 1 else 0) + cI w (G.drop (x + 1))) : Nat) : Int), p, q)
      rw [if_neg c]
      congr 3
      omega

/-- Each width is that of as many gaps. -/
theorem f15_1_eq (m : Nat) (hm : 1000 < m) (h0 h1 h2 : Int) (G l3 : List Int) (W : List (Int × Int)) (hG : G.length ≤ 1000) (hW : W.length ≤ 1000) (hw : ∀ p ∈ W, p.2 = ((cI p.1 G : Nat) : Int)) : ∀ (k x fuel : Nat), x + k = W.length → k < fuel →
    f15_1 m fuel (W.length : Int) x h0 h1 h2 G (W.map (·.1)) l3 W = some (.x0 h0 h1 h2 l3)
  | k, x, 0, _, h => by omega
  | 0, x, fuel + 1, hx, _ => by
    unfold f15_1
    rw [decide_eq_false (by omega)]
    rfl
  | k + 1, x, fuel + 1, hx, hf => by
    have lm : (W.map (·.1)).length = W.length := List.length_map ..
    have hr : inRow (x : Int) W.length = true := inRow_iff.2 ⟨by omega, by omega⟩
    have hr2 : inRow (x : Int) (W.map (·.1)).length = true := by rw [lm]; exact hr
    have e1 : W.getD x (0, 0) = W[x]'(by omega) := by rw [List.getD_eq_getElem?_getD, List.getElem?_eq_getElem (by omega)]; rfl
    have e2 : (W.map (·.1)).getD x 0 = (W[x]'(by omega)).1 := by rw [List.getD_eq_getElem?_getD, List.getElem?_map, List.getElem?_eq_getElem (by omega)]; rfl
    have e3 := hw (W[x]'(by omega)) (List.getElem_mem _)
    have h := f15_2_eq m (W.length : Int) h0 h1 h2 _ x G (W.map (·.1)) l3 W (W[x]'(by omega)).1 (W[x]'(by omega)).2 hG (by omega) e2 G.length 0 m 0 (by omega) (by omega) (Nat.le_refl _)
    rw [List.drop_zero, Nat.zero_add] at h
    have h : f15_2 m m (W.length : Int) x h0 h1 h2 G (W.map (·.1)) l3 W 0 (G.length : Int) 0 (W[x]'(by omega)).1 (W[x]'(by omega)).2 = _ := h
    unfold f15_1
    rw [decide_eq_true (by omega), hr, Int.toNat_natCast, e1, h]
    simp only [Option.bind_some, cond_true]
    rw [hr2, e2, ← e3]
    simp only [cond_true, beq_self_eq_true, Bool.and_self, Bool.not_true, cond_false]
    rw [w64_succ x (by omega)]
    exact f15_1_eq m hm h0 h1 h2 G l3 W hG hW hw k (x + 1) fuel (by omega) (by omega)

/-- Numbers of turns in ascending order. -/
theorem f15_3_eq (m M S o : Nat) (hm : 1000 < m) (g : Good M S 1 o) (t : Int) (V : List Int) (hV : V.length ≤ 1000) (h1 : ∀ v ∈ V, 1 ≤ v ∧ v ≤ (o : Int)) (h2 : V.Pairwise (· < ·)) : ∀ (k x fuel : Nat), x + k = V.length → k < fuel →
    f15_3 m fuel M S t V (V.length : Int) x = some .x4
  | k, x, 0, _, h => by omega
  | 0, x, fuel + 1, hx, _ => by
    unfold f15_3
    rw [decide_eq_false (by omega)]
    rfl
  | k + 1, x, fuel + 1, hx, hf => by
    have ih := f15_3_eq m M S o hm g t V hV h1 h2 k (x + 1) fuel (by omega) (by omega)
    have hr : inRow (x : Int) V.length = true := inRow_iff.2 ⟨by omega, by omega⟩
    have e1 : V.getD x 0 = V[x]'(by omega) := by rw [List.getD_eq_getElem?_getD, List.getElem?_eq_getElem (by omega)]; rfl
    have b := h1 (V[x]'(by omega)) (List.getElem_mem _)
    unfold f15_3
    rw [decide_eq_true (by omega), hr, Int.toNat_natCast, e1, f47_eq m M S o hm g, w64_succ x (by omega), ih]
    simp only [Option.bind_some, cond_true]
    rw [decide_eq_false (by omega), decide_eq_false (by omega)]
    simp only [cond_false]
    by_cases c : x = 0
    · subst c
      rw [decide_eq_false (by omega)]
      rfl
    · have e2 : w64 ((x : Int) - 1) = ((x - 1 : Nat) : Int) := by rw [w64_id (by omega) (by omega)]; omega
      have hr2 : inRow ((x - 1 : Nat) : Int) V.length = true := inRow_iff.2 ⟨by omega, by omega⟩
      have e3 : V.getD (x - 1) 0 = V[x - 1]'(by omega) := by rw [List.getD_eq_getElem?_getD, List.getElem?_eq_getElem (by omega)]; rfl
      have p := List.pairwise_iff_getElem.1 h2 (x - 1) x (by omega) (by omega) (by omega)
      rw [decide_eq_true (by omega), e2, hr2, Int.toNat_natCast, e3, decide_eq_false (by omega)]
      rfl
/-- How many gaps have a width. -/
theorem f15_5_eq (m : Nat) (x98 h0 h1 h2 w : Int) (y : Nat) (G K l3 : List Int) (l4 : List (Int × Int)) (p q : Int) (hG : G.length ≤ 1000) (hy : y < K.length) (hw : K.getD y 0 = w) : ∀ (k x fuel n : Nat), x + k = G.length → k < fuel → n ≤ x →
    f15_5 m fuel x98 y h0 h1 h2 G K l3 l4 n (G.length : Int) x p q = some (((n + cI w (G.drop x) : Nat) : Int), p, q)
  | k, x, 0, n, _, h, _ => by omega
  | 0, x, fuel + 1, n, hx, _, _ => by
    unfold f15_5
    rw [decide_eq_false (by omega), List.drop_eq_nil_of_le (by omega)]
    rfl
  | k + 1, x, fuel + 1, n, hx, hf, hn => by
    have hr : inRow (x : Int) G.length = true := inRow_iff.2 ⟨by omega, by omega⟩
    have hr2 : inRow (y : Int) K.length = true := inRow_iff.2 ⟨by omega, by omega⟩
    unfold f15_5
    rw [decide_eq_true (by omega), hr, hr2, Int.toNat_natCast, Int.toNat_natCast, w64_succ x (by omega), w64_succ n (by omega), hw, drop_cons (by omega)]
    simp only [cond_true]
    by_cases c : G.getD x 0 = w
    · rw [show (G.getD x 0 == w) = true by simpa using c]
      simp only [cond_true]
      rw [f15_5_eq m x98 h0 h1 h2 w y G K l3 l4 p q hG hy hw k (x + 1) fuel (n + 1) (by omega) (by omega) (by omega)]
      show _ = some (((n + ((if G.getD x 0 = w then 1 else 0) + cI w (G.drop (x + 1))) : Nat) : Int), p, q)
      rw [if_pos c]
      congr 3
      omega
    · rw [show (G.getD x 0 == w) = false by simpa using c]
      simp only [cond_false]
      rw [f15_5_eq m x98 h0 h1 h2 w y G K l3 l4 p q hG hy hw k (x + 1) fuel n (by omega) (by omega) (by omega)]
      show _ = some (((n + ((if G.getD x 0 = w then 1 else 0) + cI w (G.drop (x + 1))) : Nat) : Int), p, q)
      rw [if_neg c]
      congr 3
      omega

/-- Each width is that of as many gaps. -/
theorem f15_4_eq (m : Nat) (hm : 1000 < m) (h0 h1 h2 : Int) (G l3 : List Int) (W : List (Int × Int)) (hG : G.length ≤ 1000) (hW : W.length ≤ 1000) (hw : ∀ p ∈ W, p.2 = ((cI p.1 G : Nat) : Int)) : ∀ (k x fuel : Nat), x + k = W.length → k < fuel →
    f15_4 m fuel (W.length : Int) x h0 h1 h2 G (W.map (·.1)) l3 W = some (.x0 h0 h1 h2 l3)
  | k, x, 0, _, h => by omega
  | 0, x, fuel + 1, hx, _ => by
    unfold f15_4
    rw [decide_eq_false (by omega)]
    rfl
  | k + 1, x, fuel + 1, hx, hf => by
    have lm : (W.map (·.1)).length = W.length := List.length_map ..
    have hr : inRow (x : Int) W.length = true := inRow_iff.2 ⟨by omega, by omega⟩
    have hr2 : inRow (x : Int) (W.map (·.1)).length = true := by rw [lm]; exact hr
    have e1 : W.getD x (0, 0) = W[x]'(by omega) := by rw [List.getD_eq_getElem?_getD, List.getElem?_eq_getElem (by omega)]; rfl
    have e2 : (W.map (·.1)).getD x 0 = (W[x]'(by omega)).1 := by rw [List.getD_eq_getElem?_getD, List.getElem?_map, List.getElem?_eq_getElem (by omega)]; rfl
    have e3 := hw (W[x]'(by omega)) (List.getElem_mem _)
    have h := f15_5_eq m (W.length : Int) h0 h1 h2 _ x G (W.map (·.1)) l3 W (W[x]'(by omega)).1 (W[x]'(by omega)).2 hG (by omega) e2 G.length 0 m 0 (by omega) (by omega) (Nat.le_refl _)
    rw [List.drop_zero, Nat.zero_add] at h
    have h : f15_5 m m (W.length : Int) x h0 h1 h2 G (W.map (·.1)) l3 W 0 (G.length : Int) 0 (W[x]'(by omega)).1 (W[x]'(by omega)).2 = _ := h
    unfold f15_4
    rw [decide_eq_true (by omega), hr, Int.toNat_natCast, e1, h]
    simp only [Option.bind_some, cond_true]
    rw [hr2, e2, ← e3]
    simp only [cond_true, beq_self_eq_true, Bool.and_self, Bool.not_true, cond_false]
    rw [w64_succ x (by omega)]
    exact f15_4_eq m hm h0 h1 h2 G l3 W hG hW hw k (x + 1) fuel (by omega) (by omega)

/-- Numbers of turns in ascending order. -/
theorem f15_6_eq (m M S o : Nat) (hm : 1000 < m) (g : Good M S 1 o) (t : Int) (V : List Int) (hV : V.length ≤ 1000) (h1 : ∀ v ∈ V, 1 ≤ v ∧ v ≤ (o : Int)) (h2 : V.Pairwise (· < ·)) : ∀ (k x fuel : Nat), x + k = V.length → k < fuel →
    f15_6 m fuel M S t V (V.length : Int) x = some .x4
  | k, x, 0, _, h => by omega
  | 0, x, fuel + 1, hx, _ => by
    unfold f15_6
    rw [decide_eq_false (by omega)]
    rfl
  | k + 1, x, fuel + 1, hx, hf => by
    have ih := f15_6_eq m M S o hm g t V hV h1 h2 k (x + 1) fuel (by omega) (by omega)
    have hr : inRow (x : Int) V.length = true := inRow_iff.2 ⟨by omega, by omega⟩
    have e1 : V.getD x 0 = V[x]'(by omega) := by rw [List.getD_eq_getElem?_getD, List.getElem?_eq_getElem (by omega)]; rfl
    have b := h1 (V[x]'(by omega)) (List.getElem_mem _)
    unfold f15_6
    rw [decide_eq_true (by omega), hr, Int.toNat_natCast, e1, f47_eq m M S o hm g, w64_succ x (by omega), ih]
    simp only [Option.bind_some, cond_true]
    rw [decide_eq_false (by omega), decide_eq_false (by omega)]
    simp only [cond_false]
    by_cases c : x = 0
    · subst c
      rw [decide_eq_false (by omega)]
      rfl
    · have e2 : w64 ((x : Int) - 1) = ((x - 1 : Nat) : Int) := by rw [w64_id (by omega) (by omega)]; omega
      have hr2 : inRow ((x - 1 : Nat) : Int) V.length = true := inRow_iff.2 ⟨by omega, by omega⟩
      have e3 : V.getD (x - 1) 0 = V[x - 1]'(by omega) := by rw [List.getD_eq_getElem?_getD, List.getElem?_eq_getElem (by omega)]; rfl
      have p := List.pairwise_iff_getElem.1 h2 (x - 1) x (by omega) (by omega) (by omega)
      rw [decide_eq_true (by omega), e2, hr2, Int.toNat_natCast, e3, decide_eq_false (by omega)]
      rfl

theorem f15_eq {a b t : Int} (wa : (Lit.int .u8 a).wf = true) (wb : (Lit.int .u8 b).wf = true) (wt : (Lit.int .u8 t).wf = true) : f15 3000 a b t = some true := by
  obtain ⟨M, S, o, T, g, t1, t2, e45⟩ := th_made wa wb wt
  have g1 := g.m1
  have g2 := g.m2
  have g3 := g.s
  have g5 := g.om
  have hT := g.turns (n := T) t2
  have gT := g.some t1 t2
  have z20 := f20_0 (m := 3000) (T := T) (by omega) g t1 t2
  have v57 : f57 3000 (gF M S T T 0) = some ((wlF (cw M S T) M 1).map (·.1)) := by
    rw [f57_eq (by omega) (by rw [gF_len]; omega), kinds_eq (by omega) hT t1]
  have hwl := wlF_len (cw M S T) M 1
  have hev := evL_len M S o 1
  obtain ⟨k1, k2⟩ := three (M := M) (S := S) (by omega) hT t1
  have hsum : ∀ p ∈ wlF (cw M S T) M 1, p.2 = ((cI p.1 (gF M S T T 0) : Nat) : Int) := by
    intro p hp
    obtain ⟨w, _, _, _, e⟩ := wlF_snd M 1 p hp
    rw [e]
    show ((cw M S T w : Nat) : Int) = ((cI (w : Int) (gF M S T T 0) : Nat) : Int)
    rw [cI_all hT t1]
  have hin : decide ((T : Int) ∈ evL M S o 1) = decide ((((wlF (cw M S T) M 1).map (·.1)).length : Int) < 3) := by
    rw [List.length_map]
    refine decide_eq_decide.2 ?_
    rw [mem_evL]
    constructor
    · rintro ⟨w, _, _, q, e⟩
      have e : T = w := by omega
      subst e
      omega
    · intro h
      exact ⟨T, by omega, by omega, by omega, rfl⟩
  have hb : ∀ v ∈ evL M S o 1, 1 ≤ v ∧ v ≤ (o : Int) := by
    intro v hv
    obtain ⟨w, q1, q2, _, e⟩ := (mem_evL o 1).1 hv
    omega
  have lK : ((wlF (cw M S T) M 1).map (·.1)).length = (wlF (cw M S T) M 1).length := List.length_map ..
  have v35 := f35_same 3000 (gF M S T T 0) (by rw [gF_len]; omega) (by omega)
  have v33 := f33_eq 3000 M S T o (by omega) gT z20
  have v37 := f37_eq 3000 M S o (by omega) g (f65_val 3000 M S o 1 (by omega) g)
  have v58 := f58_eq (m := 3000) (a := evL M S o 1) (T : Int) (by omega) (by omega)
  have hG : (gF M S T T 0).length ≤ 1000 := by rw [gF_len]; omega
  generalize hW : wlF (cw M S T) M 1 = W at *
  have w1 := f15_1_eq 3000 (by omega) (M : Int) (S : Int) (T : Int) (gF M S T T 0) (evL M S o 1) W hG (by omega) hsum W.length 0 3000 (by omega) (by omega)
  have w4 := f15_4_eq 3000 (by omega) (M : Int) (S : Int) (T : Int) (gF M S T T 0) (evL M S o 1) W hG (by omega) hsum W.length 0 3000 (by omega) (by omega)
  have w3 := f15_3_eq 3000 M S o (by omega) g (T : Int) (evL M S o 1) (by omega) hb (evL_asc o 1) (evL M S o 1).length 0 3000 (by omega) (by omega)
  have w6 := f15_6_eq 3000 M S o (by omega) g (T : Int) (evL M S o 1) (by omega) hb (evL_asc o 1) (evL M S o 1).length 0 3000 (by omega) (by omega)
  have w1 : f15_1 3000 3000 (W.length : Int) 0 M S T (gF M S T T 0) (W.map (·.1)) (evL M S o 1) W = _ := w1
  have w4 : f15_4 3000 3000 (W.length : Int) 0 M S T (gF M S T T 0) (W.map (·.1)) (evL M S o 1) W = _ := w4
  have w3 : f15_3 3000 3000 M S T (evL M S o 1) ((evL M S o 1).length : Int) 0 = _ := w3
  have w6 : f15_6 3000 3000 M S T (evL M S o 1) ((evL M S o 1).length : Int) 0 = _ := w6
  unfold f15
  rw [e45]
  simp only [Option.bind_some]
  rw [f56_val (by omega) g t1 t2]
  simp only [Option.bind_some]
  rw [v57]
  simp only [Option.bind_some]
  rw [decide_eq_false (by omega), f31_val (by omega) g t1 t2, v33, v37]
  simp only [Option.bind_some, cond_false, bne_self_eq_false, v35, Bool.not_true, lK, v58, w1, w4, w3, w6]
  rw [lK] at hin
  rw [hin]
  simp only [beq_self_eq_true, Bool.not_true, cond_false]
  by_cases c : W.length = 3
  · have r0 : inRow (0 : Int) W.length = true := inRow_iff.2 ⟨by omega, by omega⟩
    have r1 : inRow (1 : Int) W.length = true := inRow_iff.2 ⟨by omega, by omega⟩
    have r2 : inRow (2 : Int) W.length = true := inRow_iff.2 ⟨by omega, by omega⟩
    have k := k2 c
    have bd : ∀ i, i < 3 → 0 ≤ (W.map (·.1)).getD i 0 ∧ (W.map (·.1)).getD i 0 ≤ 1000 := by
      intro i hi
      have e2 : (W.map (·.1)).getD i 0 = (W[i]'(by omega)).1 := by rw [List.getD_eq_getElem?_getD, List.getElem?_map, List.getElem?_eq_getElem (by omega)]; rfl
      obtain ⟨w, q1, q2, _, e⟩ := wlF_snd (c := cw M S T) M 1 (W[i]'(by omega)) (by rw [hW]; exact List.getElem_mem _)
      rw [e2, e]
      show 0 ≤ (w : Int) ∧ (w : Int) ≤ 1000
      omega
    have b0 := bd 0 (by omega)
    have b1 := bd 1 (by omega)
    rw [show (((W.length : Nat) : Int) == 3) = true by simp; omega, r0, r1, r2, w64_id (by omega) (by omega), k]
    simp only [cond_true, bne_self_eq_false, cond_false]
  · rw [show (((W.length : Nat) : Int) == 3) = false by simp; omega]
    simp only [cond_false]
end Go.Xm

namespace Go.Proofs.Ytagagpkjlkoieaa.wrapThree
open Go.Xm Go.RowKit
set_option linter.unusedVariables false

theorem walk (a0_0 : Int) (a0_1 : Int) (a0_2 : Int) (w : World) (w0_0 : (Lit.int .u8 a0_0).wf = true) (w0_1 : (Lit.int .u8 a0_1).wf = true) (w0_2 : (Lit.int .u8 a0_2).wf = true) :
    Calls Try.prog 15 #[.agg #[.int .u8 a0_0, .int .u8 a0_1, .int .u8 a0_2]] w fun e w' => e = .returned (.bool true) ∧ Below w.heap.size w w' :=
  f15_ok 3000 a0_0 a0_1 a0_2 true (f15_eq w0_0 w0_1 w0_2) w trivial
end Go.Proofs.Ytagagpkjlkoieaa.wrapThree
