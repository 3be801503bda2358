/- The different widths of gaps, and the numbers of turns with at most two of them. Conditions: none. -/
import Derived.Test.YtagagpkjlkoieaaLb
import Derived.Test.YtagagpkjlkoieaaKW
import Derived.Test.YtagagpkjlkoieaaQf
import Derived.Test.YtagagpkjlkoieaaQg
namespace Go.Xm
set_option linter.unusedVariables false
set_option linter.unusedSimpArgs false
set_option maxRecDepth 20000

/-- A list in which no number follows itself. -/
def ddI : List Int → List Int
  | [] => []
  | x :: l => match l with
    | [] => [x]
    | y :: _ => if x = y then ddI l else x :: ddI l

theorem ddI_one (x : Int) : ddI [x] = [x] := rfl
theorem ddI_two (x y : Int) (l : List Int) : ddI (x :: y :: l) = if x = y then ddI (y :: l) else x :: ddI (y :: l) := rfl

theorem mem_ddI {v : Int} : ∀ l : List Int, v ∈ ddI l ↔ v ∈ l
  | [] => Iff.rfl
  | [x] => Iff.rfl
  | x :: y :: l => by
    have ih := mem_ddI (v := v) (y :: l)
    rw [ddI_two]
    by_cases c : x = y
    · rw [if_pos c, ih, c]
      constructor
      · exact fun h => List.mem_cons_of_mem _ h
      · intro h
        rcases List.mem_cons.1 h with rfl | h
        · exact List.mem_cons_self
        · exact h
    · rw [if_neg c, List.mem_cons, ih, ← List.mem_cons]

theorem ddI_asc : ∀ l : List Int, l.Pairwise (· ≤ ·) → (ddI l).Pairwise (· < ·)
  | [], _ => List.Pairwise.nil
  | [x], _ => List.pairwise_cons.2 ⟨fun _ h => (by cases h), List.Pairwise.nil⟩
  | x :: y :: l, h => by
    obtain ⟨h1, h2⟩ := List.pairwise_cons.1 h
    have ih := ddI_asc (y :: l) h2
    rw [ddI_two]
    by_cases c : x = y
    · rw [if_pos c]; exact ih
    · rw [if_neg c]
      refine List.pairwise_cons.2 ⟨fun v hv => ?_, ih⟩
      have hv := (mem_ddI (y :: l)).1 hv
      have h3 := h1 y List.mem_cons_self
      rcases List.mem_cons.1 hv with rfl | hv
      · omega
      · have := (List.pairwise_cons.1 h2).1 v hv
        omega

theorem cI_pos (w : Int) : ∀ l, 0 < cI w l ↔ w ∈ l
  | [] => by
    constructor
    · intro h; exact absurd h (Nat.lt_irrefl 0)
    · intro h; cases h
  | v :: l => by
    have ih := cI_pos w l
    show 0 < (if v = w then 1 else 0) + cI w l ↔ _
    rw [List.mem_cons, ← ih]
    by_cases c : v = w
    · rw [if_pos c]
      exact ⟨fun _ => Or.inl c.symm, fun _ => by omega⟩
    · rw [if_neg c, Nat.zero_add]
      exact ⟨fun h => Or.inr h, fun h => by
        rcases h with h | h
        · exact absurd h.symm c
        · exact h⟩

theorem mem_wlF {c : Nat → Nat} {v : Int} : ∀ k s, v ∈ (wlF c k s).map (·.1) ↔ ∃ w : Nat, s ≤ w ∧ w < s + k ∧ 0 < c w ∧ v = (w : Int)
  | 0, s => by
    constructor
    · intro h; cases h
    · rintro ⟨w, h1, h2, _⟩; omega
  | k + 1, s => by
    have ih := mem_wlF (c := c) (v := v) k (s + 1)
    unfold wlF
    by_cases h : 0 < c s
    · rw [if_pos h, List.map_cons, List.mem_cons, ih]
      constructor
      · rintro (e | ⟨w, a1, a2, a3, a4⟩)
        · exact ⟨s, Nat.le_refl _, by omega, h, e⟩
        · exact ⟨w, by omega, by omega, a3, a4⟩
      · rintro ⟨w, a1, a2, a3, a4⟩
        by_cases e : w = s
        · subst e; exact Or.inl a4
        · exact Or.inr ⟨w, by omega, by omega, a3, a4⟩
    · rw [if_neg h, ih]
      constructor
      · rintro ⟨w, a1, a2, a3, a4⟩; exact ⟨w, by omega, by omega, a3, a4⟩
      · rintro ⟨w, a1, a2, a3, a4⟩
        have : w ≠ s := fun e => h (e ▸ a3)
        exact ⟨w, by omega, by omega, a3, a4⟩

theorem wlF_asc {c : Nat → Nat} : ∀ k s, ((wlF c k s).map (·.1)).Pairwise (· < ·)
  | 0, s => List.Pairwise.nil
  | k + 1, s => by
    have ih := wlF_asc (c := c) k (s + 1)
    unfold wlF
    by_cases h : 0 < c s
    · rw [if_pos h, List.map_cons]
      refine List.pairwise_cons.2 ⟨fun v hv => ?_, ih⟩
      obtain ⟨w, a1, _, _, a4⟩ := (mem_wlF k (s + 1)).1 hv
      show (s : Int) < v
      omega
    · rw [if_neg h]; exact ih

theorem wlF_snd {c : Nat → Nat} : ∀ k s, ∀ p ∈ wlF c k s, ∃ w : Nat, s ≤ w ∧ w < s + k ∧ 0 < c w ∧ p = ((w : Int), (c w : Int))
  | 0, s, p, h => by cases h
  | k + 1, s, p, h => by
    unfold wlF at h
    by_cases g : 0 < c s
    · rw [if_pos g] at h
      rcases List.mem_cons.1 h with e | h
      · exact ⟨s, Nat.le_refl _, by omega, g, e⟩
      · obtain ⟨w, a1, a2, a3, a4⟩ := wlF_snd k (s + 1) p h
        exact ⟨w, by omega, by omega, a3, a4⟩
    · rw [if_neg g] at h
      obtain ⟨w, a1, a2, a3, a4⟩ := wlF_snd k (s + 1) p h
      exact ⟨w, by omega, by omega, a3, a4⟩

theorem gp_pos {M S T k : Nat} (h : Turns M T (mrk M S)) (hk : k < T) : 0 < gp M S T k := by
  have hn := bes_isNext h hk
  have l := h.lt k
  unfold gp
  by_cases c : nextN T (bes M S T).1 (bes M S T).2 k = 0
  · rw [if_pos c]; omega
  · rw [if_neg c]
    rcases hn.2 with ⟨e, _⟩ | ⟨e, _⟩
    · omega
    · omega

/-- The different widths. -/
theorem kinds_eq {M S T : Nat} (hM : 0 < M) (h : Turns M T (mrk M S)) (hT : 0 < T) : ddI (sortI (gF M S T T 0)) = (wlF (cw M S T) M 1).map (·.1) := by
  refine asc_ext _ _ (ddI_asc _ (sortI_asc _)) (wlF_asc M 1) (fun v => ?_)
  rw [mem_ddI, (sortI_perm _).mem_iff, mem_wlF]
  constructor
  · intro hv
    obtain ⟨j, hj, e⟩ := mem_gF T 0 hv
    have ht := tN_lt h hT (0 + j)
    have g1 := gp_le M S T (tN M S T (0 + j)) hM
    have g2 := gp_pos h ht
    refine ⟨_, g2, by omega, ?_, e⟩
    rw [← cI_all h hT, cI_pos, ← e]
    exact hv
  · rintro ⟨w, a1, a2, a3, a4⟩
    rw [← cI_all h hT, cI_pos] at a3
    rw [a4]; exact a3

theorem wexp_three (d1 n1 d2 n2 n3 : Nat) : (wexp d1 n1 d2 n2 n3).length ≤ 3 ∧ ((wexp d1 n1 d2 n2 n3).length = 3 → ((wexp d1 n1 d2 n2 n3).map (·.1)).getD 2 0 = ((wexp d1 n1 d2 n2 n3).map (·.1)).getD 0 0 + ((wexp d1 n1 d2 n2 n3).map (·.1)).getD 1 0) := by
  unfold wexp
  by_cases a : d1 = d2
  · rw [if_pos a]
    by_cases b : n3 = 0
    · rw [if_pos b]; exact ⟨by simp, fun h => by simp at h⟩
    · rw [if_neg b]; exact ⟨by simp, fun h => by simp at h⟩
  · rw [if_neg a]
    by_cases c : d2 < d1
    · rw [if_pos c]
      by_cases b : n3 = 0
      · rw [if_pos b]; exact ⟨by simp, fun h => by simp at h⟩
      · rw [if_neg b]; exact ⟨by simp, fun _ => by show ((d1 + d2 : Nat) : Int) = (d2 : Int) + (d1 : Int); omega⟩
    · rw [if_neg c]
      by_cases b : n3 = 0
      · rw [if_pos b]; exact ⟨by simp, fun h => by simp at h⟩
      · rw [if_neg b]; exact ⟨by simp, fun _ => by show ((d1 + d2 : Nat) : Int) = (d1 : Int) + (d2 : Int); omega⟩

/-- At most three widths, and the greatest of three is the sum of both others. -/
theorem three {M S T : Nat} (hM : 0 < M) (h : Turns M T (mrk M S)) (hT : 0 < T) : (wlF (cw M S T) M 1).length ≤ 3 ∧ ((wlF (cw M S T) M 1).length = 3 → ((wlF (cw M S T) M 1).map (·.1)).getD 2 0 = ((wlF (cw M S T) M 1).map (·.1)).getD 0 0 + ((wlF (cw M S T) M 1).map (·.1)).getD 1 0) := by
  by_cases e : T = 1
  · subst e
    rw [wl_one hM]
    exact ⟨by simp, fun h => by simp at h⟩
  · obtain ⟨p, q, d1, d2, _, _, _, _, p0, pT, q0, qT, pq, e1, e2, e3, e4, hc⟩ := bes_facts h (by omega)
    rw [wlF_exp hc e1 e2 (by omega) (by omega) e4]
    exact wexp_three _ _ _ _ _

theorem mem_evL {M S : Nat} {v : Int} : ∀ k t, v ∈ evL M S k t ↔ ∃ w : Nat, t ≤ w ∧ w < t + k ∧ (wlF (cw M S w) M 1).length ≤ 2 ∧ v = (w : Int)
  | 0, s => by
    constructor
    · intro h; cases h
    · rintro ⟨w, h1, h2, _⟩; omega
  | k + 1, s => by
    have ih := mem_evL (M := M) (S := S) (v := v) k (s + 1)
    unfold evL
    by_cases h : (wlF (cw M S s) M 1).length ≤ 2
    · rw [if_pos h, List.mem_cons, ih]
      constructor
      · rintro (e | ⟨w, a1, a2, a3, a4⟩)
        · exact ⟨s, Nat.le_refl _, by omega, h, e⟩
        · exact ⟨w, by omega, by omega, a3, a4⟩
      · rintro ⟨w, a1, a2, a3, a4⟩
        by_cases e : w = s
        · subst e; exact Or.inl a4
        · exact Or.inr ⟨w, by omega, by omega, a3, a4⟩
    · rw [if_neg h, ih]
      constructor
      · rintro ⟨w, a1, a2, a3, a4⟩; exact ⟨w, by omega, by omega, a3, a4⟩
      · rintro ⟨w, a1, a2, a3, a4⟩
        have : w ≠ s := fun e => h (e ▸ a3)
        exact ⟨w, by omega, by omega, a3, a4⟩

theorem evL_asc {M S : Nat} : ∀ k t, (evL M S k t).Pairwise (· < ·)
  | 0, s => List.Pairwise.nil
  | k + 1, s => by
    have ih := evL_asc (M := M) (S := S) k (s + 1)
    unfold evL
    by_cases h : (wlF (cw M S s) M 1).length ≤ 2
    · rw [if_pos h]
      refine List.pairwise_cons.2 ⟨fun v hv => ?_, ih⟩
      obtain ⟨w, a1, _, _, a4⟩ := (mem_evL k (s + 1)).1 hv
      omega
    · rw [if_neg h]; exact ih

/-! ### slices.Compact -/
theorem ddI_snoc (z y : Int) : ∀ l : List Int, ddI (l ++ [z, y]) = if z = y then ddI (l ++ [z]) else ddI (l ++ [z]) ++ [y]
  | [] => by
    show ddI [z, y] = if z = y then ddI [z] else ddI [z] ++ [y]
    rw [ddI_two, ddI_one, ddI_one]
    by_cases c : z = y
    · rw [if_pos c, if_pos c, c]
    · rw [if_neg c, if_neg c]; rfl
  | [x] => by
    have ih := ddI_snoc z y []
    rw [List.nil_append, List.nil_append] at ih
    show ddI (x :: z :: [y]) = if z = y then ddI [x, z] else ddI [x, z] ++ [y]
    rw [show ddI (x :: z :: [y]) = if x = z then ddI [z, y] else x :: ddI [z, y] from rfl, show ddI [x, z] = if x = z then ddI [z] else x :: ddI [z] from rfl, ih]
    by_cases c : z = y
    · rw [if_pos c, if_pos c]
    · rw [if_neg c, if_neg c]
      by_cases d : x = z
      · rw [if_pos d, if_pos d]
      · rw [if_neg d, if_neg d]; rfl
  | x :: w :: l => by
    have ih := ddI_snoc z y (w :: l)
    show ddI (x :: w :: (l ++ [z, y])) = if z = y then ddI (x :: w :: (l ++ [z])) else ddI (x :: w :: (l ++ [z])) ++ [y]
    rw [ddI_two, ddI_two]
    rw [List.cons_append, List.cons_append] at ih
    rw [ih]
    by_cases c : z = y
    · rw [if_pos c, if_pos c]
    · rw [if_neg c, if_neg c]
      by_cases d : x = w
      · rw [if_pos d, if_pos d]
      · rw [if_neg d, if_neg d]; rfl

theorem take_snoc {l : List Int} {k : Nat} (h : k < l.length) : l.take (k + 1) = l.take k ++ [l.getD k 0] := by
  rw [List.getD_eq_getElem?_getD, List.getElem?_eq_getElem h, List.take_succ_eq_append_getElem h]
  rfl

/-- One more number. -/
theorem ddI_take {S : List Int} {k : Nat} (h0 : 0 < k) (h : k < S.length) : ddI (S.take (k + 1)) = if S.getD (k - 1) 0 = S.getD k 0 then ddI (S.take k) else ddI (S.take k) ++ [S.getD k 0] := by
  obtain ⟨j, rfl⟩ : ∃ j, k = j + 1 := ⟨k - 1, by omega⟩
  rw [take_snoc h, take_snoc (k := j) (by omega), List.append_assoc]
  exact ddI_snoc _ _ _

theorem getD_setI (l : List Int) (i j : Nat) (v : Int) (hi : i < l.length) : (l.set i v).getD j 0 = if i = j then v else l.getD j 0 := by
  rw [List.getD_eq_getElem?_getD, List.getD_eq_getElem?_getD, List.getElem?_set]
  by_cases e : i = j
  · subst e
    rw [if_pos rfl, if_pos hi, if_pos rfl]
    rfl
  · rw [if_neg e, if_neg e]

theorem take_set {l : List Int} {i : Nat} (v : Int) (hi : i < l.length) : (l.set i v).take (i + 1) = l.take i ++ [v] := by
  rw [take_snoc (by rw [List.length_set]; exact hi), getD_setI l i i v hi, if_pos rfl, List.take_set_of_le (Nat.le_refl _)]

theorem f57_2_eq (m : Nat) (a S : List Int) (x n : Nat) (hx : 0 < x) (hn : n = S.length) (h1 : n ≤ 1000) : ∀ (r i fuel x3 : Nat) (L : List Int), x + i + r = n → 1 ≤ i → r < fuel → x ≤ x3 → x3 ≤ x + i - 1 → L.length = n → (∀ j, x + i - 1 ≤ j → L.getD j 0 = S.getD j 0) → L.take x3 = ddI (S.take (x + i)) →
    ∃ (x4 : Nat) (L' : List Int), f57_2 m fuel a x3 x (n - x) (n - x) i L = some ((x4 : Int), L') ∧ x4 ≤ n ∧ L'.length = n ∧ L'.take x4 = ddI S
  | r, i, 0, _, _, _, _, h, _, _, _, _, _ => by omega
  | 0, i, fuel + 1, x3, L, hr, hi, _, h2, h3, hL, hs, ht => by
    refine ⟨x3, L, ?_, by omega, hL, ?_⟩
    · unfold f57_2
      rw [decide_eq_false (by omega)]
      rfl
    · rw [ht, List.take_of_length_le (by omega)]
  | r + 1, i, fuel + 1, x3, L, hr, hi, hf, h2, h3, hL, hs, ht => by
    have r1 : inRow (i : Int) (n - x) = true := inRow_iff.2 ⟨by omega, by omega⟩
    have r2 : inRow ((i - 1 : Nat) : Int) (n - x) = true := inRow_iff.2 ⟨by omega, by omega⟩
    have r3 : inRow (x3 : Int) L.length = true := inRow_iff.2 ⟨by omega, by omega⟩
    have e1 : w64 ((i : Int) - 1) = ((i - 1 : Nat) : Int) := by rw [w64_id (by omega) (by omega)]; omega
    have hd := ddI_take (S := S) (k := x + i) (by omega) (by omega)
    unfold f57_2
    rw [decide_eq_true (by omega), r1, e1, r2, r3, Int.toNat_natCast, Int.toNat_natCast, Int.toNat_natCast, w64_succ i (by omega), w64_succ x3 (by omega), decide_eq_true (p := x + i < L.length) (by omega), decide_eq_true (p := x + (i - 1) < L.length) (by omega), hs (x + i) (by omega), hs (x + (i - 1)) (by omega)]
    simp only [cond_true]
    rw [show x + (i - 1) = x + i - 1 by omega]
    by_cases c : S.getD (x + i - 1) 0 = S.getD (x + i) 0
    · rw [if_pos c] at hd
      rw [show (S.getD (x + i) 0 != S.getD (x + i - 1) 0) = false by rw [c]; simp]
      simp only [cond_false]
      exact f57_2_eq m a S x n hx hn h1 r (i + 1) fuel x3 L (by omega) (by omega) (by omega) h2 (by omega) hL (fun j hj => hs j (by omega)) (by rw [ht, ← hd]; rfl)
    · rw [if_neg c] at hd
      rw [show (S.getD (x + i) 0 != S.getD (x + i - 1) 0) = true by simpa using fun q => c q.symm]
      simp only [cond_true]
      refine f57_2_eq m a S x n hx hn h1 r (i + 1) fuel (x3 + 1) _ (by omega) (by omega) (by omega) (by omega) (by omega) (by rw [List.length_set]; exact hL) (fun j hj => ?_) ?_
      · rw [getD_setI _ _ _ _ (by omega), if_neg (by omega), hs j (by omega)]
      · rw [take_set _ (by omega), ht, ← hd]; rfl

theorem f57_1_eq (m : Nat) (a S : List Int) (h1 : S.length ≤ 1000) (hm : 1000 < m) : ∀ (r x fuel : Nat), x + r = S.length → 1 ≤ x → r < fuel → ddI (S.take x) = S.take x →
    f57_1 m fuel a x S = some (.x0 S) ∧ ddI S = S ∨ ∃ n c L, f57_1 m fuel a x S = some (.r n c L) ∧ n ≤ c ∧ n ≤ L.length ∧ L.take n = ddI S
  | r, x, 0, _, _, h, _ => by omega
  | 0, x, fuel + 1, hr, hx, _, hd => by
    refine Or.inl ⟨?_, ?_⟩
    · unfold f57_1
      rw [decide_eq_false (by omega)]
      rfl
    · rw [List.take_of_length_le (by omega)] at hd
      exact hd
  | r + 1, x, fuel + 1, hr, hx, hf, hd => by
    have r1 : inRow (x : Int) S.length = true := inRow_iff.2 ⟨by omega, by omega⟩
    have r2 : inRow ((x - 1 : Nat) : Int) S.length = true := inRow_iff.2 ⟨by omega, by omega⟩
    have e1 : w64 ((x : Int) - 1) = ((x - 1 : Nat) : Int) := by rw [w64_id (by omega) (by omega)]; omega
    have ht := ddI_take (S := S) (k := x) (by omega) (by omega)
    unfold f57_1
    rw [decide_eq_true (by omega), r1, e1, r2, Int.toNat_natCast, Int.toNat_natCast, w64_succ x (by omega)]
    simp only [cond_true]
    by_cases c : S.getD (x - 1) 0 = S.getD x 0
    · rw [if_pos c, hd] at ht
      obtain ⟨x4, L, e2, q1, q2, q3⟩ := f57_2_eq m a S x S.length (by omega) rfl h1 (S.length - (x + 1)) 1 m x S (by omega) (by omega) (by omega) (Nat.le_refl _) (by omega) rfl (fun _ _ => rfl) ht.symm
      have c1 : cutOK (x : Int) (S.length : Int) (S.length : Int) S.length = true := cutOK_iff.2 ⟨by omega, by omega, by omega, by omega⟩
      have c2 : cutOK (x4 : Int) (L.length : Int) (L.length : Int) L.length = true := cutOK_iff.2 ⟨by omega, by omega, by omega, by omega⟩
      have c3 : cutOK 0 (x4 : Int) (L.length : Int) L.length = true := cutOK_iff.2 ⟨by omega, by omega, by omega, by omega⟩
      have e2 : f57_2 m m a x x (S.length - x) (S.length - x) 1 S = some ((x4 : Int), L) := e2
      rw [show (S.getD x 0 == S.getD (x - 1) 0) = true by rw [c]; simp, c1]
      simp only [cond_true]
      rw [e2]
      simp only [Option.bind_some]
      rw [c2, c3, Int.toNat_natCast, decide_eq_true (by omega)]
      refine Or.inr ⟨_, _, _, rfl, by omega, ?_, ?_⟩
      · unfold clearL
        simp only [List.length_append, List.length_take, List.length_replicate, List.length_drop]
        omega
      · unfold clearL
        rw [List.append_assoc, List.take_append_of_le_length (by rw [List.length_take]; omega), List.take_take, Nat.min_self, q3]
    · rw [if_neg c, hd] at ht
      rw [show (S.getD x 0 == S.getD (x - 1) 0) = false by simpa using fun q => c q.symm]
      simp only [cond_false]
      exact f57_1_eq m a S h1 hm r (x + 1) fuel (by omega) (by omega) (by omega) (by rw [ht, take_snoc (by omega)])

theorem sortI_length (l : List Int) : (sortI l).length = l.length := (sortI_perm l).length_eq

theorem f57_eq {m : Nat} {l : List Int} (hm : 1000 < m) (hl : l.length ≤ 1000) : f57 m l = some (ddI (sortI l)) := by
  have hs := sortI_length l
  unfold f57
  rw [Nat.ble_eq_true_of_le (show l.length ≤ 1000000 by omega)]
  simp only [cond_true]
  by_cases c : (sortI l).length < 2
  · rw [decide_eq_true (by omega)]
    simp only [cond_true]
    congr 1
    match h : sortI l with
    | [] => rfl
    | [x] => rfl
    | x :: y :: t => rw [h] at c; simp at c; omega
  · rw [decide_eq_false (by omega)]
    simp only [cond_false]
    have h1 : ddI ((sortI l).take 1) = (sortI l).take 1 := by
      match h : sortI l with
      | [] => rfl
      | x :: t => rfl
    rcases f57_1_eq m l (sortI l) (by omega) hm ((sortI l).length - 1) 1 m (by omega) (by omega) (by omega) h1 with ⟨e, q⟩ | ⟨n, c', L, e, q1, q2, q3⟩
    · have e : f57_1 m m l 1 (sortI l) = some (.x0 (sortI l)) := e
      rw [e]
      simp only [Option.bind_some]
      rw [q]
    · have e : f57_1 m m l 1 (sortI l) = some (.r n c' L) := e
      rw [e]
      simp only [Option.bind_some]
      rw [Nat.ble_eq_true_of_le q1, Nat.ble_eq_true_of_le q2, q3]
      rfl

/-! ### slices.Contains -/
theorem f54_1_mem (m : Nat) (a : List Int) (b : Int) (h1 : a.length ≤ 1000) : ∀ (r i fuel : Nat), i + r = a.length → r < fuel →
    (b ∈ a.drop i → ∃ x : Nat, f54_1 m fuel a b (a.length : Int) i = some (.r (x : Int))) ∧ (b ∉ a.drop i → f54_1 m fuel a b (a.length : Int) i = some .x0)
  | r, i, 0, _, h => by omega
  | 0, i, fuel + 1, hr, _ => by
    rw [List.drop_eq_nil_of_le (by omega)]
    refine ⟨fun h => (by cases h), fun _ => ?_⟩
    unfold f54_1
    rw [decide_eq_false (by omega)]
    rfl
  | r + 1, i, fuel + 1, hr, hf => by
    have ih := f54_1_mem m a b h1 r (i + 1) fuel (by omega) (by omega)
    have r1 : inRow (i : Int) a.length = true := inRow_iff.2 ⟨by omega, by omega⟩
    rw [drop_cons (by omega)]
    unfold f54_1
    rw [decide_eq_true (by omega), r1, Int.toNat_natCast, w64_succ i (by omega)]
    simp only [cond_true]
    by_cases c : b = a.getD i 0
    · rw [show (b == a.getD i 0) = true by simpa using c]
      refine ⟨fun _ => ⟨i, rfl⟩, fun h => absurd ?_ h⟩
      rw [← c]; exact List.mem_cons_self
    · rw [show (b == a.getD i 0) = false by simpa using c]
      simp only [cond_false]
      refine ⟨fun h => ?_, fun h => ih.2 (fun q => h (List.mem_cons_of_mem _ q))⟩
      rcases List.mem_cons.1 h with h | h
      · exact absurd h c
      · exact ih.1 h

theorem f58_eq {m : Nat} {a : List Int} (b : Int) (hm : 1000 < m) (h1 : a.length ≤ 1000) : f58 m a b = some (decide (b ∈ a)) := by
  have h := f54_1_mem m a b h1 a.length 0 m (by omega) (by omega)
  rw [List.drop_zero] at h
  unfold f58 f54
  by_cases c : b ∈ a
  · obtain ⟨x, e⟩ := h.1 c
    have e : f54_1 m m a b (a.length : Int) 0 = some (.r (x : Int)) := e
    rw [e, decide_eq_true c]
    simp only [Option.bind_some]
    rw [decide_eq_true (by omega)]
  · have e : f54_1 m m a b (a.length : Int) 0 = some .x0 := h.2 c
    rw [e, decide_eq_false c]
    rfl
end Go.Xm
