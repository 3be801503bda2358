/- What the program's functions answer where one turn more begins. Conditions: none. -/
import Derived.Test.YtagagpkjlkoieaaLb
import Derived.Test.YtagagpkjlkoieaaQa
namespace Go.Xm
set_option linter.unusedVariables false
set_option linter.unusedSimpArgs false

theorem f26_1_eq29 (m : Nat) (a b t : Int) : ∀ (fuel : Nat) (x p q : Int), f26_1 m fuel a b t x p q = f29_1 m fuel a b t x p q
  | 0, _, _, _ => rfl
  | fuel + 1, x, p, q => by
    unfold f26_1 f29_1
    simp only [f26_1_eq29 m a b t fuel]

theorem f22_1_eq29 (m : Nat) (a b t : Int) : ∀ (fuel : Nat) (x p q : Int), f22_1 m fuel a b t x p q = f29_1 m fuel a b t x p q
  | 0, _, _, _ => rfl
  | fuel + 1, x, p, q => by
    unfold f22_1 f29_1
    simp only [f22_1_eq29 m a b t fuel]

theorem f22_val {m M S T o b : Nat} (hm : 2000 < m) (g : Good M S 1 o) (h1 : 1 ≤ T) (h2 : T ≤ o) (hb : b < T) : f22 m M S T b = some ((nextN T (bes M S T).1 (bes M S T).2 b : Int), 0) := by
  have l1 := g.m1
  have l2 := g.m2
  have l3 := g.s
  have l5 := g.om
  have hbl := bes_le (M := M) (S := S) h1
  unfold f22
  rw [f20_0 (by omega) g h1 h2, f22_1_eq29, f29_1_bes hm (by omega) (by omega) h1 (by omega)]
  simp only [Option.bind_some, bne_self_eq_false, cond_false]
  rw [decide_eq_false (by omega), decide_eq_false (by omega), f69_eq m M S T _ _ b (by omega) hb hbl.1 hbl.2]
  rfl

theorem f26_lost {m M S o : Nat} (hm : 2000 < m) (g : Good M S 1 o) : f26 m M S o = some (0, 0, 12) := by
  have l1 := g.m1
  have l2 := g.m2
  have l3 := g.s
  have l4 := g.to
  have l5 := g.om
  unfold f26
  rw [f20_0 (by omega) g l4 (Nat.le_refl _), f26_1_eq29, f29_1_bes hm (by omega) (by omega) l4 (by omega), f65_val m M S o o (by omega) g]
  simp only [Option.bind_some, bne_self_eq_false, cond_false, beq_self_eq_true, cond_true]

theorem f26_val {m M S T o : Nat} (hm : 2000 < m) (g : Good M S 1 o) (l6 : 1 ≤ T) (l4 : T < o) : f26 m M S T = some ((dvF M S T : Int), (dvT M S T : Int), 0) := by
  have l1 := g.m1
  have l2 := g.m2
  have l3 := g.s
  have l5 := g.om
  unfold f26
  rw [f20_0 (by omega) g l6 (by omega), f26_1_eq29, f29_1_bes hm (by omega) (by omega) l6 (by omega), f65_val m M S o T (by omega) g]
  simp only [Option.bind_some, bne_self_eq_false, cond_false]
  have e1 : ((T : Int) == (o : Int)) = false := by simp; omega
  rw [e1, w64_succ T (by omega)]
  have hb1 := bes_le (M := M) (S := S) l6
  have hb := bes_le (M := M) (S := S) (T := T + 1) (by omega)
  have n1 := f69_eq m M S (T + 1) (bes M S (T + 1)).2 (bes M S (T + 1)).1 T (by omega) (by omega) hb.2 hb.1
  have n2 := f69_eq m M S (T + 1) (bes M S (T + 1)).1 (bes M S (T + 1)).2 T (by omega) (by omega) hb.1 hb.2
  simp only [f71_eq69]
  unfold dvF dvT
  have es := dv_succ (M := M) (S := S) l6
  unfold stepB at es
  simp only [cond_false]
  by_cases c2 : T = 1
  · have e2 : ((T : Int) == 1) = true := by simp [c2]
    rw [if_pos c2] at es
    rw [es] at n1 n2 ⊢
    simp only [Int.natCast_one] at n1 n2
    rw [e2]
    simp only [cond_true]
    rw [n1]
    simp only [Option.bind_some]
  · have e2 : ((T : Int) == 1) = false := by simp; omega
    rw [if_neg c2] at es
    rw [e2, f59_eq m M S _ T (by omega) (by omega) (by omega), f59_eq m M S _ (bes M S T).1 (by omega) (by omega) (by omega), f59_eq m M S _ (bes M S T).2 (by omega) (by omega) (by omega)]
    simp only [Option.bind_some, cond_false]
    unfold mrk at es
    by_cases c3 : (T * S) % M < ((bes M S T).1 * S) % M
    · rw [if_pos c3] at es
      rw [es] at n1 n2 ⊢
      simp only [] at n1 n2 ⊢
      rw [decide_eq_true (Int.ofNat_lt.2 c3)]
      simp only [cond_true]
      rw [n1]
      simp only [Option.bind_some]
      rw [n2]
      rfl
    · rw [if_neg c3] at es
      rw [decide_eq_false (fun q => c3 (Int.ofNat_lt.1 q))]
      simp only [cond_false]
      by_cases c4 : ((bes M S T).2 * S) % M < (T * S) % M
      · rw [if_pos c4] at es
        rw [es] at n1 n2 ⊢
        simp only [] at n1 n2 ⊢
        rw [decide_eq_true (p := (((T * S) % M : Nat) : Int) > ((((bes M S T).2 * S) % M : Nat) : Int)) (Int.ofNat_lt.2 c4)]
        simp only [cond_true]
        rw [n1]
        simp only [Option.bind_some]
        rw [n2]
        rfl
      · rw [if_neg c4] at es
        rw [es] at n1 n2 ⊢
        simp only [] at n1 n2 ⊢
        rw [decide_eq_false (p := (((T * S) % M : Nat) : Int) > ((((bes M S T).2 * S) % M : Nat) : Int)) (fun q => c4 (Int.ofNat_lt.1 q))]
        simp only [cond_false]
        rw [n1]
        simp only [Option.bind_some]
        rw [n2]
        rfl

/-! The greatest of a list -/
theorem f55_1_max (m : Nat) (l : List Int) (v : Int) (hl : l.length ≤ 1000) (hv : ∀ x ∈ l, x ≤ v) : ∀ (k i fuel : Nat) (b : Int), i + k = l.length → k < fuel → b ≤ v → (b = v ∨ ∃ j, i ≤ j ∧ j < l.length ∧ l.getD j 0 = v) →
    f55_1 m fuel l b i = some v
  | k, i, 0, _, _, h, _, _ => by omega
  | 0, i, fuel + 1, b, hi, _, _, hb => by
    unfold f55_1
    rw [decide_eq_false (by omega)]
    rcases hb with rfl | ⟨j, _, _, _⟩
    · rfl
    · omega
  | k + 1, i, fuel + 1, b, hi, hf, hb1, hb => by
    have hr : inRow (i : Int) l.length = true := inRow_iff.2 ⟨by omega, by omega⟩
    have hx : l.getD i 0 ≤ v := by
      rw [List.getD_eq_getElem?_getD, List.getElem?_eq_getElem (by omega)]
      exact hv _ (List.getElem_mem _)
    unfold f55_1
    rw [decide_eq_true (by omega), hr, w64_succ i (by omega), show Int.toNat (i : Int) = i from rfl]
    simp only [cond_true]
    refine f55_1_max m l v hl hv k (i + 1) fuel _ (by omega) (by omega) ?_ ?_
    · unfold iMax; split <;> omega
    · rcases hb with rfl | ⟨j, h1, h2, h3⟩
      · refine Or.inl ?_
        unfold iMax; split <;> omega
      · by_cases e : j = i
        · subst e
          refine Or.inl ?_
          unfold iMax; split <;> omega
        · exact Or.inr ⟨j, by omega, h2, h3⟩

theorem f55_max {m : Nat} {l : List Int} {v : Int} (hm : 1000 < m) (hl : l.length ≤ 1000) (hv : ∀ x ∈ l, x ≤ v) (hm2 : v ∈ l) : f55 m l = some v := by
  obtain ⟨j, hj, e⟩ := List.getElem_of_mem hm2
  have hr : inRow (0 : Int) l.length = true := inRow_iff.2 ⟨by omega, by omega⟩
  have e2 : l.getD j 0 = v := by
    rw [List.getD_eq_getElem?_getD, List.getElem?_eq_getElem hj]
    exact e
  have h0 : l.getD 0 0 ≤ v := by
    rw [List.getD_eq_getElem?_getD, List.getElem?_eq_getElem (by omega)]
    exact hv _ (List.getElem_mem _)
  have h := f55_1_max m l v hl hv (l.length - 1) 1 m (l.getD 0 0) (by omega) (by omega) h0 (by
    by_cases z : j = 0
    · subst z; exact Or.inl e2
    · exact Or.inr ⟨j, by omega, hj, e2⟩)
  unfold f55
  rw [decide_eq_false (by omega), hr]
  simp only [cond_true, cond_false]
  rw [show (1 : Int) = ((1 : Nat) : Int) from rfl, h]
  rfl
end Go.Xm
