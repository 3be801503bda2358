/- WrapTurns: the turns beside a turn are the same, both ways. Conditions: none. -/
import Derived.Test.YtagagpkjlkoieaaH8
import Derived.Test.YtagagpkjlkoieaaDd
namespace Go.Xm
set_option linter.unusedVariables false
set_option linter.unusedSimpArgs false

theorem loopB_snoc (M S : Nat) : ∀ (k n p q : Nat), loopB M S (k + 1) n p q = stepB M S (n + k) (loopB M S k n p q).1 (loopB M S k n p q).2
  | 0, n, p, q => rfl
  | k + 1, n, p, q => by
    have ih := loopB_snoc M S k (n + 1) (stepB M S n p q).1 (stepB M S n p q).2
    rw [show n + (k + 1) = n + 1 + k by omega]
    exact ih

theorem f24_1_eq22 (m : Nat) (a b t : Int) : ∀ (fuel : Nat) (x p q : Int), f24_1 m fuel a b t x p q = f22_1 m fuel a b t x p q
  | 0, _, _, _ => rfl
  | fuel + 1, x, p, q => by
    unfold f24_1 f22_1
    simp only [f24_1_eq22 m a b t fuel]

theorem f26_1_eq22 (m : Nat) (a b t : Int) : ∀ (fuel : Nat) (x p q : Int), f26_1 m fuel a b t x p q = f22_1 m fuel a b t x p q
  | 0, _, _, _ => rfl
  | fuel + 1, x, p, q => by
    unfold f26_1 f22_1
    simp only [f26_1_eq22 m a b t fuel]

theorem f71_eq69 (m : Nat) (a b t p q k : Int) : f71 m a b t p q k = f69 m a b t q p k := rfl

theorem f69_eq (m : Nat) (a b : Int) (T p q k : Nat) (hT : T ≤ 1000) (hk : k < T) (hp : p ≤ T) (hq : q ≤ T) : f69 m a b T p q k = some (nextN T p q k : Int) := by
  unfold f69 nextN
  rw [w64_id (x := (T : Int) - (p : Int)) (by omega) (by omega), w64_id (x := (k : Int) + (p : Int)) (by omega) (by omega), w64_id (x := (k : Int) + (p : Int) - (q : Int)) (by omega) (by omega), w64_id (x := (k : Int) - (q : Int)) (by omega) (by omega)]
  by_cases c1 : k < T - p
  · rw [decide_eq_true (by omega), if_pos c1]
    show some _ = some _
    congr 1
  · rw [decide_eq_false (by omega), if_neg c1]
    by_cases c2 : k < q
    · rw [decide_eq_true (by omega), if_pos c2]
      show some _ = some _
      congr 1
      omega
    · rw [decide_eq_false (by omega), if_neg c2]
      show some _ = some _
      congr 1
      omega

theorem f70_eq (m M S T k c : Nat) (hm : 2000 < m) (hM : M ≤ 100) (hS : S ≤ 1000) (hT : T ≤ 1000) (hc : c ≤ 1000) (h : Turns M T (mrk M S)) (hk : k < T) :
    f70 m M S T k c = some ((lst (mrk M S) T M 0).getD (((lst (mrk M S) T (mrk M S k) 0).length + c) % T) 0) := by
  have h1 := f70_1_eq m M S T h.pos (by omega) hS hT (by omega) M 0 m [] (by omega) (by simp) (by omega)
  rw [List.nil_append] at h1
  have hl := round_len h T (Nat.le_refl _)
  have hs := lst_split h hk
  have hA : ∀ j, j < (lst (mrk M S) T (mrk M S k) 0).length → (lst (mrk M S) T M 0).getD j 0 ≠ (k : Int) := by
    intro j hj e
    rw [hs, List.getD_eq_getElem?_getD, List.getElem?_append_left hj, List.getElem?_eq_getElem hj] at e
    obtain ⟨t, e1, e2, e3, e4⟩ := mem_lst (List.getElem_mem hj)
    have e : (lst (mrk M S) T (mrk M S k) 0)[j] = (k : Int) := e
    rw [e1] at e
    have : t = k := by omega
    subst this
    omega
  have hk0 : (lst (mrk M S) T M 0).getD (lst (mrk M S) T (mrk M S k) 0).length 0 = (k : Int) := by
    rw [hs]
    exact getD_app 0 _ 0 _
  have hlt : (lst (mrk M S) T (mrk M S k) 0).length < (lst (mrk M S) T M 0).length := by
    rw [hs, List.length_append, List.length_cons]
    omega
  have h2 := f70_2_eq m (k : Int) c (lst (mrk M S) T M 0) _ hlt (by omega) hc hk0 hA (lst (mrk M S) T (mrk M S k) 0).length 0 m (by omega) (by omega)
  unfold f70
  rw [show ((0 : Int)) = ((0 : Nat) : Int) from rfl, h1]
  simp only [Option.bind_some]
  rw [h2, hl]
  rfl

/-- The turns beside turn 0 of the first T turns. -/
def bes (M S T : Nat) : Nat × Nat := loopB M S (T - 1) 1 0 0

theorem bes_le {M S T : Nat} (hT : 1 ≤ T) : (bes M S T).1 ≤ T ∧ (bes M S T).2 ≤ T := by
  by_cases h : T = 1
  · subst h
    exact ⟨Nat.zero_le _, Nat.zero_le _⟩
  · obtain ⟨_, h2, _, h4, _⟩ := loopB_all (M := M) (S := S) (T := T) (by omega)
    unfold bes
    omega

theorem bes_next {M S T k : Nat} (h : Turns M T (mrk M S)) (hk : k < T) : (lst (mrk M S) T M 0).getD (((lst (mrk M S) T (mrk M S k) 0).length + 1) % T) 0 = (nextN T (bes M S T).1 (bes M S T).2 k : Int) := by
  by_cases e : T = 1
  · subst e
    obtain ⟨j, e1, hj, _⟩ := list_next h hk
    rw [e1, show j = 0 by omega, show k = 0 by omega]
    rfl
  · exact round_next h (loopB_all (by omega)) hk

theorem bes_before {M S T k : Nat} (h : Turns M T (mrk M S)) (hk : k < T) : (lst (mrk M S) T M 0).getD (((lst (mrk M S) T (mrk M S k) 0).length + (T - 1)) % T) 0 = (nextN T (bes M S T).2 (bes M S T).1 k : Int) := by
  by_cases e : T = 1
  · subst e
    obtain ⟨j, e1, hj, _⟩ := list_before h hk
    rw [e1, show j = 0 by omega, show k = 0 by omega]
    rfl
  · exact round_before h (loopB_all (by omega)) hk

theorem f22_1_bes {m M S T : Nat} (hm : 2000 < m) (hM : 0 < M) (hS : S ≤ 1000) (hT1 : 1 ≤ T) (hT : T ≤ 1000) : f22_1 m m M S T 1 0 0 = some ((T : Int), ((bes M S T).1 : Int), ((bes M S T).2 : Int)) := by
  have := f22_1_eq m M S T hM hS hT (T - 1) 1 0 0 m (by omega) (by omega) (by omega) (by omega)
  simp only [Int.natCast_zero, Int.natCast_one] at this
  exact this

theorem f22_23 (m : Nat) (hm : 2000 < m) (a b t x : Int) : ∃ r, f22 m a b t x = some r ∧ f23 m a b t x = some r := by
  cases chk m (by omega) a b t with
  | bad e he h0 h1 =>
    refine ⟨(0, e), ?_, ?_⟩
    · unfold f22
      rw [h0]
      simp only [Option.bind_some, ne0 he, cond_true]
    · unfold f23
      rw [f17_bad he h1]
      simp only [Option.bind_some, ne0 he, cond_true]
  | good M S T o ha hb ht g h0 h1 h2 h3 =>
    subst ha hb ht
    have l1 := g.m1
    have l2 := g.m2
    have l3 := g.s
    have l4 := g.to
    have l5 := g.om
    have l6 := g.t1
    unfold f22 f23
    rw [h0, f17_good g h1, f22_1_bes hm (by omega) (by omega) l6 (by omega)]
    simp only [Option.bind_some]
    by_cases c1 : x < 0
    · rw [decide_eq_true c1, if_neg (by omega)]
      exact ⟨_, rfl, rfl⟩
    rw [decide_eq_false c1]
    by_cases c2 : x ≥ (T : Int)
    · rw [decide_eq_true c2, if_neg (by omega)]
      exact ⟨_, rfl, rfl⟩
    rw [decide_eq_false c2, if_pos (by omega)]
    obtain ⟨X, rfl⟩ : ∃ n : Nat, x = n := ⟨x.toNat, by omega⟩
    have hT := g.turns l4
    have hb := bes_le (M := M) (S := S) l6
    have hr := f70_eq m M S T X 1 hm l2 (by omega) (by omega) (by omega) hT (by omega)
    rw [bes_next hT (by omega)] at hr
    rw [f69_eq m M S T (bes M S T).1 (bes M S T).2 X (by omega) (by omega) hb.1 hb.2]
    rw [show ((1 : Nat) : Int) = (1 : Int) from rfl] at hr
    rw [hr]
    exact ⟨_, rfl, rfl⟩

theorem f24_25 (m : Nat) (hm : 2000 < m) (a b t x : Int) : ∃ r, f24 m a b t x = some r ∧ f25 m a b t x = some r := by
  cases chk m (by omega) a b t with
  | bad e he h0 h1 =>
    refine ⟨(0, e), ?_, ?_⟩
    · unfold f24
      rw [h0]
      simp only [Option.bind_some, ne0 he, cond_true]
    · unfold f25
      rw [f17_bad he h1]
      simp only [Option.bind_some, ne0 he, cond_true]
  | good M S T o ha hb ht g h0 h1 h2 h3 =>
    subst ha hb ht
    have l1 := g.m1
    have l2 := g.m2
    have l3 := g.s
    have l4 := g.to
    have l5 := g.om
    have l6 := g.t1
    unfold f24 f25
    rw [h0, f17_good g h1, f24_1_eq22, f22_1_bes hm (by omega) (by omega) l6 (by omega)]
    simp only [Option.bind_some]
    by_cases c1 : x < 0
    · rw [decide_eq_true c1, if_neg (by omega)]
      exact ⟨_, rfl, rfl⟩
    rw [decide_eq_false c1]
    by_cases c2 : x ≥ (T : Int)
    · rw [decide_eq_true c2, if_neg (by omega)]
      exact ⟨_, rfl, rfl⟩
    rw [decide_eq_false c2, if_pos (by omega)]
    obtain ⟨X, rfl⟩ : ∃ n : Nat, x = n := ⟨x.toNat, by omega⟩
    have hT := g.turns l4
    have hb := bes_le (M := M) (S := S) l6
    have hr := f70_eq m M S T X (T - 1) hm l2 (by omega) (by omega) (by omega) hT (by omega)
    rw [bes_before hT (by omega)] at hr
    rw [f71_eq69, f69_eq m M S T (bes M S T).2 (bes M S T).1 X (by omega) (by omega) hb.2 hb.1]
    rw [w64_id (x := (T : Int) - 1) (by omega) (by omega), show (T : Int) - 1 = ((T - 1 : Nat) : Int) by omega, hr]
    exact ⟨_, rfl, rfl⟩

theorem bes_succ {M S T : Nat} (hT : 1 ≤ T) : bes M S (T + 1) = stepB M S T (bes M S T).1 (bes M S T).2 := by
  unfold bes
  obtain ⟨k, rfl⟩ : ∃ k, T = k + 1 := ⟨T - 1, by omega⟩
  rw [show k + 1 + 1 - 1 = k + 1 from rfl, show k + 1 - 1 = k from rfl, loopB_snoc, show 1 + k = k + 1 by omega]

theorem f26_27 (m : Nat) (hm : 2000 < m) (a b t : Int) : ∃ r, f26 m a b t = some r ∧ f27 m a b t = some r := by
  cases chk m (by omega) a b t with
  | bad e he h0 h1 =>
    refine ⟨(0, 0, e), ?_, ?_⟩
    · unfold f26
      rw [h0]
      simp only [Option.bind_some, ne0 he, cond_true]
    · unfold f27
      rw [h1]
      simp only [Option.bind_some, ne0 he, eq0 he, cond_true, cond_false]
  | good M S T o ha hb ht g h0 h1 h2 h3 =>
    subst ha hb ht
    have l1 := g.m1
    have l2 := g.m2
    have l3 := g.s
    have l4 := g.to
    have l5 := g.om
    have l6 := g.t1
    unfold f26 f27
    rw [h0, h1, h2, h3, f26_1_eq22, f22_1_bes hm (by omega) (by omega) l6 (by omega)]
    simp only [Option.bind_some]
    by_cases c1 : T = o
    · have e1 : ((T : Int) == (o : Int)) = true := by simp [c1]
      rw [e1]
      exact ⟨_, rfl, rfl⟩
    have e1 : ((T : Int) == (o : Int)) = false := by simp; omega
    rw [e1, w64_succ T (by omega), w64_id (x := ((T + 1 : Nat) : Int) - 1) (by omega) (by omega), show ((T + 1 : Nat) : Int) - 1 = (T : Int) by omega]
    have hT := g.turns (n := T + 1) (by omega)
    have hb1 := bes_le (M := M) (S := S) l6
    have hb := bes_le (M := M) (S := S) (T := T + 1) (by omega)
    have r1 := f70_eq m M S (T + 1) T T hm l2 (by omega) (by omega) (by omega) hT (by omega)
    have r2 := f70_eq m M S (T + 1) T 1 hm l2 (by omega) (by omega) (by omega) hT (by omega)
    have b1 := bes_before hT (k := T) (by omega)
    rw [show T + 1 - 1 = T from rfl] at b1
    rw [b1] at r1
    rw [bes_next hT (by omega)] at r2
    rw [show ((1 : Nat) : Int) = (1 : Int) from rfl] at r2
    have n1 := f69_eq m M S (T + 1) (bes M S (T + 1)).2 (bes M S (T + 1)).1 T (by omega) (by omega) hb.2 hb.1
    have n2 := f69_eq m M S (T + 1) (bes M S (T + 1)).1 (bes M S (T + 1)).2 T (by omega) (by omega) hb.1 hb.2
    rw [r1, r2]
    simp only [f71_eq69]
    refine ⟨((nextN (T + 1) (bes M S (T + 1)).2 (bes M S (T + 1)).1 T : Int), (nextN (T + 1) (bes M S (T + 1)).1 (bes M S (T + 1)).2 T : Int), 0), ?_, rfl⟩
    have es := bes_succ (M := M) (S := S) l6
    unfold stepB at es
    simp only [cond_false]
    by_cases c2 : T = 1
    · have e2 : ((T : Int) == 1) = true := by simp [c2]
      rw [if_pos c2] at es
      rw [es] at n1 n2 ⊢
      simp only [Int.natCast_one] at n1 n2
      rw [e2]
      simp only [cond_true]
      rw [n1]
      simp only [Option.bind_some]
      rfl
    · have e2 : ((T : Int) == 1) = false := by simp; omega
      rw [if_neg c2] at es
      rw [e2, f59_eq m M S _ T (by omega) (by omega) (by omega), f59_eq m M S _ (bes M S T).1 (by omega) (by omega) (by omega), f59_eq m M S _ (bes M S T).2 (by omega) (by omega) (by omega)]
      simp only [Option.bind_some, cond_false]
      unfold mrk at es
      by_cases c3 : (T * S) % M < ((bes M S T).1 * S) % M
      · rw [if_pos c3] at es
        rw [es] at n1 n2 ⊢
        simp only [] at n1 n2 ⊢
        rw [decide_eq_true (Int.ofNat_lt.2 c3)]
        simp only [cond_true]
        rw [n1]
        simp only [Option.bind_some]
        rw [n2]
        rfl
      · rw [if_neg c3] at es
        rw [decide_eq_false (fun q => c3 (Int.ofNat_lt.1 q))]
        simp only [cond_false]
        by_cases c4 : ((bes M S T).2 * S) % M < (T * S) % M
        · rw [if_pos c4] at es
          rw [es] at n1 n2 ⊢
          simp only [] at n1 n2 ⊢
          rw [decide_eq_true (p := (((T * S) % M : Nat) : Int) > ((((bes M S T).2 * S) % M : Nat) : Int)) (Int.ofNat_lt.2 c4)]
          simp only [cond_true]
          rw [n1]
          simp only [Option.bind_some]
          rw [n2]
          rfl
        · rw [if_neg c4] at es
          rw [es] at n1 n2 ⊢
          simp only [] at n1 n2 ⊢
          rw [decide_eq_false (p := (((T * S) % M : Nat) : Int) > ((((bes M S T).2 * S) % M : Nat) : Int)) (fun q => c4 (Int.ofNat_lt.1 q))]
          simp only [cond_false]
          rw [n1]
          simp only [Option.bind_some]
          rw [n2]
          rfl

theorem f20_21 (m : Nat) (hm : 1000 < m) (a b t : Int) : ∃ e, f20 m a b t = some e ∧ f21 m a b t = some e := by
  cases chk m hm a b t with
  | good M S T o ha hb ht g h0 h1 h2 h3 => exact ⟨_, h0, h1⟩
  | bad e he h0 h1 => exact ⟨_, h0, h1⟩

theorem f3_eq (a b t x y : Int) : f3 3000 a b t x y = some true := by
  unfold f3
  obtain ⟨r1, p1, q1⟩ := f16_17 3000 (by omega) a b t x
  obtain ⟨r2, p2, q2⟩ := f18_19 3000 (by omega) a b t y
  obtain ⟨r3, p3, q3⟩ := f20_21 3000 (by omega) a b t
  obtain ⟨r4, p4, q4⟩ := f22_23 3000 (by omega) a b t x
  obtain ⟨r5, p5, q5⟩ := f24_25 3000 (by omega) a b t x
  obtain ⟨r6, p6, q6⟩ := f26_27 3000 (by omega) a b t
  rw [p1, q1, p2, q2, p3, q3, p4, q4, p5, q5, p6, q6]
  simp only [Option.bind_some, bne_self_eq_false, beq_self_eq_true, cond_false, cond_true]
end Go.Xm

namespace Go.Proofs.Ytagagpkjlkoieaa.wrapTurns
open Go.Xm Go.RowKit
set_option linter.unusedVariables false

theorem walk (a0_0 : Int) (a0_1 : Int) (a0_2 : Int) (a1 : Int) (a2 : Int) (w : World) (w0_0 : (Lit.int .i64 a0_0).wf = true) (w0_1 : (Lit.int .i64 a0_1).wf = true) (w0_2 : (Lit.int .i64 a0_2).wf = true) (w1 : (Lit.int .i64 a1).wf = true) (w2 : (Lit.int .i64 a2).wf = true) :
    Calls Try.prog 3 #[.agg #[.int .i64 a0_0, .int .i64 a0_1, .int .i64 a0_2], .int .i64 a1, .int .i64 a2] w fun e w' => e = .returned (.bool true) ∧ Below w.heap.size w w' :=
  f3_ok 3000 a0_0 a0_1 a0_2 a1 a2 true (f3_eq a0_0 a0_1 a0_2 a1 a2) w trivial
end Go.Proofs.Ytagagpkjlkoieaa.wrapTurns
