/- WrapFound: the first turn at some marks, found by trying all turns; and the walk. Conditions: none. -/
import Derived.Test.YtagagpkjlkoieaaKs
import Derived.Test.YtagagpkjlkoieaaKu
import Derived.Test.YtagagpkjlkoieaaPx
namespace Go.Xm
set_option linter.unusedVariables false
set_option linter.unusedSimpArgs false
set_option maxRecDepth 20000

theorem Fst.uniq {p : Nat → Prop} {i j : Nat} (h1 : Fst p i) (h2 : Fst p j) : i = j := by
  rcases Nat.lt_trichotomy i j with h | h | h
  · exact absurd h1.1 (h2.2 i h)
  · exact h
  · exact absurd h2.1 (h1.2 j h)

theorem f43_found (m M S c d : Nat) (hm : 1000 < m) (h1 : 1 ≤ M) (h2 : M ≤ 100) (h3 : S < M) (hc : c ≤ d) (hd : d < M) :
    (∃ k : Nat, f43 m M S c d = some ((k : Int), 0) ∧ Fst (hitP M S c d) k) ∨ (f43 m M S c d = some (0, 12) ∧ ∀ k, ¬ hitP M S c d k) := by
  have e1 : ¬ iMin (c : Int) (d : Int) < 0 := by unfold iMin; split <;> omega
  have e2 : ¬ iMax (c : Int) (d : Int) ≥ (M : Int) := by unfold iMax; split <;> omega
  have e3 : ¬ (c : Int) > (d : Int) := by omega
  unfold f43
  rw [f64_eq, decide_eq_true (p := 1 ≤ (M : Int) ∧ (M : Int) ≤ 100 ∧ 0 ≤ (S : Int) ∧ (S : Int) < (M : Int)) (by omega)]
  simp only [Option.bind_some, Bool.not_true, cond_false]
  rw [decide_eq_false e1, decide_eq_false e2, decide_eq_false e3]
  simp only [cond_false]
  rcases f62_eq m m M S c d (by omega) h3 hc hd (by omega) with ⟨k, q1, q2⟩ | ⟨q1, q2⟩
  · refine .inl ⟨k, ?_, q2⟩
    rw [q1]
    simp only [Option.bind_some]
    rw [decide_eq_false (p := (k : Int) < 0) (by omega)]
    rfl
  · refine .inr ⟨?_, q2⟩
    rw [q1]
    rfl

theorem f43_order (m M S c d : Nat) (h1 : 1 ≤ M) (h2 : M ≤ 100) (h3 : S < M) (hc : d < c) (hd : c < M) : f43 m M S c d = some (0, 7) := by
  have e1 : ¬ iMin (c : Int) (d : Int) < 0 := by unfold iMin; split <;> omega
  have e2 : ¬ iMax (c : Int) (d : Int) ≥ (M : Int) := by unfold iMax; split <;> omega
  have e3 : (c : Int) > (d : Int) := by omega
  unfold f43
  rw [f64_eq, decide_eq_true (p := 1 ≤ (M : Int) ∧ (M : Int) ≤ 100 ∧ 0 ≤ (S : Int) ∧ (S : Int) < (M : Int)) (by omega)]
  simp only [Option.bind_some, Bool.not_true, cond_false]
  rw [decide_eq_false e1, decide_eq_false e2, decide_eq_true e3]
  rfl

theorem inRw {i n : Nat} (h : i < n) : inRow (i : Int) n = true := inRow_iff.2 ⟨by omega, by omega⟩

theorem f8_1_eq (m M S o c d : Nat) (ho : o ≤ 1000) (x0 x1 x2 : Int) : ∀ (r i fuel : Nat), i + r = o → r < fuel →
    (∃ k : Nat, i ≤ k ∧ k < o ∧ hitP M S c d k ∧ (∀ j, i ≤ j → j < k → ¬ hitP M S c d j) ∧ f8_1 m fuel (o : Int) (i : Int) x0 x1 x2 c d (mks M S o 0) = some (.r (k : Int) x0 x1 x2 c d (mks M S o 0))) ∨
    ((∀ j, i ≤ j → j < o → ¬ hitP M S c d j) ∧ f8_1 m fuel (o : Int) (i : Int) x0 x1 x2 c d (mks M S o 0) = some (.x0 x0 x1 x2 c d (mks M S o 0)))
  | 0, i, fuel + 1, hr, hf => by
    refine .inr ⟨fun j h1 h2 => by omega, ?_⟩
    rw [f8_1, decide_eq_false (p := (i : Int) < (o : Int)) (by omega)]
    rfl
  | r + 1, i, fuel + 1, hr, hf => by
    have hi : i < o := by omega
    have hstep : f8_1 m (fuel + 1) (o : Int) (i : Int) x0 x1 x2 c d (mks M S o 0) = cond (decide (c ≤ mrk M S i)) (cond (decide (mrk M S i ≤ d)) (some (.r (i : Int) x0 x1 x2 c d (mks M S o 0))) (f8_1 m fuel (o : Int) ((i + 1 : Nat) : Int) x0 x1 x2 c d (mks M S o 0))) (f8_1 m fuel (o : Int) ((i + 1 : Nat) : Int) x0 x1 x2 c d (mks M S o 0)) := by
      rw [f8_1, decide_eq_true (p := (i : Int) < (o : Int)) (by omega), inRw (show i < (mks M S o 0).length by rw [mks_len]; exact hi), Int.toNat_natCast, mks_get M S o 0 i hi, Nat.zero_add, w64_succ i (by omega)]
      have d1 : decide (((mrk M S i : Nat) : Int) ≥ (c : Int)) = decide (c ≤ mrk M S i) := by
        by_cases q : c ≤ mrk M S i
        · rw [decide_eq_true q, decide_eq_true (by omega)]
        · rw [decide_eq_false q, decide_eq_false (by omega)]
      have d2 : decide (((mrk M S i : Nat) : Int) ≤ (d : Int)) = decide (mrk M S i ≤ d) := by
        by_cases q : mrk M S i ≤ d
        · rw [decide_eq_true q, decide_eq_true (by omega)]
        · rw [decide_eq_false q, decide_eq_false (by omega)]
      rw [d1, d2]
      rfl
    rw [hstep]
    by_cases q : hitP M S c d i
    · left
      refine ⟨i, Nat.le_refl _, hi, q, fun j h1 h2 => by omega, ?_⟩
      rw [decide_eq_true (show c ≤ mrk M S i from q.1), decide_eq_true (show mrk M S i ≤ d from q.2)]
      rfl
    · have e : cond (decide (c ≤ mrk M S i)) (cond (decide (mrk M S i ≤ d)) (some (Of8_1.r (i : Int) x0 x1 x2 c d (mks M S o 0))) (f8_1 m fuel (o : Int) ((i + 1 : Nat) : Int) x0 x1 x2 c d (mks M S o 0))) (f8_1 m fuel (o : Int) ((i + 1 : Nat) : Int) x0 x1 x2 c d (mks M S o 0)) = f8_1 m fuel (o : Int) ((i + 1 : Nat) : Int) x0 x1 x2 c d (mks M S o 0) := by
        by_cases q1 : c ≤ mrk M S i
        · have q2 : ¬ mrk M S i ≤ d := fun h => q ⟨q1, h⟩
          rw [decide_eq_true q1, decide_eq_false q2]; rfl
        · rw [decide_eq_false q1]; rfl
      rw [e]
      rcases f8_1_eq m M S o c d ho x0 x1 x2 r (i + 1) fuel (by omega) (by omega) with ⟨k, k0, k1, k2, k3, k4⟩ | ⟨k3, k4⟩
      · refine .inl ⟨k, by omega, k1, k2, fun j h1 h2 => ?_, k4⟩
        by_cases ej : j = i
        · subst ej; exact q
        · exact k3 j (by omega) h2
      · refine .inr ⟨fun j h1 h2 => ?_, k4⟩
        by_cases ej : j = i
        · subst ej; exact q
        · exact k3 j (by omega) h2

theorem f8_2_eq (m M S o c d : Nat) (ho : o ≤ 1000) (x0 x1 x2 : Int) : ∀ (r i fuel : Nat), i + r = o → r < fuel →
    (∃ k : Nat, i ≤ k ∧ k < o ∧ hitP M S c d k ∧ (∀ j, i ≤ j → j < k → ¬ hitP M S c d j) ∧ f8_2 m fuel (o : Int) (i : Int) x0 x1 x2 c d (mks M S o 0) = some (.r (k : Int) x0 x1 x2 c d (mks M S o 0))) ∨
    ((∀ j, i ≤ j → j < o → ¬ hitP M S c d j) ∧ f8_2 m fuel (o : Int) (i : Int) x0 x1 x2 c d (mks M S o 0) = some (.x0 x0 x1 x2 c d (mks M S o 0)))
  | 0, i, fuel + 1, hr, hf => by
    refine .inr ⟨fun j h1 h2 => by omega, ?_⟩
    rw [f8_2, decide_eq_false (p := (i : Int) < (o : Int)) (by omega)]
    rfl
  | r + 1, i, fuel + 1, hr, hf => by
    have hi : i < o := by omega
    have hstep : f8_2 m (fuel + 1) (o : Int) (i : Int) x0 x1 x2 c d (mks M S o 0) = cond (decide (c ≤ mrk M S i)) (cond (decide (mrk M S i ≤ d)) (some (.r (i : Int) x0 x1 x2 c d (mks M S o 0))) (f8_2 m fuel (o : Int) ((i + 1 : Nat) : Int) x0 x1 x2 c d (mks M S o 0))) (f8_2 m fuel (o : Int) ((i + 1 : Nat) : Int) x0 x1 x2 c d (mks M S o 0)) := by
      rw [f8_2, decide_eq_true (p := (i : Int) < (o : Int)) (by omega), inRw (show i < (mks M S o 0).length by rw [mks_len]; exact hi), Int.toNat_natCast, mks_get M S o 0 i hi, Nat.zero_add, w64_succ i (by omega)]
      have d1 : decide (((mrk M S i : Nat) : Int) ≥ (c : Int)) = decide (c ≤ mrk M S i) := by
        by_cases q : c ≤ mrk M S i
        · rw [decide_eq_true q, decide_eq_true (by omega)]
        · rw [decide_eq_false q, decide_eq_false (by omega)]
      have d2 : decide (((mrk M S i : Nat) : Int) ≤ (d : Int)) = decide (mrk M S i ≤ d) := by
        by_cases q : mrk M S i ≤ d
        · rw [decide_eq_true q, decide_eq_true (by omega)]
        · rw [decide_eq_false q, decide_eq_false (by omega)]
      rw [d1, d2]
      rfl
    rw [hstep]
    by_cases q : hitP M S c d i
    · left
      refine ⟨i, Nat.le_refl _, hi, q, fun j h1 h2 => by omega, ?_⟩
      rw [decide_eq_true (show c ≤ mrk M S i from q.1), decide_eq_true (show mrk M S i ≤ d from q.2)]
      rfl
    · have e : cond (decide (c ≤ mrk M S i)) (cond (decide (mrk M S i ≤ d)) (some (Of8_2.r (i : Int) x0 x1 x2 c d (mks M S o 0))) (f8_2 m fuel (o : Int) ((i + 1 : Nat) : Int) x0 x1 x2 c d (mks M S o 0))) (f8_2 m fuel (o : Int) ((i + 1 : Nat) : Int) x0 x1 x2 c d (mks M S o 0)) = f8_2 m fuel (o : Int) ((i + 1 : Nat) : Int) x0 x1 x2 c d (mks M S o 0) := by
        by_cases q1 : c ≤ mrk M S i
        · have q2 : ¬ mrk M S i ≤ d := fun h => q ⟨q1, h⟩
          rw [decide_eq_true q1, decide_eq_false q2]; rfl
        · rw [decide_eq_false q1]; rfl
      rw [e]
      rcases f8_2_eq m M S o c d ho x0 x1 x2 r (i + 1) fuel (by omega) (by omega) with ⟨k, k0, k1, k2, k3, k4⟩ | ⟨k3, k4⟩
      · refine .inl ⟨k, by omega, k1, k2, fun j h1 h2 => ?_, k4⟩
        by_cases ej : j = i
        · subst ej; exact q
        · exact k3 j (by omega) h2
      · refine .inr ⟨fun j h1 h2 => ?_, k4⟩
        by_cases ej : j = i
        · subst ej; exact q
        · exact k3 j (by omega) h2

theorem f8_eq (a b t x y : Int) (wa : (Lit.int .u8 a).wf = true) (wb : (Lit.int .u8 b).wf = true) (wt : (Lit.int .u8 t).wf = true) (wx : (Lit.int .u8 x).wf = true) (wy : (Lit.int .u8 y).wf = true) : f8 3000 a b t x y = some true := by
  obtain ⟨M, S, e1, e2, m1, m2, s⟩ := roll wa wb
  obtain ⟨o, g1⟩ := good_one M S m1 m2 s
  have g4 := g1.om
  have g5 := g1.to
  have c1 : ((M : Int) != 0) = true := by simp; omega
  have c2 : ((o : Int) != 0) = true := by simp; omega
  obtain ⟨T, e3, t1, t2⟩ := roll_turns wt g5 (by omega)
  obtain ⟨X, rfl, x1⟩ := u8_nat wx
  obtain ⟨Y, rfl, y1⟩ := u8_nat wy
  have f45v : f45 3000 a b t 100 = some ((M : Int), (S : Int), (T : Int)) := by
    unfold f45
    rw [e1, e2, c1, f47_eq 3000 M S o (by omega) g1]
    simp only [Option.bind_some, cond_true]
    rw [c2, e3]
    rfl
  have hX : Int.tmod (w64 (X : Int)) (M : Int) = ((X % M : Nat) : Int) := by rw [natw (by omega), tmN]
  have hY : Int.tmod (w64 (Y : Int)) (M : Int) = ((Y % M : Nat) : Int) := by rw [natw (by omega), tmN]
  have lX : X % M < M := Nat.mod_lt _ (by omega)
  have lY : Y % M < M := Nat.mod_lt _ (by omega)
  have hL := mks_len M S o 0
  unfold f8
  rw [f45v]
  simp only [Option.bind_some]
  rw [f47_eq 3000 M S o (by omega) g1]
  simp only [Option.bind_some]
  rw [c1, hX, hY]
  simp only [cond_true]
  generalize X % M = P at lX
  generalize Y % M = R at lY
  have fin : ∀ c d : Nat, c ≤ d → d < M → ∀ k : Nat, Fst (hitP M S c d) k → ∀ L, L = mks M S o 0 → f43 3000 M S (List.getD L (Int.toNat (k : Int)) 0) (List.getD L (Int.toNat (k : Int)) 0) = some ((k : Int), 0) := by
    intro c d hc hd k hk L hLe
    have hko : k < o := by
      rcases Nat.lt_or_ge k o with q | q
      · exact q
      · exact absurd (hit_back g1.oz q hk.1) (hk.2 (k - o) (by have := g1.to; omega))
    rw [hLe, Int.toNat_natCast, mks_get M S o 0 k hko, Nat.zero_add]
    have hlt := mrk_lt (M := M) (S := S) k (by omega)
    rcases f43_found 3000 M S (mrk M S k) (mrk M S k) (by omega) m1 m2 s (Nat.le_refl _) hlt with ⟨k', q1, q2⟩ | ⟨q1, q2⟩
    · have : k' = k := by
        rcases Nat.lt_trichotomy k' k with q | q | q
        · refine absurd ?_ (hk.2 k' q)
          have := q2.1
          unfold hitP at this ⊢
          have e : (k' * S) % M = mrk M S k := by omega
          rw [e]
          exact hk.1
        · exact q
        · exact absurd (⟨Nat.le_refl _, Nat.le_refl _⟩ : hitP M S (mrk M S k) (mrk M S k) k) (q2.2 k q)
      rw [this] at q1
      exact q1
    · exact absurd (⟨Nat.le_refl _, Nat.le_refl _⟩ : hitP M S (mrk M S k) (mrk M S k) k) (q2 k)
  have lt_o : ∀ {c d k : Nat}, Fst (hitP M S c d) k → k < o := fun {c d k} hk => by
    rcases Nat.lt_or_ge k o with q | q
    · exact q
    · exact absurd (hit_back g1.oz q hk.1) (hk.2 (k - o) (by have := g1.to; omega))
  have h46 := f46_eq 3000 M S o (by omega) m1 m2 s (by omega)
  by_cases hPR : R < P
  · rw [decide_eq_true (p := (P : Int) > (R : Int)) (by omega), f43_order 3000 M S P R m1 m2 s hPR lX]
    simp only [cond_true, Option.bind_some]
    show cond false _ _ = _
    rw [h46]
    simp only [cond_false, Option.bind_some]
    rw [hL]
    rcases f8_1_eq 3000 M S o R P (by omega) (M : Int) (S : Int) (o : Int) o 0 3000 (by omega) (by omega) with ⟨k, k0, k1, k2, k3, q⟩ | ⟨k3, q⟩
    · have q : f8_1 3000 3000 ((o : Nat) : Int) 0 M S o R P (mks M S o 0) = _ := q
      rw [q]
      have hF : Fst (hitP M S R P) k := ⟨k2, fun j hj => k3 j (Nat.zero_le _) hj⟩
      rcases f43_found 3000 M S R P (by omega) m1 m2 s (by omega) lX with ⟨k', r1, r2⟩ | ⟨r1, r2⟩
      · have := hF.uniq r2
        subst this
        simp only [Option.bind_some, r1, h46]
        rw [decide_eq_false (p := (k : Int) < 0) (by omega), hL, inRw k1, fin R P (by omega) lX k hF _ rfl]
        simp
      · exact absurd k2 (r2 k)
    · have q : f8_1 3000 3000 ((o : Nat) : Int) 0 M S o R P (mks M S o 0) = _ := q
      rw [q]
      rcases f43_found 3000 M S R P (by omega) m1 m2 s (by omega) lX with ⟨k', r1, r2⟩ | ⟨r1, r2⟩
      · exact absurd r2.1 (k3 k' (Nat.zero_le _) (lt_o r2))
      · simp only [Option.bind_some, r1]
        rfl
  · rw [decide_eq_false (p := (P : Int) > (R : Int)) (by omega)]
    simp only [cond_false, Option.bind_some, h46]
    rw [hL]
    rcases f8_2_eq 3000 M S o P R (by omega) (M : Int) (S : Int) (o : Int) o 0 3000 (by omega) (by omega) with ⟨k, k0, k1, k2, k3, q⟩ | ⟨k3, q⟩
    · have q : f8_2 3000 3000 ((o : Nat) : Int) 0 M S o P R (mks M S o 0) = _ := q
      rw [q]
      have hF : Fst (hitP M S P R) k := ⟨k2, fun j hj => k3 j (Nat.zero_le _) hj⟩
      rcases f43_found 3000 M S P R (by omega) m1 m2 s (by omega) lY with ⟨k', r1, r2⟩ | ⟨r1, r2⟩
      · have := hF.uniq r2
        subst this
        simp only [Option.bind_some, r1, h46]
        rw [decide_eq_false (p := (k : Int) < 0) (by omega), hL, inRw k1, fin P R (by omega) lY k hF _ rfl]
        simp
      · exact absurd k2 (r2 k)
    · have q : f8_2 3000 3000 ((o : Nat) : Int) 0 M S o P R (mks M S o 0) = _ := q
      rw [q]
      rcases f43_found 3000 M S P R (by omega) m1 m2 s (by omega) lY with ⟨k', r1, r2⟩ | ⟨r1, r2⟩
      · exact absurd r2.1 (k3 k' (Nat.zero_le _) (lt_o r2))
      · simp only [Option.bind_some, r1]
        rfl
end Go.Xm

namespace Go.Proofs.Ytagagpkjlkoieaa.wrapFound
open Go.Xm Go.RowKit
set_option linter.unusedVariables false

theorem walk (a0_0 : Int) (a0_1 : Int) (a0_2 : Int) (a1 a2 : Int) (w : World) (w0_0 : (Lit.int .u8 a0_0).wf = true) (w0_1 : (Lit.int .u8 a0_1).wf = true) (w0_2 : (Lit.int .u8 a0_2).wf = true) (w1 : (Lit.int .u8 a1).wf = true) (w2 : (Lit.int .u8 a2).wf = true) :
    Calls Try.prog 8 #[.agg #[.int .u8 a0_0, .int .u8 a0_1, .int .u8 a0_2], .int .u8 a1, .int .u8 a2] w fun e w' => e = .returned (.bool true) ∧ Below w.heap.size w w' :=
  f8_ok 3000 a0_0 a0_1 a0_2 a1 a2 true (f8_eq a0_0 a0_1 a0_2 a1 a2 w0_0 w0_1 w0_2 w1 w2) w trivial
end Go.Proofs.Ytagagpkjlkoieaa.wrapFound
