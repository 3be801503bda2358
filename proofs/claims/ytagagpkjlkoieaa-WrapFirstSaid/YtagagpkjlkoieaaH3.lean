/- WrapFirst: both answers are the same. Conditions: none. -/
import Derived.Test.YtagagpkjlkoieaaH2
namespace Go.Proofs.Ytagagpkjlkoieaa.wrapFirst
open Go.Xm Go.RowKit
set_option linter.unusedVariables false
set_option linter.unusedSimpArgs false

theorem fst_uniq {p : Nat → Prop} {k j : Nat} (h1 : Fst p k) (h2 : Fst p j) : k = j := by
  rcases Nat.lt_trichotomy k j with q | q | q
  · exact absurd h1.1 (h2.2 k q)
  · exact q
  · exact absurd h2.1 (h1.2 j q)

theorem iMin_lt (c d : Int) : decide (iMin c d < 0) = decide (c < 0 ∨ d < 0) := by
  unfold iMin
  split <;> exact decide_eq_decide.2 (by omega)

theorem iMax_ge (c d a : Int) : decide (iMax c d ≥ a) = decide (c ≥ a ∨ d ≥ a) := by
  unfold iMax
  split <;> exact decide_eq_decide.2 (by omega)

theorem f43_44 (m : Nat) (hm : 1000 < m) (a b c d : Int) : ∃ r, f43 m a b c d = some r ∧ f44 m a b c d = some r := by
  unfold f43 f44
  rw [f64_eq, f66_eq]
  simp only [Option.bind_some]
  by_cases hok : 1 ≤ a ∧ a ≤ 100 ∧ 0 ≤ b ∧ b < a
  · rw [decide_eq_true hok, iMin_lt, iMax_ge]
    simp only [Bool.not_true, cond_false, cond_true]
    have ew : w64 (a - 1) = a - 1 := w64_id (by omega) (by omega)
    rw [ew]
    by_cases c0 : c < 0
    · rw [decide_eq_true (p := c < 0 ∨ d < 0) (.inl c0), decide_eq_false (p := c ≥ 0) (by omega)]
      exact ⟨_, rfl, rfl⟩
    by_cases d0 : d < 0
    · rw [decide_eq_true (p := c < 0 ∨ d < 0) (.inr d0), decide_eq_true (p := c ≥ 0) (by omega), decide_eq_false (p := d ≥ 0) (by omega)]
      refine ⟨(0, 2), rfl, ?_⟩
      cases decide (c ≤ a - 1) <;> rfl
    rw [decide_eq_false (p := c < 0 ∨ d < 0) (by omega), decide_eq_true (p := c ≥ 0) (by omega), decide_eq_true (p := d ≥ 0) (by omega)]
    by_cases c1 : c ≥ a
    · rw [decide_eq_true (p := c ≥ a ∨ d ≥ a) (.inl c1), decide_eq_false (p := c ≤ a - 1) (by omega)]
      exact ⟨_, rfl, rfl⟩
    by_cases d1 : d ≥ a
    · rw [decide_eq_true (p := c ≥ a ∨ d ≥ a) (.inr d1), decide_eq_true (p := c ≤ a - 1) (by omega), decide_eq_false (p := d ≤ a - 1) (by omega)]
      exact ⟨_, rfl, rfl⟩
    rw [decide_eq_false (p := c ≥ a ∨ d ≥ a) (by omega), decide_eq_true (p := c ≤ a - 1) (by omega), decide_eq_true (p := d ≤ a - 1) (by omega)]
    by_cases cd : c > d
    · rw [decide_eq_true cd]
      exact ⟨_, rfl, rfl⟩
    rw [decide_eq_false cd]
    obtain ⟨A, rfl⟩ : ∃ n : Nat, a = n := ⟨a.toNat, by omega⟩
    obtain ⟨B, rfl⟩ : ∃ n : Nat, b = n := ⟨b.toNat, by omega⟩
    obtain ⟨C, rfl⟩ : ∃ n : Nat, c = n := ⟨c.toNat, by omega⟩
    obtain ⟨D, rfl⟩ : ∃ n : Nat, d = n := ⟨d.toNat, by omega⟩
    obtain ⟨o, o1, o2, o3, o4⟩ := f67_eq m A B 0 (by omega) (by omega) (by omega) (by omega)
    have hF := f62_eq m m A B C D (by omega) (by omega) (by omega) (by omega) (by omega)
    have hG := f44_1_eq m A B C D o (by omega) (by omega) (by omega) (by omega) o1 o3 o 0 m (by omega) (fun j hj => by omega) (by omega)
    simp only [Int.natCast_zero] at hG
    have back : ∀ k, Fst (hitP A B C D) k → k < o := fun k hk => by
      rcases Nat.lt_or_ge k o with q | q
      · exact q
      · exact absurd (hit_back o4 q hk.1) (hk.2 (k - o) (by omega))
    simp only [cond_false, cond_true, Bool.not_true, Bool.not_false]
    rcases hF with ⟨k, q1, q2⟩ | ⟨q1, q2⟩
    · rcases hG with ⟨j, p1, p2⟩ | ⟨p1, p2⟩
      · have := fst_uniq q2 p2
        subst this
        refine ⟨((k : Int), 0), ?_, ?_⟩
        · rw [q1]
          simp only [Option.bind_some]
          rw [decide_eq_false (p := (k : Int) < 0) (by omega)]
          rfl
        · show (f44_1 m m A B C D 0).bind _ = _
          rw [p1]
          rfl
      · exact absurd q2.1 (p2 k (back k q2))
    · rcases hG with ⟨j, p1, p2⟩ | ⟨p1, p2⟩
      · exact absurd p2.1 (q2 j)
      · refine ⟨(0, 12), ?_, ?_⟩
        · rw [q1]
          rfl
        · show (f44_1 m m A B C D 0).bind _ = _
          rw [p1]
          rfl
  · rw [decide_eq_false hok]
    exact ⟨_, rfl, rfl⟩

theorem f6_eq (a b c d : Int) : f6 2000 a b c d = some true := by
  unfold f6
  obtain ⟨r, h1, h2⟩ := f43_44 2000 (by omega) a b c d
  rw [h1, h2]
  simp only [Option.bind_some, beq_self_eq_true, cond_true]

theorem walk (a0 : Int) (a1 : Int) (a2 : Int) (a3 : Int) (w : World) (w0 : (Lit.int .i64 a0).wf = true) (w1 : (Lit.int .i64 a1).wf = true) (w2 : (Lit.int .i64 a2).wf = true) (w3 : (Lit.int .i64 a3).wf = true) :
    Calls Try.prog 6 #[.int .i64 a0, .int .i64 a1, .int .i64 a2, .int .i64 a3] w fun e w' => e = .returned (.bool true) ∧ Below w.heap.size w w' :=
  f6_ok 2000 a0 a1 a2 a3 true (f6_eq a0 a1 a2 a3) w trivial
end Go.Proofs.Ytagagpkjlkoieaa.wrapFirst
