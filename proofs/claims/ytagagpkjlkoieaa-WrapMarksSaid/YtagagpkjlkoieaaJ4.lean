/- WrapMarks: turns come by their marks. Conditions: none. -/
import Derived.Test.YtagagpkjlkoieaaJ2
import Derived.Test.YtagagpkjlkoieaaJ3
import Derived.Test.YtagagpkjlkoieaaDl
namespace Go.Xm
set_option linter.unusedVariables false
set_option linter.unusedSimpArgs false

theorem u8_nat {a : Int} (wa : (Lit.int .u8 a).wf = true) : ∃ A : Nat, a = (A : Int) ∧ A ≤ 255 := by
  have ha : 0 ≤ a ∧ a ≤ 255 := by
    have := wa
    simp [Lit.wf, IntKind.min, IntKind.max, IntKind.signed, IntKind.bits] at this
    omega
  exact ⟨a.toNat, by omega, by omega⟩

theorem roll_turns {t : Int} (wt : (Lit.int .u8 t).wf = true) {o : Nat} (h1 : 1 ≤ o) (h2 : o ≤ 100) : ∃ T : Nat, w64 (1 + Int.tmod (w64 t) (o : Int)) = (T : Int) ∧ 1 ≤ T ∧ T ≤ o := by
  obtain ⟨A, rfl, hA⟩ := u8_nat wt
  have l := Nat.mod_lt A (show 0 < o by omega)
  refine ⟨1 + A % o, ?_, by omega, by omega⟩
  rw [natw (n := A) (by omega), tmN, show (1 : Int) + ((A % o : Nat) : Int) = ((1 + A % o : Nat) : Int) by omega, natw (by omega)]

theorem Good.some {M S o T : Nat} (g : Good M S 1 o) (h1 : 1 ≤ T) (h2 : T ≤ o) : Good M S T o := ⟨g.m1, g.m2, g.s, h1, h2, g.om, g.oz, g.omin⟩

theorem f18_val (m M S T o : Nat) (hm : 1000 < m) (g : Good M S T o) (h0 : f20 m M S T = some 0) (X : Nat) (hX : X < M) : f18 m M S T X = some (match trn (mrk M S) T X with | some k => ((k : Int), 0) | none => (0, 12)) := by
  have l1 := g.m1
  have l2 := g.m2
  have l3 := g.s
  have l4 := g.to
  have l5 := g.om
  unfold f18
  rw [h0]
  simp only [Option.bind_some, bne_self_eq_false, cond_false]
  rw [decide_eq_false (p := (X : Int) < 0) (by omega), decide_eq_false (p := (X : Int) ≥ (M : Int)) (by omega)]
  simp only [cond_false]
  have hT := g.turns l4
  have hF := f62_eq m m M S X X (by omega) (by omega) (Nat.le_refl _) (by omega) (by omega)
  have hit : ∀ k, hitP M S X X k ↔ mrk M S k = X := fun k => by unfold hitP mrk; omega
  rcases hF with ⟨k, q1, q2, q3⟩ | ⟨q1, q2⟩
  · rw [q1]
    simp only [Option.bind_some]
    rw [decide_eq_true (p := (k : Int) ≥ 0) (by omega)]
    by_cases hk : k < T
    · have ht := hT.trn hk
      rw [(hit k).1 q2] at ht
      rw [ht, decide_eq_true (p := (k : Int) < (T : Int)) (by omega)]
      rfl
    · have ht : trn (mrk M S) T X = none := by
        cases h : trn (mrk M S) T X with
        | none => rfl
        | some u =>
          obtain ⟨u1, u2⟩ := trn_some h
          exact absurd ((hit u).2 u2) (q3 u (by omega))
      rw [ht, decide_eq_false (p := (k : Int) < (T : Int)) (by omega)]
      rfl
  · rw [q1]
    have ht : trn (mrk M S) T X = none := by
      cases h : trn (mrk M S) T X with
      | none => rfl
      | some u =>
        obtain ⟨u1, u2⟩ := trn_some h
        exact absurd ((hit u).2 u2) (q2 u)
    rw [ht]
    rfl

theorem f54_1_eq (m M S T X : Nat) (hT : T ≤ 100) : ∀ (k x fuel : Nat), x + k = T → k < fuel →
    f54_1 m fuel (mks M S T 0) X T x = some (match fnd (fun k => mrk M S k == X) k x with | some t => .r (t : Int) | none => .x0)
  | k, x, 0, _, h => by omega
  | 0, x, fuel + 1, hx, _ => by
    unfold f54_1
    rw [decide_eq_false (by omega)]
    rfl
  | k + 1, x, fuel + 1, hx, hf => by
    have hr : inRow (x : Int) (mks M S T 0).length = true := inRow_iff.2 ⟨by omega, by rw [mks_len]; omega⟩
    unfold f54_1
    rw [decide_eq_true (by omega), hr, Int.toNat_natCast, mks_get M S T 0 x (by omega), Nat.zero_add, w64_succ x (by omega)]
    simp only [cond_true, fnd]
    by_cases h : mrk M S x = X
    · have h1 : ((X : Int) == (mrk M S x : Int)) = true := by rw [h]; simp
      have h2 : (mrk M S x == X) = true := by simpa using h
      rw [h1, h2]
      rfl
    · have h1 : ((X : Int) == (mrk M S x : Int)) = false := by simp; omega
      have h2 : (mrk M S x == X) = false := by simpa using h
      rw [h1, h2]
      exact f54_1_eq m M S T X hT k (x + 1) fuel (by omega) (by omega)

theorem f54_eq (m M S T X : Nat) (hm : 1000 < m) (hT : T ≤ 100) : f54 m (mks M S T 0) X = some (match trn (mrk M S) T X with | some t => (t : Int) | none => -1) := by
  have h := f54_1_eq m M S T X hT T 0 m (by omega) (by omega)
  unfold f54
  rw [mks_len, show ((0 : Int)) = ((0 : Nat) : Int) from rfl, h]
  unfold trn
  cases fnd (fun k => mrk M S k == X) T 0 <;> rfl

theorem f13_1_eq (m M S T o : Nat) (hm : 1000 < m) (g : Good M S T o) (h0 : f20 m M S T = some 0) (b : Int) : ∀ (k x fuel : Nat), x + k = T → k < fuel →
    f13_1 m fuel b T x M S T (mks M S T 0) (lst (mrk M S) T M 0) = some (.x0 M S T (mks M S T 0))
  | k, x, 0, _, h => by omega
  | 0, x, fuel + 1, hx, _ => by
    unfold f13_1
    rw [decide_eq_false (by omega)]
    rfl
  | k + 1, x, fuel + 1, hx, hf => by
    have l1 := g.m1
    have l2 := g.m2
    have l3 := g.s
    have l4 := g.to
    have l5 := g.om
    have hT := g.turns l4
    have hl := round_len hT T (Nat.le_refl _)
    have hr : inRow (x : Int) (lst (mrk M S) T M 0).length = true := inRow_iff.2 ⟨by omega, by omega⟩
    obtain ⟨u, e1, hu⟩ := lst_get (P := mrk M S) (T := T) (k := M) (x := 0) (i := x) (by omega)
    have hru : inRow (u : Int) T = true := inRow_iff.2 ⟨by omega, by omega⟩
    have h16 := f16_good g h0 (u : Int)
    rw [if_pos (by omega), if_pos (by omega)] at h16
    have ih := f13_1_eq m M S T o hm g h0 b k (x + 1) fuel (by omega) (by omega)
    have gu := mks_get M S T 0 u hu
    rw [Nat.zero_add] at gu
    unfold f13_1
    rw [decide_eq_true (by omega), hr, Int.toNat_natCast, e1, decide_eq_false (p := (u : Int) < 0) (by omega), mks_len, decide_eq_false (p := (u : Int) ≥ (T : Int)) (by omega), hru, Int.toNat_natCast, gu, h16, w64_succ x (by omega)]
    simp only [cond_true, cond_false, Option.bind_some]
    have e2 : ((((u * S) % M : Nat) : Int) != (mrk M S u : Int)) = false := by
      show ((mrk M S u : Int) != (mrk M S u : Int)) = false
      exact bne_self_eq_false _
    have e3 : ((((u : Int).toNat * S % M : Nat) : Int) != (mrk M S u : Int)) = false := e2
    rw [e3]
    by_cases hx0 : x = 0
    · subst hx0
      rw [decide_eq_false (by omega)]
      simp only [cond_false, bne_self_eq_false]
      exact ih
    · obtain ⟨u', v, i1, i2, i3, i4, i5⟩ := lst_inc (P := mrk M S) (T := T) M 0 (x - 1) (by omega)
      rw [show x - 1 + 1 = x by omega, e1] at i2
      have : u = v := by omega
      subst this
      have hr2 : inRow ((x : Int) - 1) (lst (mrk M S) T M 0).length = true := inRow_iff.2 ⟨by omega, by omega⟩
      have hru2 : inRow (u' : Int) T = true := inRow_iff.2 ⟨by omega, by omega⟩
      have gu2 := mks_get M S T 0 u' i3
      rw [Nat.zero_add] at gu2
      rw [decide_eq_true (p := (x : Int) > 0) (by omega), w64_id (x := (x : Int) - 1) (by omega) (by omega), hr2, show ((x : Int) - 1).toNat = x - 1 by omega, i1, hru2, Int.toNat_natCast, gu2, decide_eq_false (p := (mrk M S u : Int) ≤ (mrk M S u' : Int)) (by omega)]
      simp only [cond_true, cond_false, bne_self_eq_false]
      exact ih

theorem f13_eq (a b t x : Int) (wa : (Lit.int .u8 a).wf = true) (wb : (Lit.int .u8 b).wf = true) (wt : (Lit.int .u8 t).wf = true) (wx : (Lit.int .u8 x).wf = true) : f13 3000 a b t x = some true := by
  obtain ⟨M, S, e1, e2, m1, m2, s⟩ := roll wa wb
  obtain ⟨o, g1⟩ := good_one M S m1 m2 s
  have g4 := g1.om
  have g5 := g1.to
  have c1 : ((M : Int) != 0) = true := by simp; omega
  have c2 : ((o : Int) != 0) = true := by simp; omega
  obtain ⟨T, e3, t1, t2⟩ := roll_turns wt g5 (by omega)
  have g := g1.some t1 t2
  have h0 := f20_val 3000 M S o T (by omega) g1 t1
  rw [decide_eq_false (by omega)] at h0
  have h0 : f20 3000 M S T = some 0 := h0
  have hT := g.turns t2
  have hl := round_len hT T (Nat.le_refl _)
  obtain ⟨Y, rfl, hY⟩ := u8_nat wx
  have lY := Nat.mod_lt Y (show 0 < M by omega)
  unfold f13
  rw [e1, e2, c1, f47_eq 3000 M S o (by omega) g1]
  simp only [Option.bind_some, cond_true]
  rw [c2, e3, f46_eq 3000 M S T (by omega) (by omega) m2 s (by omega), f29_eq 3000 M S T o (by omega) g h0]
  simp only [Option.bind_some, cond_true, bne_self_eq_false, cond_false]
  rw [hl, mks_len, bne_self_eq_false, natw (n := Y) (by omega)]
  have hL := f13_1_eq 3000 M S T o (by omega) g h0 (Y : Int) T 0 3000 (by omega) (by omega)
  rw [show ((0 : Nat) : Int) = (0 : Int) from rfl] at hL
  rw [hL]
  simp only [Option.bind_some, cond_false]
  rw [c1, tmN, f18_val 3000 M S T o (by omega) g h0 (Y % M) lY, f54_eq 3000 M S T (Y % M) (by omega) (by omega)]
  simp only [Option.bind_some, cond_true]
  cases trn (mrk M S) T (Y % M) with
  | none => rfl
  | some k =>
    have h16 := f16_good g h0 (T : Int)
    rw [if_neg (by omega), if_neg (by omega)] at h16
    simp only []
    rw [decide_eq_false (by omega), h16]
    simp
end Go.Xm

namespace Go.Proofs.Ytagagpkjlkoieaa.wrapMarks
open Go.Xm Go.RowKit
set_option linter.unusedVariables false

theorem walk (a0_0 : Int) (a0_1 : Int) (a0_2 : Int) (a1 : Int) (w : World) (w0_0 : (Lit.int .u8 a0_0).wf = true) (w0_1 : (Lit.int .u8 a0_1).wf = true) (w0_2 : (Lit.int .u8 a0_2).wf = true) (w1 : (Lit.int .u8 a1).wf = true) :
    Calls Try.prog 13 #[.agg #[.int .u8 a0_0, .int .u8 a0_1, .int .u8 a0_2], .int .u8 a1] w fun e w' => e = .returned (.bool true) ∧ Below w.heap.size w w' :=
  f13_ok 3000 a0_0 a0_1 a0_2 a1 true (f13_eq a0_0 a0_1 a0_2 a1 w0_0 w0_1 w0_2 w1) w trivial
end Go.Proofs.Ytagagpkjlkoieaa.wrapMarks
