/- WrapDivided. Conditions: none. -/
import Derived.Test.YtagagpkjlkoieaaLy
import Derived.Test.YtagagpkjlkoieaaQc
namespace Go.Xm
set_option linter.unusedVariables false
set_option linter.unusedSimpArgs false

theorem dv_made {a b t : Int} (wa : (Lit.int .u8 a).wf = true) (wb : (Lit.int .u8 b).wf = true) (wt : (Lit.int .u8 t).wf = true) :
    ∃ M S o T : Nat, Good M S 1 o ∧ 1 ≤ T ∧ T ≤ o ∧ f45 3000 a b t 100 = some ((M : Int), (S : Int), (T : Int)) := by
  obtain ⟨M, S, e1, e2, m1, m2, m3⟩ := roll wa wb
  obtain ⟨o, g⟩ := good_one M S m1 m2 m3
  have g1 := g.to
  have g2 := g.om
  obtain ⟨T, e3, t1, t2⟩ := roll_turns wt (o := o) g1 (by omega)
  refine ⟨M, S, o, T, g, t1, t2, ?_⟩
  have c1 : ((M : Int) != 0) = true := by simp; omega
  have c2 : ((o : Int) != 0) = true := by simp; omega
  unfold f45
  rw [e1, e2, c1, f47_eq 3000 M S o (by omega) g]
  simp only [Option.bind_some]
  rw [c2, e3]
  rfl

def gapN (A B M : Nat) : Nat := if B < A then A - B else M - (B - A)

theorem gap_mod {A B M : Nat} (hA : A < M) (hB : B < M) (hM : M ≤ 100) : Int.tmod (w64 (w64 ((A : Int) - (B : Int)) + (M : Int))) (M : Int) = (((A + M - B) % M : Nat) : Int) := by
  rw [w64_id (x := (A : Int) - (B : Int)) (by omega) (by omega), show (A : Int) - (B : Int) + (M : Int) = ((A + M - B : Nat) : Int) by omega, natw (by omega), tmN]

theorem gapI {A B M : Nat} (hA : A < M) (hB : B < M) (hM : M ≤ 100) : (cond (Int.tmod (w64 (w64 ((A : Int) - (B : Int)) + (M : Int))) (M : Int) == 0) (M : Int) (Int.tmod (w64 (w64 ((A : Int) - (B : Int)) + (M : Int))) (M : Int)) : Int) = (gapN A B M : Int) := by
  rw [gap_mod hA hB hM]
  unfold gapN
  by_cases c : B < A
  · rw [if_pos c, show A + M - B = (A - B) + M by omega, Nat.add_mod_right, Nat.mod_eq_of_lt (by omega)]
    have : (((A - B : Nat) : Int) == 0) = false := by simp; omega
    rw [this]
    rfl
  · rw [if_neg c]
    by_cases e : A = B
    · subst e
      rw [show A + M - A = M by omega, Nat.mod_self]
      simp
    · rw [Nat.mod_eq_of_lt (by omega)]
      have : (((A + M - B : Nat) : Int) == 0) = false := by simp; omega
      rw [this]
      simp only [cond_false]
      omega

theorem inI {A B M : Nat} (hA : A < M) (hB : B < A) (hM : M ≤ 100) : Int.tmod (w64 (w64 ((A : Int) - (B : Int)) + (M : Int))) (M : Int) = ((A - B : Nat) : Int) := by
  rw [gap_mod hA (by omega) hM, show A + M - B = (A - B) + M by omega, Nat.add_mod_right, Nat.mod_eq_of_lt (by omega)]

theorem gapN_gp {M S T x : Nat} (h : Turns M T (mrk M S)) (hx : x < T) : gapN (mrk M S (nextN T (bes M S T).1 (bes M S T).2 x)) (mrk M S x) M = gp M S T x := by
  have hn := bes_isNext h hx
  have l1 := h.lt x
  unfold gapN gp
  by_cases c : nextN T (bes M S T).1 (bes M S T).2 x = 0
  · rw [if_pos c, c, mrk_zero, if_neg (by omega)]
    omega
  · rw [if_neg c, if_pos]
    rcases hn.2 with ⟨e, _⟩ | ⟨e, _⟩
    · exact e
    · omega

theorem f14_eq {a b t : Int} (wa : (Lit.int .u8 a).wf = true) (wb : (Lit.int .u8 b).wf = true) (wt : (Lit.int .u8 t).wf = true) : f14 3000 a b t = some true := by
  obtain ⟨M, S, o, T, g, t1, t2, e45⟩ := dv_made wa wb wt
  have g1 := g.m1
  have g2 := g.m2
  have g3 := g.s
  have g5 := g.om
  unfold f14
  rw [e45]
  simp only [Option.bind_some]
  rw [f47_eq 3000 M S o (by omega) g]
  by_cases c : T = o
  · subst c
    rw [f26_lost (by omega) g]
    simp only [Option.bind_some, beq_self_eq_true, cond_true]
  have hT1 := g.turns (n := T + 1) (by omega)
  have hT := g.turns (n := T) t2
  have d := div_ok hT1 t1
  rw [f26_val (by omega) g t1 (by omega)]
  generalize dvF M S T = x at *
  generalize dvT M S T = y at *
  obtain ⟨hx, hy, hn, hw, hm, hlo, hhi⟩ := d
  have e1 : ((T : Int) == (o : Int)) = false := by simp; omega
  have lx := hT.lt x
  have ly := hT.lt y
  have lT := hT.lt T
  have hgp := gapN_gp hT hx
  rw [hn] at hgp
  simp only [Option.bind_some]
  rw [e1, f46_eq 3000 M S T (by omega) (by omega) g2 g3 (by omega)]
  simp only [Option.bind_some, cond_false, bne_self_eq_false, mks_len]
  rw [decide_eq_false (p := (x : Int) < 0) (by omega), decide_eq_false (p := (x : Int) ≥ (T : Int)) (by omega), decide_eq_false (p := (y : Int) < 0) (by omega), decide_eq_false (p := (y : Int) ≥ (T : Int)) (by omega)]
  simp only [cond_false]
  rw [f22_val (by omega) g t1 t2 hx, f31_val (by omega) g t1 t2, w64_succ T (by omega), f31_val (by omega) g (by omega) (by omega), hn]
  simp only [Option.bind_some, bne_self_eq_false, cond_false, gF_len]
  have e2 : ((T : Int) == 0) = false := by simp; omega
  have e3 : (((T + 1 : Nat) : Int) == 0) = false := by simp; omega
  have e4 : ((M : Int) != 0) = true := by simp; omega
  have r1 : inRow (y : Int) T = true := inRow_iff.2 ⟨by omega, by omega⟩
  have r2 : inRow (x : Int) T = true := inRow_iff.2 ⟨by omega, by omega⟩
  have r3 : inRow (T : Int) (T + 1) = true := inRow_iff.2 ⟨by omega, by omega⟩
  rw [e2, e3, r1, r2, e4, f46_eq 3000 M S (T + 1) (by omega) (by omega) g2 g3 (by omega)]
  simp only [Option.bind_some, cond_false, cond_true, mks_len]
  have v1 := mks_get M S (T + 1) 0 T (by omega)
  have v2 := mks_get M S T 0 x hx
  have v3 := mks_get M S T 0 y hy
  rw [Nat.zero_add] at v1 v2 v3
  rw [r3, show Int.toNat (T : Int) = T from rfl, show Int.toNat (x : Int) = x from rfl, v1, v2]
  simp only [cond_true]
  obtain ⟨ix, ix1, ix2⟩ := tN_all hT hx
  have memx : (gp M S T x : Int) ∈ gF M S T T 0 := by
    have := gF_mem (M := M) (S := S) (T := T) T 0 ix ix1
    rw [Nat.zero_add, ix2] at this
    exact this
  have max1 : ∀ v ∈ gF M S T T 0, v ≤ (gp M S T x : Int) := by
    intro v hv
    obtain ⟨j, hj, e⟩ := mem_gF T 0 hv
    have := hw _ (tN_lt hT (by omega) (0 + j))
    omega
  have m55 : f55 3000 (gF M S T T 0) = some (gp M S T x : Int) := f55_max (by omega) (by rw [gF_len]; omega) max1 memx
  obtain ⟨v, v5, v6⟩ : ∃ v : Int, f55 3000 (gF M S (T + 1) (T + 1) 0) = some v ∧ v ≤ (gp M S T x : Int) := by
    obtain ⟨z, z1, z2⟩ : ∃ z, z ∈ gF M S (T + 1) (T + 1) 0 ∧ ∀ u ∈ gF M S (T + 1) (T + 1) 0, u ≤ z := by
      have hne : gF M S (T + 1) (T + 1) 0 ≠ [] := by unfold gF; exact List.cons_ne_nil _ _
      have : ∀ l : List Int, l ≠ [] → ∃ z, z ∈ l ∧ ∀ u ∈ l, u ≤ z := by
        intro l
        induction l with
        | nil => intro h; exact absurd rfl h
        | cons p l ih =>
          intro _
          by_cases hl : l = []
          · subst hl; exact ⟨p, List.mem_cons_self, fun u hu => by rcases List.mem_cons.1 hu with rfl | hu; exact Int.le_refl _; cases hu⟩
          · obtain ⟨z, z1, z2⟩ := ih hl
            by_cases hp : p ≤ z
            · exact ⟨z, List.mem_cons_of_mem _ z1, fun u hu => by
                rcases List.mem_cons.1 hu with rfl | hu
                · exact hp
                · exact z2 u hu⟩
            · exact ⟨p, List.mem_cons_self, fun u hu => by
                rcases List.mem_cons.1 hu with rfl | hu
                · exact Int.le_refl _
                · have := z2 u hu; omega⟩
      exact this _ hne
    obtain ⟨j, hj, e⟩ := mem_gF (T + 1) 0 z1
    have := hm _ (tN_lt hT1 (by omega) (0 + j))
    exact ⟨z, f55_max (by omega) (by rw [gF_len]; omega) z2 z1, by omega⟩
  have hgR : gR ((M : Int), (S : Int), (T : Int)) ((x : Int), (y : Int), 0) (mks M S T 0) = ((gapN (mrk M S y) (mrk M S x) M : Nat) : Int) := by
    unfold gR
    simp only [Int.toNat_natCast, v2, v3]
    exact gapI ly lx g2
  rw [inI lT hlo g2, hgR, hgp, f56_val (by omega) g t1 t2]
  simp only [Option.bind_some]
  rw [m55]
  simp only [Option.bind_some]
  rw [v5]
  simp only [Option.bind_some, beq_self_eq_true, cond_true]
  rw [decide_eq_true (by omega), decide_eq_true (by omega), decide_eq_true v6]
  rfl
end Go.Xm

namespace Go.Proofs.Ytagagpkjlkoieaa.wrapDivided
open Go.Xm Go.RowKit
set_option linter.unusedVariables false

theorem walk (a0_0 : Int) (a0_1 : Int) (a0_2 : Int) (w : World) (w0_0 : (Lit.int .u8 a0_0).wf = true) (w0_1 : (Lit.int .u8 a0_1).wf = true) (w0_2 : (Lit.int .u8 a0_2).wf = true) :
    Calls Try.prog 14 #[.agg #[.int .u8 a0_0, .int .u8 a0_1, .int .u8 a0_2]] w fun e w' => e = .returned (.bool true) ∧ Below w.heap.size w w' :=
  f14_ok 3000 a0_0 a0_1 a0_2 true (f14_eq w0_0 w0_1 w0_2) w trivial
end Go.Proofs.Ytagagpkjlkoieaa.wrapDivided
